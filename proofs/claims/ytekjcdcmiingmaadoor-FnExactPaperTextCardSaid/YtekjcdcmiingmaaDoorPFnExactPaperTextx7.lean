-- Made by a program of this repository (xp.py over the kit's print) out of the translation. Lean checks it.
import Derived.Test.YtekjcdcmiingmaaDoorPFnExactPaperTextx0
import Derived.Test.YtekjcdcmiingmaaDoorPFnExactPaperTextx6
namespace Go.Proofs.YtekjcdcmiingmaaDoor.PFnExactPaperText
open Go.RowKit Go.Proofs.YtekjcdcmiingmaaDoorW.PrintWords Go.Proofs.YtekjcdcmiingmaaDoorW.PrintLast Go.Proofs.YtekjcdcmiingmaaDoorW.PrintMore
attribute [local go_sem] max2_int min2_int max_two min_two max_three min_three max_four min_four   -- for this text's walks alone
set_option linter.unusedVariables false
set_option linter.unusedSimpArgs false

/-! ### impl_VersionText: function 16 -/
def impl_VersionText.f (k : Nat) (l0 : List Int) : Option (ByteArray) := (impl_isVersion.f k l0).bind fun t222 => (if t222 = true then (if 0 < (l0.length : Int) then ((strconv_Itoa_51.f (rd l0 0)).bind fun t224 => (if t224.size + 1 ≤ 9223372036854775807 then (if 1 < (l0.length : Int) then ((strconv_Itoa_51.f (rd l0 1)).bind fun t226 => (if (t224 ++ (⟨#[46]⟩ : ByteArray)).size + t226.size ≤ 9223372036854775807 then (if ((t224 ++ (⟨#[46]⟩ : ByteArray)) ++ t226).size + 1 ≤ 9223372036854775807 then (if 2 < (l0.length : Int) then ((strconv_Itoa_51.f (rd l0 2)).bind fun t228 => (if (((t224 ++ (⟨#[46]⟩ : ByteArray)) ++ t226) ++ (⟨#[46]⟩ : ByteArray)).size + t228.size ≤ 9223372036854775807 then (some ((((t224 ++ (⟨#[46]⟩ : ByteArray)) ++ t226) ++ (⟨#[46]⟩ : ByteArray)) ++ t228)) else (none))) else (none)) else (none)) else (none))) else (none)) else (none))) else (none)) else (some (⟨#[]⟩ : ByteArray)))
theorem impl_VersionText.mono : ∀ a0 k, LeO (impl_VersionText.f k a0) (impl_VersionText.f (k + 1) a0) := by
 intro a0 k
 unfold impl_VersionText.f
 repeat' first
   | (with_reducible exact impl_isVersion.mono _ _)
   | (with_reducible exact LeO.refl _)
   | (with_reducible exact LeO.none _)
   | (with_reducible refine LeO.ite ?_ ?_)
   | (with_reducible refine LeO.bind ?_ (fun _ => ?_))
   | exact impl_isVersion.mono _ _
   | exact LeO.none _
   | refine LeO.ite ?_ ?_
   | refine LeO.bind ?_ (fun _ => ?_)
def impl_VersionText.T3 : Bool × List (List Nat × List Nat) := (true, [([], []), ([0], [0]), ([1], [1]), ([2], [2]), ([3], [3]), ([], []), ([5], [5]), ([6], [6]), ([7, 3], [7]), ([4, 8], [4, 8]), ([9], [9]), ([], []), ([11], [11]), ([12], [12]), ([13, 8], [13]), ([10, 14], [10, 14]), ([15, 14, 0, 1, 2, 3, 4, 5, 6, 7, 8, 9, 10, 11, 12, 13, 14, 15], [15])])
def impl_VersionText.B3 : List Nat := [0, 1, 3, 7, 15, 0, 32, 96, 239, 511, 1023, 0, 2048, 6144, 14831, 32767, 65535]
theorem impl_VersionText.tab3 : rtab .any (opsOf Tryd.f16 3) = impl_VersionText.T3 := by kernel_rfl
theorem impl_VersionText.bits3 : waitsOk impl_VersionText.T3.2 impl_VersionText.B3 = true := by kernel_rfl
set_option maxHeartbeats 8000000 in
set_option maxRecDepth 100000 in
theorem impl_VersionText.calls (k : Nat) (A0 : Option Addr) (c0 : Nat) (l0 : List Int) (r : ByteArray) (w : World) (hr0 : Kd.C (Kd.int .i64) w A0 l0.length l0) (hc0 : l0.length ≤ c0) (hT : Tabs w) (h : impl_VersionText.f k l0 = some r) :
  Calls Tryd.prog 16 #[.slice A0 l0.length c0] w fun e w' => e = .returned (.string r) ∧ Below w.heap.size w w' := by
 have HR0 := Aside0.mk hr0
 have HC0 := Aside0.mk hc0
 clear hr0 hc0
 have HB := am (Below.refl w.heap.size w)
 have H : ((impl_isVersion.f k l0).bind fun t222 => (if t222 = true then (if 0 < (l0.length : Int) then ((strconv_Itoa_51.f (rd l0 0)).bind fun t224 => (if t224.size + 1 ≤ 9223372036854775807 then (if 1 < (l0.length : Int) then ((strconv_Itoa_51.f (rd l0 1)).bind fun t226 => (if (t224 ++ (⟨#[46]⟩ : ByteArray)).size + t226.size ≤ 9223372036854775807 then (if ((t224 ++ (⟨#[46]⟩ : ByteArray)) ++ t226).size + 1 ≤ 9223372036854775807 then (if 2 < (l0.length : Int) then ((strconv_Itoa_51.f (rd l0 2)).bind fun t228 => (if (((t224 ++ (⟨#[46]⟩ : ByteArray)) ++ t226) ++ (⟨#[46]⟩ : ByteArray)).size + t228.size ≤ 9223372036854775807 then (some ((((t224 ++ (⟨#[46]⟩ : ByteArray)) ++ t226) ++ (⟨#[46]⟩ : ByteArray)) ++ t228)) else (none))) else (none)) else (none)) else (none))) else (none)) else (none))) else (none)) else (some (⟨#[]⟩ : ByteArray)))) = some r := h
 clear h
 replace H := Option.bind_eq_some_iff.mp H
 obtain ⟨t222, A20, H⟩ := H
 replace H : (if t222 = true then (if 0 < (l0.length : Int) then ((strconv_Itoa_51.f (rd l0 0)).bind fun t224 => (if t224.size + 1 ≤ 9223372036854775807 then (if 1 < (l0.length : Int) then ((strconv_Itoa_51.f (rd l0 1)).bind fun t226 => (if (t224 ++ (⟨#[46]⟩ : ByteArray)).size + t226.size ≤ 9223372036854775807 then (if ((t224 ++ (⟨#[46]⟩ : ByteArray)) ++ t226).size + 1 ≤ 9223372036854775807 then (if 2 < (l0.length : Int) then ((strconv_Itoa_51.f (rd l0 2)).bind fun t228 => (if (((t224 ++ (⟨#[46]⟩ : ByteArray)) ++ t226) ++ (⟨#[46]⟩ : ByteArray)).size + t228.size ≤ 9223372036854775807 then (some ((((t224 ++ (⟨#[46]⟩ : ByteArray)) ++ t226) ++ (⟨#[46]⟩ : ByteArray)) ++ t228)) else (none))) else (none)) else (none)) else (none))) else (none)) else (none))) else (none)) else (some (⟨#[]⟩ : ByteArray))) = some r := H
 have A2 := Aside0.mk A20
 clear A20
 by_cases c3 : t222 = true
 ·subst c3
  have H1 : (if 0 < (l0.length : Int) then ((strconv_Itoa_51.f (rd l0 0)).bind fun t224 => (if t224.size + 1 ≤ 9223372036854775807 then (if 1 < (l0.length : Int) then ((strconv_Itoa_51.f (rd l0 1)).bind fun t226 => (if (t224 ++ (⟨#[46]⟩ : ByteArray)).size + t226.size ≤ 9223372036854775807 then (if ((t224 ++ (⟨#[46]⟩ : ByteArray)) ++ t226).size + 1 ≤ 9223372036854775807 then (if 2 < (l0.length : Int) then ((strconv_Itoa_51.f (rd l0 2)).bind fun t228 => (if (((t224 ++ (⟨#[46]⟩ : ByteArray)) ++ t226) ++ (⟨#[46]⟩ : ByteArray)).size + t228.size ≤ 9223372036854775807 then (some ((((t224 ++ (⟨#[46]⟩ : ByteArray)) ++ t226) ++ (⟨#[46]⟩ : ByteArray)) ++ t228)) else (none))) else (none)) else (none)) else (none))) else (none)) else (none))) else (none)) = some r := by first | (rw [if_pos rfl] at H; exact H) | with_reducible rfl
  clear H
  have H := H1
  clear H1
  by_cases c4 : 0 < (l0.length : Int)
  ·rw [if_pos c4] at H
   have c4b0 : decide (0 < (l0.length : Int)) = true := decide_eq_true c4
   have c4b1 : decide (0 < l0.length) = true := decide_eq_true (by omega)
   clear c4
   replace H := Option.bind_eq_some_iff.mp H
   obtain ⟨t224, A50, H⟩ := H
   replace H : (if t224.size + 1 ≤ 9223372036854775807 then (if 1 < (l0.length : Int) then ((strconv_Itoa_51.f (rd l0 1)).bind fun t226 => (if (t224 ++ (⟨#[46]⟩ : ByteArray)).size + t226.size ≤ 9223372036854775807 then (if ((t224 ++ (⟨#[46]⟩ : ByteArray)) ++ t226).size + 1 ≤ 9223372036854775807 then (if 2 < (l0.length : Int) then ((strconv_Itoa_51.f (rd l0 2)).bind fun t228 => (if (((t224 ++ (⟨#[46]⟩ : ByteArray)) ++ t226) ++ (⟨#[46]⟩ : ByteArray)).size + t228.size ≤ 9223372036854775807 then (some ((((t224 ++ (⟨#[46]⟩ : ByteArray)) ++ t226) ++ (⟨#[46]⟩ : ByteArray)) ++ t228)) else (none))) else (none)) else (none)) else (none))) else (none)) else (none)) = some r := H
   have A5 := Aside0.mk A50
   clear A50
   by_cases c6 : t224.size + 1 ≤ 9223372036854775807
   ·rw [if_pos c6] at H
    have c6b0 := eq_true c6
    have c6b1 : decide (t224.size + 1 ≤ 9223372036854775807) = true := decide_eq_true c6
    try have c6b2 : (9223372036854775807 < t224.size + 1) = False := eq_false (Nat.not_lt.2 c6)
    by_cases c7 : 1 < (l0.length : Int)
    ·rw [if_pos c7] at H
     have c7b0 : decide (1 < (l0.length : Int)) = true := decide_eq_true c7
     have c7b1 : decide (1 < l0.length) = true := decide_eq_true (by omega)
     clear c7
     replace H := Option.bind_eq_some_iff.mp H
     obtain ⟨t226, A80, H⟩ := H
     replace H : (if (t224 ++ (⟨#[46]⟩ : ByteArray)).size + t226.size ≤ 9223372036854775807 then (if ((t224 ++ (⟨#[46]⟩ : ByteArray)) ++ t226).size + 1 ≤ 9223372036854775807 then (if 2 < (l0.length : Int) then ((strconv_Itoa_51.f (rd l0 2)).bind fun t228 => (if (((t224 ++ (⟨#[46]⟩ : ByteArray)) ++ t226) ++ (⟨#[46]⟩ : ByteArray)).size + t228.size ≤ 9223372036854775807 then (some ((((t224 ++ (⟨#[46]⟩ : ByteArray)) ++ t226) ++ (⟨#[46]⟩ : ByteArray)) ++ t228)) else (none))) else (none)) else (none)) else (none)) = some r := H
     have A8 := Aside0.mk A80
     clear A80
     by_cases c9 : (t224 ++ (⟨#[46]⟩ : ByteArray)).size + t226.size ≤ 9223372036854775807
     ·rw [if_pos c9] at H
      have c9b0 := eq_true c9
      have c9b1 : decide ((t224 ++ (⟨#[46]⟩ : ByteArray)).size + t226.size ≤ 9223372036854775807) = true := decide_eq_true c9
      try have c9b2 : (9223372036854775807 < (t224 ++ (⟨#[46]⟩ : ByteArray)).size + t226.size) = False := eq_false (Nat.not_lt.2 c9)
      try have c9b4 : (9223372036854775807 < t224.size + 1 + t226.size) = False := eq_false (by have h1_ := c9; simp only [ByteArray.size_append] at h1_; exact Nat.not_lt.2 h1_)
      by_cases c10 : ((t224 ++ (⟨#[46]⟩ : ByteArray)) ++ t226).size + 1 ≤ 9223372036854775807
      ·rw [if_pos c10] at H
       have c10b0 := eq_true c10
       have c10b1 : decide (((t224 ++ (⟨#[46]⟩ : ByteArray)) ++ t226).size + 1 ≤ 9223372036854775807) = true := decide_eq_true c10
       try have c10b2 : (9223372036854775807 < ((t224 ++ (⟨#[46]⟩ : ByteArray)) ++ t226).size + 1) = False := eq_false (Nat.not_lt.2 c10)
       try have c10b4 : (9223372036854775807 < t224.size + 1 + t226.size + 1) = False := eq_false (by have h1_ := c10; simp only [ByteArray.size_append] at h1_; exact Nat.not_lt.2 h1_)
       by_cases c11 : 2 < (l0.length : Int)
       ·rw [if_pos c11] at H
        have c11b0 : decide (2 < (l0.length : Int)) = true := decide_eq_true c11
        have c11b1 : decide (2 < l0.length) = true := decide_eq_true (by omega)
        clear c11
        replace H := Option.bind_eq_some_iff.mp H
        obtain ⟨t228, A120, H⟩ := H
        replace H : (if (((t224 ++ (⟨#[46]⟩ : ByteArray)) ++ t226) ++ (⟨#[46]⟩ : ByteArray)).size + t228.size ≤ 9223372036854775807 then (some ((((t224 ++ (⟨#[46]⟩ : ByteArray)) ++ t226) ++ (⟨#[46]⟩ : ByteArray)) ++ t228)) else (none)) = some r := H
        have A12 := Aside0.mk A120
        clear A120
        by_cases c13 : (((t224 ++ (⟨#[46]⟩ : ByteArray)) ++ t226) ++ (⟨#[46]⟩ : ByteArray)).size + t228.size ≤ 9223372036854775807
        ·rw [if_pos c13] at H
         have c13b0 := eq_true c13
         have c13b1 : decide ((((t224 ++ (⟨#[46]⟩ : ByteArray)) ++ t226) ++ (⟨#[46]⟩ : ByteArray)).size + t228.size ≤ 9223372036854775807) = true := decide_eq_true c13
         try have c13b2 : (9223372036854775807 < (((t224 ++ (⟨#[46]⟩ : ByteArray)) ++ t226) ++ (⟨#[46]⟩ : ByteArray)).size + t228.size) = False := eq_false (Nat.not_lt.2 c13)
         try have c13b4 : (9223372036854775807 < t224.size + 1 + t226.size + 1 + t228.size) = False := eq_false (by have h1_ := c13; simp only [ByteArray.size_append] at h1_; exact Nat.not_lt.2 h1_)
         obtain rfl := Option.some.inj H
         go_enter Tryd.func16, Tryd.ntmps16
         try go_wp2_with (first | ((with_reducible refine gate_callee (f := 50) rfl ?_); refine goesL_ (some 4) rfl rfl Tryd.func50 (by kernel_rfl) rfl #[.slice A0 l0.length c0] rfl (by (try simp only [List.map_toArray, List.map_cons, List.map_nil]); first | done | rfl | (simp only [List.length_drop, List.length_take]; rfl)) ?_; (with_reducible refine (impl_isVersion.calls k _ _ l0 true _ ?side1 ?side2 A2.out).mono ?_); (case side1 => repeat (first | exact HR0.out | (with_reducible refine Kd.C_alloc ?_ _) | (with_reducible refine Kd.C_drewN ?_ _) | (with_reducible refine Kd.C_drew ?_))); (case side2 => exact HC0.out); rintro e w' ⟨rfl, ⟨nd, rfl⟩⟩; refine ⟨_, rfl, ?_⟩))
         (try (have HBn_ := am (pw_below_drewN HB.out nd); clear HB; have HB := HBn_; clear HBn_))
         have n0_ := am (below_drew1 HB.out)
         clear HB
         have HB := n0_
         clear n0_
         have p223 : 0 ≤ (0 : Int) := (by omega)
         have q223 : 0 < (l0.length : Int) := of_decide_eq_true (by first | (with_reducible assumption) | assumption)
         obtain ⟨ad223, e223, hx223_0⟩ := Kd.at_int HR0.out 0 p223 q223
         have hw223_0 := hx223_0
         (try rw [show ((0 : Int)).toNat = 0 from rfl] at hw223_0)
         (try rw [show 0 * 1 = 0 from rfl] at hw223_0)
         (try rw [Addr.add_zero'] at hw223_0)
         cases e223
         have qi223 : (0 < l0.length) = True := eq_true (by omega)
         (try rw [show ((0 : Int)).toNat = 0 from rfl] at hx223_0)
         (try rw [Addr.add_zero'] at hx223_0)
         replace hx223_0 := (HB.out.cell (World.block_lt_of_cell? w _ hx223_0)).trans hx223_0
         replace p223 := eq_true p223
         replace q223 := eq_true q223
         have p225 : 0 ≤ (1 : Int) := (by omega)
         have q225 : 1 < (l0.length : Int) := of_decide_eq_true (by first | (with_reducible assumption) | assumption)
         obtain ⟨ad225, e225, hx225_0⟩ := Kd.at_int HR0.out 1 p225 q225
         have hw225_0 := hx225_0
         (try rw [show ((1 : Int)).toNat = 1 from rfl] at hw225_0)
         (try rw [show 1 * 1 = 1 from rfl] at hw225_0)
         (try simp only [Nat.reduceMul, Nat.reduceEqDiff, Go.Addr.add, ↓reduceIte] at hw225_0)
         obtain rfl : ad223 = ad225 := (by injection e225)
         (try simp only [show (1 : Int).toNat = 1 from rfl, Nat.reduceMul, Nat.reduceEqDiff, Go.Addr.add, ↓reduceIte] at hx225_0)
         have qi225 : (1 < l0.length) = True := eq_true (by omega)
         (try rw [show ((1 : Int)).toNat = 1 from rfl] at hx225_0)
         replace hx225_0 := (HB.out.cell (World.block_lt_of_cell? w _ hx225_0)).trans hx225_0
         replace p225 := eq_true p225
         replace q225 := eq_true q225
         have p227 : 0 ≤ (2 : Int) := (by omega)
         have q227 : 2 < (l0.length : Int) := of_decide_eq_true (by first | (with_reducible assumption) | assumption)
         obtain ⟨ad227, e227, hx227_0⟩ := Kd.at_int HR0.out 2 p227 q227
         have hw227_0 := hx227_0
         (try rw [show ((2 : Int)).toNat = 2 from rfl] at hw227_0)
         (try rw [show 2 * 1 = 2 from rfl] at hw227_0)
         (try simp only [Nat.reduceMul, Nat.reduceEqDiff, Go.Addr.add, ↓reduceIte] at hw227_0)
         obtain rfl : ad223 = ad227 := (by injection e227)
         (try simp only [show (2 : Int).toNat = 2 from rfl, Nat.reduceMul, Nat.reduceEqDiff, Go.Addr.add, ↓reduceIte] at hx227_0)
         have qi227 : (2 < l0.length) = True := eq_true (by omega)
         (try rw [show ((2 : Int)).toNat = 2 from rfl] at hx227_0)
         replace hx227_0 := (HB.out.cell (World.block_lt_of_cell? w _ hx227_0)).trans hx227_0
         replace p227 := eq_true p227
         replace q227 := eq_true q227
         refine start_ (n := 17) (S := fun w' => w'.cell? ad223 = some (.int .i64 (rd l0 0)) ∧ w'.cell? ⟨ad223.block, ad223.off + 1, none⟩ = some (.int .i64 (rd l0 1)) ∧ w'.cell? ⟨ad223.block, ad223.off + 2, none⟩ = some (.int .i64 (rd l0 2))) (ds := []) #[false, false, false, false, false, false, false, false, false, false, false, false, false, false, false, false, false] (by kernel_rfl) rfl rfl ⟨((HB.out.cell (World.block_lt_of_cell? w _ hw223_0)).trans hw223_0), ((HB.out.cell (World.block_lt_of_cell? w _ hw225_0)).trans hw225_0), ((HB.out.cell (World.block_lt_of_cell? w _ hw227_0)).trans hw227_0)⟩ (fun hHeld => ?_); refine with_tabW impl_VersionText.tab3 impl_VersionText.bits3 (fun HT_ HW_ => ?_)
         first | generalize (World.drewN w nd).drew = w14 at HB hx223_0 hx225_0 hx227_0 hHeld ⊢ | generalize w.drew = w14 at HB hx223_0 hx225_0 hx227_0 hHeld ⊢
         refine pure_ (i := 0) (N := some 6) (v := ?_) (a' := ?_) #[true, false, false, false, false, false, false, false, false, false, false, false, false, false, false, false, false] rfl rfl (any_of HT_.out (by kernel_rfl)) (fun _ _ _ h => h) (Or.inl ⟨by rfl, ?_⟩) ?_ ?_
         rotate_left
         ·intro w'
          go_simp
          with_reducible rfl
         rotate_left
         ·simp only [Act.put, List.setIfInBounds_toArray, List.set_cons_zero, List.set_cons_succ, i64_w, i32_w]
          rfl
         refine pure_ (i := 1) (N := some 7) (v := ?_) (a' := ?_) #[true, true, false, false, false, false, false, false, false, false, false, false, false, false, false, false, false] rfl rfl (any_of HT_.out (by kernel_rfl)) (fun _ _ _ h => h) (Or.inl ⟨by rfl, ?_⟩) ?_ ?_
         rotate_left
         ·intro w'
          go_simp
          with_reducible rfl
         rotate_left
         ·simp only [Act.put, List.setIfInBounds_toArray, List.set_cons_zero, List.set_cons_succ, i64_w, i32_w]
          rfl
         refine pure_ (i := 5) (N := some 11) (v := ?_) (a' := ?_) #[true, true, false, false, false, true, false, false, false, false, false, false, false, false, false, false, false] rfl rfl (any_of HT_.out (by kernel_rfl)) (fun _ _ _ h => h) (Or.inl ⟨by rfl, ?_⟩) ?_ ?_
         rotate_left
         ·intro w'
          go_simp
          with_reducible rfl
         rotate_left
         ·simp only [Act.put, List.setIfInBounds_toArray, List.set_cons_zero, List.set_cons_succ, i64_w, i32_w]
          rfl
         refine pure_ (i := 6) (N := some 12) (v := ?_) (a' := ?_) #[true, true, false, false, false, true, true, false, false, false, false, false, false, false, false, false, false] rfl rfl (any_of HT_.out (by kernel_rfl)) (fun _ _ _ h => h) (Or.inl ⟨by rfl, ?_⟩) ?_ ?_
         rotate_left
         ·intro w'
          go_simp
          with_reducible rfl
         rotate_left
         ·simp only [Act.put, List.setIfInBounds_toArray, List.set_cons_zero, List.set_cons_succ, i64_w, i32_w]
          rfl
         refine pure_ (i := 11) (N := some 17) (v := ?_) (a' := ?_) #[true, true, false, false, false, true, true, false, false, false, false, true, false, false, false, false, false] rfl rfl (any_of HT_.out (by kernel_rfl)) (fun _ _ _ h => h) (Or.inl ⟨by rfl, ?_⟩) ?_ ?_
         rotate_left
         ·intro w'
          go_simp
          with_reducible rfl
         rotate_left
         ·simp only [Act.put, List.setIfInBounds_toArray, List.set_cons_zero, List.set_cons_succ, i64_w, i32_w]
          rfl
         refine pure_ (i := 12) (N := some 18) (v := ?_) (a' := ?_) #[true, true, false, false, false, true, true, false, false, false, false, true, true, false, false, false, false] rfl rfl (any_of HT_.out (by kernel_rfl)) (fun _ _ _ h => h) (Or.inl ⟨by rfl, ?_⟩) ?_ ?_
         rotate_left
         ·intro w'
          go_simp
          with_reducible rfl
         rotate_left
         ·simp only [Act.put, List.setIfInBounds_toArray, List.set_cons_zero, List.set_cons_succ, i64_w, i32_w]
          rfl
         refine take_ (i := 2) (N := some 8) (v := ?_) (a' := ?_) #[true, true, true, false, false, true, true, false, false, false, false, true, true, false, false, false, false] rfl rfl (take_ofW HT_.out HW_.out (by kernel_rfl)) (fun _ _ _ h => h) (Or.inl ⟨by rfl, ?_⟩) hHeld ?_ ?_
         rotate_left
         ·rintro w' ⟨s0, s1, s2⟩
          go_simp
          with_reducible rfl
         rotate_left
         ·simp only [Act.put, List.setIfInBounds_toArray, List.set_cons_zero, List.set_cons_succ, i64_w, i32_w]
          rfl
         refine take_ (i := 7) (N := some 13) (v := ?_) (a' := ?_) #[true, true, true, false, false, true, true, true, false, false, false, true, true, false, false, false, false] rfl rfl (take_ofW HT_.out HW_.out (by kernel_rfl)) (fun _ _ _ h => h) (Or.inl ⟨by rfl, ?_⟩) hHeld ?_ ?_
         rotate_left
         ·rintro w' ⟨s0, s1, s2⟩
          go_simp
          with_reducible rfl
         rotate_left
         ·simp only [Act.put, List.setIfInBounds_toArray, List.set_cons_zero, List.set_cons_succ, i64_w, i32_w]
          rfl
         refine take_ (i := 13) (N := some 19) (v := ?_) (a' := ?_) #[true, true, true, false, false, true, true, true, false, false, false, true, true, true, false, false, false] rfl rfl (take_ofW HT_.out HW_.out (by kernel_rfl)) (fun _ _ _ h => h) (Or.inl ⟨by rfl, ?_⟩) hHeld ?_ ?_
         rotate_left
         ·rintro w' ⟨s0, s1, s2⟩
          go_simp
          with_reducible rfl
         rotate_left
         ·simp only [Act.put, List.setIfInBounds_toArray, List.set_cons_zero, List.set_cons_succ, i64_w, i32_w]
          rfl
         refine one_ (i := 3) (N := some 9) #[true, true, true, true, false, true, true, true, false, false, false, true, true, true, false, false, false] rfl rfl (one_of HT_.out (by kernel_rfl)) (by decide) (fun K hK => ?_)
         refine goes_ Tryd.func51 (by kernel_rfl) rfl #[.int .i64 (rd l0 0)] (by rfl) rfl rfl (by (try simp only [List.map_toArray, List.map_cons, List.map_nil]); first | done | rfl | (simp only [List.length_drop, List.length_take]; rfl)) ?_
         with_reducible refine (strconv_Itoa_51.calls (rd l0 0) t224 _ ?side1 A5.out).mono ?_
         (case side1 => exact Tabs.below hT (by repeat (first | (with_reducible first | exact HB.out | apply below_alloc | apply pw_below_drewN | apply below_drew1) | exact HB.out)))
         rintro e w15 ⟨rfl, hb⟩
         refine ⟨_, rfl, ?_⟩
         have n0_ := am (shHB HB.out hb)
         clear HB
         have HB := n0_
         clear n0_
         (try clear hb)
         (try clear hb2)
         (try clear hk)
         (try clear hi)
         refine hK.out _ _ ⟨((HB.out.cell (World.block_lt_of_cell? w _ hw223_0)).trans hw223_0), ((HB.out.cell (World.block_lt_of_cell? w _ hw225_0)).trans hw225_0), ((HB.out.cell (World.block_lt_of_cell? w _ hw227_0)).trans hw227_0)⟩ (fun hHeld => ?_)
         clear hK K
         refine norm_ (a' := ?_) ?_ ?_
         rotate_left
         ·show Act.put _ (some 9) _ = _
          simp only [Act.put, List.setIfInBounds_toArray, List.set_cons_zero, List.set_cons_succ, i64_w, i32_w]
          rfl
         refine pure_ (i := 4) (N := some 10) (v := ?_) (a' := ?_) #[true, true, true, true, true, true, true, true, false, false, false, true, true, true, false, false, false] rfl rfl (any_of HT_.out (by kernel_rfl)) (fun _ _ _ h => h) (Or.inl ⟨by rfl, ?_⟩) ?_ ?_
         rotate_left
         ·intro w'
          go_simp
          with_reducible rfl
         rotate_left
         ·simp only [Act.put, List.setIfInBounds_toArray, List.set_cons_zero, List.set_cons_succ, i64_w, i32_w]
          rfl
         refine one_ (i := 8) (N := some 14) #[true, true, true, true, true, true, true, true, true, false, false, true, true, true, false, false, false] rfl rfl (one_of HT_.out (by kernel_rfl)) (by decide) (fun K hK => ?_)
         refine goes_ Tryd.func51 (by kernel_rfl) rfl #[.int .i64 (rd l0 1)] (by rfl) rfl rfl (by (try simp only [List.map_toArray, List.map_cons, List.map_nil]); first | done | rfl | (simp only [List.length_drop, List.length_take]; rfl)) ?_
         with_reducible refine (strconv_Itoa_51.calls (rd l0 1) t226 _ ?side1 A8.out).mono ?_
         (case side1 => exact Tabs.below hT (by repeat (first | (with_reducible first | exact HB.out | apply below_alloc | apply pw_below_drewN | apply below_drew1) | exact HB.out)))
         rintro e w16 ⟨rfl, hb⟩
         refine ⟨_, rfl, ?_⟩
         have n0_ := am (shHB HB.out hb)
         clear HB
         have HB := n0_
         clear n0_
         (try clear hb)
         (try clear hb2)
         (try clear hk)
         (try clear hi)
         refine hK.out _ _ ⟨((HB.out.cell (World.block_lt_of_cell? w _ hw223_0)).trans hw223_0), ((HB.out.cell (World.block_lt_of_cell? w _ hw225_0)).trans hw225_0), ((HB.out.cell (World.block_lt_of_cell? w _ hw227_0)).trans hw227_0)⟩ (fun hHeld => ?_)
         clear hK K
         refine norm_ (a' := ?_) ?_ ?_
         rotate_left
         ·show Act.put _ (some 14) _ = _
          simp only [Act.put, List.setIfInBounds_toArray, List.set_cons_zero, List.set_cons_succ, i64_w, i32_w]
          rfl
         refine pure_ (i := 9) (N := some 15) (v := ?_) (a' := ?_) #[true, true, true, true, true, true, true, true, true, true, false, true, true, true, false, false, false] rfl rfl (any_of HT_.out (by kernel_rfl)) (fun _ _ _ h => h) (Or.inl ⟨by rfl, ?_⟩) ?_ ?_
         rotate_left
         ·intro w'
          go_simp
          with_reducible rfl
         rotate_left
         ·simp only [Act.put, List.setIfInBounds_toArray, List.set_cons_zero, List.set_cons_succ, i64_w, i32_w]
          rfl
         refine pure_ (i := 10) (N := some 16) (v := ?_) (a' := ?_) #[true, true, true, true, true, true, true, true, true, true, true, true, true, true, false, false, false] rfl rfl (any_of HT_.out (by kernel_rfl)) (fun _ _ _ h => h) (Or.inl ⟨by rfl, ?_⟩) ?_ ?_
         rotate_left
         ·intro w'
          go_simp
          with_reducible rfl
         rotate_left
         ·simp only [Act.put, List.setIfInBounds_toArray, List.set_cons_zero, List.set_cons_succ, i64_w, i32_w]
          rfl
         refine one_ (i := 14) (N := some 20) #[true, true, true, true, true, true, true, true, true, true, true, true, true, true, true, false, false] rfl rfl (one_of HT_.out (by kernel_rfl)) (by decide) (fun K hK => ?_)
         refine goes_ Tryd.func51 (by kernel_rfl) rfl #[.int .i64 (rd l0 2)] (by rfl) rfl rfl (by (try simp only [List.map_toArray, List.map_cons, List.map_nil]); first | done | rfl | (simp only [List.length_drop, List.length_take]; rfl)) ?_
         with_reducible refine (strconv_Itoa_51.calls (rd l0 2) t228 _ ?side1 A12.out).mono ?_
         (case side1 => exact Tabs.below hT (by repeat (first | (with_reducible first | exact HB.out | apply below_alloc | apply pw_below_drewN | apply below_drew1) | exact HB.out)))
         rintro e w17 ⟨rfl, hb⟩
         refine ⟨_, rfl, ?_⟩
         have n0_ := am (shHB HB.out hb)
         clear HB
         have HB := n0_
         clear n0_
         (try clear hb)
         (try clear hb2)
         (try clear hk)
         (try clear hi)
         refine hK.out _ _ ⟨((HB.out.cell (World.block_lt_of_cell? w _ hw223_0)).trans hw223_0), ((HB.out.cell (World.block_lt_of_cell? w _ hw225_0)).trans hw225_0), ((HB.out.cell (World.block_lt_of_cell? w _ hw227_0)).trans hw227_0)⟩ (fun hHeld => ?_)
         clear hK K
         refine norm_ (a' := ?_) ?_ ?_
         rotate_left
         ·show Act.put _ (some 20) _ = _
          simp only [Act.put, List.setIfInBounds_toArray, List.set_cons_zero, List.set_cons_succ, i64_w, i32_w]
          rfl
         refine pure_ (i := 15) (N := some 21) (v := ?_) (a' := ?_) #[true, true, true, true, true, true, true, true, true, true, true, true, true, true, true, true, false] rfl rfl (any_of HT_.out (by kernel_rfl)) (fun _ _ _ h => h) (Or.inl ⟨by rfl, ?_⟩) ?_ ?_
         rotate_left
         ·intro w'
          go_simp
          with_reducible rfl
         rotate_left
         ·simp only [Act.put, List.setIfInBounds_toArray, List.set_cons_zero, List.set_cons_succ, i64_w, i32_w]
          rfl
         refine pure_ (i := 16) (N := some 2) (v := ?_) (a' := ?_) #[true, true, true, true, true, true, true, true, true, true, true, true, true, true, true, true, true] rfl rfl (any_of HT_.out (by kernel_rfl)) (fun _ _ _ h => h) (Or.inl ⟨by rfl, ?_⟩) ?_ ?_
         rotate_left
         ·intro w'
          go_simp
          with_reducible rfl
         rotate_left
         ·simp only [Act.put, List.setIfInBounds_toArray, List.set_cons_zero, List.set_cons_succ, i64_w, i32_w]
          rfl
         refine done_ (done_of HT_.out (by kernel_rfl)) ?_
         try go_wp2
         go_ret
         exact ⟨by first | rfl | (simp [errW_none, errW_some] <;> rfl) | (simp [*, errW_none, errW_some] <;> rfl), by repeat (first | (with_reducible first | exact HB.out | apply below_alloc | apply pw_below_drewN | apply below_drew1) | exact HB.out)⟩
        ·rw [if_neg c13] at H
         exact absurd H (by simp)
       ·rw [if_neg c11] at H
        exact absurd H (by simp)
      ·rw [if_neg c10] at H
       exact absurd H (by simp)
     ·rw [if_neg c9] at H
      exact absurd H (by simp)
    ·rw [if_neg c7] at H
     exact absurd H (by simp)
   ·rw [if_neg c6] at H
    exact absurd H (by simp)
  ·rw [if_neg c4] at H
   exact absurd H (by simp)
 ·replace c3 := Bool.eq_false_iff.mpr c3
  subst c3
  have H1 : (some (⟨#[]⟩ : ByteArray)) = some r := by first | (rw [if_neg (show ¬ (false = true) by decide)] at H; exact H) | with_reducible rfl
  clear H
  have H := H1
  clear H1
  obtain rfl := Option.some.inj H
  go_enter Tryd.func16, Tryd.ntmps16
  go_wp2_with (first | ((with_reducible refine gate_callee (f := 50) rfl ?_); refine goesL_ (some 4) rfl rfl Tryd.func50 (by kernel_rfl) rfl #[.slice A0 l0.length c0] rfl (by (try simp only [List.map_toArray, List.map_cons, List.map_nil]); first | done | rfl | (simp only [List.length_drop, List.length_take]; rfl)) ?_; (with_reducible refine (impl_isVersion.calls k _ _ l0 false _ ?side1 ?side2 A2.out).mono ?_); (case side1 => repeat (first | exact HR0.out | (with_reducible refine Kd.C_alloc ?_ _) | (with_reducible refine Kd.C_drewN ?_ _) | (with_reducible refine Kd.C_drew ?_))); (case side2 => exact HC0.out); rintro e w' ⟨rfl, ⟨nd, rfl⟩⟩; refine ⟨_, rfl, ?_⟩))
  go_ret
  exact ⟨by first | rfl | (simp [errW_none, errW_some] <;> rfl) | (simp [*, errW_none, errW_some] <;> rfl), by repeat (first | (with_reducible first | exact HB.out | apply below_alloc | apply pw_below_drewN | apply below_drew1) | exact HB.out)⟩

/-! ### impl_Hex: function 70 -/
def impl_Hex.ds : ByteArray := ⟨#[48, 49, 50, 51, 52, 53, 54, 55, 56, 57, 97, 98, 99, 100, 101, 102]⟩
def impl_Hex.dig (n : Int) : UInt8 := if h : n.toNat < impl_Hex.ds.size then impl_Hex.ds[n.toNat]'h else 0
def impl_Hex.two (c : Int) : List UInt8 := [impl_Hex.dig (c / 16), impl_Hex.dig (c % 16)]
def impl_Hex.f (l0 : List Int) : Option ByteArray := if l0.length ≤ 35184372088832 then (if l0.all (fun c => decide (0 ≤ c ∧ c ≤ 255)) = true then some ⟨(l0.flatMap impl_Hex.two).toArray⟩ else none) else none
theorem impl_Hex.two_len (l : List Int) : (l.flatMap impl_Hex.two).length = 2 * l.length := by
 induction l with
 | nil => rfl
 | cons a l ih => rw [List.flatMap_cons, List.length_append, ih, List.length_cons]; show 2 + _ = _; omega
set_option maxHeartbeats 8000000 in
set_option maxRecDepth 1000000 in
theorem impl_Hex.calls (A0 : Option Addr) (c0 : Nat) (l0 : List Int) (r : ByteArray) (w : World) (hr0 : Kd.C (Kd.int .u8) w A0 l0.length l0) (hc0 : l0.length ≤ c0) (h : impl_Hex.f l0 = some r) :
  Calls Tryd.prog 70 #[.slice A0 l0.length c0] w fun e w' => e = .returned (.string r) ∧ Below w.heap.size w w' := by
 unfold impl_Hex.f at h
 by_cases hl : l0.length ≤ 35184372088832
 case neg => rw [if_neg hl] at h; cases h
 by_cases hall : l0.all (fun c => decide (0 ≤ c ∧ c ≤ 255)) = true
 case neg => rw [if_pos hl, if_neg hall] at h; cases h
 rw [if_pos hl, if_pos hall] at h
 obtain rfl := Option.some.inj h
 clear h
 have HR0 := Aside0.mk hr0
 clear hr0
 go_enter Tryd.func70, Tryd.ntmps70
 go_wp2
 go_loopw [9] (fun v9 wr => ∃ (i : Nat), v9 = .int .i64 (i : Int) ∧ i ≤ l0.length ∧ Lib.IsBuilderF 90 5 w.heap.size w.heap.size (Lib.byteCells ((l0.take i).flatMap impl_Hex.two)) wr ∧ Below w.heap.size w wr) (fun v9 wr => match v9 with | .int _ x => l0.length - x.toNat | _ => 0)
 case atStart =>
  refine ⟨0, rfl, Nat.zero_le _, ?_, ?_⟩
  ·exact Lib.IsBuilderF.of (Lib.fresh_isBuilder 90 5 w)
  ·exact (Below.refl _ w).alloc (Nat.le_refl _) _
 case round =>
  obtain ⟨i, rfl, hi, hI, hbw⟩ := hrel
  by_cases hp : i < l0.length
  ·have p0 : 0 ≤ (i : Int) := by omega
   have q0 : (i : Int) < (l0.length : Int) := by omega
   obtain ⟨ad, e, hx⟩ := Kd.at_int HR0.out (i : Int) p0 q0
   cases e
   replace hx := (hbw.cell (World.block_lt_of_cell? w _ hx)).trans hx
   obtain ⟨c, hc⟩ : ∃ c, rd l0 (i : Int) = c := ⟨_, rfl⟩
   rw [hc, Int.toNat_natCast] at hx
   have hb : 0 ≤ c ∧ c ≤ 255 := by
    have h1 : rd l0 (i : Int) = l0[i] := by unfold rd; simp [hp]
    have h2 := List.all_eq_true.1 hall l0[i] (List.getElem_mem hp)
    rw [← hc, h1]; exact of_decide_eq_true h2
   have hq : 0 ≤ c / 16 ∧ c / 16 < 16 := by omega
   have hm : 0 ≤ c % 16 ∧ c % 16 < 16 := by omega
   have hz0 := below_size hbw
   have hlen : (((l0.take i).flatMap impl_Hex.two)).length ≤ 2 * i := by
    rw [impl_Hex.two_len, List.length_take]; omega
   go_wp2_with (first | (go_at_call 87; go_must (refine (Tryd.Builder_WriteByte_k w.heap.size w.heap.size _ _ _ hI (by rw [Lib.byteCells_length]; omega) hz0).mono ?_)))
   rintro e W1 ⟨rfl, h1, b1, k1⟩
   have hI1 := (show Lib.IsBuilderF 90 5 w.heap.size w.heap.size _ W1 from Or.inr h1)
   have hbw1 := hbw.trans b1
   have hz1 := below_size hbw1
   go_wp2_with (first | (go_at_call 87; go_must (refine (Tryd.Builder_WriteByte_k w.heap.size w.heap.size _ _ _ hI1 (by rw [List.length_append, Lib.byteCells_length]; simp only [List.length_cons, List.length_nil]; omega) hz1).mono ?_)))
   rintro e W2 ⟨rfl, h2, b2, k2⟩
   go_wp2
   refine ⟨⟨i + 1, by first | rfl | (congr 1), hp, Or.inr ?_, hbw1.trans b2⟩, ?_⟩
   ·have e1 : l0.take (i + 1) = l0.take i ++ [c] := by
     rw [List.take_succ_eq_append_getElem hp]
     have h1 : rd l0 (i : Int) = l0[i] := by unfold rd; simp [hp]
     rw [← h1, hc]
    have e2 : (l0.take (i + 1)).flatMap impl_Hex.two = (l0.take i).flatMap impl_Hex.two ++ impl_Hex.two c := by
     rw [e1, List.flatMap_append]; simp
    rw [e2, Lib.byteCells_append]
    have e3 : Lib.byteCells (impl_Hex.two c) = [Value.int .u8 ((impl_Hex.dig (c / 16)).toNat : Int)] ++ [Value.int .u8 ((impl_Hex.dig (c % 16)).toNat : Int)] := rfl
    rw [e3, ← List.append_assoc]
    have f1 : (c / 16).toNat < impl_Hex.ds.size := by show _ < 16; omega
    have f2 : (c % 16).toNat < impl_Hex.ds.size := by show _ < 16; omega
    rw [impl_Hex.dig, dif_pos f1, impl_Hex.dig, dif_pos f2]
    exact h2
   ·show l0.length - (((i : Int) + 1).toNat) < l0.length - (i : Int).toNat
    omega
  ·go_wp2_with (first | (go_at_call 88; go_must (refine (Tryd.Builder_String_any_k w.heap.size w.heap.size _ _ hI (below_size hbw)).mono ?_)))
   rintro e W1 ⟨rfl, _, b1, _⟩
   go_wp2
   go_ret
   have hii : i = l0.length := by omega
   subst hii
   rw [List.take_length]
   exact ⟨rfl, hbw.trans b1⟩

end Go.Proofs.YtekjcdcmiingmaaDoor.PFnExactPaperText
