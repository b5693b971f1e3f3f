-- Made by a program of this repository (xp.py over the kit's print) out of the translation. Lean checks it.
import Derived.Test.YtekjcdcmiingmaaDoorPFnExactNameOkx0
namespace Go.Proofs.YtekjcdcmiingmaaDoor.PFnExactNameOk
open Go.RowKit Go.Proofs.YtekjcdcmiingmaaDoorW.PrintWords Go.Proofs.YtekjcdcmiingmaaDoorW.PrintLast Go.Proofs.YtekjcdcmiingmaaDoorW.PrintMore
attribute [local go_sem] max2_int min2_int max_two min_two max_three min_three max_four min_four   -- for this text's walks alone
set_option linter.unusedVariables false
set_option linter.unusedSimpArgs false

/-! ### spec_NameOk: function 12 -/
def nameRune (c : Int) : Bool := (decide (97 ≤ c) && decide (c ≤ 122)) || (decide (65 ≤ c) && decide (c ≤ 90)) || (decide (48 ≤ c) && decide (c ≤ 57)) || c == 45 || c == 95 || c == 32 || decide (160 ≤ c)
def brokenAt (s : ByteArray) (pos : Nat) (c : Int) : Bool := c == 65533 && (decide (s.size ≤ pos + 2) || bt s pos != 239 || bt s (pos + 1 : Nat) != 191 || bt s (pos + 2 : Nat) != 189)
def spec_NameOk.l0 : Nat → ByteArray → Int → Nat → Option Bool
  | 0, _, _, _ => none
  | k + 1, s, n, pos => if pos < s.size then (if brokenAt s pos ((Utf8.decode s pos).1 : Int) = true then some false else if nameRune ((Utf8.decode s pos).1 : Int) = true then spec_NameOk.l0 k s (wrap64 (n + 1)) (pos + (Utf8.decode s pos).2) else some false) else (if 1 ≤ n then (if n ≤ 24 then (if 0 < s.size then some ((bt s 0 != 32) && (bt s ((s.size : Int) - 1) != 32)) else none) else some false) else some false)
def spec_NameOk.f (k : Nat) (a0 : ByteArray) : Option Bool := if a0.size ≤ 1048576 then spec_NameOk.l0 k a0 0 0 else none
theorem spec_NameOk.mono_l : ∀ k s n pos, LeO (spec_NameOk.l0 k s n pos) (spec_NameOk.l0 (k + 1) s n pos)
  | 0, _, _, _ => fun r h => by simp [spec_NameOk.l0] at h
  | k + 1, s, n, pos => by
    intro r h
    rw [spec_NameOk.l0] at h ⊢
    by_cases h1 : pos < s.size
    · rw [if_pos h1] at h ⊢
      by_cases h2 : brokenAt s pos ((Utf8.decode s pos).1 : Int) = true
      · rw [if_pos h2] at h ⊢; exact h
      · rw [if_neg h2] at h ⊢
        by_cases h3 : nameRune ((Utf8.decode s pos).1 : Int) = true
        · rw [if_pos h3] at h ⊢; exact spec_NameOk.mono_l k _ _ _ r h
        · rw [if_neg h3] at h ⊢; exact h
    · rw [if_neg h1] at h ⊢; exact h
theorem spec_NameOk.mono : ∀ a0 k, LeO (spec_NameOk.f k a0) (spec_NameOk.f (k + 1) a0) := by
  intro a0 k
  unfold spec_NameOk.f
  split
  · exact spec_NameOk.mono_l k _ _ _
  · exact LeO.refl _
theorem below_iter (w : World) (s : ByteArray) (pos : Nat) : Below w.heap.size w (w.iter s pos) := (Below.refl _ w).alloc (Nat.le_refl _) _
theorem rune_range (s : ByteArray) (pos : Nat) (h : pos < s.size) : (Utf8.decode s pos).1 ≤ 1114111 := Lib.rune_le s pos
theorem broken_iff (s : ByteArray) (pos : Nat) (hp : pos < s.size) : brokenAt s pos 65533 = true ↔ (s.size ≤ pos + 2 ∨ ∃ h : pos + 2 < s.size, ¬ (((s[pos]'hp).toNat : Int) = 239 ∧ ((s[pos + 1]'(by omega)).toNat : Int) = 191 ∧ ((s[pos + 2]'h).toNat : Int) = 189)) := by
  unfold brokenAt
  by_cases h : s.size ≤ pos + 2
  · rw [decide_eq_true h]
    simp [h]
  · have h2 : pos + 2 < s.size := by omega
    have e0 : bt s (pos : Int) = ((s[pos]'hp).toNat : Int) := (bt_at s (pos : Int) (by simpa using hp)).symm
    have e1 : bt s ((pos + 1 : Nat) : Int) = ((s[pos + 1]'(by omega)).toNat : Int) := (bt_at s ((pos + 1 : Nat) : Int) (by rw [Int.toNat_natCast]; omega)).symm
    have e2 : bt s ((pos + 2 : Nat) : Int) = ((s[pos + 2]'h2).toNat : Int) := (bt_at s ((pos + 2 : Nat) : Int) (by rw [Int.toNat_natCast]; omega)).symm
    rw [decide_eq_false h, e0, e1, e2]
    simp only [beq_self_eq_true, Bool.true_and, Bool.false_or, Bool.or_eq_true, bne_iff_ne, ne_eq]
    constructor
    · rintro ((a | a) | a)
      · exact Or.inr ⟨h2, fun hh => a hh.1⟩
      · exact Or.inr ⟨h2, fun hh => a hh.2.1⟩
      · exact Or.inr ⟨h2, fun hh => a hh.2.2⟩
    · rintro (a | ⟨_, a⟩)
      · exact absurd a h
      · by_cases x : ((s[pos]'hp).toNat : Int) = 239
        · by_cases y : ((s[pos + 1]'(by omega)).toNat : Int) = 191
          · exact Or.inr (fun z => a ⟨x, y, z⟩)
          · exact Or.inl (Or.inr y)
        · exact Or.inl (Or.inl x)
set_option maxHeartbeats 8000000 in
set_option maxRecDepth 1000000 in
theorem spec_NameOk.calls (k : Nat) (s : ByteArray) (r : Bool) (w : World) (h : spec_NameOk.f k s = some r) :
    Calls Tryd.prog 12 #[.string s] w fun e w' => e = .returned (.bool r) ∧ Below w.heap.size w w' := by
  unfold spec_NameOk.f at h
  by_cases hs : s.size ≤ 1048576
  case neg => rw [if_neg hs] at h; cases h
  rw [if_pos hs] at h
  have H' := Aside0.mk h
  clear h
  go_enter Tryd.func12, Tryd.ntmps12
  go_wp2
  go_loopg [3] k (fun kq v3 w' => ∃ (n : Int) (pos : Nat), v3 = .int .i64 n ∧ Aside0 (spec_NameOk.l0 kq s n pos = some r) ∧ Aside0 (kq ≤ k) ∧ w' = w.iter s pos)
  case atStart => exact ⟨0, 0, rfl, H', ⟨Nat.le_refl _⟩, rfl⟩
  case round =>
    clear H'
    obtain ⟨n, pos, rfl, HA, HK, rfl⟩ := hrel
    cases gk with
    | zero => exact absurd HA.out (by simp [spec_NameOk.l0])
    | succ k1 =>
      have H := HA.out
      clear HA
      simp only [spec_NameOk.l0] at H
      by_cases hp : pos < s.size
      · rw [if_pos hp] at H
        have hnx : ∀ ty, (Instr.next (.pointer (some ⟨w.heap.size, 0, none⟩)) true ty).run Tryd.prog (w.iter s pos) = _ := fun ty => run_next_any w s pos ty hp
        have hwd := Lib.decode_width_pos s pos hp
        have hr := rune_range s pos hp
        obtain ⟨p2, hp2⟩ : ∃ p2, pos + (Utf8.decode s pos).2 = p2 := ⟨_, rfl⟩
        obtain ⟨cn, hcn⟩ : ∃ cn, (Utf8.decode s pos).1 = cn := ⟨_, rfl⟩
        rw [hp2, hcn] at H hnx
        rw [hcn] at hr
        clear hwd hcn
        obtain ⟨c, hc⟩ : ∃ c : Int, (cn : Int) = c := ⟨_, rfl⟩
        rw [hc] at H hnx
        have hc0 : 0 ≤ c ∧ c ≤ 1114111 := by omega
        have hcw : IntKind.i64.wrap c = c := by rw [IntKind.wrap_i64]; omega
        have hcw' : wrap64 c = c := by unfold wrap64; omega
        clear hc hr
        by_cases hb : c = 65533
        · subst hb
          clear hcw hcw'
          go_wp2
          · rename_i a1 a2 a3 a4 a5 a6
            have hbk : brokenAt s pos 65533 = true := (broken_iff s pos hp).2 (by
              rcases a6 with h | h
              · exact Or.inl (by omega)
              · exact Or.inr ⟨by omega, fun hh => by rw [hh.2.2] at h; exact absurd h (by decide)⟩)
            rw [hbk, if_pos rfl] at H
            obtain rfl := Option.some.inj H
            go_ret
            exact ⟨rfl, below_iter _ _ _⟩
          · rename_i a1 a2 a3 a4 a5 a6
            have hbk : brokenAt s pos 65533 = false := Bool.eq_false_iff.2 (fun hh => by
              rcases (broken_iff s pos hp).1 hh with h | ⟨h, h'⟩
              · omega
              · exact h' ⟨a2, a4, bne_eq_false_iff_eq.1 a6.2⟩)
            rw [hbk, if_neg (by decide), if_pos (by decide)] at H
            go_roundg k1
            case measure => have := HK.out; omega
            case rel => exact ⟨wrap64 (n + 1), p2, by first | rfl | (simp; done), ⟨H⟩, ⟨by have := HK.out; omega⟩, rfl⟩
          · rename_i a1 a2 a3 a4
            have hbk : brokenAt s pos 65533 = true := (broken_iff s pos hp).2 (Or.inr ⟨by omega, fun hh => a4 hh.2.1⟩)
            rw [hbk, if_pos rfl] at H
            obtain rfl := Option.some.inj H
            go_ret
            exact ⟨rfl, below_iter _ _ _⟩
          · rename_i a1 a2
            have hbk : brokenAt s pos 65533 = true := (broken_iff s pos hp).2 (Or.inr ⟨by omega, fun hh => a2 hh.1⟩)
            rw [hbk, if_pos rfl] at H
            obtain rfl := Option.some.inj H
            go_ret
            exact ⟨rfl, below_iter _ _ _⟩
          · rename_i a1
            have hbk : brokenAt s pos 65533 = true := (broken_iff s pos hp).2 (Or.inl (by omega))
            rw [hbk, if_pos rfl] at H
            obtain rfl := Option.some.inj H
            go_ret
            exact ⟨rfl, below_iter _ _ _⟩
        · have hb1 : (c == 65533) = false := beq_eq_false_iff_ne.2 hb
          have hbr : brokenAt s pos c = false := by unfold brokenAt; rw [hb1]; rfl
          rw [hbr, if_neg (by decide)] at H
          rcases (by omega : (c ≤ 31) ∨ (32 ≤ c ∧ c ≤ 32) ∨ (33 ≤ c ∧ c ≤ 44) ∨ (45 ≤ c ∧ c ≤ 45) ∨ (46 ≤ c ∧ c ≤ 47) ∨ (48 ≤ c ∧ c ≤ 57) ∨ (58 ≤ c ∧ c ≤ 64) ∨ (65 ≤ c ∧ c ≤ 90) ∨ (91 ≤ c ∧ c ≤ 94) ∨ (95 ≤ c ∧ c ≤ 95) ∨ (96 ≤ c ∧ c ≤ 96) ∨ (97 ≤ c ∧ c ≤ 122) ∨ (123 ≤ c ∧ c ≤ 159) ∨ (160 ≤ c)) with h | h | h | h | h | h | h | h | h | h | h | h | h | h
          · have hg : nameRune c = false := by unfold nameRune; simp; omega
            have f0 : decide (97 ≤ c) = false := decide_eq_false (by omega)
            have f1 : decide (65 ≤ c) = false := decide_eq_false (by omega)
            have f2 : decide (48 ≤ c) = false := decide_eq_false (by omega)
            have f3 : decide (c ≤ 122) = true := decide_eq_true (by omega)
            have f4 : decide (c ≤ 90) = true := decide_eq_true (by omega)
            have f5 : decide (c ≤ 57) = true := decide_eq_true (by omega)
            have f6 : (c != 45) = true := bne_iff_ne.2 (by omega)
            have f7 : (c == 45) = false := beq_eq_false_iff_ne.2 (by omega)
            have f8 : (c != 95) = true := bne_iff_ne.2 (by omega)
            have f9 : (c == 95) = false := beq_eq_false_iff_ne.2 (by omega)
            have f10 : (c != 32) = true := bne_iff_ne.2 (by omega)
            have f11 : (c == 32) = false := beq_eq_false_iff_ne.2 (by omega)
            have f12 : decide (c < 160) = true := decide_eq_true (by omega)
            have f13 : decide (160 ≤ c) = false := decide_eq_false (by omega)
            rw [hg, if_neg (by decide)] at H
            clear h hc0 hcw hb hg hbr
            go_wp2
            obtain rfl := Option.some.inj H
            go_ret
            exact ⟨rfl, below_iter _ _ _⟩
          · have hg : nameRune c = true := by unfold nameRune; simp; omega
            have f0 : decide (97 ≤ c) = false := decide_eq_false (by omega)
            have f1 : decide (65 ≤ c) = false := decide_eq_false (by omega)
            have f2 : decide (48 ≤ c) = false := decide_eq_false (by omega)
            have f3 : decide (c ≤ 122) = true := decide_eq_true (by omega)
            have f4 : decide (c ≤ 90) = true := decide_eq_true (by omega)
            have f5 : decide (c ≤ 57) = true := decide_eq_true (by omega)
            have f6 : (c != 45) = true := bne_iff_ne.2 (by omega)
            have f7 : (c == 45) = false := beq_eq_false_iff_ne.2 (by omega)
            have f8 : (c != 95) = true := bne_iff_ne.2 (by omega)
            have f9 : (c == 95) = false := beq_eq_false_iff_ne.2 (by omega)
            have f10 : (c != 32) = false := bne_eq_false_iff_eq.2 (by omega)
            have f11 : (c == 32) = true := beq_iff_eq.2 (by omega)
            have f12 : decide (c < 160) = true := decide_eq_true (by omega)
            have f13 : decide (160 ≤ c) = false := decide_eq_false (by omega)
            rw [hg, if_pos rfl] at H
            clear h hc0 hcw hb hg hbr
            go_wp2
            go_roundg k1
            case measure => have := HK.out; omega
            case rel => exact ⟨wrap64 (n + 1), p2, by first | rfl | (simp; done), ⟨H⟩, ⟨by have := HK.out; omega⟩, rfl⟩
          · have hg : nameRune c = false := by unfold nameRune; simp; omega
            have f0 : decide (97 ≤ c) = false := decide_eq_false (by omega)
            have f1 : decide (65 ≤ c) = false := decide_eq_false (by omega)
            have f2 : decide (48 ≤ c) = false := decide_eq_false (by omega)
            have f3 : decide (c ≤ 122) = true := decide_eq_true (by omega)
            have f4 : decide (c ≤ 90) = true := decide_eq_true (by omega)
            have f5 : decide (c ≤ 57) = true := decide_eq_true (by omega)
            have f6 : (c != 45) = true := bne_iff_ne.2 (by omega)
            have f7 : (c == 45) = false := beq_eq_false_iff_ne.2 (by omega)
            have f8 : (c != 95) = true := bne_iff_ne.2 (by omega)
            have f9 : (c == 95) = false := beq_eq_false_iff_ne.2 (by omega)
            have f10 : (c != 32) = true := bne_iff_ne.2 (by omega)
            have f11 : (c == 32) = false := beq_eq_false_iff_ne.2 (by omega)
            have f12 : decide (c < 160) = true := decide_eq_true (by omega)
            have f13 : decide (160 ≤ c) = false := decide_eq_false (by omega)
            rw [hg, if_neg (by decide)] at H
            clear h hc0 hcw hb hg hbr
            go_wp2
            obtain rfl := Option.some.inj H
            go_ret
            exact ⟨rfl, below_iter _ _ _⟩
          · have hg : nameRune c = true := by unfold nameRune; simp; omega
            have f0 : decide (97 ≤ c) = false := decide_eq_false (by omega)
            have f1 : decide (65 ≤ c) = false := decide_eq_false (by omega)
            have f2 : decide (48 ≤ c) = false := decide_eq_false (by omega)
            have f3 : decide (c ≤ 122) = true := decide_eq_true (by omega)
            have f4 : decide (c ≤ 90) = true := decide_eq_true (by omega)
            have f5 : decide (c ≤ 57) = true := decide_eq_true (by omega)
            have f6 : (c != 45) = false := bne_eq_false_iff_eq.2 (by omega)
            have f7 : (c == 45) = true := beq_iff_eq.2 (by omega)
            have f8 : (c != 95) = true := bne_iff_ne.2 (by omega)
            have f9 : (c == 95) = false := beq_eq_false_iff_ne.2 (by omega)
            have f10 : (c != 32) = true := bne_iff_ne.2 (by omega)
            have f11 : (c == 32) = false := beq_eq_false_iff_ne.2 (by omega)
            have f12 : decide (c < 160) = true := decide_eq_true (by omega)
            have f13 : decide (160 ≤ c) = false := decide_eq_false (by omega)
            rw [hg, if_pos rfl] at H
            clear h hc0 hcw hb hg hbr
            go_wp2
            go_roundg k1
            case measure => have := HK.out; omega
            case rel => exact ⟨wrap64 (n + 1), p2, by first | rfl | (simp; done), ⟨H⟩, ⟨by have := HK.out; omega⟩, rfl⟩
          · have hg : nameRune c = false := by unfold nameRune; simp; omega
            have f0 : decide (97 ≤ c) = false := decide_eq_false (by omega)
            have f1 : decide (65 ≤ c) = false := decide_eq_false (by omega)
            have f2 : decide (48 ≤ c) = false := decide_eq_false (by omega)
            have f3 : decide (c ≤ 122) = true := decide_eq_true (by omega)
            have f4 : decide (c ≤ 90) = true := decide_eq_true (by omega)
            have f5 : decide (c ≤ 57) = true := decide_eq_true (by omega)
            have f6 : (c != 45) = true := bne_iff_ne.2 (by omega)
            have f7 : (c == 45) = false := beq_eq_false_iff_ne.2 (by omega)
            have f8 : (c != 95) = true := bne_iff_ne.2 (by omega)
            have f9 : (c == 95) = false := beq_eq_false_iff_ne.2 (by omega)
            have f10 : (c != 32) = true := bne_iff_ne.2 (by omega)
            have f11 : (c == 32) = false := beq_eq_false_iff_ne.2 (by omega)
            have f12 : decide (c < 160) = true := decide_eq_true (by omega)
            have f13 : decide (160 ≤ c) = false := decide_eq_false (by omega)
            rw [hg, if_neg (by decide)] at H
            clear h hc0 hcw hb hg hbr
            go_wp2
            obtain rfl := Option.some.inj H
            go_ret
            exact ⟨rfl, below_iter _ _ _⟩
          · have hg : nameRune c = true := by unfold nameRune; simp; omega
            have f0 : decide (97 ≤ c) = false := decide_eq_false (by omega)
            have f1 : decide (65 ≤ c) = false := decide_eq_false (by omega)
            have f2 : decide (48 ≤ c) = true := decide_eq_true (by omega)
            have f3 : decide (c ≤ 122) = true := decide_eq_true (by omega)
            have f4 : decide (c ≤ 90) = true := decide_eq_true (by omega)
            have f5 : decide (c ≤ 57) = true := decide_eq_true (by omega)
            have f6 : (c != 45) = true := bne_iff_ne.2 (by omega)
            have f7 : (c == 45) = false := beq_eq_false_iff_ne.2 (by omega)
            have f8 : (c != 95) = true := bne_iff_ne.2 (by omega)
            have f9 : (c == 95) = false := beq_eq_false_iff_ne.2 (by omega)
            have f10 : (c != 32) = true := bne_iff_ne.2 (by omega)
            have f11 : (c == 32) = false := beq_eq_false_iff_ne.2 (by omega)
            have f12 : decide (c < 160) = true := decide_eq_true (by omega)
            have f13 : decide (160 ≤ c) = false := decide_eq_false (by omega)
            rw [hg, if_pos rfl] at H
            clear h hc0 hcw hb hg hbr
            go_wp2
            go_roundg k1
            case measure => have := HK.out; omega
            case rel => exact ⟨wrap64 (n + 1), p2, by first | rfl | (simp; done), ⟨H⟩, ⟨by have := HK.out; omega⟩, rfl⟩
          · have hg : nameRune c = false := by unfold nameRune; simp; omega
            have f0 : decide (97 ≤ c) = false := decide_eq_false (by omega)
            have f1 : decide (65 ≤ c) = false := decide_eq_false (by omega)
            have f2 : decide (48 ≤ c) = true := decide_eq_true (by omega)
            have f3 : decide (c ≤ 122) = true := decide_eq_true (by omega)
            have f4 : decide (c ≤ 90) = true := decide_eq_true (by omega)
            have f5 : decide (c ≤ 57) = false := decide_eq_false (by omega)
            have f6 : (c != 45) = true := bne_iff_ne.2 (by omega)
            have f7 : (c == 45) = false := beq_eq_false_iff_ne.2 (by omega)
            have f8 : (c != 95) = true := bne_iff_ne.2 (by omega)
            have f9 : (c == 95) = false := beq_eq_false_iff_ne.2 (by omega)
            have f10 : (c != 32) = true := bne_iff_ne.2 (by omega)
            have f11 : (c == 32) = false := beq_eq_false_iff_ne.2 (by omega)
            have f12 : decide (c < 160) = true := decide_eq_true (by omega)
            have f13 : decide (160 ≤ c) = false := decide_eq_false (by omega)
            rw [hg, if_neg (by decide)] at H
            clear h hc0 hcw hb hg hbr
            go_wp2
            obtain rfl := Option.some.inj H
            go_ret
            exact ⟨rfl, below_iter _ _ _⟩
          · have hg : nameRune c = true := by unfold nameRune; simp; omega
            have f0 : decide (97 ≤ c) = false := decide_eq_false (by omega)
            have f1 : decide (65 ≤ c) = true := decide_eq_true (by omega)
            have f2 : decide (48 ≤ c) = true := decide_eq_true (by omega)
            have f3 : decide (c ≤ 122) = true := decide_eq_true (by omega)
            have f4 : decide (c ≤ 90) = true := decide_eq_true (by omega)
            have f5 : decide (c ≤ 57) = false := decide_eq_false (by omega)
            have f6 : (c != 45) = true := bne_iff_ne.2 (by omega)
            have f7 : (c == 45) = false := beq_eq_false_iff_ne.2 (by omega)
            have f8 : (c != 95) = true := bne_iff_ne.2 (by omega)
            have f9 : (c == 95) = false := beq_eq_false_iff_ne.2 (by omega)
            have f10 : (c != 32) = true := bne_iff_ne.2 (by omega)
            have f11 : (c == 32) = false := beq_eq_false_iff_ne.2 (by omega)
            have f12 : decide (c < 160) = true := decide_eq_true (by omega)
            have f13 : decide (160 ≤ c) = false := decide_eq_false (by omega)
            rw [hg, if_pos rfl] at H
            clear h hc0 hcw hb hg hbr
            go_wp2
            go_roundg k1
            case measure => have := HK.out; omega
            case rel => exact ⟨wrap64 (n + 1), p2, by first | rfl | (simp; done), ⟨H⟩, ⟨by have := HK.out; omega⟩, rfl⟩
          · have hg : nameRune c = false := by unfold nameRune; simp; omega
            have f0 : decide (97 ≤ c) = false := decide_eq_false (by omega)
            have f1 : decide (65 ≤ c) = true := decide_eq_true (by omega)
            have f2 : decide (48 ≤ c) = true := decide_eq_true (by omega)
            have f3 : decide (c ≤ 122) = true := decide_eq_true (by omega)
            have f4 : decide (c ≤ 90) = false := decide_eq_false (by omega)
            have f5 : decide (c ≤ 57) = false := decide_eq_false (by omega)
            have f6 : (c != 45) = true := bne_iff_ne.2 (by omega)
            have f7 : (c == 45) = false := beq_eq_false_iff_ne.2 (by omega)
            have f8 : (c != 95) = true := bne_iff_ne.2 (by omega)
            have f9 : (c == 95) = false := beq_eq_false_iff_ne.2 (by omega)
            have f10 : (c != 32) = true := bne_iff_ne.2 (by omega)
            have f11 : (c == 32) = false := beq_eq_false_iff_ne.2 (by omega)
            have f12 : decide (c < 160) = true := decide_eq_true (by omega)
            have f13 : decide (160 ≤ c) = false := decide_eq_false (by omega)
            rw [hg, if_neg (by decide)] at H
            clear h hc0 hcw hb hg hbr
            go_wp2
            obtain rfl := Option.some.inj H
            go_ret
            exact ⟨rfl, below_iter _ _ _⟩
          · have hg : nameRune c = true := by unfold nameRune; simp; omega
            have f0 : decide (97 ≤ c) = false := decide_eq_false (by omega)
            have f1 : decide (65 ≤ c) = true := decide_eq_true (by omega)
            have f2 : decide (48 ≤ c) = true := decide_eq_true (by omega)
            have f3 : decide (c ≤ 122) = true := decide_eq_true (by omega)
            have f4 : decide (c ≤ 90) = false := decide_eq_false (by omega)
            have f5 : decide (c ≤ 57) = false := decide_eq_false (by omega)
            have f6 : (c != 45) = true := bne_iff_ne.2 (by omega)
            have f7 : (c == 45) = false := beq_eq_false_iff_ne.2 (by omega)
            have f8 : (c != 95) = false := bne_eq_false_iff_eq.2 (by omega)
            have f9 : (c == 95) = true := beq_iff_eq.2 (by omega)
            have f10 : (c != 32) = true := bne_iff_ne.2 (by omega)
            have f11 : (c == 32) = false := beq_eq_false_iff_ne.2 (by omega)
            have f12 : decide (c < 160) = true := decide_eq_true (by omega)
            have f13 : decide (160 ≤ c) = false := decide_eq_false (by omega)
            rw [hg, if_pos rfl] at H
            clear h hc0 hcw hb hg hbr
            go_wp2
            go_roundg k1
            case measure => have := HK.out; omega
            case rel => exact ⟨wrap64 (n + 1), p2, by first | rfl | (simp; done), ⟨H⟩, ⟨by have := HK.out; omega⟩, rfl⟩
          · have hg : nameRune c = false := by unfold nameRune; simp; omega
            have f0 : decide (97 ≤ c) = false := decide_eq_false (by omega)
            have f1 : decide (65 ≤ c) = true := decide_eq_true (by omega)
            have f2 : decide (48 ≤ c) = true := decide_eq_true (by omega)
            have f3 : decide (c ≤ 122) = true := decide_eq_true (by omega)
            have f4 : decide (c ≤ 90) = false := decide_eq_false (by omega)
            have f5 : decide (c ≤ 57) = false := decide_eq_false (by omega)
            have f6 : (c != 45) = true := bne_iff_ne.2 (by omega)
            have f7 : (c == 45) = false := beq_eq_false_iff_ne.2 (by omega)
            have f8 : (c != 95) = true := bne_iff_ne.2 (by omega)
            have f9 : (c == 95) = false := beq_eq_false_iff_ne.2 (by omega)
            have f10 : (c != 32) = true := bne_iff_ne.2 (by omega)
            have f11 : (c == 32) = false := beq_eq_false_iff_ne.2 (by omega)
            have f12 : decide (c < 160) = true := decide_eq_true (by omega)
            have f13 : decide (160 ≤ c) = false := decide_eq_false (by omega)
            rw [hg, if_neg (by decide)] at H
            clear h hc0 hcw hb hg hbr
            go_wp2
            obtain rfl := Option.some.inj H
            go_ret
            exact ⟨rfl, below_iter _ _ _⟩
          · have hg : nameRune c = true := by unfold nameRune; simp; omega
            have f0 : decide (97 ≤ c) = true := decide_eq_true (by omega)
            have f1 : decide (65 ≤ c) = true := decide_eq_true (by omega)
            have f2 : decide (48 ≤ c) = true := decide_eq_true (by omega)
            have f3 : decide (c ≤ 122) = true := decide_eq_true (by omega)
            have f4 : decide (c ≤ 90) = false := decide_eq_false (by omega)
            have f5 : decide (c ≤ 57) = false := decide_eq_false (by omega)
            have f6 : (c != 45) = true := bne_iff_ne.2 (by omega)
            have f7 : (c == 45) = false := beq_eq_false_iff_ne.2 (by omega)
            have f8 : (c != 95) = true := bne_iff_ne.2 (by omega)
            have f9 : (c == 95) = false := beq_eq_false_iff_ne.2 (by omega)
            have f10 : (c != 32) = true := bne_iff_ne.2 (by omega)
            have f11 : (c == 32) = false := beq_eq_false_iff_ne.2 (by omega)
            have f12 : decide (c < 160) = true := decide_eq_true (by omega)
            have f13 : decide (160 ≤ c) = false := decide_eq_false (by omega)
            rw [hg, if_pos rfl] at H
            clear h hc0 hcw hb hg hbr
            go_wp2
            go_roundg k1
            case measure => have := HK.out; omega
            case rel => exact ⟨wrap64 (n + 1), p2, by first | rfl | (simp; done), ⟨H⟩, ⟨by have := HK.out; omega⟩, rfl⟩
          · have hg : nameRune c = false := by unfold nameRune; simp; omega
            have f0 : decide (97 ≤ c) = true := decide_eq_true (by omega)
            have f1 : decide (65 ≤ c) = true := decide_eq_true (by omega)
            have f2 : decide (48 ≤ c) = true := decide_eq_true (by omega)
            have f3 : decide (c ≤ 122) = false := decide_eq_false (by omega)
            have f4 : decide (c ≤ 90) = false := decide_eq_false (by omega)
            have f5 : decide (c ≤ 57) = false := decide_eq_false (by omega)
            have f6 : (c != 45) = true := bne_iff_ne.2 (by omega)
            have f7 : (c == 45) = false := beq_eq_false_iff_ne.2 (by omega)
            have f8 : (c != 95) = true := bne_iff_ne.2 (by omega)
            have f9 : (c == 95) = false := beq_eq_false_iff_ne.2 (by omega)
            have f10 : (c != 32) = true := bne_iff_ne.2 (by omega)
            have f11 : (c == 32) = false := beq_eq_false_iff_ne.2 (by omega)
            have f12 : decide (c < 160) = true := decide_eq_true (by omega)
            have f13 : decide (160 ≤ c) = false := decide_eq_false (by omega)
            rw [hg, if_neg (by decide)] at H
            clear h hc0 hcw hb hg hbr
            go_wp2
            obtain rfl := Option.some.inj H
            go_ret
            exact ⟨rfl, below_iter _ _ _⟩
          · have hg : nameRune c = true := by unfold nameRune; simp; omega
            have f0 : decide (97 ≤ c) = true := decide_eq_true (by omega)
            have f1 : decide (65 ≤ c) = true := decide_eq_true (by omega)
            have f2 : decide (48 ≤ c) = true := decide_eq_true (by omega)
            have f3 : decide (c ≤ 122) = false := decide_eq_false (by omega)
            have f4 : decide (c ≤ 90) = false := decide_eq_false (by omega)
            have f5 : decide (c ≤ 57) = false := decide_eq_false (by omega)
            have f6 : (c != 45) = true := bne_iff_ne.2 (by omega)
            have f7 : (c == 45) = false := beq_eq_false_iff_ne.2 (by omega)
            have f8 : (c != 95) = true := bne_iff_ne.2 (by omega)
            have f9 : (c == 95) = false := beq_eq_false_iff_ne.2 (by omega)
            have f10 : (c != 32) = true := bne_iff_ne.2 (by omega)
            have f11 : (c == 32) = false := beq_eq_false_iff_ne.2 (by omega)
            have f12 : decide (c < 160) = false := decide_eq_false (by omega)
            have f13 : decide (160 ≤ c) = true := decide_eq_true (by omega)
            rw [hg, if_pos rfl] at H
            clear h hc0 hcw hb hg hbr
            go_wp2
            go_roundg k1
            case measure => have := HK.out; omega
            case rel => exact ⟨wrap64 (n + 1), p2, by first | rfl | (simp; done), ⟨H⟩, ⟨by have := HK.out; omega⟩, rfl⟩
      · rw [if_neg hp] at H
        have hnx : ∀ ty, (Instr.next (.pointer (some ⟨w.heap.size, 0, none⟩)) true ty).run Tryd.prog (w.iter s pos) = _ := fun ty => run_next_end w s pos ty hp
        go_wp2
        · rename_i a1 a2 a3 a4
          have e0 : bt s 0 = ((s[0]'a3).toNat : Int) := (bt_at s 0 a3).symm
          rw [if_pos a1, if_pos a2, if_pos a3, e0, a4] at H
          obtain rfl := Option.some.inj H
          go_ret
          exact ⟨rfl, below_iter _ _ _⟩
        · rename_i a1 a2 a3 a4 a5
          have e0 : bt s 0 = ((s[0]'a3).toNat : Int) := (bt_at s 0 a3).symm
          have en : ((s.size : Int) - 1) = ((s.size - 1 : Nat) : Int) := by omega
          have e1 := bt_at s ((s.size - 1 : Nat) : Int) (by rw [Int.toNat_natCast]; omega)
          have e2 : (((s[0]'a3).toNat : Int) != 32) = true := bne_iff_ne.2 a4
          rw [if_pos a1, if_pos a2, if_pos a3, e0, e2, Bool.true_and, en, ← e1] at H
          obtain rfl := Option.some.inj H
          go_ret
          refine ⟨?_, below_iter _ _ _⟩
          show Ending.returned (.bool (((s[0]'a3).toNat : Int) != 32 && _)) = _
          rw [e2, Bool.true_and]
          rfl
        · have a1 : 1 ≤ n := by assumption
          have a2 : n ≤ 24 := by assumption
          have a3 : ¬ 0 < s.size := by assumption
          rw [if_pos a1, if_pos a2, if_neg a3] at H
          cases H
        · rename_i a1 a2
          rw [if_pos a1, if_neg (by omega)] at H
          obtain rfl := Option.some.inj H
          go_ret
          exact ⟨rfl, below_iter _ _ _⟩
        · rename_i a1
          rw [if_neg (by omega)] at H
          obtain rfl := Option.some.inj H
          go_ret
          exact ⟨rfl, below_iter _ _ _⟩

/-! ### utf8_ValidString: function 40 -/
def utf8_ValidString.f (a0 : ByteArray) : Option (Bool) := if a0.size ≤ 9223372036854775807 then some (Lib.validD a0.data.toList) else none
theorem utf8_ValidString.calls (a0 : ByteArray) (r : Bool) (w : World) (hT : Tabs w) (h : utf8_ValidString.f a0 = some r) :
    Calls Tryd.prog 40 #[.string a0] w fun e w' => e = .returned (.bool r) ∧ Below w.heap.size w w' := by
  unfold utf8_ValidString.f at h
  by_cases h0 : a0.size ≤ 9223372036854775807
  · rw [if_pos h0] at h
    obtain rfl := Option.some.inj h
    exact Any.utf8_ValidString Tryd.lays196 a0 w h0 hT
  · rw [if_neg h0] at h; cases h

/-! ### impl_in: function 41 -/
def impl_in.f (a0 : Int) (a1 : Int) (a2 : Int) : Option (Bool) := if a0 ≥ a1 then (some (decide (a0 ≤ a2))) else (some false)
set_option maxHeartbeats 8000000 in
set_option maxRecDepth 100000 in
theorem impl_in.calls (a0 : Int) (a1 : Int) (a2 : Int) (r : Bool) (w : World) (h : impl_in.f a0 a1 a2 = some r) :
    Calls Tryd.prog 41 #[.int .i64 a0, .int .i64 a1, .int .i64 a2] w fun e w' => e = .returned (.bool r) ∧ Drawn0 w w' := by
  have H : (if a0 ≥ a1 then (some (decide (a0 ≤ a2))) else (some false)) = some r := h
  clear h
  by_cases c4 : a0 ≥ a1
  · rw [if_pos c4] at H
    have c4b0 : decide (a1 ≤ a0) = true := decide_eq_true c4
    clear c4
    obtain rfl := Option.some.inj H
    go_enter Tryd.func41, Tryd.ntmps41
    go_wp2
    go_ret
    exact ⟨by first | rfl | (simp; done) | (simp [*]; done), by repeat (first | exact Drawn0.refl _ | apply Drawn0.step)⟩
  · rw [if_neg c4] at H
    have c4b0 : decide (a1 ≤ a0) = false := decide_eq_false c4
    clear c4
    obtain rfl := Option.some.inj H
    go_enter Tryd.func41, Tryd.ntmps41
    go_wp2
    go_ret
    exact ⟨by first | rfl | (simp; done) | (simp [*]; done), by repeat (first | exact Drawn0.refl _ | apply Drawn0.step)⟩

/-! ### utf8_RuneCountInString: function 42 -/
def utf8_RuneCountInString.f (a0 : ByteArray) : Option (Int) := if a0.size < 9223372036854775807 then some (Lib.runeCount a0 : Int) else none
theorem utf8_RuneCountInString.calls (a0 : ByteArray) (r : Int) (w : World) (h : utf8_RuneCountInString.f a0 = some r) :
    Calls Tryd.prog 42 #[.string a0] w fun e w' => e = .returned (.int .i64 r) ∧ Below w.heap.size w w' := by
  unfold utf8_RuneCountInString.f at h
  by_cases h0 : a0.size < 9223372036854775807
  · rw [if_pos h0] at h
    obtain rfl := Option.some.inj h
    refine (Tryd.utf8_RuneCountInString a0 w h0).mono ?_
    rintro e w' ⟨rfl, pos, rfl⟩
    exact ⟨rfl, (Below.refl _ w).alloc (Nat.le_refl _) _⟩
  · rw [if_neg h0] at h; cases h

/-! ### strings_HasPrefix: function 43 -/
def strings_HasPrefix.f (a0 : ByteArray) (a1 : ByteArray) : Option (Bool) := if a0.size ≤ 9223372036854775807 then some (Lib.hasPrefix a0.data.toList a1.data.toList) else none
theorem strings_HasPrefix.calls (a0 : ByteArray) (a1 : ByteArray) (r : Bool) (w : World) (h : strings_HasPrefix.f a0 a1 = some r) :
    Calls Tryd.prog 43 #[.string a0, .string a1] w fun e w' => e = .returned (.bool r) ∧ Drawn0 w w' := by
  unfold strings_HasPrefix.f at h
  by_cases h0 : a0.size ≤ 9223372036854775807
  · rw [if_pos h0] at h
    obtain rfl := Option.some.inj h
    refine (Tryd.strings_HasPrefix a0 a1 w).mono ?_
    rintro e w' ⟨rfl, rfl⟩
    exact ⟨rfl, Drawn0.refl _⟩
  · rw [if_neg h0] at h; cases h

/-! ### strings_HasSuffix: function 44 -/
def strings_HasSuffix.f (a0 : ByteArray) (a1 : ByteArray) : Option (Bool) := if a0.size ≤ 9223372036854775807 then some (Lib.hasSuffix a0.data.toList a1.data.toList) else none
theorem strings_HasSuffix.calls (a0 : ByteArray) (a1 : ByteArray) (r : Bool) (w : World) (h : strings_HasSuffix.f a0 a1 = some r) :
    Calls Tryd.prog 44 #[.string a0, .string a1] w fun e w' => e = .returned (.bool r) ∧ Drawn0 w w' := by
  unfold strings_HasSuffix.f at h
  by_cases h0 : a0.size ≤ 9223372036854775807
  · rw [if_pos h0] at h
    obtain rfl := Option.some.inj h
    refine (Tryd.strings_HasSuffix a0 a1 w h0).mono ?_
    rintro e w' ⟨rfl, rfl⟩
    exact ⟨rfl, Drawn0.refl _⟩
  · rw [if_neg h0] at h; cases h

-- NOT PRINTED: function 91 (strings_indexFunc)

-- NOT PRINTED: function 76 (strings_IndexFunc)

-- NOT PRINTED: function 45 (strings_ContainsFunc)

end Go.Proofs.YtekjcdcmiingmaaDoor.PFnExactNameOk
