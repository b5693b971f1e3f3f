-- Made by a program of this repository (xp.py over the kit's print) out of the translation. Lean checks it.
import Derived.Test.YtekjcdcmiingmaaDoorPFnExactPaperTextx0
import Derived.Test.YtekjcdcmiingmaaDoorPFnExactPaperTextx1
namespace Go.Proofs.YtekjcdcmiingmaaDoor.PFnExactPaperText
open Go.RowKit Go.Proofs.YtekjcdcmiingmaaDoorW.PrintWords Go.Proofs.YtekjcdcmiingmaaDoorW.PrintLast Go.Proofs.YtekjcdcmiingmaaDoorW.PrintMore
attribute [local go_sem] max2_int min2_int max_two min_two max_three min_three max_four min_four   -- for this text's walks alone
set_option linter.unusedVariables false
set_option linter.unusedSimpArgs false

/-! ### laws_eqPaper: function 29 -/
def laws_eqPaper.f (k : Nat) (a0_0 : ByteArray) (l0_1 : List Int) (a0_2 : ByteArray) (l0_3 : List Int) (a0_4 : Int) (l0_5 : List Int) (a0_6 : Int) (l0_7 : List Int) (a1_0 : ByteArray) (l1_1 : List Int) (a1_2 : ByteArray) (l1_3 : List Int) (a1_4 : Int) (l1_5 : List Int) (a1_6 : Int) (l1_7 : List Int) : Option (Bool) := if a0_0.toList = a1_0.toList then ((laws_eqIntS.f k l0_1 l1_1).bind fun t137 => (if t137 = true then (if a0_2.toList = a1_2.toList then ((laws_eqIntS.f k l0_3 l1_3).bind fun t138 => (if t138 = true then (if a0_4 = a1_4 then ((laws_eqByteS.f k l0_5 l1_5).bind fun t139 => (if t139 = true then (if a0_6 = a1_6 then ((laws_eqByteS.f k l0_7 l1_7).bind fun t140 => (if t140 = true then (some true) else (some false))) else (some false)) else (some false))) else (some false)) else (some false))) else (some false)) else (some false))) else (some false)
theorem laws_eqPaper.mono : ∀ a0 a1 a2 a3 a4 a5 a6 a7 a8 a9 a10 a11 a12 a13 a14 a15 k, LeO (laws_eqPaper.f k a0 a1 a2 a3 a4 a5 a6 a7 a8 a9 a10 a11 a12 a13 a14 a15) (laws_eqPaper.f (k + 1) a0 a1 a2 a3 a4 a5 a6 a7 a8 a9 a10 a11 a12 a13 a14 a15) := by
 intro a0 a1 a2 a3 a4 a5 a6 a7 a8 a9 a10 a11 a12 a13 a14 a15 k
 unfold laws_eqPaper.f
 repeat' first
   | (with_reducible exact laws_eqByteS.mono _ _ _)
   | (with_reducible exact laws_eqIntS.mono _ _ _)
   | (with_reducible exact LeO.refl _)
   | (with_reducible exact LeO.none _)
   | (with_reducible refine LeO.ite ?_ ?_)
   | (with_reducible refine LeO.bind ?_ (fun _ => ?_))
   | exact laws_eqByteS.mono _ _ _
   | exact laws_eqIntS.mono _ _ _
   | exact LeO.none _
   | refine LeO.ite ?_ ?_
   | refine LeO.bind ?_ (fun _ => ?_)
set_option maxHeartbeats 8000000 in
set_option maxRecDepth 100000 in
theorem laws_eqPaper.calls (k : Nat) (a0_0 : ByteArray) (A0_1 : Option Addr) (c0_1 : Nat) (l0_1 : List Int) (a0_2 : ByteArray) (A0_3 : Option Addr) (c0_3 : Nat) (l0_3 : List Int) (a0_4 : Int) (A0_5 : Option Addr) (c0_5 : Nat) (l0_5 : List Int) (a0_6 : Int) (A0_7 : Option Addr) (c0_7 : Nat) (l0_7 : List Int) (a1_0 : ByteArray) (A1_1 : Option Addr) (c1_1 : Nat) (l1_1 : List Int) (a1_2 : ByteArray) (A1_3 : Option Addr) (c1_3 : Nat) (l1_3 : List Int) (a1_4 : Int) (A1_5 : Option Addr) (c1_5 : Nat) (l1_5 : List Int) (a1_6 : Int) (A1_7 : Option Addr) (c1_7 : Nat) (l1_7 : List Int) (r : Bool) (w : World) (hr0_1 : Kd.C (Kd.int .i64) w A0_1 l0_1.length l0_1) (hc0_1 : l0_1.length ≤ c0_1) (hr0_3 : Kd.C (Kd.int .i64) w A0_3 l0_3.length l0_3) (hc0_3 : l0_3.length ≤ c0_3) (hr0_5 : Kd.C (Kd.int .u8) w A0_5 l0_5.length l0_5) (hc0_5 : l0_5.length ≤ c0_5) (hr0_7 : Kd.C (Kd.int .u8) w A0_7 l0_7.length l0_7) (hc0_7 : l0_7.length ≤ c0_7) (hr1_1 : Kd.C (Kd.int .i64) w A1_1 l1_1.length l1_1) (hc1_1 : l1_1.length ≤ c1_1) (hr1_3 : Kd.C (Kd.int .i64) w A1_3 l1_3.length l1_3) (hc1_3 : l1_3.length ≤ c1_3) (hr1_5 : Kd.C (Kd.int .u8) w A1_5 l1_5.length l1_5) (hc1_5 : l1_5.length ≤ c1_5) (hr1_7 : Kd.C (Kd.int .u8) w A1_7 l1_7.length l1_7) (hc1_7 : l1_7.length ≤ c1_7) (h : laws_eqPaper.f k a0_0 l0_1 a0_2 l0_3 a0_4 l0_5 a0_6 l0_7 a1_0 l1_1 a1_2 l1_3 a1_4 l1_5 a1_6 l1_7 = some r) :
  Calls Tryd.prog 29 #[.agg #[.string a0_0, .slice A0_1 l0_1.length c0_1, .string a0_2, .slice A0_3 l0_3.length c0_3, .int .i64 a0_4, .slice A0_5 l0_5.length c0_5, .int .i64 a0_6, .slice A0_7 l0_7.length c0_7], .agg #[.string a1_0, .slice A1_1 l1_1.length c1_1, .string a1_2, .slice A1_3 l1_3.length c1_3, .int .i64 a1_4, .slice A1_5 l1_5.length c1_5, .int .i64 a1_6, .slice A1_7 l1_7.length c1_7]] w fun e w' => e = .returned (.bool r) ∧ Below w.heap.size w w' := by
 have hu38 := Tryd.underlying38
 have HR0_1 := Aside0.mk hr0_1
 have HC0_1 := Aside0.mk hc0_1
 clear hr0_1 hc0_1
 have HR0_3 := Aside0.mk hr0_3
 have HC0_3 := Aside0.mk hc0_3
 clear hr0_3 hc0_3
 have HR0_5 := Aside0.mk hr0_5
 have HC0_5 := Aside0.mk hc0_5
 clear hr0_5 hc0_5
 have HR0_7 := Aside0.mk hr0_7
 have HC0_7 := Aside0.mk hc0_7
 clear hr0_7 hc0_7
 have HR1_1 := Aside0.mk hr1_1
 have HC1_1 := Aside0.mk hc1_1
 clear hr1_1 hc1_1
 have HR1_3 := Aside0.mk hr1_3
 have HC1_3 := Aside0.mk hc1_3
 clear hr1_3 hc1_3
 have HR1_5 := Aside0.mk hr1_5
 have HC1_5 := Aside0.mk hc1_5
 clear hr1_5 hc1_5
 have HR1_7 := Aside0.mk hr1_7
 have HC1_7 := Aside0.mk hc1_7
 clear hr1_7 hc1_7
 have HB := am (Below.refl w.heap.size w)
 have H : (if a0_0.toList = a1_0.toList then ((laws_eqIntS.f k l0_1 l1_1).bind fun t137 => (if t137 = true then (if a0_2.toList = a1_2.toList then ((laws_eqIntS.f k l0_3 l1_3).bind fun t138 => (if t138 = true then (if a0_4 = a1_4 then ((laws_eqByteS.f k l0_5 l1_5).bind fun t139 => (if t139 = true then (if a0_6 = a1_6 then ((laws_eqByteS.f k l0_7 l1_7).bind fun t140 => (if t140 = true then (some true) else (some false))) else (some false)) else (some false))) else (some false)) else (some false))) else (some false)) else (some false))) else (some false)) = some r := h
 clear h
 by_cases c3 : a0_0.toList = a1_0.toList
 ·rw [if_pos c3] at H
  have c3b0 : (a0_0.toList == a1_0.toList) = true := beq_iff_eq.mpr c3
  have c3b1 : (a0_0.toList != a1_0.toList) = false := bne_eq_false_iff_eq.mpr c3
  clear c3
  replace H := Option.bind_eq_some_iff.mp H
  obtain ⟨t137, A40, H⟩ := H
  replace H : (if t137 = true then (if a0_2.toList = a1_2.toList then ((laws_eqIntS.f k l0_3 l1_3).bind fun t138 => (if t138 = true then (if a0_4 = a1_4 then ((laws_eqByteS.f k l0_5 l1_5).bind fun t139 => (if t139 = true then (if a0_6 = a1_6 then ((laws_eqByteS.f k l0_7 l1_7).bind fun t140 => (if t140 = true then (some true) else (some false))) else (some false)) else (some false))) else (some false)) else (some false))) else (some false)) else (some false)) = some r := H
  have A4 := Aside0.mk A40
  clear A40
  by_cases c5 : t137 = true
  ·subst c5
   have H1 : (if a0_2.toList = a1_2.toList then ((laws_eqIntS.f k l0_3 l1_3).bind fun t138 => (if t138 = true then (if a0_4 = a1_4 then ((laws_eqByteS.f k l0_5 l1_5).bind fun t139 => (if t139 = true then (if a0_6 = a1_6 then ((laws_eqByteS.f k l0_7 l1_7).bind fun t140 => (if t140 = true then (some true) else (some false))) else (some false)) else (some false))) else (some false)) else (some false))) else (some false)) = some r := by first | (rw [if_pos rfl] at H; exact H) | with_reducible rfl
   clear H
   have H := H1
   clear H1
   by_cases c6 : a0_2.toList = a1_2.toList
   ·rw [if_pos c6] at H
    have c6b0 : (a0_2.toList == a1_2.toList) = true := beq_iff_eq.mpr c6
    have c6b1 : (a0_2.toList != a1_2.toList) = false := bne_eq_false_iff_eq.mpr c6
    clear c6
    replace H := Option.bind_eq_some_iff.mp H
    obtain ⟨t138, A70, H⟩ := H
    replace H : (if t138 = true then (if a0_4 = a1_4 then ((laws_eqByteS.f k l0_5 l1_5).bind fun t139 => (if t139 = true then (if a0_6 = a1_6 then ((laws_eqByteS.f k l0_7 l1_7).bind fun t140 => (if t140 = true then (some true) else (some false))) else (some false)) else (some false))) else (some false)) else (some false)) = some r := H
    have A7 := Aside0.mk A70
    clear A70
    by_cases c8 : t138 = true
    ·subst c8
     have H1 : (if a0_4 = a1_4 then ((laws_eqByteS.f k l0_5 l1_5).bind fun t139 => (if t139 = true then (if a0_6 = a1_6 then ((laws_eqByteS.f k l0_7 l1_7).bind fun t140 => (if t140 = true then (some true) else (some false))) else (some false)) else (some false))) else (some false)) = some r := by first | (rw [if_pos rfl] at H; exact H) | with_reducible rfl
     clear H
     have H := H1
     clear H1
     by_cases c9 : a0_4 = a1_4
     ·rw [if_pos c9] at H
      have c9b0 : (a0_4 == a1_4) = true := beq_iff_eq.mpr c9
      have c9b1 : (a0_4 != a1_4) = false := bne_eq_false_iff_eq.mpr c9
      clear c9
      replace H := Option.bind_eq_some_iff.mp H
      obtain ⟨t139, A100, H⟩ := H
      replace H : (if t139 = true then (if a0_6 = a1_6 then ((laws_eqByteS.f k l0_7 l1_7).bind fun t140 => (if t140 = true then (some true) else (some false))) else (some false)) else (some false)) = some r := H
      have A10 := Aside0.mk A100
      clear A100
      by_cases c11 : t139 = true
      ·subst c11
       have H1 : (if a0_6 = a1_6 then ((laws_eqByteS.f k l0_7 l1_7).bind fun t140 => (if t140 = true then (some true) else (some false))) else (some false)) = some r := by first | (rw [if_pos rfl] at H; exact H) | with_reducible rfl
       clear H
       have H := H1
       clear H1
       by_cases c12 : a0_6 = a1_6
       ·rw [if_pos c12] at H
        have c12b0 : (a0_6 == a1_6) = true := beq_iff_eq.mpr c12
        have c12b1 : (a0_6 != a1_6) = false := bne_eq_false_iff_eq.mpr c12
        clear c12
        replace H := Option.bind_eq_some_iff.mp H
        obtain ⟨t140, A130, H⟩ := H
        replace H : (if t140 = true then (some true) else (some false)) = some r := H
        have A13 := Aside0.mk A130
        clear A130
        by_cases c14 : t140 = true
        ·subst c14
         have H1 : (some true) = some r := by first | (rw [if_pos rfl] at H; exact H) | with_reducible rfl
         clear H
         have H := H1
         clear H1
         obtain rfl := Option.some.inj H
         go_enter Tryd.func29, Tryd.ntmps29
         go_wp2_with (first | ((with_reducible refine gate_dst (N := 2) rfl ?_); refine box_event ?hg (N := 2) ?hd (cs := #[.string a0_0, .slice A0_1 l0_1.length c0_1, .string a0_2, .slice A0_3 l0_3.length c0_3, .int .i64 a0_4, .slice A0_5 l0_5.length c0_5, .int .i64 a0_6, .slice A0_7 l0_7.length c0_7]) (t := 38) ?hr ?_; (case hd => rfl); (case hg => rfl); (case hr => first | (go_simp; done) | (go_simp; rfl)); intro gb135 hg w15 hbox hb; have n0_ := am (shHB HB.out hb); have n1_ := am (hbox); have n2_ := am ((shGE HB.out hg : w.heap.size ≤ gb135)); have n3_ := am ((shGE HB.out hg : w.heap.size ≤ gb135)); clear HB; have HB := n0_; have BK135 := n1_; have GW135 := n2_; have GE135 := n3_; clear n0_ n1_ n2_ n3_; clear hb hbox hg) | ((with_reducible refine gate_dst (N := 3) rfl ?_); refine box_event ?hg (N := 3) ?hd (cs := #[.string a1_0, .slice A1_1 l1_1.length c1_1, .string a1_2, .slice A1_3 l1_3.length c1_3, .int .i64 a1_4, .slice A1_5 l1_5.length c1_5, .int .i64 a1_6, .slice A1_7 l1_7.length c1_7]) (t := 38) ?hr ?_; (case hd => rfl); (case hg => rfl); (case hr => first | (go_simp; done) | (go_simp; rfl)); intro gb136 hg w16 hbox hb; have n0_ := am (shBK BK135.out hb); have n1_ := am (shHB HB.out hb); have n2_ := am (hbox); have n3_ := am ((shGE HB.out hg : w.heap.size ≤ gb136)); have n4_ := am ((shGE HB.out hg : w.heap.size ≤ gb136)); have n5_ := am ((shNB BK135.out hg : gb135 ≠ gb136)); have n6_ := am ((shNC BK135.out hg : gb136 ≠ gb135)); clear BK135; clear HB; have BK135 := n0_; have HB := n1_; have BK136 := n2_; have GW136 := n3_; have GE136 := n4_; have NB135_136 := n5_; have NB136_135 := n6_; clear n0_ n1_ n2_ n3_ n4_ n5_ n6_; clear hb hbox hg; have hnb17 := NB135_136.out; have hnc17 := NB136_135.out; have hcz18_0 : w16.cell? ⟨gb135, 0, none⟩ = some (.string a0_0) := (blk_cell BK135.out 0).trans rfl; have hcz18_1 : w16.cell? ⟨gb135, 1, none⟩ = some (.slice A0_1 l0_1.length c0_1) := (blk_cell BK135.out 1).trans rfl; have hcz18_2 : w16.cell? ⟨gb135, 2, none⟩ = some (.string a0_2) := (blk_cell BK135.out 2).trans rfl; have hcz18_3 : w16.cell? ⟨gb135, 3, none⟩ = some (.slice A0_3 l0_3.length c0_3) := (blk_cell BK135.out 3).trans rfl; have hcz18_4 : w16.cell? ⟨gb135, 4, none⟩ = some (.int .i64 a0_4) := (blk_cell BK135.out 4).trans rfl; have hcz18_5 : w16.cell? ⟨gb135, 5, none⟩ = some (.slice A0_5 l0_5.length c0_5) := (blk_cell BK135.out 5).trans rfl; have hcz18_6 : w16.cell? ⟨gb135, 6, none⟩ = some (.int .i64 a0_6) := (blk_cell BK135.out 6).trans rfl; have hcz18_7 : w16.cell? ⟨gb135, 7, none⟩ = some (.slice A0_7 l0_7.length c0_7) := (blk_cell BK135.out 7).trans rfl; have hfz18_0 := blk_frozen BK135.out 0; have hfz18_1 := blk_frozen BK135.out 1; have hfz18_2 := blk_frozen BK135.out 2; have hfz18_3 := blk_frozen BK135.out 3; have hfz18_4 := blk_frozen BK135.out 4; have hfz18_5 := blk_frozen BK135.out 5; have hfz18_6 := blk_frozen BK135.out 6; have hfz18_7 := blk_frozen BK135.out 7; have hcz19_0 : w16.cell? ⟨gb136, 0, none⟩ = some (.string a1_0) := (blk_cell BK136.out 0).trans rfl; have hcz19_1 : w16.cell? ⟨gb136, 1, none⟩ = some (.slice A1_1 l1_1.length c1_1) := (blk_cell BK136.out 1).trans rfl; have hcz19_2 : w16.cell? ⟨gb136, 2, none⟩ = some (.string a1_2) := (blk_cell BK136.out 2).trans rfl; have hcz19_3 : w16.cell? ⟨gb136, 3, none⟩ = some (.slice A1_3 l1_3.length c1_3) := (blk_cell BK136.out 3).trans rfl; have hcz19_4 : w16.cell? ⟨gb136, 4, none⟩ = some (.int .i64 a1_4) := (blk_cell BK136.out 4).trans rfl; have hcz19_5 : w16.cell? ⟨gb136, 5, none⟩ = some (.slice A1_5 l1_5.length c1_5) := (blk_cell BK136.out 5).trans rfl; have hcz19_6 : w16.cell? ⟨gb136, 6, none⟩ = some (.int .i64 a1_6) := (blk_cell BK136.out 6).trans rfl; have hcz19_7 : w16.cell? ⟨gb136, 7, none⟩ = some (.slice A1_7 l1_7.length c1_7) := (blk_cell BK136.out 7).trans rfl; have hfz19_0 := blk_frozen BK136.out 0; have hfz19_1 := blk_frozen BK136.out 1; have hfz19_2 := blk_frozen BK136.out 2; have hfz19_3 := blk_frozen BK136.out 3; have hfz19_4 := blk_frozen BK136.out 4; have hfz19_5 := blk_frozen BK136.out 5; have hfz19_6 := blk_frozen BK136.out 6; have hfz19_7 := blk_frozen BK136.out 7) | ((with_reducible refine gate_callee (f := 17) rfl ?_); refine goesL_ (some 14) rfl rfl Tryd.func17 (by kernel_rfl) rfl #[.slice A0_1 l0_1.length c0_1, .slice A1_1 l1_1.length c1_1] rfl (by (try simp only [List.map_toArray, List.map_cons, List.map_nil]); first | done | rfl | (simp only [List.length_drop, List.length_take]; rfl)) ?_; (with_reducible refine (laws_eqIntS.calls k _ _ l0_1 _ _ l1_1 true _ ?side1 ?side2 ?side3 ?side4 A4.out).mono ?_); (case side1 => repeat (first | exact (Kd.C_below HR0_1.out HB.out) | (with_reducible refine Kd.C_alloc ?_ _) | (with_reducible refine Kd.C_drewN ?_ _) | (with_reducible refine Kd.C_drew ?_))); (case side2 => exact HC0_1.out); (case side3 => repeat (first | exact (Kd.C_below HR1_1.out HB.out) | (with_reducible refine Kd.C_alloc ?_ _) | (with_reducible refine Kd.C_drewN ?_ _) | (with_reducible refine Kd.C_drew ?_))); (case side4 => exact HC1_1.out); rintro e w' ⟨rfl, ⟨nd, rfl⟩⟩; refine ⟨_, rfl, ?_⟩) | ((with_reducible refine gate_callee (f := 17) rfl ?_); refine goesL_ (some 25) rfl rfl Tryd.func17 (by kernel_rfl) rfl #[.slice A0_3 l0_3.length c0_3, .slice A1_3 l1_3.length c1_3] rfl (by (try simp only [List.map_toArray, List.map_cons, List.map_nil]); first | done | rfl | (simp only [List.length_drop, List.length_take]; rfl)) ?_; (with_reducible refine (laws_eqIntS.calls k _ _ l0_3 _ _ l1_3 true _ ?side1 ?side2 ?side3 ?side4 A7.out).mono ?_); (case side1 => repeat (first | exact (Kd.C_below HR0_3.out (by repeat (first | (with_reducible first | exact HB.out | apply below_alloc | apply pw_below_drewN | apply below_drew1 | refine below_set ?_ GE135.out | refine below_set ?_ GE136.out) | exact HB.out))) | (with_reducible refine Kd.C_alloc ?_ _) | (with_reducible refine Kd.C_drewN ?_ _) | (with_reducible refine Kd.C_drew ?_))); (case side2 => exact HC0_3.out); (case side3 => repeat (first | exact (Kd.C_below HR1_3.out (by repeat (first | (with_reducible first | exact HB.out | apply below_alloc | apply pw_below_drewN | apply below_drew1 | refine below_set ?_ GE135.out | refine below_set ?_ GE136.out) | exact HB.out))) | (with_reducible refine Kd.C_alloc ?_ _) | (with_reducible refine Kd.C_drewN ?_ _) | (with_reducible refine Kd.C_drew ?_))); (case side4 => exact HC1_3.out); rintro e w' ⟨rfl, ⟨nd, rfl⟩⟩; refine ⟨_, rfl, ?_⟩) | ((with_reducible refine gate_callee (f := 64) rfl ?_); refine goesL_ (some 36) rfl rfl Tryd.func64 (by kernel_rfl) rfl #[.slice A0_5 l0_5.length c0_5, .slice A1_5 l1_5.length c1_5] rfl (by (try simp only [List.map_toArray, List.map_cons, List.map_nil]); first | done | rfl | (simp only [List.length_drop, List.length_take]; rfl)) ?_; (with_reducible refine (laws_eqByteS.calls k _ _ l0_5 _ _ l1_5 true _ ?side1 ?side2 ?side3 ?side4 A10.out).mono ?_); (case side1 => repeat (first | exact (Kd.C_below HR0_5.out (by repeat (first | (with_reducible first | exact HB.out | apply below_alloc | apply pw_below_drewN | apply below_drew1 | refine below_set ?_ GE135.out | refine below_set ?_ GE136.out) | exact HB.out))) | (with_reducible refine Kd.C_alloc ?_ _) | (with_reducible refine Kd.C_drewN ?_ _) | (with_reducible refine Kd.C_drew ?_))); (case side2 => exact HC0_5.out); (case side3 => repeat (first | exact (Kd.C_below HR1_5.out (by repeat (first | (with_reducible first | exact HB.out | apply below_alloc | apply pw_below_drewN | apply below_drew1 | refine below_set ?_ GE135.out | refine below_set ?_ GE136.out) | exact HB.out))) | (with_reducible refine Kd.C_alloc ?_ _) | (with_reducible refine Kd.C_drewN ?_ _) | (with_reducible refine Kd.C_drew ?_))); (case side4 => exact HC1_5.out); rintro e w' ⟨rfl, ⟨nd, rfl⟩⟩; refine ⟨_, rfl, ?_⟩) | ((with_reducible refine gate_callee (f := 64) rfl ?_); refine goesL_ (some 47) rfl rfl Tryd.func64 (by kernel_rfl) rfl #[.slice A0_7 l0_7.length c0_7, .slice A1_7 l1_7.length c1_7] rfl (by (try simp only [List.map_toArray, List.map_cons, List.map_nil]); first | done | rfl | (simp only [List.length_drop, List.length_take]; rfl)) ?_; (with_reducible refine (laws_eqByteS.calls k _ _ l0_7 _ _ l1_7 true _ ?side1 ?side2 ?side3 ?side4 A13.out).mono ?_); (case side1 => repeat (first | exact (Kd.C_below HR0_7.out (by repeat (first | (with_reducible first | exact HB.out | apply below_alloc | apply pw_below_drewN | apply below_drew1 | refine below_set ?_ GE135.out | refine below_set ?_ GE136.out) | exact HB.out))) | (with_reducible refine Kd.C_alloc ?_ _) | (with_reducible refine Kd.C_drewN ?_ _) | (with_reducible refine Kd.C_drew ?_))); (case side2 => exact HC0_7.out); (case side3 => repeat (first | exact (Kd.C_below HR1_7.out (by repeat (first | (with_reducible first | exact HB.out | apply below_alloc | apply pw_below_drewN | apply below_drew1 | refine below_set ?_ GE135.out | refine below_set ?_ GE136.out) | exact HB.out))) | (with_reducible refine Kd.C_alloc ?_ _) | (with_reducible refine Kd.C_drewN ?_ _) | (with_reducible refine Kd.C_drew ?_))); (case side4 => exact HC1_7.out); rintro e w' ⟨rfl, ⟨nd, rfl⟩⟩; refine ⟨_, rfl, ?_⟩))
         go_ret
         exact ⟨by first | rfl | (simp [errW_none, errW_some] <;> rfl) | (simp [*, errW_none, errW_some] <;> rfl), by repeat (first | (with_reducible first | exact HB.out | apply below_alloc | apply pw_below_drewN | apply below_drew1 | refine below_set ?_ GE135.out | refine below_set ?_ GE136.out) | exact HB.out)⟩
        ·replace c14 := Bool.eq_false_iff.mpr c14
         subst c14
         have H1 : (some false) = some r := by first | (rw [if_neg (show ¬ (false = true) by decide)] at H; exact H) | with_reducible rfl
         clear H
         have H := H1
         clear H1
         obtain rfl := Option.some.inj H
         go_enter Tryd.func29, Tryd.ntmps29
         go_wp2_with (first | ((with_reducible refine gate_dst (N := 2) rfl ?_); refine box_event ?hg (N := 2) ?hd (cs := #[.string a0_0, .slice A0_1 l0_1.length c0_1, .string a0_2, .slice A0_3 l0_3.length c0_3, .int .i64 a0_4, .slice A0_5 l0_5.length c0_5, .int .i64 a0_6, .slice A0_7 l0_7.length c0_7]) (t := 38) ?hr ?_; (case hd => rfl); (case hg => rfl); (case hr => first | (go_simp; done) | (go_simp; rfl)); intro gb135 hg w20 hbox hb; have n0_ := am (shHB HB.out hb); have n1_ := am (hbox); have n2_ := am ((shGE HB.out hg : w.heap.size ≤ gb135)); have n3_ := am ((shGE HB.out hg : w.heap.size ≤ gb135)); clear HB; have HB := n0_; have BK135 := n1_; have GW135 := n2_; have GE135 := n3_; clear n0_ n1_ n2_ n3_; clear hb hbox hg) | ((with_reducible refine gate_dst (N := 3) rfl ?_); refine box_event ?hg (N := 3) ?hd (cs := #[.string a1_0, .slice A1_1 l1_1.length c1_1, .string a1_2, .slice A1_3 l1_3.length c1_3, .int .i64 a1_4, .slice A1_5 l1_5.length c1_5, .int .i64 a1_6, .slice A1_7 l1_7.length c1_7]) (t := 38) ?hr ?_; (case hd => rfl); (case hg => rfl); (case hr => first | (go_simp; done) | (go_simp; rfl)); intro gb136 hg w21 hbox hb; have n0_ := am (shBK BK135.out hb); have n1_ := am (shHB HB.out hb); have n2_ := am (hbox); have n3_ := am ((shGE HB.out hg : w.heap.size ≤ gb136)); have n4_ := am ((shGE HB.out hg : w.heap.size ≤ gb136)); have n5_ := am ((shNB BK135.out hg : gb135 ≠ gb136)); have n6_ := am ((shNC BK135.out hg : gb136 ≠ gb135)); clear BK135; clear HB; have BK135 := n0_; have HB := n1_; have BK136 := n2_; have GW136 := n3_; have GE136 := n4_; have NB135_136 := n5_; have NB136_135 := n6_; clear n0_ n1_ n2_ n3_ n4_ n5_ n6_; clear hb hbox hg; have hnb22 := NB135_136.out; have hnc22 := NB136_135.out; have hcz23_0 : w21.cell? ⟨gb135, 0, none⟩ = some (.string a0_0) := (blk_cell BK135.out 0).trans rfl; have hcz23_1 : w21.cell? ⟨gb135, 1, none⟩ = some (.slice A0_1 l0_1.length c0_1) := (blk_cell BK135.out 1).trans rfl; have hcz23_2 : w21.cell? ⟨gb135, 2, none⟩ = some (.string a0_2) := (blk_cell BK135.out 2).trans rfl; have hcz23_3 : w21.cell? ⟨gb135, 3, none⟩ = some (.slice A0_3 l0_3.length c0_3) := (blk_cell BK135.out 3).trans rfl; have hcz23_4 : w21.cell? ⟨gb135, 4, none⟩ = some (.int .i64 a0_4) := (blk_cell BK135.out 4).trans rfl; have hcz23_5 : w21.cell? ⟨gb135, 5, none⟩ = some (.slice A0_5 l0_5.length c0_5) := (blk_cell BK135.out 5).trans rfl; have hcz23_6 : w21.cell? ⟨gb135, 6, none⟩ = some (.int .i64 a0_6) := (blk_cell BK135.out 6).trans rfl; have hcz23_7 : w21.cell? ⟨gb135, 7, none⟩ = some (.slice A0_7 l0_7.length c0_7) := (blk_cell BK135.out 7).trans rfl; have hfz23_0 := blk_frozen BK135.out 0; have hfz23_1 := blk_frozen BK135.out 1; have hfz23_2 := blk_frozen BK135.out 2; have hfz23_3 := blk_frozen BK135.out 3; have hfz23_4 := blk_frozen BK135.out 4; have hfz23_5 := blk_frozen BK135.out 5; have hfz23_6 := blk_frozen BK135.out 6; have hfz23_7 := blk_frozen BK135.out 7; have hcz24_0 : w21.cell? ⟨gb136, 0, none⟩ = some (.string a1_0) := (blk_cell BK136.out 0).trans rfl; have hcz24_1 : w21.cell? ⟨gb136, 1, none⟩ = some (.slice A1_1 l1_1.length c1_1) := (blk_cell BK136.out 1).trans rfl; have hcz24_2 : w21.cell? ⟨gb136, 2, none⟩ = some (.string a1_2) := (blk_cell BK136.out 2).trans rfl; have hcz24_3 : w21.cell? ⟨gb136, 3, none⟩ = some (.slice A1_3 l1_3.length c1_3) := (blk_cell BK136.out 3).trans rfl; have hcz24_4 : w21.cell? ⟨gb136, 4, none⟩ = some (.int .i64 a1_4) := (blk_cell BK136.out 4).trans rfl; have hcz24_5 : w21.cell? ⟨gb136, 5, none⟩ = some (.slice A1_5 l1_5.length c1_5) := (blk_cell BK136.out 5).trans rfl; have hcz24_6 : w21.cell? ⟨gb136, 6, none⟩ = some (.int .i64 a1_6) := (blk_cell BK136.out 6).trans rfl; have hcz24_7 : w21.cell? ⟨gb136, 7, none⟩ = some (.slice A1_7 l1_7.length c1_7) := (blk_cell BK136.out 7).trans rfl; have hfz24_0 := blk_frozen BK136.out 0; have hfz24_1 := blk_frozen BK136.out 1; have hfz24_2 := blk_frozen BK136.out 2; have hfz24_3 := blk_frozen BK136.out 3; have hfz24_4 := blk_frozen BK136.out 4; have hfz24_5 := blk_frozen BK136.out 5; have hfz24_6 := blk_frozen BK136.out 6; have hfz24_7 := blk_frozen BK136.out 7) | ((with_reducible refine gate_callee (f := 17) rfl ?_); refine goesL_ (some 14) rfl rfl Tryd.func17 (by kernel_rfl) rfl #[.slice A0_1 l0_1.length c0_1, .slice A1_1 l1_1.length c1_1] rfl (by (try simp only [List.map_toArray, List.map_cons, List.map_nil]); first | done | rfl | (simp only [List.length_drop, List.length_take]; rfl)) ?_; (with_reducible refine (laws_eqIntS.calls k _ _ l0_1 _ _ l1_1 true _ ?side1 ?side2 ?side3 ?side4 A4.out).mono ?_); (case side1 => repeat (first | exact (Kd.C_below HR0_1.out HB.out) | (with_reducible refine Kd.C_alloc ?_ _) | (with_reducible refine Kd.C_drewN ?_ _) | (with_reducible refine Kd.C_drew ?_))); (case side2 => exact HC0_1.out); (case side3 => repeat (first | exact (Kd.C_below HR1_1.out HB.out) | (with_reducible refine Kd.C_alloc ?_ _) | (with_reducible refine Kd.C_drewN ?_ _) | (with_reducible refine Kd.C_drew ?_))); (case side4 => exact HC1_1.out); rintro e w' ⟨rfl, ⟨nd, rfl⟩⟩; refine ⟨_, rfl, ?_⟩) | ((with_reducible refine gate_callee (f := 17) rfl ?_); refine goesL_ (some 25) rfl rfl Tryd.func17 (by kernel_rfl) rfl #[.slice A0_3 l0_3.length c0_3, .slice A1_3 l1_3.length c1_3] rfl (by (try simp only [List.map_toArray, List.map_cons, List.map_nil]); first | done | rfl | (simp only [List.length_drop, List.length_take]; rfl)) ?_; (with_reducible refine (laws_eqIntS.calls k _ _ l0_3 _ _ l1_3 true _ ?side1 ?side2 ?side3 ?side4 A7.out).mono ?_); (case side1 => repeat (first | exact (Kd.C_below HR0_3.out (by repeat (first | (with_reducible first | exact HB.out | apply below_alloc | apply pw_below_drewN | apply below_drew1 | refine below_set ?_ GE135.out | refine below_set ?_ GE136.out) | exact HB.out))) | (with_reducible refine Kd.C_alloc ?_ _) | (with_reducible refine Kd.C_drewN ?_ _) | (with_reducible refine Kd.C_drew ?_))); (case side2 => exact HC0_3.out); (case side3 => repeat (first | exact (Kd.C_below HR1_3.out (by repeat (first | (with_reducible first | exact HB.out | apply below_alloc | apply pw_below_drewN | apply below_drew1 | refine below_set ?_ GE135.out | refine below_set ?_ GE136.out) | exact HB.out))) | (with_reducible refine Kd.C_alloc ?_ _) | (with_reducible refine Kd.C_drewN ?_ _) | (with_reducible refine Kd.C_drew ?_))); (case side4 => exact HC1_3.out); rintro e w' ⟨rfl, ⟨nd, rfl⟩⟩; refine ⟨_, rfl, ?_⟩) | ((with_reducible refine gate_callee (f := 64) rfl ?_); refine goesL_ (some 36) rfl rfl Tryd.func64 (by kernel_rfl) rfl #[.slice A0_5 l0_5.length c0_5, .slice A1_5 l1_5.length c1_5] rfl (by (try simp only [List.map_toArray, List.map_cons, List.map_nil]); first | done | rfl | (simp only [List.length_drop, List.length_take]; rfl)) ?_; (with_reducible refine (laws_eqByteS.calls k _ _ l0_5 _ _ l1_5 true _ ?side1 ?side2 ?side3 ?side4 A10.out).mono ?_); (case side1 => repeat (first | exact (Kd.C_below HR0_5.out (by repeat (first | (with_reducible first | exact HB.out | apply below_alloc | apply pw_below_drewN | apply below_drew1 | refine below_set ?_ GE135.out | refine below_set ?_ GE136.out) | exact HB.out))) | (with_reducible refine Kd.C_alloc ?_ _) | (with_reducible refine Kd.C_drewN ?_ _) | (with_reducible refine Kd.C_drew ?_))); (case side2 => exact HC0_5.out); (case side3 => repeat (first | exact (Kd.C_below HR1_5.out (by repeat (first | (with_reducible first | exact HB.out | apply below_alloc | apply pw_below_drewN | apply below_drew1 | refine below_set ?_ GE135.out | refine below_set ?_ GE136.out) | exact HB.out))) | (with_reducible refine Kd.C_alloc ?_ _) | (with_reducible refine Kd.C_drewN ?_ _) | (with_reducible refine Kd.C_drew ?_))); (case side4 => exact HC1_5.out); rintro e w' ⟨rfl, ⟨nd, rfl⟩⟩; refine ⟨_, rfl, ?_⟩) | ((with_reducible refine gate_callee (f := 64) rfl ?_); refine goesL_ (some 47) rfl rfl Tryd.func64 (by kernel_rfl) rfl #[.slice A0_7 l0_7.length c0_7, .slice A1_7 l1_7.length c1_7] rfl (by (try simp only [List.map_toArray, List.map_cons, List.map_nil]); first | done | rfl | (simp only [List.length_drop, List.length_take]; rfl)) ?_; (with_reducible refine (laws_eqByteS.calls k _ _ l0_7 _ _ l1_7 false _ ?side1 ?side2 ?side3 ?side4 A13.out).mono ?_); (case side1 => repeat (first | exact (Kd.C_below HR0_7.out (by repeat (first | (with_reducible first | exact HB.out | apply below_alloc | apply pw_below_drewN | apply below_drew1 | refine below_set ?_ GE135.out | refine below_set ?_ GE136.out) | exact HB.out))) | (with_reducible refine Kd.C_alloc ?_ _) | (with_reducible refine Kd.C_drewN ?_ _) | (with_reducible refine Kd.C_drew ?_))); (case side2 => exact HC0_7.out); (case side3 => repeat (first | exact (Kd.C_below HR1_7.out (by repeat (first | (with_reducible first | exact HB.out | apply below_alloc | apply pw_below_drewN | apply below_drew1 | refine below_set ?_ GE135.out | refine below_set ?_ GE136.out) | exact HB.out))) | (with_reducible refine Kd.C_alloc ?_ _) | (with_reducible refine Kd.C_drewN ?_ _) | (with_reducible refine Kd.C_drew ?_))); (case side4 => exact HC1_7.out); rintro e w' ⟨rfl, ⟨nd, rfl⟩⟩; refine ⟨_, rfl, ?_⟩))
         go_ret
         exact ⟨by first | rfl | (simp [errW_none, errW_some] <;> rfl) | (simp [*, errW_none, errW_some] <;> rfl), by repeat (first | (with_reducible first | exact HB.out | apply below_alloc | apply pw_below_drewN | apply below_drew1 | refine below_set ?_ GE135.out | refine below_set ?_ GE136.out) | exact HB.out)⟩
       ·rw [if_neg c12] at H
        have c12b0 : (a0_6 == a1_6) = false := beq_eq_false_iff_ne.mpr c12
        have c12b1 : (a0_6 != a1_6) = true := bne_iff_ne.mpr c12
        obtain rfl := Option.some.inj H
        go_enter Tryd.func29, Tryd.ntmps29
        go_wp2_with (first | ((with_reducible refine gate_dst (N := 2) rfl ?_); refine box_event ?hg (N := 2) ?hd (cs := #[.string a0_0, .slice A0_1 l0_1.length c0_1, .string a0_2, .slice A0_3 l0_3.length c0_3, .int .i64 a0_4, .slice A0_5 l0_5.length c0_5, .int .i64 a0_6, .slice A0_7 l0_7.length c0_7]) (t := 38) ?hr ?_; (case hd => rfl); (case hg => rfl); (case hr => first | (go_simp; done) | (go_simp; rfl)); intro gb135 hg w25 hbox hb; have n0_ := am (shHB HB.out hb); have n1_ := am (hbox); have n2_ := am ((shGE HB.out hg : w.heap.size ≤ gb135)); have n3_ := am ((shGE HB.out hg : w.heap.size ≤ gb135)); clear HB; have HB := n0_; have BK135 := n1_; have GW135 := n2_; have GE135 := n3_; clear n0_ n1_ n2_ n3_; clear hb hbox hg) | ((with_reducible refine gate_dst (N := 3) rfl ?_); refine box_event ?hg (N := 3) ?hd (cs := #[.string a1_0, .slice A1_1 l1_1.length c1_1, .string a1_2, .slice A1_3 l1_3.length c1_3, .int .i64 a1_4, .slice A1_5 l1_5.length c1_5, .int .i64 a1_6, .slice A1_7 l1_7.length c1_7]) (t := 38) ?hr ?_; (case hd => rfl); (case hg => rfl); (case hr => first | (go_simp; done) | (go_simp; rfl)); intro gb136 hg w26 hbox hb; have n0_ := am (shBK BK135.out hb); have n1_ := am (shHB HB.out hb); have n2_ := am (hbox); have n3_ := am ((shGE HB.out hg : w.heap.size ≤ gb136)); have n4_ := am ((shGE HB.out hg : w.heap.size ≤ gb136)); have n5_ := am ((shNB BK135.out hg : gb135 ≠ gb136)); have n6_ := am ((shNC BK135.out hg : gb136 ≠ gb135)); clear BK135; clear HB; have BK135 := n0_; have HB := n1_; have BK136 := n2_; have GW136 := n3_; have GE136 := n4_; have NB135_136 := n5_; have NB136_135 := n6_; clear n0_ n1_ n2_ n3_ n4_ n5_ n6_; clear hb hbox hg; have hnb27 := NB135_136.out; have hnc27 := NB136_135.out; have hcz28_0 : w26.cell? ⟨gb135, 0, none⟩ = some (.string a0_0) := (blk_cell BK135.out 0).trans rfl; have hcz28_1 : w26.cell? ⟨gb135, 1, none⟩ = some (.slice A0_1 l0_1.length c0_1) := (blk_cell BK135.out 1).trans rfl; have hcz28_2 : w26.cell? ⟨gb135, 2, none⟩ = some (.string a0_2) := (blk_cell BK135.out 2).trans rfl; have hcz28_3 : w26.cell? ⟨gb135, 3, none⟩ = some (.slice A0_3 l0_3.length c0_3) := (blk_cell BK135.out 3).trans rfl; have hcz28_4 : w26.cell? ⟨gb135, 4, none⟩ = some (.int .i64 a0_4) := (blk_cell BK135.out 4).trans rfl; have hcz28_5 : w26.cell? ⟨gb135, 5, none⟩ = some (.slice A0_5 l0_5.length c0_5) := (blk_cell BK135.out 5).trans rfl; have hcz28_6 : w26.cell? ⟨gb135, 6, none⟩ = some (.int .i64 a0_6) := (blk_cell BK135.out 6).trans rfl; have hcz28_7 : w26.cell? ⟨gb135, 7, none⟩ = some (.slice A0_7 l0_7.length c0_7) := (blk_cell BK135.out 7).trans rfl; have hfz28_0 := blk_frozen BK135.out 0; have hfz28_1 := blk_frozen BK135.out 1; have hfz28_2 := blk_frozen BK135.out 2; have hfz28_3 := blk_frozen BK135.out 3; have hfz28_4 := blk_frozen BK135.out 4; have hfz28_5 := blk_frozen BK135.out 5; have hfz28_6 := blk_frozen BK135.out 6; have hfz28_7 := blk_frozen BK135.out 7; have hcz29_0 : w26.cell? ⟨gb136, 0, none⟩ = some (.string a1_0) := (blk_cell BK136.out 0).trans rfl; have hcz29_1 : w26.cell? ⟨gb136, 1, none⟩ = some (.slice A1_1 l1_1.length c1_1) := (blk_cell BK136.out 1).trans rfl; have hcz29_2 : w26.cell? ⟨gb136, 2, none⟩ = some (.string a1_2) := (blk_cell BK136.out 2).trans rfl; have hcz29_3 : w26.cell? ⟨gb136, 3, none⟩ = some (.slice A1_3 l1_3.length c1_3) := (blk_cell BK136.out 3).trans rfl; have hcz29_4 : w26.cell? ⟨gb136, 4, none⟩ = some (.int .i64 a1_4) := (blk_cell BK136.out 4).trans rfl; have hcz29_5 : w26.cell? ⟨gb136, 5, none⟩ = some (.slice A1_5 l1_5.length c1_5) := (blk_cell BK136.out 5).trans rfl; have hcz29_6 : w26.cell? ⟨gb136, 6, none⟩ = some (.int .i64 a1_6) := (blk_cell BK136.out 6).trans rfl; have hcz29_7 : w26.cell? ⟨gb136, 7, none⟩ = some (.slice A1_7 l1_7.length c1_7) := (blk_cell BK136.out 7).trans rfl; have hfz29_0 := blk_frozen BK136.out 0; have hfz29_1 := blk_frozen BK136.out 1; have hfz29_2 := blk_frozen BK136.out 2; have hfz29_3 := blk_frozen BK136.out 3; have hfz29_4 := blk_frozen BK136.out 4; have hfz29_5 := blk_frozen BK136.out 5; have hfz29_6 := blk_frozen BK136.out 6; have hfz29_7 := blk_frozen BK136.out 7) | ((with_reducible refine gate_callee (f := 17) rfl ?_); refine goesL_ (some 14) rfl rfl Tryd.func17 (by kernel_rfl) rfl #[.slice A0_1 l0_1.length c0_1, .slice A1_1 l1_1.length c1_1] rfl (by (try simp only [List.map_toArray, List.map_cons, List.map_nil]); first | done | rfl | (simp only [List.length_drop, List.length_take]; rfl)) ?_; (with_reducible refine (laws_eqIntS.calls k _ _ l0_1 _ _ l1_1 true _ ?side1 ?side2 ?side3 ?side4 A4.out).mono ?_); (case side1 => repeat (first | exact (Kd.C_below HR0_1.out HB.out) | (with_reducible refine Kd.C_alloc ?_ _) | (with_reducible refine Kd.C_drewN ?_ _) | (with_reducible refine Kd.C_drew ?_))); (case side2 => exact HC0_1.out); (case side3 => repeat (first | exact (Kd.C_below HR1_1.out HB.out) | (with_reducible refine Kd.C_alloc ?_ _) | (with_reducible refine Kd.C_drewN ?_ _) | (with_reducible refine Kd.C_drew ?_))); (case side4 => exact HC1_1.out); rintro e w' ⟨rfl, ⟨nd, rfl⟩⟩; refine ⟨_, rfl, ?_⟩) | ((with_reducible refine gate_callee (f := 17) rfl ?_); refine goesL_ (some 25) rfl rfl Tryd.func17 (by kernel_rfl) rfl #[.slice A0_3 l0_3.length c0_3, .slice A1_3 l1_3.length c1_3] rfl (by (try simp only [List.map_toArray, List.map_cons, List.map_nil]); first | done | rfl | (simp only [List.length_drop, List.length_take]; rfl)) ?_; (with_reducible refine (laws_eqIntS.calls k _ _ l0_3 _ _ l1_3 true _ ?side1 ?side2 ?side3 ?side4 A7.out).mono ?_); (case side1 => repeat (first | exact (Kd.C_below HR0_3.out (by repeat (first | (with_reducible first | exact HB.out | apply below_alloc | apply pw_below_drewN | apply below_drew1 | refine below_set ?_ GE135.out | refine below_set ?_ GE136.out) | exact HB.out))) | (with_reducible refine Kd.C_alloc ?_ _) | (with_reducible refine Kd.C_drewN ?_ _) | (with_reducible refine Kd.C_drew ?_))); (case side2 => exact HC0_3.out); (case side3 => repeat (first | exact (Kd.C_below HR1_3.out (by repeat (first | (with_reducible first | exact HB.out | apply below_alloc | apply pw_below_drewN | apply below_drew1 | refine below_set ?_ GE135.out | refine below_set ?_ GE136.out) | exact HB.out))) | (with_reducible refine Kd.C_alloc ?_ _) | (with_reducible refine Kd.C_drewN ?_ _) | (with_reducible refine Kd.C_drew ?_))); (case side4 => exact HC1_3.out); rintro e w' ⟨rfl, ⟨nd, rfl⟩⟩; refine ⟨_, rfl, ?_⟩) | ((with_reducible refine gate_callee (f := 64) rfl ?_); refine goesL_ (some 36) rfl rfl Tryd.func64 (by kernel_rfl) rfl #[.slice A0_5 l0_5.length c0_5, .slice A1_5 l1_5.length c1_5] rfl (by (try simp only [List.map_toArray, List.map_cons, List.map_nil]); first | done | rfl | (simp only [List.length_drop, List.length_take]; rfl)) ?_; (with_reducible refine (laws_eqByteS.calls k _ _ l0_5 _ _ l1_5 true _ ?side1 ?side2 ?side3 ?side4 A10.out).mono ?_); (case side1 => repeat (first | exact (Kd.C_below HR0_5.out (by repeat (first | (with_reducible first | exact HB.out | apply below_alloc | apply pw_below_drewN | apply below_drew1 | refine below_set ?_ GE135.out | refine below_set ?_ GE136.out) | exact HB.out))) | (with_reducible refine Kd.C_alloc ?_ _) | (with_reducible refine Kd.C_drewN ?_ _) | (with_reducible refine Kd.C_drew ?_))); (case side2 => exact HC0_5.out); (case side3 => repeat (first | exact (Kd.C_below HR1_5.out (by repeat (first | (with_reducible first | exact HB.out | apply below_alloc | apply pw_below_drewN | apply below_drew1 | refine below_set ?_ GE135.out | refine below_set ?_ GE136.out) | exact HB.out))) | (with_reducible refine Kd.C_alloc ?_ _) | (with_reducible refine Kd.C_drewN ?_ _) | (with_reducible refine Kd.C_drew ?_))); (case side4 => exact HC1_5.out); rintro e w' ⟨rfl, ⟨nd, rfl⟩⟩; refine ⟨_, rfl, ?_⟩))
        go_ret
        exact ⟨by first | rfl | (simp [errW_none, errW_some] <;> rfl) | (simp [*, errW_none, errW_some] <;> rfl), by repeat (first | (with_reducible first | exact HB.out | apply below_alloc | apply pw_below_drewN | apply below_drew1 | refine below_set ?_ GE135.out | refine below_set ?_ GE136.out) | exact HB.out)⟩
      ·replace c11 := Bool.eq_false_iff.mpr c11
       subst c11
       have H1 : (some false) = some r := by first | (rw [if_neg (show ¬ (false = true) by decide)] at H; exact H) | with_reducible rfl
       clear H
       have H := H1
       clear H1
       obtain rfl := Option.some.inj H
       go_enter Tryd.func29, Tryd.ntmps29
       go_wp2_with (first | ((with_reducible refine gate_dst (N := 2) rfl ?_); refine box_event ?hg (N := 2) ?hd (cs := #[.string a0_0, .slice A0_1 l0_1.length c0_1, .string a0_2, .slice A0_3 l0_3.length c0_3, .int .i64 a0_4, .slice A0_5 l0_5.length c0_5, .int .i64 a0_6, .slice A0_7 l0_7.length c0_7]) (t := 38) ?hr ?_; (case hd => rfl); (case hg => rfl); (case hr => first | (go_simp; done) | (go_simp; rfl)); intro gb135 hg w30 hbox hb; have n0_ := am (shHB HB.out hb); have n1_ := am (hbox); have n2_ := am ((shGE HB.out hg : w.heap.size ≤ gb135)); have n3_ := am ((shGE HB.out hg : w.heap.size ≤ gb135)); clear HB; have HB := n0_; have BK135 := n1_; have GW135 := n2_; have GE135 := n3_; clear n0_ n1_ n2_ n3_; clear hb hbox hg) | ((with_reducible refine gate_dst (N := 3) rfl ?_); refine box_event ?hg (N := 3) ?hd (cs := #[.string a1_0, .slice A1_1 l1_1.length c1_1, .string a1_2, .slice A1_3 l1_3.length c1_3, .int .i64 a1_4, .slice A1_5 l1_5.length c1_5, .int .i64 a1_6, .slice A1_7 l1_7.length c1_7]) (t := 38) ?hr ?_; (case hd => rfl); (case hg => rfl); (case hr => first | (go_simp; done) | (go_simp; rfl)); intro gb136 hg w31 hbox hb; have n0_ := am (shBK BK135.out hb); have n1_ := am (shHB HB.out hb); have n2_ := am (hbox); have n3_ := am ((shGE HB.out hg : w.heap.size ≤ gb136)); have n4_ := am ((shGE HB.out hg : w.heap.size ≤ gb136)); have n5_ := am ((shNB BK135.out hg : gb135 ≠ gb136)); have n6_ := am ((shNC BK135.out hg : gb136 ≠ gb135)); clear BK135; clear HB; have BK135 := n0_; have HB := n1_; have BK136 := n2_; have GW136 := n3_; have GE136 := n4_; have NB135_136 := n5_; have NB136_135 := n6_; clear n0_ n1_ n2_ n3_ n4_ n5_ n6_; clear hb hbox hg; have hnb32 := NB135_136.out; have hnc32 := NB136_135.out; have hcz33_0 : w31.cell? ⟨gb135, 0, none⟩ = some (.string a0_0) := (blk_cell BK135.out 0).trans rfl; have hcz33_1 : w31.cell? ⟨gb135, 1, none⟩ = some (.slice A0_1 l0_1.length c0_1) := (blk_cell BK135.out 1).trans rfl; have hcz33_2 : w31.cell? ⟨gb135, 2, none⟩ = some (.string a0_2) := (blk_cell BK135.out 2).trans rfl; have hcz33_3 : w31.cell? ⟨gb135, 3, none⟩ = some (.slice A0_3 l0_3.length c0_3) := (blk_cell BK135.out 3).trans rfl; have hcz33_4 : w31.cell? ⟨gb135, 4, none⟩ = some (.int .i64 a0_4) := (blk_cell BK135.out 4).trans rfl; have hcz33_5 : w31.cell? ⟨gb135, 5, none⟩ = some (.slice A0_5 l0_5.length c0_5) := (blk_cell BK135.out 5).trans rfl; have hcz33_6 : w31.cell? ⟨gb135, 6, none⟩ = some (.int .i64 a0_6) := (blk_cell BK135.out 6).trans rfl; have hcz33_7 : w31.cell? ⟨gb135, 7, none⟩ = some (.slice A0_7 l0_7.length c0_7) := (blk_cell BK135.out 7).trans rfl; have hfz33_0 := blk_frozen BK135.out 0; have hfz33_1 := blk_frozen BK135.out 1; have hfz33_2 := blk_frozen BK135.out 2; have hfz33_3 := blk_frozen BK135.out 3; have hfz33_4 := blk_frozen BK135.out 4; have hfz33_5 := blk_frozen BK135.out 5; have hfz33_6 := blk_frozen BK135.out 6; have hfz33_7 := blk_frozen BK135.out 7; have hcz34_0 : w31.cell? ⟨gb136, 0, none⟩ = some (.string a1_0) := (blk_cell BK136.out 0).trans rfl; have hcz34_1 : w31.cell? ⟨gb136, 1, none⟩ = some (.slice A1_1 l1_1.length c1_1) := (blk_cell BK136.out 1).trans rfl; have hcz34_2 : w31.cell? ⟨gb136, 2, none⟩ = some (.string a1_2) := (blk_cell BK136.out 2).trans rfl; have hcz34_3 : w31.cell? ⟨gb136, 3, none⟩ = some (.slice A1_3 l1_3.length c1_3) := (blk_cell BK136.out 3).trans rfl; have hcz34_4 : w31.cell? ⟨gb136, 4, none⟩ = some (.int .i64 a1_4) := (blk_cell BK136.out 4).trans rfl; have hcz34_5 : w31.cell? ⟨gb136, 5, none⟩ = some (.slice A1_5 l1_5.length c1_5) := (blk_cell BK136.out 5).trans rfl; have hcz34_6 : w31.cell? ⟨gb136, 6, none⟩ = some (.int .i64 a1_6) := (blk_cell BK136.out 6).trans rfl; have hcz34_7 : w31.cell? ⟨gb136, 7, none⟩ = some (.slice A1_7 l1_7.length c1_7) := (blk_cell BK136.out 7).trans rfl; have hfz34_0 := blk_frozen BK136.out 0; have hfz34_1 := blk_frozen BK136.out 1; have hfz34_2 := blk_frozen BK136.out 2; have hfz34_3 := blk_frozen BK136.out 3; have hfz34_4 := blk_frozen BK136.out 4; have hfz34_5 := blk_frozen BK136.out 5; have hfz34_6 := blk_frozen BK136.out 6; have hfz34_7 := blk_frozen BK136.out 7) | ((with_reducible refine gate_callee (f := 17) rfl ?_); refine goesL_ (some 14) rfl rfl Tryd.func17 (by kernel_rfl) rfl #[.slice A0_1 l0_1.length c0_1, .slice A1_1 l1_1.length c1_1] rfl (by (try simp only [List.map_toArray, List.map_cons, List.map_nil]); first | done | rfl | (simp only [List.length_drop, List.length_take]; rfl)) ?_; (with_reducible refine (laws_eqIntS.calls k _ _ l0_1 _ _ l1_1 true _ ?side1 ?side2 ?side3 ?side4 A4.out).mono ?_); (case side1 => repeat (first | exact (Kd.C_below HR0_1.out HB.out) | (with_reducible refine Kd.C_alloc ?_ _) | (with_reducible refine Kd.C_drewN ?_ _) | (with_reducible refine Kd.C_drew ?_))); (case side2 => exact HC0_1.out); (case side3 => repeat (first | exact (Kd.C_below HR1_1.out HB.out) | (with_reducible refine Kd.C_alloc ?_ _) | (with_reducible refine Kd.C_drewN ?_ _) | (with_reducible refine Kd.C_drew ?_))); (case side4 => exact HC1_1.out); rintro e w' ⟨rfl, ⟨nd, rfl⟩⟩; refine ⟨_, rfl, ?_⟩) | ((with_reducible refine gate_callee (f := 17) rfl ?_); refine goesL_ (some 25) rfl rfl Tryd.func17 (by kernel_rfl) rfl #[.slice A0_3 l0_3.length c0_3, .slice A1_3 l1_3.length c1_3] rfl (by (try simp only [List.map_toArray, List.map_cons, List.map_nil]); first | done | rfl | (simp only [List.length_drop, List.length_take]; rfl)) ?_; (with_reducible refine (laws_eqIntS.calls k _ _ l0_3 _ _ l1_3 true _ ?side1 ?side2 ?side3 ?side4 A7.out).mono ?_); (case side1 => repeat (first | exact (Kd.C_below HR0_3.out (by repeat (first | (with_reducible first | exact HB.out | apply below_alloc | apply pw_below_drewN | apply below_drew1 | refine below_set ?_ GE135.out | refine below_set ?_ GE136.out) | exact HB.out))) | (with_reducible refine Kd.C_alloc ?_ _) | (with_reducible refine Kd.C_drewN ?_ _) | (with_reducible refine Kd.C_drew ?_))); (case side2 => exact HC0_3.out); (case side3 => repeat (first | exact (Kd.C_below HR1_3.out (by repeat (first | (with_reducible first | exact HB.out | apply below_alloc | apply pw_below_drewN | apply below_drew1 | refine below_set ?_ GE135.out | refine below_set ?_ GE136.out) | exact HB.out))) | (with_reducible refine Kd.C_alloc ?_ _) | (with_reducible refine Kd.C_drewN ?_ _) | (with_reducible refine Kd.C_drew ?_))); (case side4 => exact HC1_3.out); rintro e w' ⟨rfl, ⟨nd, rfl⟩⟩; refine ⟨_, rfl, ?_⟩) | ((with_reducible refine gate_callee (f := 64) rfl ?_); refine goesL_ (some 36) rfl rfl Tryd.func64 (by kernel_rfl) rfl #[.slice A0_5 l0_5.length c0_5, .slice A1_5 l1_5.length c1_5] rfl (by (try simp only [List.map_toArray, List.map_cons, List.map_nil]); first | done | rfl | (simp only [List.length_drop, List.length_take]; rfl)) ?_; (with_reducible refine (laws_eqByteS.calls k _ _ l0_5 _ _ l1_5 false _ ?side1 ?side2 ?side3 ?side4 A10.out).mono ?_); (case side1 => repeat (first | exact (Kd.C_below HR0_5.out (by repeat (first | (with_reducible first | exact HB.out | apply below_alloc | apply pw_below_drewN | apply below_drew1 | refine below_set ?_ GE135.out | refine below_set ?_ GE136.out) | exact HB.out))) | (with_reducible refine Kd.C_alloc ?_ _) | (with_reducible refine Kd.C_drewN ?_ _) | (with_reducible refine Kd.C_drew ?_))); (case side2 => exact HC0_5.out); (case side3 => repeat (first | exact (Kd.C_below HR1_5.out (by repeat (first | (with_reducible first | exact HB.out | apply below_alloc | apply pw_below_drewN | apply below_drew1 | refine below_set ?_ GE135.out | refine below_set ?_ GE136.out) | exact HB.out))) | (with_reducible refine Kd.C_alloc ?_ _) | (with_reducible refine Kd.C_drewN ?_ _) | (with_reducible refine Kd.C_drew ?_))); (case side4 => exact HC1_5.out); rintro e w' ⟨rfl, ⟨nd, rfl⟩⟩; refine ⟨_, rfl, ?_⟩))
       go_ret
       exact ⟨by first | rfl | (simp [errW_none, errW_some] <;> rfl) | (simp [*, errW_none, errW_some] <;> rfl), by repeat (first | (with_reducible first | exact HB.out | apply below_alloc | apply pw_below_drewN | apply below_drew1 | refine below_set ?_ GE135.out | refine below_set ?_ GE136.out) | exact HB.out)⟩
     ·rw [if_neg c9] at H
      have c9b0 : (a0_4 == a1_4) = false := beq_eq_false_iff_ne.mpr c9
      have c9b1 : (a0_4 != a1_4) = true := bne_iff_ne.mpr c9
      obtain rfl := Option.some.inj H
      go_enter Tryd.func29, Tryd.ntmps29
      go_wp2_with (first | ((with_reducible refine gate_dst (N := 2) rfl ?_); refine box_event ?hg (N := 2) ?hd (cs := #[.string a0_0, .slice A0_1 l0_1.length c0_1, .string a0_2, .slice A0_3 l0_3.length c0_3, .int .i64 a0_4, .slice A0_5 l0_5.length c0_5, .int .i64 a0_6, .slice A0_7 l0_7.length c0_7]) (t := 38) ?hr ?_; (case hd => rfl); (case hg => rfl); (case hr => first | (go_simp; done) | (go_simp; rfl)); intro gb135 hg w35 hbox hb; have n0_ := am (shHB HB.out hb); have n1_ := am (hbox); have n2_ := am ((shGE HB.out hg : w.heap.size ≤ gb135)); have n3_ := am ((shGE HB.out hg : w.heap.size ≤ gb135)); clear HB; have HB := n0_; have BK135 := n1_; have GW135 := n2_; have GE135 := n3_; clear n0_ n1_ n2_ n3_; clear hb hbox hg) | ((with_reducible refine gate_dst (N := 3) rfl ?_); refine box_event ?hg (N := 3) ?hd (cs := #[.string a1_0, .slice A1_1 l1_1.length c1_1, .string a1_2, .slice A1_3 l1_3.length c1_3, .int .i64 a1_4, .slice A1_5 l1_5.length c1_5, .int .i64 a1_6, .slice A1_7 l1_7.length c1_7]) (t := 38) ?hr ?_; (case hd => rfl); (case hg => rfl); (case hr => first | (go_simp; done) | (go_simp; rfl)); intro gb136 hg w36 hbox hb; have n0_ := am (shBK BK135.out hb); have n1_ := am (shHB HB.out hb); have n2_ := am (hbox); have n3_ := am ((shGE HB.out hg : w.heap.size ≤ gb136)); have n4_ := am ((shGE HB.out hg : w.heap.size ≤ gb136)); have n5_ := am ((shNB BK135.out hg : gb135 ≠ gb136)); have n6_ := am ((shNC BK135.out hg : gb136 ≠ gb135)); clear BK135; clear HB; have BK135 := n0_; have HB := n1_; have BK136 := n2_; have GW136 := n3_; have GE136 := n4_; have NB135_136 := n5_; have NB136_135 := n6_; clear n0_ n1_ n2_ n3_ n4_ n5_ n6_; clear hb hbox hg; have hnb37 := NB135_136.out; have hnc37 := NB136_135.out; have hcz38_0 : w36.cell? ⟨gb135, 0, none⟩ = some (.string a0_0) := (blk_cell BK135.out 0).trans rfl; have hcz38_1 : w36.cell? ⟨gb135, 1, none⟩ = some (.slice A0_1 l0_1.length c0_1) := (blk_cell BK135.out 1).trans rfl; have hcz38_2 : w36.cell? ⟨gb135, 2, none⟩ = some (.string a0_2) := (blk_cell BK135.out 2).trans rfl; have hcz38_3 : w36.cell? ⟨gb135, 3, none⟩ = some (.slice A0_3 l0_3.length c0_3) := (blk_cell BK135.out 3).trans rfl; have hcz38_4 : w36.cell? ⟨gb135, 4, none⟩ = some (.int .i64 a0_4) := (blk_cell BK135.out 4).trans rfl; have hcz38_5 : w36.cell? ⟨gb135, 5, none⟩ = some (.slice A0_5 l0_5.length c0_5) := (blk_cell BK135.out 5).trans rfl; have hcz38_6 : w36.cell? ⟨gb135, 6, none⟩ = some (.int .i64 a0_6) := (blk_cell BK135.out 6).trans rfl; have hcz38_7 : w36.cell? ⟨gb135, 7, none⟩ = some (.slice A0_7 l0_7.length c0_7) := (blk_cell BK135.out 7).trans rfl; have hfz38_0 := blk_frozen BK135.out 0; have hfz38_1 := blk_frozen BK135.out 1; have hfz38_2 := blk_frozen BK135.out 2; have hfz38_3 := blk_frozen BK135.out 3; have hfz38_4 := blk_frozen BK135.out 4; have hfz38_5 := blk_frozen BK135.out 5; have hfz38_6 := blk_frozen BK135.out 6; have hfz38_7 := blk_frozen BK135.out 7; have hcz39_0 : w36.cell? ⟨gb136, 0, none⟩ = some (.string a1_0) := (blk_cell BK136.out 0).trans rfl; have hcz39_1 : w36.cell? ⟨gb136, 1, none⟩ = some (.slice A1_1 l1_1.length c1_1) := (blk_cell BK136.out 1).trans rfl; have hcz39_2 : w36.cell? ⟨gb136, 2, none⟩ = some (.string a1_2) := (blk_cell BK136.out 2).trans rfl; have hcz39_3 : w36.cell? ⟨gb136, 3, none⟩ = some (.slice A1_3 l1_3.length c1_3) := (blk_cell BK136.out 3).trans rfl; have hcz39_4 : w36.cell? ⟨gb136, 4, none⟩ = some (.int .i64 a1_4) := (blk_cell BK136.out 4).trans rfl; have hcz39_5 : w36.cell? ⟨gb136, 5, none⟩ = some (.slice A1_5 l1_5.length c1_5) := (blk_cell BK136.out 5).trans rfl; have hcz39_6 : w36.cell? ⟨gb136, 6, none⟩ = some (.int .i64 a1_6) := (blk_cell BK136.out 6).trans rfl; have hcz39_7 : w36.cell? ⟨gb136, 7, none⟩ = some (.slice A1_7 l1_7.length c1_7) := (blk_cell BK136.out 7).trans rfl; have hfz39_0 := blk_frozen BK136.out 0; have hfz39_1 := blk_frozen BK136.out 1; have hfz39_2 := blk_frozen BK136.out 2; have hfz39_3 := blk_frozen BK136.out 3; have hfz39_4 := blk_frozen BK136.out 4; have hfz39_5 := blk_frozen BK136.out 5; have hfz39_6 := blk_frozen BK136.out 6; have hfz39_7 := blk_frozen BK136.out 7) | ((with_reducible refine gate_callee (f := 17) rfl ?_); refine goesL_ (some 14) rfl rfl Tryd.func17 (by kernel_rfl) rfl #[.slice A0_1 l0_1.length c0_1, .slice A1_1 l1_1.length c1_1] rfl (by (try simp only [List.map_toArray, List.map_cons, List.map_nil]); first | done | rfl | (simp only [List.length_drop, List.length_take]; rfl)) ?_; (with_reducible refine (laws_eqIntS.calls k _ _ l0_1 _ _ l1_1 true _ ?side1 ?side2 ?side3 ?side4 A4.out).mono ?_); (case side1 => repeat (first | exact (Kd.C_below HR0_1.out HB.out) | (with_reducible refine Kd.C_alloc ?_ _) | (with_reducible refine Kd.C_drewN ?_ _) | (with_reducible refine Kd.C_drew ?_))); (case side2 => exact HC0_1.out); (case side3 => repeat (first | exact (Kd.C_below HR1_1.out HB.out) | (with_reducible refine Kd.C_alloc ?_ _) | (with_reducible refine Kd.C_drewN ?_ _) | (with_reducible refine Kd.C_drew ?_))); (case side4 => exact HC1_1.out); rintro e w' ⟨rfl, ⟨nd, rfl⟩⟩; refine ⟨_, rfl, ?_⟩) | ((with_reducible refine gate_callee (f := 17) rfl ?_); refine goesL_ (some 25) rfl rfl Tryd.func17 (by kernel_rfl) rfl #[.slice A0_3 l0_3.length c0_3, .slice A1_3 l1_3.length c1_3] rfl (by (try simp only [List.map_toArray, List.map_cons, List.map_nil]); first | done | rfl | (simp only [List.length_drop, List.length_take]; rfl)) ?_; (with_reducible refine (laws_eqIntS.calls k _ _ l0_3 _ _ l1_3 true _ ?side1 ?side2 ?side3 ?side4 A7.out).mono ?_); (case side1 => repeat (first | exact (Kd.C_below HR0_3.out (by repeat (first | (with_reducible first | exact HB.out | apply below_alloc | apply pw_below_drewN | apply below_drew1 | refine below_set ?_ GE135.out | refine below_set ?_ GE136.out) | exact HB.out))) | (with_reducible refine Kd.C_alloc ?_ _) | (with_reducible refine Kd.C_drewN ?_ _) | (with_reducible refine Kd.C_drew ?_))); (case side2 => exact HC0_3.out); (case side3 => repeat (first | exact (Kd.C_below HR1_3.out (by repeat (first | (with_reducible first | exact HB.out | apply below_alloc | apply pw_below_drewN | apply below_drew1 | refine below_set ?_ GE135.out | refine below_set ?_ GE136.out) | exact HB.out))) | (with_reducible refine Kd.C_alloc ?_ _) | (with_reducible refine Kd.C_drewN ?_ _) | (with_reducible refine Kd.C_drew ?_))); (case side4 => exact HC1_3.out); rintro e w' ⟨rfl, ⟨nd, rfl⟩⟩; refine ⟨_, rfl, ?_⟩))
      go_ret
      exact ⟨by first | rfl | (simp [errW_none, errW_some] <;> rfl) | (simp [*, errW_none, errW_some] <;> rfl), by repeat (first | (with_reducible first | exact HB.out | apply below_alloc | apply pw_below_drewN | apply below_drew1 | refine below_set ?_ GE135.out | refine below_set ?_ GE136.out) | exact HB.out)⟩
    ·replace c8 := Bool.eq_false_iff.mpr c8
     subst c8
     have H1 : (some false) = some r := by first | (rw [if_neg (show ¬ (false = true) by decide)] at H; exact H) | with_reducible rfl
     clear H
     have H := H1
     clear H1
     obtain rfl := Option.some.inj H
     go_enter Tryd.func29, Tryd.ntmps29
     go_wp2_with (first | ((with_reducible refine gate_dst (N := 2) rfl ?_); refine box_event ?hg (N := 2) ?hd (cs := #[.string a0_0, .slice A0_1 l0_1.length c0_1, .string a0_2, .slice A0_3 l0_3.length c0_3, .int .i64 a0_4, .slice A0_5 l0_5.length c0_5, .int .i64 a0_6, .slice A0_7 l0_7.length c0_7]) (t := 38) ?hr ?_; (case hd => rfl); (case hg => rfl); (case hr => first | (go_simp; done) | (go_simp; rfl)); intro gb135 hg w40 hbox hb; have n0_ := am (shHB HB.out hb); have n1_ := am (hbox); have n2_ := am ((shGE HB.out hg : w.heap.size ≤ gb135)); have n3_ := am ((shGE HB.out hg : w.heap.size ≤ gb135)); clear HB; have HB := n0_; have BK135 := n1_; have GW135 := n2_; have GE135 := n3_; clear n0_ n1_ n2_ n3_; clear hb hbox hg) | ((with_reducible refine gate_dst (N := 3) rfl ?_); refine box_event ?hg (N := 3) ?hd (cs := #[.string a1_0, .slice A1_1 l1_1.length c1_1, .string a1_2, .slice A1_3 l1_3.length c1_3, .int .i64 a1_4, .slice A1_5 l1_5.length c1_5, .int .i64 a1_6, .slice A1_7 l1_7.length c1_7]) (t := 38) ?hr ?_; (case hd => rfl); (case hg => rfl); (case hr => first | (go_simp; done) | (go_simp; rfl)); intro gb136 hg w41 hbox hb; have n0_ := am (shBK BK135.out hb); have n1_ := am (shHB HB.out hb); have n2_ := am (hbox); have n3_ := am ((shGE HB.out hg : w.heap.size ≤ gb136)); have n4_ := am ((shGE HB.out hg : w.heap.size ≤ gb136)); have n5_ := am ((shNB BK135.out hg : gb135 ≠ gb136)); have n6_ := am ((shNC BK135.out hg : gb136 ≠ gb135)); clear BK135; clear HB; have BK135 := n0_; have HB := n1_; have BK136 := n2_; have GW136 := n3_; have GE136 := n4_; have NB135_136 := n5_; have NB136_135 := n6_; clear n0_ n1_ n2_ n3_ n4_ n5_ n6_; clear hb hbox hg; have hnb42 := NB135_136.out; have hnc42 := NB136_135.out; have hcz43_0 : w41.cell? ⟨gb135, 0, none⟩ = some (.string a0_0) := (blk_cell BK135.out 0).trans rfl; have hcz43_1 : w41.cell? ⟨gb135, 1, none⟩ = some (.slice A0_1 l0_1.length c0_1) := (blk_cell BK135.out 1).trans rfl; have hcz43_2 : w41.cell? ⟨gb135, 2, none⟩ = some (.string a0_2) := (blk_cell BK135.out 2).trans rfl; have hcz43_3 : w41.cell? ⟨gb135, 3, none⟩ = some (.slice A0_3 l0_3.length c0_3) := (blk_cell BK135.out 3).trans rfl; have hcz43_4 : w41.cell? ⟨gb135, 4, none⟩ = some (.int .i64 a0_4) := (blk_cell BK135.out 4).trans rfl; have hcz43_5 : w41.cell? ⟨gb135, 5, none⟩ = some (.slice A0_5 l0_5.length c0_5) := (blk_cell BK135.out 5).trans rfl; have hcz43_6 : w41.cell? ⟨gb135, 6, none⟩ = some (.int .i64 a0_6) := (blk_cell BK135.out 6).trans rfl; have hcz43_7 : w41.cell? ⟨gb135, 7, none⟩ = some (.slice A0_7 l0_7.length c0_7) := (blk_cell BK135.out 7).trans rfl; have hfz43_0 := blk_frozen BK135.out 0; have hfz43_1 := blk_frozen BK135.out 1; have hfz43_2 := blk_frozen BK135.out 2; have hfz43_3 := blk_frozen BK135.out 3; have hfz43_4 := blk_frozen BK135.out 4; have hfz43_5 := blk_frozen BK135.out 5; have hfz43_6 := blk_frozen BK135.out 6; have hfz43_7 := blk_frozen BK135.out 7; have hcz44_0 : w41.cell? ⟨gb136, 0, none⟩ = some (.string a1_0) := (blk_cell BK136.out 0).trans rfl; have hcz44_1 : w41.cell? ⟨gb136, 1, none⟩ = some (.slice A1_1 l1_1.length c1_1) := (blk_cell BK136.out 1).trans rfl; have hcz44_2 : w41.cell? ⟨gb136, 2, none⟩ = some (.string a1_2) := (blk_cell BK136.out 2).trans rfl; have hcz44_3 : w41.cell? ⟨gb136, 3, none⟩ = some (.slice A1_3 l1_3.length c1_3) := (blk_cell BK136.out 3).trans rfl; have hcz44_4 : w41.cell? ⟨gb136, 4, none⟩ = some (.int .i64 a1_4) := (blk_cell BK136.out 4).trans rfl; have hcz44_5 : w41.cell? ⟨gb136, 5, none⟩ = some (.slice A1_5 l1_5.length c1_5) := (blk_cell BK136.out 5).trans rfl; have hcz44_6 : w41.cell? ⟨gb136, 6, none⟩ = some (.int .i64 a1_6) := (blk_cell BK136.out 6).trans rfl; have hcz44_7 : w41.cell? ⟨gb136, 7, none⟩ = some (.slice A1_7 l1_7.length c1_7) := (blk_cell BK136.out 7).trans rfl; have hfz44_0 := blk_frozen BK136.out 0; have hfz44_1 := blk_frozen BK136.out 1; have hfz44_2 := blk_frozen BK136.out 2; have hfz44_3 := blk_frozen BK136.out 3; have hfz44_4 := blk_frozen BK136.out 4; have hfz44_5 := blk_frozen BK136.out 5; have hfz44_6 := blk_frozen BK136.out 6; have hfz44_7 := blk_frozen BK136.out 7) | ((with_reducible refine gate_callee (f := 17) rfl ?_); refine goesL_ (some 14) rfl rfl Tryd.func17 (by kernel_rfl) rfl #[.slice A0_1 l0_1.length c0_1, .slice A1_1 l1_1.length c1_1] rfl (by (try simp only [List.map_toArray, List.map_cons, List.map_nil]); first | done | rfl | (simp only [List.length_drop, List.length_take]; rfl)) ?_; (with_reducible refine (laws_eqIntS.calls k _ _ l0_1 _ _ l1_1 true _ ?side1 ?side2 ?side3 ?side4 A4.out).mono ?_); (case side1 => repeat (first | exact (Kd.C_below HR0_1.out HB.out) | (with_reducible refine Kd.C_alloc ?_ _) | (with_reducible refine Kd.C_drewN ?_ _) | (with_reducible refine Kd.C_drew ?_))); (case side2 => exact HC0_1.out); (case side3 => repeat (first | exact (Kd.C_below HR1_1.out HB.out) | (with_reducible refine Kd.C_alloc ?_ _) | (with_reducible refine Kd.C_drewN ?_ _) | (with_reducible refine Kd.C_drew ?_))); (case side4 => exact HC1_1.out); rintro e w' ⟨rfl, ⟨nd, rfl⟩⟩; refine ⟨_, rfl, ?_⟩) | ((with_reducible refine gate_callee (f := 17) rfl ?_); refine goesL_ (some 25) rfl rfl Tryd.func17 (by kernel_rfl) rfl #[.slice A0_3 l0_3.length c0_3, .slice A1_3 l1_3.length c1_3] rfl (by (try simp only [List.map_toArray, List.map_cons, List.map_nil]); first | done | rfl | (simp only [List.length_drop, List.length_take]; rfl)) ?_; (with_reducible refine (laws_eqIntS.calls k _ _ l0_3 _ _ l1_3 false _ ?side1 ?side2 ?side3 ?side4 A7.out).mono ?_); (case side1 => repeat (first | exact (Kd.C_below HR0_3.out (by repeat (first | (with_reducible first | exact HB.out | apply below_alloc | apply pw_below_drewN | apply below_drew1 | refine below_set ?_ GE135.out | refine below_set ?_ GE136.out) | exact HB.out))) | (with_reducible refine Kd.C_alloc ?_ _) | (with_reducible refine Kd.C_drewN ?_ _) | (with_reducible refine Kd.C_drew ?_))); (case side2 => exact HC0_3.out); (case side3 => repeat (first | exact (Kd.C_below HR1_3.out (by repeat (first | (with_reducible first | exact HB.out | apply below_alloc | apply pw_below_drewN | apply below_drew1 | refine below_set ?_ GE135.out | refine below_set ?_ GE136.out) | exact HB.out))) | (with_reducible refine Kd.C_alloc ?_ _) | (with_reducible refine Kd.C_drewN ?_ _) | (with_reducible refine Kd.C_drew ?_))); (case side4 => exact HC1_3.out); rintro e w' ⟨rfl, ⟨nd, rfl⟩⟩; refine ⟨_, rfl, ?_⟩))
     go_ret
     exact ⟨by first | rfl | (simp [errW_none, errW_some] <;> rfl) | (simp [*, errW_none, errW_some] <;> rfl), by repeat (first | (with_reducible first | exact HB.out | apply below_alloc | apply pw_below_drewN | apply below_drew1 | refine below_set ?_ GE135.out | refine below_set ?_ GE136.out) | exact HB.out)⟩
   ·rw [if_neg c6] at H
    have c6b0 : (a0_2.toList == a1_2.toList) = false := beq_eq_false_iff_ne.mpr c6
    have c6b1 : (a0_2.toList != a1_2.toList) = true := bne_iff_ne.mpr c6
    obtain rfl := Option.some.inj H
    go_enter Tryd.func29, Tryd.ntmps29
    go_wp2_with (first | ((with_reducible refine gate_dst (N := 2) rfl ?_); refine box_event ?hg (N := 2) ?hd (cs := #[.string a0_0, .slice A0_1 l0_1.length c0_1, .string a0_2, .slice A0_3 l0_3.length c0_3, .int .i64 a0_4, .slice A0_5 l0_5.length c0_5, .int .i64 a0_6, .slice A0_7 l0_7.length c0_7]) (t := 38) ?hr ?_; (case hd => rfl); (case hg => rfl); (case hr => first | (go_simp; done) | (go_simp; rfl)); intro gb135 hg w45 hbox hb; have n0_ := am (shHB HB.out hb); have n1_ := am (hbox); have n2_ := am ((shGE HB.out hg : w.heap.size ≤ gb135)); have n3_ := am ((shGE HB.out hg : w.heap.size ≤ gb135)); clear HB; have HB := n0_; have BK135 := n1_; have GW135 := n2_; have GE135 := n3_; clear n0_ n1_ n2_ n3_; clear hb hbox hg) | ((with_reducible refine gate_dst (N := 3) rfl ?_); refine box_event ?hg (N := 3) ?hd (cs := #[.string a1_0, .slice A1_1 l1_1.length c1_1, .string a1_2, .slice A1_3 l1_3.length c1_3, .int .i64 a1_4, .slice A1_5 l1_5.length c1_5, .int .i64 a1_6, .slice A1_7 l1_7.length c1_7]) (t := 38) ?hr ?_; (case hd => rfl); (case hg => rfl); (case hr => first | (go_simp; done) | (go_simp; rfl)); intro gb136 hg w46 hbox hb; have n0_ := am (shBK BK135.out hb); have n1_ := am (shHB HB.out hb); have n2_ := am (hbox); have n3_ := am ((shGE HB.out hg : w.heap.size ≤ gb136)); have n4_ := am ((shGE HB.out hg : w.heap.size ≤ gb136)); have n5_ := am ((shNB BK135.out hg : gb135 ≠ gb136)); have n6_ := am ((shNC BK135.out hg : gb136 ≠ gb135)); clear BK135; clear HB; have BK135 := n0_; have HB := n1_; have BK136 := n2_; have GW136 := n3_; have GE136 := n4_; have NB135_136 := n5_; have NB136_135 := n6_; clear n0_ n1_ n2_ n3_ n4_ n5_ n6_; clear hb hbox hg; have hnb47 := NB135_136.out; have hnc47 := NB136_135.out; have hcz48_0 : w46.cell? ⟨gb135, 0, none⟩ = some (.string a0_0) := (blk_cell BK135.out 0).trans rfl; have hcz48_1 : w46.cell? ⟨gb135, 1, none⟩ = some (.slice A0_1 l0_1.length c0_1) := (blk_cell BK135.out 1).trans rfl; have hcz48_2 : w46.cell? ⟨gb135, 2, none⟩ = some (.string a0_2) := (blk_cell BK135.out 2).trans rfl; have hcz48_3 : w46.cell? ⟨gb135, 3, none⟩ = some (.slice A0_3 l0_3.length c0_3) := (blk_cell BK135.out 3).trans rfl; have hcz48_4 : w46.cell? ⟨gb135, 4, none⟩ = some (.int .i64 a0_4) := (blk_cell BK135.out 4).trans rfl; have hcz48_5 : w46.cell? ⟨gb135, 5, none⟩ = some (.slice A0_5 l0_5.length c0_5) := (blk_cell BK135.out 5).trans rfl; have hcz48_6 : w46.cell? ⟨gb135, 6, none⟩ = some (.int .i64 a0_6) := (blk_cell BK135.out 6).trans rfl; have hcz48_7 : w46.cell? ⟨gb135, 7, none⟩ = some (.slice A0_7 l0_7.length c0_7) := (blk_cell BK135.out 7).trans rfl; have hfz48_0 := blk_frozen BK135.out 0; have hfz48_1 := blk_frozen BK135.out 1; have hfz48_2 := blk_frozen BK135.out 2; have hfz48_3 := blk_frozen BK135.out 3; have hfz48_4 := blk_frozen BK135.out 4; have hfz48_5 := blk_frozen BK135.out 5; have hfz48_6 := blk_frozen BK135.out 6; have hfz48_7 := blk_frozen BK135.out 7; have hcz49_0 : w46.cell? ⟨gb136, 0, none⟩ = some (.string a1_0) := (blk_cell BK136.out 0).trans rfl; have hcz49_1 : w46.cell? ⟨gb136, 1, none⟩ = some (.slice A1_1 l1_1.length c1_1) := (blk_cell BK136.out 1).trans rfl; have hcz49_2 : w46.cell? ⟨gb136, 2, none⟩ = some (.string a1_2) := (blk_cell BK136.out 2).trans rfl; have hcz49_3 : w46.cell? ⟨gb136, 3, none⟩ = some (.slice A1_3 l1_3.length c1_3) := (blk_cell BK136.out 3).trans rfl; have hcz49_4 : w46.cell? ⟨gb136, 4, none⟩ = some (.int .i64 a1_4) := (blk_cell BK136.out 4).trans rfl; have hcz49_5 : w46.cell? ⟨gb136, 5, none⟩ = some (.slice A1_5 l1_5.length c1_5) := (blk_cell BK136.out 5).trans rfl; have hcz49_6 : w46.cell? ⟨gb136, 6, none⟩ = some (.int .i64 a1_6) := (blk_cell BK136.out 6).trans rfl; have hcz49_7 : w46.cell? ⟨gb136, 7, none⟩ = some (.slice A1_7 l1_7.length c1_7) := (blk_cell BK136.out 7).trans rfl; have hfz49_0 := blk_frozen BK136.out 0; have hfz49_1 := blk_frozen BK136.out 1; have hfz49_2 := blk_frozen BK136.out 2; have hfz49_3 := blk_frozen BK136.out 3; have hfz49_4 := blk_frozen BK136.out 4; have hfz49_5 := blk_frozen BK136.out 5; have hfz49_6 := blk_frozen BK136.out 6; have hfz49_7 := blk_frozen BK136.out 7) | ((with_reducible refine gate_callee (f := 17) rfl ?_); refine goesL_ (some 14) rfl rfl Tryd.func17 (by kernel_rfl) rfl #[.slice A0_1 l0_1.length c0_1, .slice A1_1 l1_1.length c1_1] rfl (by (try simp only [List.map_toArray, List.map_cons, List.map_nil]); first | done | rfl | (simp only [List.length_drop, List.length_take]; rfl)) ?_; (with_reducible refine (laws_eqIntS.calls k _ _ l0_1 _ _ l1_1 true _ ?side1 ?side2 ?side3 ?side4 A4.out).mono ?_); (case side1 => repeat (first | exact (Kd.C_below HR0_1.out HB.out) | (with_reducible refine Kd.C_alloc ?_ _) | (with_reducible refine Kd.C_drewN ?_ _) | (with_reducible refine Kd.C_drew ?_))); (case side2 => exact HC0_1.out); (case side3 => repeat (first | exact (Kd.C_below HR1_1.out HB.out) | (with_reducible refine Kd.C_alloc ?_ _) | (with_reducible refine Kd.C_drewN ?_ _) | (with_reducible refine Kd.C_drew ?_))); (case side4 => exact HC1_1.out); rintro e w' ⟨rfl, ⟨nd, rfl⟩⟩; refine ⟨_, rfl, ?_⟩))
    go_ret
    exact ⟨by first | rfl | (simp [errW_none, errW_some] <;> rfl) | (simp [*, errW_none, errW_some] <;> rfl), by repeat (first | (with_reducible first | exact HB.out | apply below_alloc | apply pw_below_drewN | apply below_drew1 | refine below_set ?_ GE135.out | refine below_set ?_ GE136.out) | exact HB.out)⟩
  ·replace c5 := Bool.eq_false_iff.mpr c5
   subst c5
   have H1 : (some false) = some r := by first | (rw [if_neg (show ¬ (false = true) by decide)] at H; exact H) | with_reducible rfl
   clear H
   have H := H1
   clear H1
   obtain rfl := Option.some.inj H
   go_enter Tryd.func29, Tryd.ntmps29
   go_wp2_with (first | ((with_reducible refine gate_dst (N := 2) rfl ?_); refine box_event ?hg (N := 2) ?hd (cs := #[.string a0_0, .slice A0_1 l0_1.length c0_1, .string a0_2, .slice A0_3 l0_3.length c0_3, .int .i64 a0_4, .slice A0_5 l0_5.length c0_5, .int .i64 a0_6, .slice A0_7 l0_7.length c0_7]) (t := 38) ?hr ?_; (case hd => rfl); (case hg => rfl); (case hr => first | (go_simp; done) | (go_simp; rfl)); intro gb135 hg w50 hbox hb; have n0_ := am (shHB HB.out hb); have n1_ := am (hbox); have n2_ := am ((shGE HB.out hg : w.heap.size ≤ gb135)); have n3_ := am ((shGE HB.out hg : w.heap.size ≤ gb135)); clear HB; have HB := n0_; have BK135 := n1_; have GW135 := n2_; have GE135 := n3_; clear n0_ n1_ n2_ n3_; clear hb hbox hg) | ((with_reducible refine gate_dst (N := 3) rfl ?_); refine box_event ?hg (N := 3) ?hd (cs := #[.string a1_0, .slice A1_1 l1_1.length c1_1, .string a1_2, .slice A1_3 l1_3.length c1_3, .int .i64 a1_4, .slice A1_5 l1_5.length c1_5, .int .i64 a1_6, .slice A1_7 l1_7.length c1_7]) (t := 38) ?hr ?_; (case hd => rfl); (case hg => rfl); (case hr => first | (go_simp; done) | (go_simp; rfl)); intro gb136 hg w51 hbox hb; have n0_ := am (shBK BK135.out hb); have n1_ := am (shHB HB.out hb); have n2_ := am (hbox); have n3_ := am ((shGE HB.out hg : w.heap.size ≤ gb136)); have n4_ := am ((shGE HB.out hg : w.heap.size ≤ gb136)); have n5_ := am ((shNB BK135.out hg : gb135 ≠ gb136)); have n6_ := am ((shNC BK135.out hg : gb136 ≠ gb135)); clear BK135; clear HB; have BK135 := n0_; have HB := n1_; have BK136 := n2_; have GW136 := n3_; have GE136 := n4_; have NB135_136 := n5_; have NB136_135 := n6_; clear n0_ n1_ n2_ n3_ n4_ n5_ n6_; clear hb hbox hg; have hnb52 := NB135_136.out; have hnc52 := NB136_135.out; have hcz53_0 : w51.cell? ⟨gb135, 0, none⟩ = some (.string a0_0) := (blk_cell BK135.out 0).trans rfl; have hcz53_1 : w51.cell? ⟨gb135, 1, none⟩ = some (.slice A0_1 l0_1.length c0_1) := (blk_cell BK135.out 1).trans rfl; have hcz53_2 : w51.cell? ⟨gb135, 2, none⟩ = some (.string a0_2) := (blk_cell BK135.out 2).trans rfl; have hcz53_3 : w51.cell? ⟨gb135, 3, none⟩ = some (.slice A0_3 l0_3.length c0_3) := (blk_cell BK135.out 3).trans rfl; have hcz53_4 : w51.cell? ⟨gb135, 4, none⟩ = some (.int .i64 a0_4) := (blk_cell BK135.out 4).trans rfl; have hcz53_5 : w51.cell? ⟨gb135, 5, none⟩ = some (.slice A0_5 l0_5.length c0_5) := (blk_cell BK135.out 5).trans rfl; have hcz53_6 : w51.cell? ⟨gb135, 6, none⟩ = some (.int .i64 a0_6) := (blk_cell BK135.out 6).trans rfl; have hcz53_7 : w51.cell? ⟨gb135, 7, none⟩ = some (.slice A0_7 l0_7.length c0_7) := (blk_cell BK135.out 7).trans rfl; have hfz53_0 := blk_frozen BK135.out 0; have hfz53_1 := blk_frozen BK135.out 1; have hfz53_2 := blk_frozen BK135.out 2; have hfz53_3 := blk_frozen BK135.out 3; have hfz53_4 := blk_frozen BK135.out 4; have hfz53_5 := blk_frozen BK135.out 5; have hfz53_6 := blk_frozen BK135.out 6; have hfz53_7 := blk_frozen BK135.out 7; have hcz54_0 : w51.cell? ⟨gb136, 0, none⟩ = some (.string a1_0) := (blk_cell BK136.out 0).trans rfl; have hcz54_1 : w51.cell? ⟨gb136, 1, none⟩ = some (.slice A1_1 l1_1.length c1_1) := (blk_cell BK136.out 1).trans rfl; have hcz54_2 : w51.cell? ⟨gb136, 2, none⟩ = some (.string a1_2) := (blk_cell BK136.out 2).trans rfl; have hcz54_3 : w51.cell? ⟨gb136, 3, none⟩ = some (.slice A1_3 l1_3.length c1_3) := (blk_cell BK136.out 3).trans rfl; have hcz54_4 : w51.cell? ⟨gb136, 4, none⟩ = some (.int .i64 a1_4) := (blk_cell BK136.out 4).trans rfl; have hcz54_5 : w51.cell? ⟨gb136, 5, none⟩ = some (.slice A1_5 l1_5.length c1_5) := (blk_cell BK136.out 5).trans rfl; have hcz54_6 : w51.cell? ⟨gb136, 6, none⟩ = some (.int .i64 a1_6) := (blk_cell BK136.out 6).trans rfl; have hcz54_7 : w51.cell? ⟨gb136, 7, none⟩ = some (.slice A1_7 l1_7.length c1_7) := (blk_cell BK136.out 7).trans rfl; have hfz54_0 := blk_frozen BK136.out 0; have hfz54_1 := blk_frozen BK136.out 1; have hfz54_2 := blk_frozen BK136.out 2; have hfz54_3 := blk_frozen BK136.out 3; have hfz54_4 := blk_frozen BK136.out 4; have hfz54_5 := blk_frozen BK136.out 5; have hfz54_6 := blk_frozen BK136.out 6; have hfz54_7 := blk_frozen BK136.out 7) | ((with_reducible refine gate_callee (f := 17) rfl ?_); refine goesL_ (some 14) rfl rfl Tryd.func17 (by kernel_rfl) rfl #[.slice A0_1 l0_1.length c0_1, .slice A1_1 l1_1.length c1_1] rfl (by (try simp only [List.map_toArray, List.map_cons, List.map_nil]); first | done | rfl | (simp only [List.length_drop, List.length_take]; rfl)) ?_; (with_reducible refine (laws_eqIntS.calls k _ _ l0_1 _ _ l1_1 false _ ?side1 ?side2 ?side3 ?side4 A4.out).mono ?_); (case side1 => repeat (first | exact (Kd.C_below HR0_1.out HB.out) | (with_reducible refine Kd.C_alloc ?_ _) | (with_reducible refine Kd.C_drewN ?_ _) | (with_reducible refine Kd.C_drew ?_))); (case side2 => exact HC0_1.out); (case side3 => repeat (first | exact (Kd.C_below HR1_1.out HB.out) | (with_reducible refine Kd.C_alloc ?_ _) | (with_reducible refine Kd.C_drewN ?_ _) | (with_reducible refine Kd.C_drew ?_))); (case side4 => exact HC1_1.out); rintro e w' ⟨rfl, ⟨nd, rfl⟩⟩; refine ⟨_, rfl, ?_⟩))
   go_ret
   exact ⟨by first | rfl | (simp [errW_none, errW_some] <;> rfl) | (simp [*, errW_none, errW_some] <;> rfl), by repeat (first | (with_reducible first | exact HB.out | apply below_alloc | apply pw_below_drewN | apply below_drew1 | refine below_set ?_ GE135.out | refine below_set ?_ GE136.out) | exact HB.out)⟩
 ·rw [if_neg c3] at H
  have c3b0 : (a0_0.toList == a1_0.toList) = false := beq_eq_false_iff_ne.mpr c3
  have c3b1 : (a0_0.toList != a1_0.toList) = true := bne_iff_ne.mpr c3
  obtain rfl := Option.some.inj H
  go_enter Tryd.func29, Tryd.ntmps29
  go_wp2_with (first | ((with_reducible refine gate_dst (N := 2) rfl ?_); refine box_event ?hg (N := 2) ?hd (cs := #[.string a0_0, .slice A0_1 l0_1.length c0_1, .string a0_2, .slice A0_3 l0_3.length c0_3, .int .i64 a0_4, .slice A0_5 l0_5.length c0_5, .int .i64 a0_6, .slice A0_7 l0_7.length c0_7]) (t := 38) ?hr ?_; (case hd => rfl); (case hg => rfl); (case hr => first | (go_simp; done) | (go_simp; rfl)); intro gb135 hg w55 hbox hb; have n0_ := am (shHB HB.out hb); have n1_ := am (hbox); have n2_ := am ((shGE HB.out hg : w.heap.size ≤ gb135)); have n3_ := am ((shGE HB.out hg : w.heap.size ≤ gb135)); clear HB; have HB := n0_; have BK135 := n1_; have GW135 := n2_; have GE135 := n3_; clear n0_ n1_ n2_ n3_; clear hb hbox hg) | ((with_reducible refine gate_dst (N := 3) rfl ?_); refine box_event ?hg (N := 3) ?hd (cs := #[.string a1_0, .slice A1_1 l1_1.length c1_1, .string a1_2, .slice A1_3 l1_3.length c1_3, .int .i64 a1_4, .slice A1_5 l1_5.length c1_5, .int .i64 a1_6, .slice A1_7 l1_7.length c1_7]) (t := 38) ?hr ?_; (case hd => rfl); (case hg => rfl); (case hr => first | (go_simp; done) | (go_simp; rfl)); intro gb136 hg w56 hbox hb; have n0_ := am (shBK BK135.out hb); have n1_ := am (shHB HB.out hb); have n2_ := am (hbox); have n3_ := am ((shGE HB.out hg : w.heap.size ≤ gb136)); have n4_ := am ((shGE HB.out hg : w.heap.size ≤ gb136)); have n5_ := am ((shNB BK135.out hg : gb135 ≠ gb136)); have n6_ := am ((shNC BK135.out hg : gb136 ≠ gb135)); clear BK135; clear HB; have BK135 := n0_; have HB := n1_; have BK136 := n2_; have GW136 := n3_; have GE136 := n4_; have NB135_136 := n5_; have NB136_135 := n6_; clear n0_ n1_ n2_ n3_ n4_ n5_ n6_; clear hb hbox hg; have hnb57 := NB135_136.out; have hnc57 := NB136_135.out; have hcz58_0 : w56.cell? ⟨gb135, 0, none⟩ = some (.string a0_0) := (blk_cell BK135.out 0).trans rfl; have hcz58_1 : w56.cell? ⟨gb135, 1, none⟩ = some (.slice A0_1 l0_1.length c0_1) := (blk_cell BK135.out 1).trans rfl; have hcz58_2 : w56.cell? ⟨gb135, 2, none⟩ = some (.string a0_2) := (blk_cell BK135.out 2).trans rfl; have hcz58_3 : w56.cell? ⟨gb135, 3, none⟩ = some (.slice A0_3 l0_3.length c0_3) := (blk_cell BK135.out 3).trans rfl; have hcz58_4 : w56.cell? ⟨gb135, 4, none⟩ = some (.int .i64 a0_4) := (blk_cell BK135.out 4).trans rfl; have hcz58_5 : w56.cell? ⟨gb135, 5, none⟩ = some (.slice A0_5 l0_5.length c0_5) := (blk_cell BK135.out 5).trans rfl; have hcz58_6 : w56.cell? ⟨gb135, 6, none⟩ = some (.int .i64 a0_6) := (blk_cell BK135.out 6).trans rfl; have hcz58_7 : w56.cell? ⟨gb135, 7, none⟩ = some (.slice A0_7 l0_7.length c0_7) := (blk_cell BK135.out 7).trans rfl; have hfz58_0 := blk_frozen BK135.out 0; have hfz58_1 := blk_frozen BK135.out 1; have hfz58_2 := blk_frozen BK135.out 2; have hfz58_3 := blk_frozen BK135.out 3; have hfz58_4 := blk_frozen BK135.out 4; have hfz58_5 := blk_frozen BK135.out 5; have hfz58_6 := blk_frozen BK135.out 6; have hfz58_7 := blk_frozen BK135.out 7; have hcz59_0 : w56.cell? ⟨gb136, 0, none⟩ = some (.string a1_0) := (blk_cell BK136.out 0).trans rfl; have hcz59_1 : w56.cell? ⟨gb136, 1, none⟩ = some (.slice A1_1 l1_1.length c1_1) := (blk_cell BK136.out 1).trans rfl; have hcz59_2 : w56.cell? ⟨gb136, 2, none⟩ = some (.string a1_2) := (blk_cell BK136.out 2).trans rfl; have hcz59_3 : w56.cell? ⟨gb136, 3, none⟩ = some (.slice A1_3 l1_3.length c1_3) := (blk_cell BK136.out 3).trans rfl; have hcz59_4 : w56.cell? ⟨gb136, 4, none⟩ = some (.int .i64 a1_4) := (blk_cell BK136.out 4).trans rfl; have hcz59_5 : w56.cell? ⟨gb136, 5, none⟩ = some (.slice A1_5 l1_5.length c1_5) := (blk_cell BK136.out 5).trans rfl; have hcz59_6 : w56.cell? ⟨gb136, 6, none⟩ = some (.int .i64 a1_6) := (blk_cell BK136.out 6).trans rfl; have hcz59_7 : w56.cell? ⟨gb136, 7, none⟩ = some (.slice A1_7 l1_7.length c1_7) := (blk_cell BK136.out 7).trans rfl; have hfz59_0 := blk_frozen BK136.out 0; have hfz59_1 := blk_frozen BK136.out 1; have hfz59_2 := blk_frozen BK136.out 2; have hfz59_3 := blk_frozen BK136.out 3; have hfz59_4 := blk_frozen BK136.out 4; have hfz59_5 := blk_frozen BK136.out 5; have hfz59_6 := blk_frozen BK136.out 6; have hfz59_7 := blk_frozen BK136.out 7))
  go_ret
  exact ⟨by first | rfl | (simp [errW_none, errW_some] <;> rfl) | (simp [*, errW_none, errW_some] <;> rfl), by repeat (first | (with_reducible first | exact HB.out | apply below_alloc | apply pw_below_drewN | apply below_drew1 | refine below_set ?_ GE135.out | refine below_set ?_ GE136.out) | exact HB.out)⟩

/-! ### spec_l1In: function 39 -/
def spec_l1In.f (a0 : Int) (a1 : Int) (a2 : Int) : Option (Bool) := if a0 ≥ a1 then (some (decide (a0 ≤ a2))) else (some false)
set_option maxHeartbeats 8000000 in
set_option maxRecDepth 100000 in
theorem spec_l1In.calls (a0 : Int) (a1 : Int) (a2 : Int) (r : Bool) (w : World) (h : spec_l1In.f a0 a1 a2 = some r) :
  Calls Tryd.prog 39 #[.int .i64 a0, .int .i64 a1, .int .i64 a2] w fun e w' => e = .returned (.bool r) ∧ Drawn0 w w' := by
 have H : (if a0 ≥ a1 then (some (decide (a0 ≤ a2))) else (some false)) = some r := h
 clear h
 by_cases c4 : a0 ≥ a1
 ·rw [if_pos c4] at H
  have c4b0 : decide (a1 ≤ a0) = true := decide_eq_true c4
  clear c4
  obtain rfl := Option.some.inj H
  go_enter Tryd.func39, Tryd.ntmps39
  go_wp2
  go_ret
  exact ⟨by first | rfl | (simp; done) | (simp [*]; done), by repeat (first | exact Drawn0.refl _ | apply Drawn0.step)⟩
 ·rw [if_neg c4] at H
  have c4b0 : decide (a1 ≤ a0) = false := decide_eq_false c4
  clear c4
  obtain rfl := Option.some.inj H
  go_enter Tryd.func39, Tryd.ntmps39
  go_wp2
  go_ret
  exact ⟨by first | rfl | (simp; done) | (simp [*]; done), by repeat (first | exact Drawn0.refl _ | apply Drawn0.step)⟩

/-! ### spec_NameOk: function 12 -/
def nameRune (c : Int) : Bool := (decide (97 ≤ c) && decide (c ≤ 122)) || (decide (65 ≤ c) && decide (c ≤ 90)) || (decide (48 ≤ c) && decide (c ≤ 57)) || c == 45 || c == 95 || c == 32 || decide (160 ≤ c)
def brokenAt (s : ByteArray) (pos : Nat) (c : Int) : Bool := c == 65533 && (decide (s.size ≤ pos + 2) || bt s pos != 239 || bt s (pos + 1 : Nat) != 191 || bt s (pos + 2 : Nat) != 189)
def spec_NameOk.l0 : Nat → ByteArray → Int → Nat → Option Bool
 | 0, _, _, _ => none
 | k + 1, s, n, pos => if pos < s.size then (if brokenAt s pos ((Utf8.decode s pos).1 : Int) = true then some false else if nameRune ((Utf8.decode s pos).1 : Int) = true then spec_NameOk.l0 k s (wrap64 (n + 1)) (pos + (Utf8.decode s pos).2) else some false) else (if 1 ≤ n then (if n ≤ 24 then (if 0 < s.size then some ((bt s 0 != 32) && (bt s ((s.size : Int) - 1) != 32)) else none) else some false) else some false)
def spec_NameOk.f (k : Nat) (a0 : ByteArray) : Option Bool := if a0.size ≤ 1048576 then spec_NameOk.l0 k a0 0 0 else none
theorem spec_NameOk.mono_l : ∀ k s n pos, LeO (spec_NameOk.l0 k s n pos) (spec_NameOk.l0 (k + 1) s n pos)
 | 0, _, _, _ => fun r h => by simp [spec_NameOk.l0] at h
 | k + 1, s, n, pos => by
  intro r h
  rw [spec_NameOk.l0] at h ⊢
  by_cases h1 : pos < s.size
  ·rw [if_pos h1] at h ⊢
   by_cases h2 : brokenAt s pos ((Utf8.decode s pos).1 : Int) = true
   ·rw [if_pos h2] at h ⊢; exact h
   ·rw [if_neg h2] at h ⊢
    by_cases h3 : nameRune ((Utf8.decode s pos).1 : Int) = true
    ·rw [if_pos h3] at h ⊢; exact spec_NameOk.mono_l k _ _ _ r h
    ·rw [if_neg h3] at h ⊢; exact h
  ·rw [if_neg h1] at h ⊢; exact h
theorem spec_NameOk.mono : ∀ a0 k, LeO (spec_NameOk.f k a0) (spec_NameOk.f (k + 1) a0) := by
 intro a0 k
 unfold spec_NameOk.f
 split
 ·exact spec_NameOk.mono_l k _ _ _
 ·exact LeO.refl _
theorem below_iter (w : World) (s : ByteArray) (pos : Nat) : Below w.heap.size w (w.iter s pos) := (Below.refl _ w).alloc (Nat.le_refl _) _
theorem rune_range (s : ByteArray) (pos : Nat) (h : pos < s.size) : (Utf8.decode s pos).1 ≤ 1114111 := Lib.rune_le s pos
theorem broken_iff (s : ByteArray) (pos : Nat) (hp : pos < s.size) : brokenAt s pos 65533 = true ↔ (s.size ≤ pos + 2 ∨ ∃ h : pos + 2 < s.size, ¬ (((s[pos]'hp).toNat : Int) = 239 ∧ ((s[pos + 1]'(by omega)).toNat : Int) = 191 ∧ ((s[pos + 2]'h).toNat : Int) = 189)) := by
 unfold brokenAt
 by_cases h : s.size ≤ pos + 2
 ·rw [decide_eq_true h]
  simp [h]
 ·have h2 : pos + 2 < s.size := by omega
  have e0 : bt s (pos : Int) = ((s[pos]'hp).toNat : Int) := (bt_at s (pos : Int) (by simpa using hp)).symm
  have e1 : bt s ((pos + 1 : Nat) : Int) = ((s[pos + 1]'(by omega)).toNat : Int) := (bt_at s ((pos + 1 : Nat) : Int) (by rw [Int.toNat_natCast]; omega)).symm
  have e2 : bt s ((pos + 2 : Nat) : Int) = ((s[pos + 2]'h2).toNat : Int) := (bt_at s ((pos + 2 : Nat) : Int) (by rw [Int.toNat_natCast]; omega)).symm
  rw [decide_eq_false h, e0, e1, e2]
  simp only [beq_self_eq_true, Bool.true_and, Bool.false_or, Bool.or_eq_true, bne_iff_ne, ne_eq]
  constructor
  ·rintro ((a | a) | a)
   ·exact Or.inr ⟨h2, fun hh => a hh.1⟩
   ·exact Or.inr ⟨h2, fun hh => a hh.2.1⟩
   ·exact Or.inr ⟨h2, fun hh => a hh.2.2⟩
  ·rintro (a | ⟨_, a⟩)
   ·exact absurd a h
   ·by_cases x : ((s[pos]'hp).toNat : Int) = 239
    ·by_cases y : ((s[pos + 1]'(by omega)).toNat : Int) = 191
     ·exact Or.inr (fun z => a ⟨x, y, z⟩)
     ·exact Or.inl (Or.inr y)
    ·exact Or.inl (Or.inl x)
set_option maxHeartbeats 8000000 in
set_option maxRecDepth 1000000 in
theorem spec_NameOk.calls (k : Nat) (s : ByteArray) (r : Bool) (w : World) (h : spec_NameOk.f k s = some r) :
  Calls Tryd.prog 12 #[.string s] w fun e w' => e = .returned (.bool r) ∧ Below w.heap.size w w' := by
 unfold spec_NameOk.f at h
 by_cases hs : s.size ≤ 1048576
 case neg => rw [if_neg hs] at h; cases h
 rw [if_pos hs] at h
 have H' := Aside0.mk h
 clear h
 go_enter Tryd.func12, Tryd.ntmps12
 go_wp2
 go_loopg [3] k (fun kq v3 w' => ∃ (n : Int) (pos : Nat), v3 = .int .i64 n ∧ Aside0 (spec_NameOk.l0 kq s n pos = some r) ∧ Aside0 (kq ≤ k) ∧ w' = w.iter s pos)
 case atStart => exact ⟨0, 0, rfl, H', ⟨Nat.le_refl _⟩, rfl⟩
 case round =>
  clear H'
  obtain ⟨n, pos, rfl, HA, HK, rfl⟩ := hrel
  cases gk with
  | zero => exact absurd HA.out (by simp [spec_NameOk.l0])
  | succ k1 =>
   have H := HA.out
   clear HA
   simp only [spec_NameOk.l0] at H
   by_cases hp : pos < s.size
   ·rw [if_pos hp] at H
    have hnx : ∀ ty, (Instr.next (.pointer (some ⟨w.heap.size, 0, none⟩)) true ty).run Tryd.prog (w.iter s pos) = _ := fun ty => run_next_any w s pos ty hp
    have hwd := Lib.decode_width_pos s pos hp
    have hr := rune_range s pos hp
    obtain ⟨p2, hp2⟩ : ∃ p2, pos + (Utf8.decode s pos).2 = p2 := ⟨_, rfl⟩
    obtain ⟨cn, hcn⟩ : ∃ cn, (Utf8.decode s pos).1 = cn := ⟨_, rfl⟩
    rw [hp2, hcn] at H hnx
    rw [hcn] at hr
    clear hwd hcn
    obtain ⟨c, hc⟩ : ∃ c : Int, (cn : Int) = c := ⟨_, rfl⟩
    rw [hc] at H hnx
    have hc0 : 0 ≤ c ∧ c ≤ 1114111 := by omega
    have hcw : IntKind.i64.wrap c = c := by rw [IntKind.wrap_i64]; omega
    have hcw' : wrap64 c = c := by unfold wrap64; omega
    clear hc hr
    by_cases hb : c = 65533
    ·subst hb
     clear hcw hcw'
     go_wp2
     ·rename_i a1 a2 a3 a4 a5 a6
      have hbk : brokenAt s pos 65533 = true := (broken_iff s pos hp).2 (by
       rcases a6 with h | h
       ·exact Or.inl (by omega)
       ·exact Or.inr ⟨by omega, fun hh => by rw [hh.2.2] at h; exact absurd h (by decide)⟩)
      rw [hbk, if_pos rfl] at H
      obtain rfl := Option.some.inj H
      go_ret
      exact ⟨rfl, below_iter _ _ _⟩
     ·rename_i a1 a2 a3 a4 a5 a6
      have hbk : brokenAt s pos 65533 = false := Bool.eq_false_iff.2 (fun hh => by
       rcases (broken_iff s pos hp).1 hh with h | ⟨h, h'⟩
       ·omega
       ·exact h' ⟨a2, a4, bne_eq_false_iff_eq.1 a6.2⟩)
      rw [hbk, if_neg (by decide), if_pos (by decide)] at H
      go_roundg k1
      case measure => have := HK.out; omega
      case rel => exact ⟨wrap64 (n + 1), p2, by first | rfl | (simp; done), ⟨H⟩, ⟨by have := HK.out; omega⟩, rfl⟩
     ·rename_i a1 a2 a3 a4
      have hbk : brokenAt s pos 65533 = true := (broken_iff s pos hp).2 (Or.inr ⟨by omega, fun hh => a4 hh.2.1⟩)
      rw [hbk, if_pos rfl] at H
      obtain rfl := Option.some.inj H
      go_ret
      exact ⟨rfl, below_iter _ _ _⟩
     ·rename_i a1 a2
      have hbk : brokenAt s pos 65533 = true := (broken_iff s pos hp).2 (Or.inr ⟨by omega, fun hh => a2 hh.1⟩)
      rw [hbk, if_pos rfl] at H
      obtain rfl := Option.some.inj H
      go_ret
      exact ⟨rfl, below_iter _ _ _⟩
     ·rename_i a1
      have hbk : brokenAt s pos 65533 = true := (broken_iff s pos hp).2 (Or.inl (by omega))
      rw [hbk, if_pos rfl] at H
      obtain rfl := Option.some.inj H
      go_ret
      exact ⟨rfl, below_iter _ _ _⟩
    ·have hb1 : (c == 65533) = false := beq_eq_false_iff_ne.2 hb
     have hbr : brokenAt s pos c = false := by unfold brokenAt; rw [hb1]; rfl
     rw [hbr, if_neg (by decide)] at H
     rcases (by omega : (c ≤ 31) ∨ (32 ≤ c ∧ c ≤ 32) ∨ (33 ≤ c ∧ c ≤ 44) ∨ (45 ≤ c ∧ c ≤ 45) ∨ (46 ≤ c ∧ c ≤ 47) ∨ (48 ≤ c ∧ c ≤ 57) ∨ (58 ≤ c ∧ c ≤ 64) ∨ (65 ≤ c ∧ c ≤ 90) ∨ (91 ≤ c ∧ c ≤ 94) ∨ (95 ≤ c ∧ c ≤ 95) ∨ (96 ≤ c ∧ c ≤ 96) ∨ (97 ≤ c ∧ c ≤ 122) ∨ (123 ≤ c ∧ c ≤ 159) ∨ (160 ≤ c)) with h | h | h | h | h | h | h | h | h | h | h | h | h | h
     ·have hg : nameRune c = false := by unfold nameRune; simp; omega
      have f0 : decide (97 ≤ c) = false := decide_eq_false (by omega)
      have f1 : decide (65 ≤ c) = false := decide_eq_false (by omega)
      have f2 : decide (48 ≤ c) = false := decide_eq_false (by omega)
      have f3 : decide (c ≤ 122) = true := decide_eq_true (by omega)
      have f4 : decide (c ≤ 90) = true := decide_eq_true (by omega)
      have f5 : decide (c ≤ 57) = true := decide_eq_true (by omega)
      have f6 : (c != 45) = true := bne_iff_ne.2 (by omega)
      have f7 : (c == 45) = false := beq_eq_false_iff_ne.2 (by omega)
      have f8 : (c != 95) = true := bne_iff_ne.2 (by omega)
      have f9 : (c == 95) = false := beq_eq_false_iff_ne.2 (by omega)
      have f10 : (c != 32) = true := bne_iff_ne.2 (by omega)
      have f11 : (c == 32) = false := beq_eq_false_iff_ne.2 (by omega)
      have f12 : decide (c < 160) = true := decide_eq_true (by omega)
      have f13 : decide (160 ≤ c) = false := decide_eq_false (by omega)
      rw [hg, if_neg (by decide)] at H
      clear h hc0 hcw hb hg hbr
      go_wp2
      obtain rfl := Option.some.inj H
      go_ret
      exact ⟨rfl, below_iter _ _ _⟩
     ·have hg : nameRune c = true := by unfold nameRune; simp; omega
      have f0 : decide (97 ≤ c) = false := decide_eq_false (by omega)
      have f1 : decide (65 ≤ c) = false := decide_eq_false (by omega)
      have f2 : decide (48 ≤ c) = false := decide_eq_false (by omega)
      have f3 : decide (c ≤ 122) = true := decide_eq_true (by omega)
      have f4 : decide (c ≤ 90) = true := decide_eq_true (by omega)
      have f5 : decide (c ≤ 57) = true := decide_eq_true (by omega)
      have f6 : (c != 45) = true := bne_iff_ne.2 (by omega)
      have f7 : (c == 45) = false := beq_eq_false_iff_ne.2 (by omega)
      have f8 : (c != 95) = true := bne_iff_ne.2 (by omega)
      have f9 : (c == 95) = false := beq_eq_false_iff_ne.2 (by omega)
      have f10 : (c != 32) = false := bne_eq_false_iff_eq.2 (by omega)
      have f11 : (c == 32) = true := beq_iff_eq.2 (by omega)
      have f12 : decide (c < 160) = true := decide_eq_true (by omega)
      have f13 : decide (160 ≤ c) = false := decide_eq_false (by omega)
      rw [hg, if_pos rfl] at H
      clear h hc0 hcw hb hg hbr
      go_wp2
      go_roundg k1
      case measure => have := HK.out; omega
      case rel => exact ⟨wrap64 (n + 1), p2, by first | rfl | (simp; done), ⟨H⟩, ⟨by have := HK.out; omega⟩, rfl⟩
     ·have hg : nameRune c = false := by unfold nameRune; simp; omega
      have f0 : decide (97 ≤ c) = false := decide_eq_false (by omega)
      have f1 : decide (65 ≤ c) = false := decide_eq_false (by omega)
      have f2 : decide (48 ≤ c) = false := decide_eq_false (by omega)
      have f3 : decide (c ≤ 122) = true := decide_eq_true (by omega)
      have f4 : decide (c ≤ 90) = true := decide_eq_true (by omega)
      have f5 : decide (c ≤ 57) = true := decide_eq_true (by omega)
      have f6 : (c != 45) = true := bne_iff_ne.2 (by omega)
      have f7 : (c == 45) = false := beq_eq_false_iff_ne.2 (by omega)
      have f8 : (c != 95) = true := bne_iff_ne.2 (by omega)
      have f9 : (c == 95) = false := beq_eq_false_iff_ne.2 (by omega)
      have f10 : (c != 32) = true := bne_iff_ne.2 (by omega)
      have f11 : (c == 32) = false := beq_eq_false_iff_ne.2 (by omega)
      have f12 : decide (c < 160) = true := decide_eq_true (by omega)
      have f13 : decide (160 ≤ c) = false := decide_eq_false (by omega)
      rw [hg, if_neg (by decide)] at H
      clear h hc0 hcw hb hg hbr
      go_wp2
      obtain rfl := Option.some.inj H
      go_ret
      exact ⟨rfl, below_iter _ _ _⟩
     ·have hg : nameRune c = true := by unfold nameRune; simp; omega
      have f0 : decide (97 ≤ c) = false := decide_eq_false (by omega)
      have f1 : decide (65 ≤ c) = false := decide_eq_false (by omega)
      have f2 : decide (48 ≤ c) = false := decide_eq_false (by omega)
      have f3 : decide (c ≤ 122) = true := decide_eq_true (by omega)
      have f4 : decide (c ≤ 90) = true := decide_eq_true (by omega)
      have f5 : decide (c ≤ 57) = true := decide_eq_true (by omega)
      have f6 : (c != 45) = false := bne_eq_false_iff_eq.2 (by omega)
      have f7 : (c == 45) = true := beq_iff_eq.2 (by omega)
      have f8 : (c != 95) = true := bne_iff_ne.2 (by omega)
      have f9 : (c == 95) = false := beq_eq_false_iff_ne.2 (by omega)
      have f10 : (c != 32) = true := bne_iff_ne.2 (by omega)
      have f11 : (c == 32) = false := beq_eq_false_iff_ne.2 (by omega)
      have f12 : decide (c < 160) = true := decide_eq_true (by omega)
      have f13 : decide (160 ≤ c) = false := decide_eq_false (by omega)
      rw [hg, if_pos rfl] at H
      clear h hc0 hcw hb hg hbr
      go_wp2
      go_roundg k1
      case measure => have := HK.out; omega
      case rel => exact ⟨wrap64 (n + 1), p2, by first | rfl | (simp; done), ⟨H⟩, ⟨by have := HK.out; omega⟩, rfl⟩
     ·have hg : nameRune c = false := by unfold nameRune; simp; omega
      have f0 : decide (97 ≤ c) = false := decide_eq_false (by omega)
      have f1 : decide (65 ≤ c) = false := decide_eq_false (by omega)
      have f2 : decide (48 ≤ c) = false := decide_eq_false (by omega)
      have f3 : decide (c ≤ 122) = true := decide_eq_true (by omega)
      have f4 : decide (c ≤ 90) = true := decide_eq_true (by omega)
      have f5 : decide (c ≤ 57) = true := decide_eq_true (by omega)
      have f6 : (c != 45) = true := bne_iff_ne.2 (by omega)
      have f7 : (c == 45) = false := beq_eq_false_iff_ne.2 (by omega)
      have f8 : (c != 95) = true := bne_iff_ne.2 (by omega)
      have f9 : (c == 95) = false := beq_eq_false_iff_ne.2 (by omega)
      have f10 : (c != 32) = true := bne_iff_ne.2 (by omega)
      have f11 : (c == 32) = false := beq_eq_false_iff_ne.2 (by omega)
      have f12 : decide (c < 160) = true := decide_eq_true (by omega)
      have f13 : decide (160 ≤ c) = false := decide_eq_false (by omega)
      rw [hg, if_neg (by decide)] at H
      clear h hc0 hcw hb hg hbr
      go_wp2
      obtain rfl := Option.some.inj H
      go_ret
      exact ⟨rfl, below_iter _ _ _⟩
     ·have hg : nameRune c = true := by unfold nameRune; simp; omega
      have f0 : decide (97 ≤ c) = false := decide_eq_false (by omega)
      have f1 : decide (65 ≤ c) = false := decide_eq_false (by omega)
      have f2 : decide (48 ≤ c) = true := decide_eq_true (by omega)
      have f3 : decide (c ≤ 122) = true := decide_eq_true (by omega)
      have f4 : decide (c ≤ 90) = true := decide_eq_true (by omega)
      have f5 : decide (c ≤ 57) = true := decide_eq_true (by omega)
      have f6 : (c != 45) = true := bne_iff_ne.2 (by omega)
      have f7 : (c == 45) = false := beq_eq_false_iff_ne.2 (by omega)
      have f8 : (c != 95) = true := bne_iff_ne.2 (by omega)
      have f9 : (c == 95) = false := beq_eq_false_iff_ne.2 (by omega)
      have f10 : (c != 32) = true := bne_iff_ne.2 (by omega)
      have f11 : (c == 32) = false := beq_eq_false_iff_ne.2 (by omega)
      have f12 : decide (c < 160) = true := decide_eq_true (by omega)
      have f13 : decide (160 ≤ c) = false := decide_eq_false (by omega)
      rw [hg, if_pos rfl] at H
      clear h hc0 hcw hb hg hbr
      go_wp2
      go_roundg k1
      case measure => have := HK.out; omega
      case rel => exact ⟨wrap64 (n + 1), p2, by first | rfl | (simp; done), ⟨H⟩, ⟨by have := HK.out; omega⟩, rfl⟩
     ·have hg : nameRune c = false := by unfold nameRune; simp; omega
      have f0 : decide (97 ≤ c) = false := decide_eq_false (by omega)
      have f1 : decide (65 ≤ c) = false := decide_eq_false (by omega)
      have f2 : decide (48 ≤ c) = true := decide_eq_true (by omega)
      have f3 : decide (c ≤ 122) = true := decide_eq_true (by omega)
      have f4 : decide (c ≤ 90) = true := decide_eq_true (by omega)
      have f5 : decide (c ≤ 57) = false := decide_eq_false (by omega)
      have f6 : (c != 45) = true := bne_iff_ne.2 (by omega)
      have f7 : (c == 45) = false := beq_eq_false_iff_ne.2 (by omega)
      have f8 : (c != 95) = true := bne_iff_ne.2 (by omega)
      have f9 : (c == 95) = false := beq_eq_false_iff_ne.2 (by omega)
      have f10 : (c != 32) = true := bne_iff_ne.2 (by omega)
      have f11 : (c == 32) = false := beq_eq_false_iff_ne.2 (by omega)
      have f12 : decide (c < 160) = true := decide_eq_true (by omega)
      have f13 : decide (160 ≤ c) = false := decide_eq_false (by omega)
      rw [hg, if_neg (by decide)] at H
      clear h hc0 hcw hb hg hbr
      go_wp2
      obtain rfl := Option.some.inj H
      go_ret
      exact ⟨rfl, below_iter _ _ _⟩
     ·have hg : nameRune c = true := by unfold nameRune; simp; omega
      have f0 : decide (97 ≤ c) = false := decide_eq_false (by omega)
      have f1 : decide (65 ≤ c) = true := decide_eq_true (by omega)
      have f2 : decide (48 ≤ c) = true := decide_eq_true (by omega)
      have f3 : decide (c ≤ 122) = true := decide_eq_true (by omega)
      have f4 : decide (c ≤ 90) = true := decide_eq_true (by omega)
      have f5 : decide (c ≤ 57) = false := decide_eq_false (by omega)
      have f6 : (c != 45) = true := bne_iff_ne.2 (by omega)
      have f7 : (c == 45) = false := beq_eq_false_iff_ne.2 (by omega)
      have f8 : (c != 95) = true := bne_iff_ne.2 (by omega)
      have f9 : (c == 95) = false := beq_eq_false_iff_ne.2 (by omega)
      have f10 : (c != 32) = true := bne_iff_ne.2 (by omega)
      have f11 : (c == 32) = false := beq_eq_false_iff_ne.2 (by omega)
      have f12 : decide (c < 160) = true := decide_eq_true (by omega)
      have f13 : decide (160 ≤ c) = false := decide_eq_false (by omega)
      rw [hg, if_pos rfl] at H
      clear h hc0 hcw hb hg hbr
      go_wp2
      go_roundg k1
      case measure => have := HK.out; omega
      case rel => exact ⟨wrap64 (n + 1), p2, by first | rfl | (simp; done), ⟨H⟩, ⟨by have := HK.out; omega⟩, rfl⟩
     ·have hg : nameRune c = false := by unfold nameRune; simp; omega
      have f0 : decide (97 ≤ c) = false := decide_eq_false (by omega)
      have f1 : decide (65 ≤ c) = true := decide_eq_true (by omega)
      have f2 : decide (48 ≤ c) = true := decide_eq_true (by omega)
      have f3 : decide (c ≤ 122) = true := decide_eq_true (by omega)
      have f4 : decide (c ≤ 90) = false := decide_eq_false (by omega)
      have f5 : decide (c ≤ 57) = false := decide_eq_false (by omega)
      have f6 : (c != 45) = true := bne_iff_ne.2 (by omega)
      have f7 : (c == 45) = false := beq_eq_false_iff_ne.2 (by omega)
      have f8 : (c != 95) = true := bne_iff_ne.2 (by omega)
      have f9 : (c == 95) = false := beq_eq_false_iff_ne.2 (by omega)
      have f10 : (c != 32) = true := bne_iff_ne.2 (by omega)
      have f11 : (c == 32) = false := beq_eq_false_iff_ne.2 (by omega)
      have f12 : decide (c < 160) = true := decide_eq_true (by omega)
      have f13 : decide (160 ≤ c) = false := decide_eq_false (by omega)
      rw [hg, if_neg (by decide)] at H
      clear h hc0 hcw hb hg hbr
      go_wp2
      obtain rfl := Option.some.inj H
      go_ret
      exact ⟨rfl, below_iter _ _ _⟩
     ·have hg : nameRune c = true := by unfold nameRune; simp; omega
      have f0 : decide (97 ≤ c) = false := decide_eq_false (by omega)
      have f1 : decide (65 ≤ c) = true := decide_eq_true (by omega)
      have f2 : decide (48 ≤ c) = true := decide_eq_true (by omega)
      have f3 : decide (c ≤ 122) = true := decide_eq_true (by omega)
      have f4 : decide (c ≤ 90) = false := decide_eq_false (by omega)
      have f5 : decide (c ≤ 57) = false := decide_eq_false (by omega)
      have f6 : (c != 45) = true := bne_iff_ne.2 (by omega)
      have f7 : (c == 45) = false := beq_eq_false_iff_ne.2 (by omega)
      have f8 : (c != 95) = false := bne_eq_false_iff_eq.2 (by omega)
      have f9 : (c == 95) = true := beq_iff_eq.2 (by omega)
      have f10 : (c != 32) = true := bne_iff_ne.2 (by omega)
      have f11 : (c == 32) = false := beq_eq_false_iff_ne.2 (by omega)
      have f12 : decide (c < 160) = true := decide_eq_true (by omega)
      have f13 : decide (160 ≤ c) = false := decide_eq_false (by omega)
      rw [hg, if_pos rfl] at H
      clear h hc0 hcw hb hg hbr
      go_wp2
      go_roundg k1
      case measure => have := HK.out; omega
      case rel => exact ⟨wrap64 (n + 1), p2, by first | rfl | (simp; done), ⟨H⟩, ⟨by have := HK.out; omega⟩, rfl⟩
     ·have hg : nameRune c = false := by unfold nameRune; simp; omega
      have f0 : decide (97 ≤ c) = false := decide_eq_false (by omega)
      have f1 : decide (65 ≤ c) = true := decide_eq_true (by omega)
      have f2 : decide (48 ≤ c) = true := decide_eq_true (by omega)
      have f3 : decide (c ≤ 122) = true := decide_eq_true (by omega)
      have f4 : decide (c ≤ 90) = false := decide_eq_false (by omega)
      have f5 : decide (c ≤ 57) = false := decide_eq_false (by omega)
      have f6 : (c != 45) = true := bne_iff_ne.2 (by omega)
      have f7 : (c == 45) = false := beq_eq_false_iff_ne.2 (by omega)
      have f8 : (c != 95) = true := bne_iff_ne.2 (by omega)
      have f9 : (c == 95) = false := beq_eq_false_iff_ne.2 (by omega)
      have f10 : (c != 32) = true := bne_iff_ne.2 (by omega)
      have f11 : (c == 32) = false := beq_eq_false_iff_ne.2 (by omega)
      have f12 : decide (c < 160) = true := decide_eq_true (by omega)
      have f13 : decide (160 ≤ c) = false := decide_eq_false (by omega)
      rw [hg, if_neg (by decide)] at H
      clear h hc0 hcw hb hg hbr
      go_wp2
      obtain rfl := Option.some.inj H
      go_ret
      exact ⟨rfl, below_iter _ _ _⟩
     ·have hg : nameRune c = true := by unfold nameRune; simp; omega
      have f0 : decide (97 ≤ c) = true := decide_eq_true (by omega)
      have f1 : decide (65 ≤ c) = true := decide_eq_true (by omega)
      have f2 : decide (48 ≤ c) = true := decide_eq_true (by omega)
      have f3 : decide (c ≤ 122) = true := decide_eq_true (by omega)
      have f4 : decide (c ≤ 90) = false := decide_eq_false (by omega)
      have f5 : decide (c ≤ 57) = false := decide_eq_false (by omega)
      have f6 : (c != 45) = true := bne_iff_ne.2 (by omega)
      have f7 : (c == 45) = false := beq_eq_false_iff_ne.2 (by omega)
      have f8 : (c != 95) = true := bne_iff_ne.2 (by omega)
      have f9 : (c == 95) = false := beq_eq_false_iff_ne.2 (by omega)
      have f10 : (c != 32) = true := bne_iff_ne.2 (by omega)
      have f11 : (c == 32) = false := beq_eq_false_iff_ne.2 (by omega)
      have f12 : decide (c < 160) = true := decide_eq_true (by omega)
      have f13 : decide (160 ≤ c) = false := decide_eq_false (by omega)
      rw [hg, if_pos rfl] at H
      clear h hc0 hcw hb hg hbr
      go_wp2
      go_roundg k1
      case measure => have := HK.out; omega
      case rel => exact ⟨wrap64 (n + 1), p2, by first | rfl | (simp; done), ⟨H⟩, ⟨by have := HK.out; omega⟩, rfl⟩
     ·have hg : nameRune c = false := by unfold nameRune; simp; omega
      have f0 : decide (97 ≤ c) = true := decide_eq_true (by omega)
      have f1 : decide (65 ≤ c) = true := decide_eq_true (by omega)
      have f2 : decide (48 ≤ c) = true := decide_eq_true (by omega)
      have f3 : decide (c ≤ 122) = false := decide_eq_false (by omega)
      have f4 : decide (c ≤ 90) = false := decide_eq_false (by omega)
      have f5 : decide (c ≤ 57) = false := decide_eq_false (by omega)
      have f6 : (c != 45) = true := bne_iff_ne.2 (by omega)
      have f7 : (c == 45) = false := beq_eq_false_iff_ne.2 (by omega)
      have f8 : (c != 95) = true := bne_iff_ne.2 (by omega)
      have f9 : (c == 95) = false := beq_eq_false_iff_ne.2 (by omega)
      have f10 : (c != 32) = true := bne_iff_ne.2 (by omega)
      have f11 : (c == 32) = false := beq_eq_false_iff_ne.2 (by omega)
      have f12 : decide (c < 160) = true := decide_eq_true (by omega)
      have f13 : decide (160 ≤ c) = false := decide_eq_false (by omega)
      rw [hg, if_neg (by decide)] at H
      clear h hc0 hcw hb hg hbr
      go_wp2
      obtain rfl := Option.some.inj H
      go_ret
      exact ⟨rfl, below_iter _ _ _⟩
     ·have hg : nameRune c = true := by unfold nameRune; simp; omega
      have f0 : decide (97 ≤ c) = true := decide_eq_true (by omega)
      have f1 : decide (65 ≤ c) = true := decide_eq_true (by omega)
      have f2 : decide (48 ≤ c) = true := decide_eq_true (by omega)
      have f3 : decide (c ≤ 122) = false := decide_eq_false (by omega)
      have f4 : decide (c ≤ 90) = false := decide_eq_false (by omega)
      have f5 : decide (c ≤ 57) = false := decide_eq_false (by omega)
      have f6 : (c != 45) = true := bne_iff_ne.2 (by omega)
      have f7 : (c == 45) = false := beq_eq_false_iff_ne.2 (by omega)
      have f8 : (c != 95) = true := bne_iff_ne.2 (by omega)
      have f9 : (c == 95) = false := beq_eq_false_iff_ne.2 (by omega)
      have f10 : (c != 32) = true := bne_iff_ne.2 (by omega)
      have f11 : (c == 32) = false := beq_eq_false_iff_ne.2 (by omega)
      have f12 : decide (c < 160) = false := decide_eq_false (by omega)
      have f13 : decide (160 ≤ c) = true := decide_eq_true (by omega)
      rw [hg, if_pos rfl] at H
      clear h hc0 hcw hb hg hbr
      go_wp2
      go_roundg k1
      case measure => have := HK.out; omega
      case rel => exact ⟨wrap64 (n + 1), p2, by first | rfl | (simp; done), ⟨H⟩, ⟨by have := HK.out; omega⟩, rfl⟩
   ·rw [if_neg hp] at H
    have hnx : ∀ ty, (Instr.next (.pointer (some ⟨w.heap.size, 0, none⟩)) true ty).run Tryd.prog (w.iter s pos) = _ := fun ty => run_next_end w s pos ty hp
    go_wp2
    ·rename_i a1 a2 a3 a4
     have e0 : bt s 0 = ((s[0]'a3).toNat : Int) := (bt_at s 0 a3).symm
     rw [if_pos a1, if_pos a2, if_pos a3, e0, a4] at H
     obtain rfl := Option.some.inj H
     go_ret
     exact ⟨rfl, below_iter _ _ _⟩
    ·rename_i a1 a2 a3 a4 a5
     have e0 : bt s 0 = ((s[0]'a3).toNat : Int) := (bt_at s 0 a3).symm
     have en : ((s.size : Int) - 1) = ((s.size - 1 : Nat) : Int) := by omega
     have e1 := bt_at s ((s.size - 1 : Nat) : Int) (by rw [Int.toNat_natCast]; omega)
     have e2 : (((s[0]'a3).toNat : Int) != 32) = true := bne_iff_ne.2 a4
     rw [if_pos a1, if_pos a2, if_pos a3, e0, e2, Bool.true_and, en, ← e1] at H
     obtain rfl := Option.some.inj H
     go_ret
     refine ⟨?_, below_iter _ _ _⟩
     show Ending.returned (.bool (((s[0]'a3).toNat : Int) != 32 && _)) = _
     rw [e2, Bool.true_and]
     rfl
    ·have a1 : 1 ≤ n := by assumption
     have a2 : n ≤ 24 := by assumption
     have a3 : ¬ 0 < s.size := by assumption
     rw [if_pos a1, if_pos a2, if_neg a3] at H
     cases H
    ·rename_i a1 a2
     rw [if_pos a1, if_neg (by omega)] at H
     obtain rfl := Option.some.inj H
     go_ret
     exact ⟨rfl, below_iter _ _ _⟩
    ·rename_i a1
     rw [if_neg (by omega)] at H
     obtain rfl := Option.some.inj H
     go_ret
     exact ⟨rfl, below_iter _ _ _⟩

/-! ### spec_l16Version: function 48 -/
def spec_l16Version.f (l0 : List Int) : Option (Bool) := if (l0.length : Int) = 3 then (if 0 < (l0.length : Int) then ((spec_l1In.f (rd l0 0) 0 999).bind fun t142 => (if t142 = true then (if 1 < (l0.length : Int) then ((spec_l1In.f (rd l0 1) 0 999).bind fun t144 => (if t144 = true then (if 2 < (l0.length : Int) then ((spec_l1In.f (rd l0 2) 0 999).bind fun t146 => (some t146)) else (none)) else (some false))) else (none)) else (some false))) else (none)) else (some false)
set_option maxHeartbeats 8000000 in
set_option maxRecDepth 100000 in
theorem spec_l16Version.calls (A0 : Option Addr) (c0 : Nat) (l0 : List Int) (r : Bool) (w : World) (hr0 : Kd.C (Kd.int .i64) w A0 l0.length l0) (hc0 : l0.length ≤ c0) (h : spec_l16Version.f l0 = some r) :
  Calls Tryd.prog 48 #[.slice A0 l0.length c0] w fun e w' => e = .returned (.bool r) ∧ Drawn0 w w' := by
 have HR0 := Aside0.mk hr0
 have HC0 := Aside0.mk hc0
 clear hr0 hc0
 have H : (if (l0.length : Int) = 3 then (if 0 < (l0.length : Int) then ((spec_l1In.f (rd l0 0) 0 999).bind fun t142 => (if t142 = true then (if 1 < (l0.length : Int) then ((spec_l1In.f (rd l0 1) 0 999).bind fun t144 => (if t144 = true then (if 2 < (l0.length : Int) then ((spec_l1In.f (rd l0 2) 0 999).bind fun t146 => (some t146)) else (none)) else (some false))) else (none)) else (some false))) else (none)) else (some false)) = some r := h
 clear h
 by_cases c2 : (l0.length : Int) = 3
 ·rw [if_pos c2] at H
  have c2b0 : ((l0.length : Int) == 3) = true := beq_iff_eq.mpr c2
  have c2b1 : ((l0.length : Int) != 3) = false := bne_eq_false_iff_eq.mpr c2
  clear c2
  by_cases c3 : 0 < (l0.length : Int)
  ·rw [if_pos c3] at H
   have c3b0 : decide (0 < (l0.length : Int)) = true := decide_eq_true c3
   have c3b1 : decide (0 < l0.length) = true := decide_eq_true (by omega)
   clear c3
   replace H := Option.bind_eq_some_iff.mp H
   obtain ⟨t142, A40, H⟩ := H
   replace H : (if t142 = true then (if 1 < (l0.length : Int) then ((spec_l1In.f (rd l0 1) 0 999).bind fun t144 => (if t144 = true then (if 2 < (l0.length : Int) then ((spec_l1In.f (rd l0 2) 0 999).bind fun t146 => (some t146)) else (none)) else (some false))) else (none)) else (some false)) = some r := H
   have A4 := Aside0.mk A40
   clear A40
   by_cases c5 : t142 = true
   ·subst c5
    have H1 : (if 1 < (l0.length : Int) then ((spec_l1In.f (rd l0 1) 0 999).bind fun t144 => (if t144 = true then (if 2 < (l0.length : Int) then ((spec_l1In.f (rd l0 2) 0 999).bind fun t146 => (some t146)) else (none)) else (some false))) else (none)) = some r := by first | (rw [if_pos rfl] at H; exact H) | with_reducible rfl
    clear H
    have H := H1
    clear H1
    by_cases c6 : 1 < (l0.length : Int)
    ·rw [if_pos c6] at H
     have c6b0 : decide (1 < (l0.length : Int)) = true := decide_eq_true c6
     have c6b1 : decide (1 < l0.length) = true := decide_eq_true (by omega)
     clear c6
     replace H := Option.bind_eq_some_iff.mp H
     obtain ⟨t144, A70, H⟩ := H
     replace H : (if t144 = true then (if 2 < (l0.length : Int) then ((spec_l1In.f (rd l0 2) 0 999).bind fun t146 => (some t146)) else (none)) else (some false)) = some r := H
     have A7 := Aside0.mk A70
     clear A70
     by_cases c8 : t144 = true
     ·subst c8
      have H1 : (if 2 < (l0.length : Int) then ((spec_l1In.f (rd l0 2) 0 999).bind fun t146 => (some t146)) else (none)) = some r := by first | (rw [if_pos rfl] at H; exact H) | with_reducible rfl
      clear H
      have H := H1
      clear H1
      by_cases c9 : 2 < (l0.length : Int)
      ·rw [if_pos c9] at H
       have c9b0 : decide (2 < (l0.length : Int)) = true := decide_eq_true c9
       have c9b1 : decide (2 < l0.length) = true := decide_eq_true (by omega)
       clear c9
       replace H := Option.bind_eq_some_iff.mp H
       obtain ⟨t146, A100, H⟩ := H
       replace H : (some t146) = some r := H
       have A10 := Aside0.mk A100
       clear A100
       obtain rfl := Option.some.inj H
       have p141 : 0 ≤ (0 : Int) := (by omega)
       have q141 : 0 < (l0.length : Int) := of_decide_eq_true (by first | (with_reducible assumption) | assumption)
       obtain ⟨ad141, e141, hx141_0⟩ := Kd.at_int HR0.out 0 p141 q141
       cases e141
       have qi141 : (0 < l0.length) = True := eq_true (by omega)
       (try rw [show ((0 : Int)).toNat = 0 from rfl] at hx141_0)
       (try rw [Addr.add_zero'] at hx141_0)
       replace p141 := eq_true p141
       replace q141 := eq_true q141
       go_enter Tryd.func48, Tryd.ntmps48
       go_wp2_with (first | (go_at_call 39; (with_reducible refine (spec_l1In.calls (rd l0 0) 0 999 true _ A4.out).mono ?_); rintro e w' ⟨rfl, ⟨nd, rfl⟩⟩; have p143 : 0 ≤ (1 : Int) := (by omega); have q143 : 1 < (l0.length : Int) := of_decide_eq_true (by first | (with_reducible assumption) | assumption); obtain ⟨ad143, e143, hx143_0⟩ := Kd.at_int HR0.out 1 p143 q143; obtain rfl : ad141 = ad143 := (by injection e143); (try simp only [show (1 : Int).toNat = 1 from rfl, Nat.reduceMul, Nat.reduceEqDiff, Go.Addr.add, ↓reduceIte] at hx143_0); have qi143 : (1 < l0.length) = True := eq_true (by omega); (try rw [show ((1 : Int)).toNat = 1 from rfl] at hx143_0); replace p143 := eq_true p143; replace q143 := eq_true q143) | (go_at_call 39; (with_reducible refine (spec_l1In.calls (rd l0 1) 0 999 true _ A7.out).mono ?_); rintro e w' ⟨rfl, ⟨nd, rfl⟩⟩; have p145 : 0 ≤ (2 : Int) := (by omega); have q145 : 2 < (l0.length : Int) := of_decide_eq_true (by first | (with_reducible assumption) | assumption); obtain ⟨ad145, e145, hx145_0⟩ := Kd.at_int HR0.out 2 p145 q145; obtain rfl : ad141 = ad145 := (by injection e145); (try simp only [show (2 : Int).toNat = 2 from rfl, Nat.reduceMul, Nat.reduceEqDiff, Go.Addr.add, ↓reduceIte] at hx145_0); have qi145 : (2 < l0.length) = True := eq_true (by omega); (try rw [show ((2 : Int)).toNat = 2 from rfl] at hx145_0); replace p145 := eq_true p145; replace q145 := eq_true q145) | (go_at_call 39; (with_reducible refine (spec_l1In.calls (rd l0 2) 0 999 t146 _ A10.out).mono ?_); rintro e w' ⟨rfl, ⟨nd, rfl⟩⟩))
       go_ret
       exact ⟨by first | rfl | (simp; done) | (simp [*]; done), by repeat (first | exact Drawn0.refl _ | apply Drawn0.step)⟩
      ·rw [if_neg c9] at H
       exact absurd H (by simp)
     ·replace c8 := Bool.eq_false_iff.mpr c8
      subst c8
      have H1 : (some false) = some r := by first | (rw [if_neg (show ¬ (false = true) by decide)] at H; exact H) | with_reducible rfl
      clear H
      have H := H1
      clear H1
      obtain rfl := Option.some.inj H
      have p141 : 0 ≤ (0 : Int) := (by omega)
      have q141 : 0 < (l0.length : Int) := of_decide_eq_true (by first | (with_reducible assumption) | assumption)
      obtain ⟨ad141, e141, hx141_0⟩ := Kd.at_int HR0.out 0 p141 q141
      cases e141
      have qi141 : (0 < l0.length) = True := eq_true (by omega)
      (try rw [show ((0 : Int)).toNat = 0 from rfl] at hx141_0)
      (try rw [Addr.add_zero'] at hx141_0)
      replace p141 := eq_true p141
      replace q141 := eq_true q141
      go_enter Tryd.func48, Tryd.ntmps48
      go_wp2_with (first | (go_at_call 39; (with_reducible refine (spec_l1In.calls (rd l0 0) 0 999 true _ A4.out).mono ?_); rintro e w' ⟨rfl, ⟨nd, rfl⟩⟩; have p143 : 0 ≤ (1 : Int) := (by omega); have q143 : 1 < (l0.length : Int) := of_decide_eq_true (by first | (with_reducible assumption) | assumption); obtain ⟨ad143, e143, hx143_0⟩ := Kd.at_int HR0.out 1 p143 q143; obtain rfl : ad141 = ad143 := (by injection e143); (try simp only [show (1 : Int).toNat = 1 from rfl, Nat.reduceMul, Nat.reduceEqDiff, Go.Addr.add, ↓reduceIte] at hx143_0); have qi143 : (1 < l0.length) = True := eq_true (by omega); (try rw [show ((1 : Int)).toNat = 1 from rfl] at hx143_0); replace p143 := eq_true p143; replace q143 := eq_true q143) | (go_at_call 39; (with_reducible refine (spec_l1In.calls (rd l0 1) 0 999 false _ A7.out).mono ?_); rintro e w' ⟨rfl, ⟨nd, rfl⟩⟩))
      go_ret
      exact ⟨by first | rfl | (simp; done) | (simp [*]; done), by repeat (first | exact Drawn0.refl _ | apply Drawn0.step)⟩
    ·rw [if_neg c6] at H
     exact absurd H (by simp)
   ·replace c5 := Bool.eq_false_iff.mpr c5
    subst c5
    have H1 : (some false) = some r := by first | (rw [if_neg (show ¬ (false = true) by decide)] at H; exact H) | with_reducible rfl
    clear H
    have H := H1
    clear H1
    obtain rfl := Option.some.inj H
    have p141 : 0 ≤ (0 : Int) := (by omega)
    have q141 : 0 < (l0.length : Int) := of_decide_eq_true (by first | (with_reducible assumption) | assumption)
    obtain ⟨ad141, e141, hx141_0⟩ := Kd.at_int HR0.out 0 p141 q141
    cases e141
    have qi141 : (0 < l0.length) = True := eq_true (by omega)
    (try rw [show ((0 : Int)).toNat = 0 from rfl] at hx141_0)
    (try rw [Addr.add_zero'] at hx141_0)
    replace p141 := eq_true p141
    replace q141 := eq_true q141
    go_enter Tryd.func48, Tryd.ntmps48
    go_wp2_with (first | (go_at_call 39; (with_reducible refine (spec_l1In.calls (rd l0 0) 0 999 false _ A4.out).mono ?_); rintro e w' ⟨rfl, ⟨nd, rfl⟩⟩))
    go_ret
    exact ⟨by first | rfl | (simp; done) | (simp [*]; done), by repeat (first | exact Drawn0.refl _ | apply Drawn0.step)⟩
  ·rw [if_neg c3] at H
   exact absurd H (by simp)
 ·rw [if_neg c2] at H
  have c2b0 : ((l0.length : Int) == 3) = false := beq_eq_false_iff_ne.mpr c2
  have c2b1 : ((l0.length : Int) != 3) = true := bne_iff_ne.mpr c2
  obtain rfl := Option.some.inj H
  go_enter Tryd.func48, Tryd.ntmps48
  go_wp2
  go_ret
  exact ⟨by first | rfl | (simp; done) | (simp [*]; done), by repeat (first | exact Drawn0.refl _ | apply Drawn0.step)⟩

end Go.Proofs.YtekjcdcmiingmaaDoor.PFnExactPaperText
