-- Made by a program of this repository (xp.py over the kit's print) out of the translation. Lean checks it.
import Derived.Test.YtekjcdcmiingmaaDoorPFnExactPaperOkx0
namespace Go.Proofs.YtekjcdcmiingmaaDoor.PFnExactPaperOk
open Go.RowKit Go.Proofs.YtekjcdcmiingmaaDoorW.PrintWords Go.Proofs.YtekjcdcmiingmaaDoorW.PrintLast Go.Proofs.YtekjcdcmiingmaaDoorW.PrintMore
attribute [local go_sem] max2_int min2_int max_two min_two max_three min_three max_four min_four   -- for this text's walks alone
set_option linter.unusedVariables false
set_option linter.unusedSimpArgs false

/-! ### laws_szIntS: function 60 -/
def laws_szIntS.f (l0 : List Int) (a1 : Int) : Option (Int) := if (wrap64 (a1 - (l0.length : Int))) < 0 then (some (-1)) else (some (wrap64 (a1 - (l0.length : Int))))
set_option maxHeartbeats 8000000 in
set_option maxRecDepth 100000 in
theorem laws_szIntS.calls (A0 : Option Addr) (c0 : Nat) (l0 : List Int) (a1 : Int) (r : Int) (w : World) (hr0 : Kd.C (Kd.int .i64) w A0 l0.length l0) (hc0 : l0.length ≤ c0) (h : laws_szIntS.f l0 a1 = some r) :
    Calls Tryd.prog 60 #[.slice A0 l0.length c0, .int .i64 a1] w fun e w' => e = .returned (.int .i64 r) ∧ Drawn0 w w' := by
  have HR0 := Aside0.mk hr0
  have HC0 := Aside0.mk hc0
  clear hr0 hc0
  have H : (if (wrap64 (a1 - (l0.length : Int))) < 0 then (some (-1)) else (some (wrap64 (a1 - (l0.length : Int))))) = some r := h
  clear h
  by_cases c3 : (wrap64 (a1 - (l0.length : Int))) < 0
  · rw [if_pos c3] at H
    have c3b0 : decide ((wrap64 (a1 - (l0.length : Int))) < 0) = true := decide_eq_true c3
    clear c3
    obtain rfl := Option.some.inj H
    go_enter Tryd.func60, Tryd.ntmps60
    go_wp2
    go_ret
    exact ⟨by first | rfl | (simp; done) | (simp [*]; done), by repeat (first | exact Drawn0.refl _ | apply Drawn0.step)⟩
  · rw [if_neg c3] at H
    have c3b0 : decide ((wrap64 (a1 - (l0.length : Int))) < 0) = false := decide_eq_false c3
    clear c3
    obtain rfl := Option.some.inj H
    go_enter Tryd.func60, Tryd.ntmps60
    go_wp2
    go_ret
    exact ⟨by first | rfl | (simp; done) | (simp [*]; done), by repeat (first | exact Drawn0.refl _ | apply Drawn0.step)⟩

/-! ### laws_szByteS: function 61 -/
def laws_szByteS.f (l0 : List Int) (a1 : Int) : Option (Int) := if (wrap64 (a1 - (l0.length : Int))) < 0 then (some (-1)) else (some (wrap64 (a1 - (l0.length : Int))))
set_option maxHeartbeats 8000000 in
set_option maxRecDepth 100000 in
theorem laws_szByteS.calls (A0 : Option Addr) (c0 : Nat) (l0 : List Int) (a1 : Int) (r : Int) (w : World) (hr0 : Kd.C (Kd.int .u8) w A0 l0.length l0) (hc0 : l0.length ≤ c0) (h : laws_szByteS.f l0 a1 = some r) :
    Calls Tryd.prog 61 #[.slice A0 l0.length c0, .int .i64 a1] w fun e w' => e = .returned (.int .i64 r) ∧ Drawn0 w w' := by
  have HR0 := Aside0.mk hr0
  have HC0 := Aside0.mk hc0
  clear hr0 hc0
  have H : (if (wrap64 (a1 - (l0.length : Int))) < 0 then (some (-1)) else (some (wrap64 (a1 - (l0.length : Int))))) = some r := h
  clear h
  by_cases c3 : (wrap64 (a1 - (l0.length : Int))) < 0
  · rw [if_pos c3] at H
    have c3b0 : decide ((wrap64 (a1 - (l0.length : Int))) < 0) = true := decide_eq_true c3
    clear c3
    obtain rfl := Option.some.inj H
    go_enter Tryd.func61, Tryd.ntmps61
    go_wp2
    go_ret
    exact ⟨by first | rfl | (simp; done) | (simp [*]; done), by repeat (first | exact Drawn0.refl _ | apply Drawn0.step)⟩
  · rw [if_neg c3] at H
    have c3b0 : decide ((wrap64 (a1 - (l0.length : Int))) < 0) = false := decide_eq_false c3
    clear c3
    obtain rfl := Option.some.inj H
    go_enter Tryd.func61, Tryd.ntmps61
    go_wp2
    go_ret
    exact ⟨by first | rfl | (simp; done) | (simp [*]; done), by repeat (first | exact Drawn0.refl _ | apply Drawn0.step)⟩

/-! ### laws_szPaper: function 25 -/
def laws_szPaper.f (a0_0 : ByteArray) (l0_1 : List Int) (a0_2 : ByteArray) (l0_3 : List Int) (a0_4 : Int) (l0_5 : List Int) (a0_6 : Int) (l0_7 : List Int) (a1 : Int) : Option (Int) := if (wrap64 (a1 - (a0_0.size : Int))) < 0 then (some (-1)) else ((laws_szIntS.f l0_1 (wrap64 (a1 - (a0_0.size : Int)))).bind fun t102 => (if t102 < 0 then (some (-1)) else (if (wrap64 (t102 - (a0_2.size : Int))) < 0 then (some (-1)) else ((laws_szIntS.f l0_3 (wrap64 (t102 - (a0_2.size : Int)))).bind fun t103 => (if t103 < 0 then (some (-1)) else ((laws_szByteS.f l0_5 t103).bind fun t104 => (if t104 < 0 then (some (-1)) else ((laws_szByteS.f l0_7 t104).bind fun t105 => (if t105 < 0 then (some (-1)) else (some t105))))))))))
set_option maxHeartbeats 8000000 in
set_option maxRecDepth 100000 in
theorem laws_szPaper.calls (a0_0 : ByteArray) (A0_1 : Option Addr) (c0_1 : Nat) (l0_1 : List Int) (a0_2 : ByteArray) (A0_3 : Option Addr) (c0_3 : Nat) (l0_3 : List Int) (a0_4 : Int) (A0_5 : Option Addr) (c0_5 : Nat) (l0_5 : List Int) (a0_6 : Int) (A0_7 : Option Addr) (c0_7 : Nat) (l0_7 : List Int) (a1 : Int) (r : Int) (w : World) (hr0_1 : Kd.C (Kd.int .i64) w A0_1 l0_1.length l0_1) (hc0_1 : l0_1.length ≤ c0_1) (hr0_3 : Kd.C (Kd.int .i64) w A0_3 l0_3.length l0_3) (hc0_3 : l0_3.length ≤ c0_3) (hr0_5 : Kd.C (Kd.int .u8) w A0_5 l0_5.length l0_5) (hc0_5 : l0_5.length ≤ c0_5) (hr0_7 : Kd.C (Kd.int .u8) w A0_7 l0_7.length l0_7) (hc0_7 : l0_7.length ≤ c0_7) (h : laws_szPaper.f a0_0 l0_1 a0_2 l0_3 a0_4 l0_5 a0_6 l0_7 a1 = some r) :
    Calls Tryd.prog 25 #[.agg #[.string a0_0, .slice A0_1 l0_1.length c0_1, .string a0_2, .slice A0_3 l0_3.length c0_3, .int .i64 a0_4, .slice A0_5 l0_5.length c0_5, .int .i64 a0_6, .slice A0_7 l0_7.length c0_7], .int .i64 a1] w fun e w' => e = .returned (.int .i64 r) ∧ Below w.heap.size w w' := by
  have hu35 := Tryd.underlying35
  have HR0_1 := Aside0.mk hr0_1
  have HC0_1 := Aside0.mk hc0_1
  clear hr0_1 hc0_1
  have HR0_3 := Aside0.mk hr0_3
  have HC0_3 := Aside0.mk hc0_3
  clear hr0_3 hc0_3
  have HR0_5 := Aside0.mk hr0_5
  have HC0_5 := Aside0.mk hc0_5
  clear hr0_5 hc0_5
  have HR0_7 := Aside0.mk hr0_7
  have HC0_7 := Aside0.mk hc0_7
  clear hr0_7 hc0_7
  have HB := Aside0.mk (Below.refl w.heap.size w)
  have H : (if (wrap64 (a1 - (a0_0.size : Int))) < 0 then (some (-1)) else ((laws_szIntS.f l0_1 (wrap64 (a1 - (a0_0.size : Int)))).bind fun t102 => (if t102 < 0 then (some (-1)) else (if (wrap64 (t102 - (a0_2.size : Int))) < 0 then (some (-1)) else ((laws_szIntS.f l0_3 (wrap64 (t102 - (a0_2.size : Int)))).bind fun t103 => (if t103 < 0 then (some (-1)) else ((laws_szByteS.f l0_5 t103).bind fun t104 => (if t104 < 0 then (some (-1)) else ((laws_szByteS.f l0_7 t104).bind fun t105 => (if t105 < 0 then (some (-1)) else (some t105))))))))))) = some r := h
  clear h
  by_cases c3 : (wrap64 (a1 - (a0_0.size : Int))) < 0
  · rw [if_pos c3] at H
    have c3b0 : decide ((wrap64 (a1 - (a0_0.size : Int))) < 0) = true := decide_eq_true c3
    clear c3
    obtain rfl := Option.some.inj H
    go_enter Tryd.func25, Tryd.ntmps25
    go_wp2_with (first | ((with_reducible refine gate_dst (N := 2) rfl ?_); refine box_event ?hg (N := 2) ?hd (cs := #[.string a0_0, .slice A0_1 l0_1.length c0_1, .string a0_2, .slice A0_3 l0_3.length c0_3, .int .i64 a0_4, .slice A0_5 l0_5.length c0_5, .int .i64 a0_6, .slice A0_7 l0_7.length c0_7]) (t := 35) ?hr ?_; (case hd => rfl); (case hg => rfl); (case hr => first | (go_simp; done) | (go_simp; rfl)); intro gb101 hg w4 hbox hb; have n0_ := Aside0.mk (below_step (by repeat (first | (with_reducible first | exact HB.out | apply below_alloc | apply pw_below_drewN | apply below_drew1) | exact HB.out)) hb); have n1_ := Aside0.mk (hbox); have n2_ := Aside0.mk ((by rw [hg]; exact (below_size (by repeat (first | (with_reducible first | exact HB.out | apply below_alloc | apply pw_below_drewN | apply below_drew1) | exact HB.out))) : w.heap.size ≤ gb101)); have n3_ := Aside0.mk ((by rw [hg]; exact (below_size (by repeat (first | (with_reducible first | exact HB.out | apply below_alloc | apply pw_below_drewN | apply below_drew1) | exact HB.out))) : w.heap.size ≤ gb101)); clear HB; have HB := n0_; have BK101 := n1_; have GW101 := n2_; have GE101 := n3_; clear n0_ n1_ n2_ n3_; clear hb hbox hg; have hcz5_0 : w4.cell? ⟨gb101, 0, none⟩ = some (.string a0_0) := (blk_cell BK101.out 0).trans rfl; have hcz5_1 : w4.cell? ⟨gb101, 1, none⟩ = some (.slice A0_1 l0_1.length c0_1) := (blk_cell BK101.out 1).trans rfl; have hcz5_2 : w4.cell? ⟨gb101, 2, none⟩ = some (.string a0_2) := (blk_cell BK101.out 2).trans rfl; have hcz5_3 : w4.cell? ⟨gb101, 3, none⟩ = some (.slice A0_3 l0_3.length c0_3) := (blk_cell BK101.out 3).trans rfl; have hcz5_4 : w4.cell? ⟨gb101, 4, none⟩ = some (.int .i64 a0_4) := (blk_cell BK101.out 4).trans rfl; have hcz5_5 : w4.cell? ⟨gb101, 5, none⟩ = some (.slice A0_5 l0_5.length c0_5) := (blk_cell BK101.out 5).trans rfl; have hcz5_6 : w4.cell? ⟨gb101, 6, none⟩ = some (.int .i64 a0_6) := (blk_cell BK101.out 6).trans rfl; have hcz5_7 : w4.cell? ⟨gb101, 7, none⟩ = some (.slice A0_7 l0_7.length c0_7) := (blk_cell BK101.out 7).trans rfl; have hfz5_0 := blk_frozen BK101.out 0; have hfz5_1 := blk_frozen BK101.out 1; have hfz5_2 := blk_frozen BK101.out 2; have hfz5_3 := blk_frozen BK101.out 3; have hfz5_4 := blk_frozen BK101.out 4; have hfz5_5 := blk_frozen BK101.out 5; have hfz5_6 := blk_frozen BK101.out 6; have hfz5_7 := blk_frozen BK101.out 7))
    go_ret
    exact ⟨by first | rfl | (simp [errW_none, errW_some] <;> rfl) | (simp [*, errW_none, errW_some] <;> rfl), by repeat (first | (with_reducible first | exact HB.out | apply below_alloc | apply pw_below_drewN | apply below_drew1 | refine below_set ?_ GE101.out) | exact HB.out)⟩
  · rw [if_neg c3] at H
    have c3b0 : decide ((wrap64 (a1 - (a0_0.size : Int))) < 0) = false := decide_eq_false c3
    clear c3
    replace H := Option.bind_eq_some_iff.mp H
    obtain ⟨t102, A60, H⟩ := H
    replace H : (if t102 < 0 then (some (-1)) else (if (wrap64 (t102 - (a0_2.size : Int))) < 0 then (some (-1)) else ((laws_szIntS.f l0_3 (wrap64 (t102 - (a0_2.size : Int)))).bind fun t103 => (if t103 < 0 then (some (-1)) else ((laws_szByteS.f l0_5 t103).bind fun t104 => (if t104 < 0 then (some (-1)) else ((laws_szByteS.f l0_7 t104).bind fun t105 => (if t105 < 0 then (some (-1)) else (some t105))))))))) = some r := H
    have A6 := Aside0.mk A60
    clear A60
    by_cases c7 : t102 < 0
    · rw [if_pos c7] at H
      have c7b0 : decide (t102 < 0) = true := decide_eq_true c7
      clear c7
      obtain rfl := Option.some.inj H
      go_enter Tryd.func25, Tryd.ntmps25
      go_wp2_with (first | ((with_reducible refine gate_dst (N := 2) rfl ?_); refine box_event ?hg (N := 2) ?hd (cs := #[.string a0_0, .slice A0_1 l0_1.length c0_1, .string a0_2, .slice A0_3 l0_3.length c0_3, .int .i64 a0_4, .slice A0_5 l0_5.length c0_5, .int .i64 a0_6, .slice A0_7 l0_7.length c0_7]) (t := 35) ?hr ?_; (case hd => rfl); (case hg => rfl); (case hr => first | (go_simp; done) | (go_simp; rfl)); intro gb101 hg w8 hbox hb; have n0_ := Aside0.mk (below_step (by repeat (first | (with_reducible first | exact HB.out | apply below_alloc | apply pw_below_drewN | apply below_drew1) | exact HB.out)) hb); have n1_ := Aside0.mk (hbox); have n2_ := Aside0.mk ((by rw [hg]; exact (below_size (by repeat (first | (with_reducible first | exact HB.out | apply below_alloc | apply pw_below_drewN | apply below_drew1) | exact HB.out))) : w.heap.size ≤ gb101)); have n3_ := Aside0.mk ((by rw [hg]; exact (below_size (by repeat (first | (with_reducible first | exact HB.out | apply below_alloc | apply pw_below_drewN | apply below_drew1) | exact HB.out))) : w.heap.size ≤ gb101)); clear HB; have HB := n0_; have BK101 := n1_; have GW101 := n2_; have GE101 := n3_; clear n0_ n1_ n2_ n3_; clear hb hbox hg; have hcz9_0 : w8.cell? ⟨gb101, 0, none⟩ = some (.string a0_0) := (blk_cell BK101.out 0).trans rfl; have hcz9_1 : w8.cell? ⟨gb101, 1, none⟩ = some (.slice A0_1 l0_1.length c0_1) := (blk_cell BK101.out 1).trans rfl; have hcz9_2 : w8.cell? ⟨gb101, 2, none⟩ = some (.string a0_2) := (blk_cell BK101.out 2).trans rfl; have hcz9_3 : w8.cell? ⟨gb101, 3, none⟩ = some (.slice A0_3 l0_3.length c0_3) := (blk_cell BK101.out 3).trans rfl; have hcz9_4 : w8.cell? ⟨gb101, 4, none⟩ = some (.int .i64 a0_4) := (blk_cell BK101.out 4).trans rfl; have hcz9_5 : w8.cell? ⟨gb101, 5, none⟩ = some (.slice A0_5 l0_5.length c0_5) := (blk_cell BK101.out 5).trans rfl; have hcz9_6 : w8.cell? ⟨gb101, 6, none⟩ = some (.int .i64 a0_6) := (blk_cell BK101.out 6).trans rfl; have hcz9_7 : w8.cell? ⟨gb101, 7, none⟩ = some (.slice A0_7 l0_7.length c0_7) := (blk_cell BK101.out 7).trans rfl; have hfz9_0 := blk_frozen BK101.out 0; have hfz9_1 := blk_frozen BK101.out 1; have hfz9_2 := blk_frozen BK101.out 2; have hfz9_3 := blk_frozen BK101.out 3; have hfz9_4 := blk_frozen BK101.out 4; have hfz9_5 := blk_frozen BK101.out 5; have hfz9_6 := blk_frozen BK101.out 6; have hfz9_7 := blk_frozen BK101.out 7) | ((with_reducible refine gate_callee (f := 60) rfl ?_); refine goesL_ (some 15) rfl rfl Tryd.func60 (by kernel_rfl) rfl #[.slice A0_1 l0_1.length c0_1, .int .i64 (wrap64 (a1 - (a0_0.size : Int)))] rfl (by (try simp only [List.map_toArray, List.map_cons, List.map_nil]); first | done | rfl | (simp only [List.length_drop, List.length_take]; rfl)) ?_; (with_reducible refine (laws_szIntS.calls _ _ l0_1 (wrap64 (a1 - (a0_0.size : Int))) t102 _ ?side1 ?side2 A6.out).mono ?_); (case side1 => repeat (first | exact (Kd.C_below HR0_1.out HB.out) | (with_reducible refine Kd.C_alloc ?_ _) | (with_reducible refine Kd.C_drewN ?_ _) | (with_reducible refine Kd.C_drew ?_))); (case side2 => exact HC0_1.out); rintro e w' ⟨rfl, ⟨nd, rfl⟩⟩; refine ⟨_, rfl, ?_⟩))
      go_ret
      exact ⟨by first | rfl | (simp [errW_none, errW_some] <;> rfl) | (simp [*, errW_none, errW_some] <;> rfl), by repeat (first | (with_reducible first | exact HB.out | apply below_alloc | apply pw_below_drewN | apply below_drew1 | refine below_set ?_ GE101.out) | exact HB.out)⟩
    · rw [if_neg c7] at H
      have c7b0 : decide (t102 < 0) = false := decide_eq_false c7
      clear c7
      by_cases c10 : (wrap64 (t102 - (a0_2.size : Int))) < 0
      · rw [if_pos c10] at H
        have c10b0 : decide ((wrap64 (t102 - (a0_2.size : Int))) < 0) = true := decide_eq_true c10
        clear c10
        obtain rfl := Option.some.inj H
        go_enter Tryd.func25, Tryd.ntmps25
        go_wp2_with (first | ((with_reducible refine gate_dst (N := 2) rfl ?_); refine box_event ?hg (N := 2) ?hd (cs := #[.string a0_0, .slice A0_1 l0_1.length c0_1, .string a0_2, .slice A0_3 l0_3.length c0_3, .int .i64 a0_4, .slice A0_5 l0_5.length c0_5, .int .i64 a0_6, .slice A0_7 l0_7.length c0_7]) (t := 35) ?hr ?_; (case hd => rfl); (case hg => rfl); (case hr => first | (go_simp; done) | (go_simp; rfl)); intro gb101 hg w11 hbox hb; have n0_ := Aside0.mk (below_step (by repeat (first | (with_reducible first | exact HB.out | apply below_alloc | apply pw_below_drewN | apply below_drew1) | exact HB.out)) hb); have n1_ := Aside0.mk (hbox); have n2_ := Aside0.mk ((by rw [hg]; exact (below_size (by repeat (first | (with_reducible first | exact HB.out | apply below_alloc | apply pw_below_drewN | apply below_drew1) | exact HB.out))) : w.heap.size ≤ gb101)); have n3_ := Aside0.mk ((by rw [hg]; exact (below_size (by repeat (first | (with_reducible first | exact HB.out | apply below_alloc | apply pw_below_drewN | apply below_drew1) | exact HB.out))) : w.heap.size ≤ gb101)); clear HB; have HB := n0_; have BK101 := n1_; have GW101 := n2_; have GE101 := n3_; clear n0_ n1_ n2_ n3_; clear hb hbox hg; have hcz12_0 : w11.cell? ⟨gb101, 0, none⟩ = some (.string a0_0) := (blk_cell BK101.out 0).trans rfl; have hcz12_1 : w11.cell? ⟨gb101, 1, none⟩ = some (.slice A0_1 l0_1.length c0_1) := (blk_cell BK101.out 1).trans rfl; have hcz12_2 : w11.cell? ⟨gb101, 2, none⟩ = some (.string a0_2) := (blk_cell BK101.out 2).trans rfl; have hcz12_3 : w11.cell? ⟨gb101, 3, none⟩ = some (.slice A0_3 l0_3.length c0_3) := (blk_cell BK101.out 3).trans rfl; have hcz12_4 : w11.cell? ⟨gb101, 4, none⟩ = some (.int .i64 a0_4) := (blk_cell BK101.out 4).trans rfl; have hcz12_5 : w11.cell? ⟨gb101, 5, none⟩ = some (.slice A0_5 l0_5.length c0_5) := (blk_cell BK101.out 5).trans rfl; have hcz12_6 : w11.cell? ⟨gb101, 6, none⟩ = some (.int .i64 a0_6) := (blk_cell BK101.out 6).trans rfl; have hcz12_7 : w11.cell? ⟨gb101, 7, none⟩ = some (.slice A0_7 l0_7.length c0_7) := (blk_cell BK101.out 7).trans rfl; have hfz12_0 := blk_frozen BK101.out 0; have hfz12_1 := blk_frozen BK101.out 1; have hfz12_2 := blk_frozen BK101.out 2; have hfz12_3 := blk_frozen BK101.out 3; have hfz12_4 := blk_frozen BK101.out 4; have hfz12_5 := blk_frozen BK101.out 5; have hfz12_6 := blk_frozen BK101.out 6; have hfz12_7 := blk_frozen BK101.out 7) | ((with_reducible refine gate_callee (f := 60) rfl ?_); refine goesL_ (some 15) rfl rfl Tryd.func60 (by kernel_rfl) rfl #[.slice A0_1 l0_1.length c0_1, .int .i64 (wrap64 (a1 - (a0_0.size : Int)))] rfl (by (try simp only [List.map_toArray, List.map_cons, List.map_nil]); first | done | rfl | (simp only [List.length_drop, List.length_take]; rfl)) ?_; (with_reducible refine (laws_szIntS.calls _ _ l0_1 (wrap64 (a1 - (a0_0.size : Int))) t102 _ ?side1 ?side2 A6.out).mono ?_); (case side1 => repeat (first | exact (Kd.C_below HR0_1.out HB.out) | (with_reducible refine Kd.C_alloc ?_ _) | (with_reducible refine Kd.C_drewN ?_ _) | (with_reducible refine Kd.C_drew ?_))); (case side2 => exact HC0_1.out); rintro e w' ⟨rfl, ⟨nd, rfl⟩⟩; refine ⟨_, rfl, ?_⟩))
        go_ret
        exact ⟨by first | rfl | (simp [errW_none, errW_some] <;> rfl) | (simp [*, errW_none, errW_some] <;> rfl), by repeat (first | (with_reducible first | exact HB.out | apply below_alloc | apply pw_below_drewN | apply below_drew1 | refine below_set ?_ GE101.out) | exact HB.out)⟩
      · rw [if_neg c10] at H
        have c10b0 : decide ((wrap64 (t102 - (a0_2.size : Int))) < 0) = false := decide_eq_false c10
        clear c10
        replace H := Option.bind_eq_some_iff.mp H
        obtain ⟨t103, A130, H⟩ := H
        replace H : (if t103 < 0 then (some (-1)) else ((laws_szByteS.f l0_5 t103).bind fun t104 => (if t104 < 0 then (some (-1)) else ((laws_szByteS.f l0_7 t104).bind fun t105 => (if t105 < 0 then (some (-1)) else (some t105)))))) = some r := H
        have A13 := Aside0.mk A130
        clear A130
        by_cases c14 : t103 < 0
        · rw [if_pos c14] at H
          have c14b0 : decide (t103 < 0) = true := decide_eq_true c14
          clear c14
          obtain rfl := Option.some.inj H
          go_enter Tryd.func25, Tryd.ntmps25
          go_wp2_with (first | ((with_reducible refine gate_dst (N := 2) rfl ?_); refine box_event ?hg (N := 2) ?hd (cs := #[.string a0_0, .slice A0_1 l0_1.length c0_1, .string a0_2, .slice A0_3 l0_3.length c0_3, .int .i64 a0_4, .slice A0_5 l0_5.length c0_5, .int .i64 a0_6, .slice A0_7 l0_7.length c0_7]) (t := 35) ?hr ?_; (case hd => rfl); (case hg => rfl); (case hr => first | (go_simp; done) | (go_simp; rfl)); intro gb101 hg w15 hbox hb; have n0_ := Aside0.mk (below_step (by repeat (first | (with_reducible first | exact HB.out | apply below_alloc | apply pw_below_drewN | apply below_drew1) | exact HB.out)) hb); have n1_ := Aside0.mk (hbox); have n2_ := Aside0.mk ((by rw [hg]; exact (below_size (by repeat (first | (with_reducible first | exact HB.out | apply below_alloc | apply pw_below_drewN | apply below_drew1) | exact HB.out))) : w.heap.size ≤ gb101)); have n3_ := Aside0.mk ((by rw [hg]; exact (below_size (by repeat (first | (with_reducible first | exact HB.out | apply below_alloc | apply pw_below_drewN | apply below_drew1) | exact HB.out))) : w.heap.size ≤ gb101)); clear HB; have HB := n0_; have BK101 := n1_; have GW101 := n2_; have GE101 := n3_; clear n0_ n1_ n2_ n3_; clear hb hbox hg; have hcz16_0 : w15.cell? ⟨gb101, 0, none⟩ = some (.string a0_0) := (blk_cell BK101.out 0).trans rfl; have hcz16_1 : w15.cell? ⟨gb101, 1, none⟩ = some (.slice A0_1 l0_1.length c0_1) := (blk_cell BK101.out 1).trans rfl; have hcz16_2 : w15.cell? ⟨gb101, 2, none⟩ = some (.string a0_2) := (blk_cell BK101.out 2).trans rfl; have hcz16_3 : w15.cell? ⟨gb101, 3, none⟩ = some (.slice A0_3 l0_3.length c0_3) := (blk_cell BK101.out 3).trans rfl; have hcz16_4 : w15.cell? ⟨gb101, 4, none⟩ = some (.int .i64 a0_4) := (blk_cell BK101.out 4).trans rfl; have hcz16_5 : w15.cell? ⟨gb101, 5, none⟩ = some (.slice A0_5 l0_5.length c0_5) := (blk_cell BK101.out 5).trans rfl; have hcz16_6 : w15.cell? ⟨gb101, 6, none⟩ = some (.int .i64 a0_6) := (blk_cell BK101.out 6).trans rfl; have hcz16_7 : w15.cell? ⟨gb101, 7, none⟩ = some (.slice A0_7 l0_7.length c0_7) := (blk_cell BK101.out 7).trans rfl; have hfz16_0 := blk_frozen BK101.out 0; have hfz16_1 := blk_frozen BK101.out 1; have hfz16_2 := blk_frozen BK101.out 2; have hfz16_3 := blk_frozen BK101.out 3; have hfz16_4 := blk_frozen BK101.out 4; have hfz16_5 := blk_frozen BK101.out 5; have hfz16_6 := blk_frozen BK101.out 6; have hfz16_7 := blk_frozen BK101.out 7) | ((with_reducible refine gate_callee (f := 60) rfl ?_); refine goesL_ (some 15) rfl rfl Tryd.func60 (by kernel_rfl) rfl #[.slice A0_1 l0_1.length c0_1, .int .i64 (wrap64 (a1 - (a0_0.size : Int)))] rfl (by (try simp only [List.map_toArray, List.map_cons, List.map_nil]); first | done | rfl | (simp only [List.length_drop, List.length_take]; rfl)) ?_; (with_reducible refine (laws_szIntS.calls _ _ l0_1 (wrap64 (a1 - (a0_0.size : Int))) t102 _ ?side1 ?side2 A6.out).mono ?_); (case side1 => repeat (first | exact (Kd.C_below HR0_1.out HB.out) | (with_reducible refine Kd.C_alloc ?_ _) | (with_reducible refine Kd.C_drewN ?_ _) | (with_reducible refine Kd.C_drew ?_))); (case side2 => exact HC0_1.out); rintro e w' ⟨rfl, ⟨nd, rfl⟩⟩; refine ⟨_, rfl, ?_⟩) | ((with_reducible refine gate_callee (f := 60) rfl ?_); refine goesL_ (some 28) rfl rfl Tryd.func60 (by kernel_rfl) rfl #[.slice A0_3 l0_3.length c0_3, .int .i64 (wrap64 (t102 - (a0_2.size : Int)))] rfl (by (try simp only [List.map_toArray, List.map_cons, List.map_nil]); first | done | rfl | (simp only [List.length_drop, List.length_take]; rfl)) ?_; (with_reducible refine (laws_szIntS.calls _ _ l0_3 (wrap64 (t102 - (a0_2.size : Int))) t103 _ ?side1 ?side2 A13.out).mono ?_); (case side1 => repeat (first | exact (Kd.C_below HR0_3.out (by repeat (first | (with_reducible first | exact HB.out | apply below_alloc | apply pw_below_drewN | apply below_drew1 | refine below_set ?_ GE101.out) | exact HB.out))) | (with_reducible refine Kd.C_alloc ?_ _) | (with_reducible refine Kd.C_drewN ?_ _) | (with_reducible refine Kd.C_drew ?_))); (case side2 => exact HC0_3.out); rintro e w' ⟨rfl, ⟨nd, rfl⟩⟩; refine ⟨_, rfl, ?_⟩))
          go_ret
          exact ⟨by first | rfl | (simp [errW_none, errW_some] <;> rfl) | (simp [*, errW_none, errW_some] <;> rfl), by repeat (first | (with_reducible first | exact HB.out | apply below_alloc | apply pw_below_drewN | apply below_drew1 | refine below_set ?_ GE101.out) | exact HB.out)⟩
        · rw [if_neg c14] at H
          have c14b0 : decide (t103 < 0) = false := decide_eq_false c14
          clear c14
          replace H := Option.bind_eq_some_iff.mp H
          obtain ⟨t104, A170, H⟩ := H
          replace H : (if t104 < 0 then (some (-1)) else ((laws_szByteS.f l0_7 t104).bind fun t105 => (if t105 < 0 then (some (-1)) else (some t105)))) = some r := H
          have A17 := Aside0.mk A170
          clear A170
          by_cases c18 : t104 < 0
          · rw [if_pos c18] at H
            have c18b0 : decide (t104 < 0) = true := decide_eq_true c18
            clear c18
            obtain rfl := Option.some.inj H
            go_enter Tryd.func25, Tryd.ntmps25
            go_wp2_with (first | ((with_reducible refine gate_dst (N := 2) rfl ?_); refine box_event ?hg (N := 2) ?hd (cs := #[.string a0_0, .slice A0_1 l0_1.length c0_1, .string a0_2, .slice A0_3 l0_3.length c0_3, .int .i64 a0_4, .slice A0_5 l0_5.length c0_5, .int .i64 a0_6, .slice A0_7 l0_7.length c0_7]) (t := 35) ?hr ?_; (case hd => rfl); (case hg => rfl); (case hr => first | (go_simp; done) | (go_simp; rfl)); intro gb101 hg w19 hbox hb; have n0_ := Aside0.mk (below_step (by repeat (first | (with_reducible first | exact HB.out | apply below_alloc | apply pw_below_drewN | apply below_drew1) | exact HB.out)) hb); have n1_ := Aside0.mk (hbox); have n2_ := Aside0.mk ((by rw [hg]; exact (below_size (by repeat (first | (with_reducible first | exact HB.out | apply below_alloc | apply pw_below_drewN | apply below_drew1) | exact HB.out))) : w.heap.size ≤ gb101)); have n3_ := Aside0.mk ((by rw [hg]; exact (below_size (by repeat (first | (with_reducible first | exact HB.out | apply below_alloc | apply pw_below_drewN | apply below_drew1) | exact HB.out))) : w.heap.size ≤ gb101)); clear HB; have HB := n0_; have BK101 := n1_; have GW101 := n2_; have GE101 := n3_; clear n0_ n1_ n2_ n3_; clear hb hbox hg; have hcz20_0 : w19.cell? ⟨gb101, 0, none⟩ = some (.string a0_0) := (blk_cell BK101.out 0).trans rfl; have hcz20_1 : w19.cell? ⟨gb101, 1, none⟩ = some (.slice A0_1 l0_1.length c0_1) := (blk_cell BK101.out 1).trans rfl; have hcz20_2 : w19.cell? ⟨gb101, 2, none⟩ = some (.string a0_2) := (blk_cell BK101.out 2).trans rfl; have hcz20_3 : w19.cell? ⟨gb101, 3, none⟩ = some (.slice A0_3 l0_3.length c0_3) := (blk_cell BK101.out 3).trans rfl; have hcz20_4 : w19.cell? ⟨gb101, 4, none⟩ = some (.int .i64 a0_4) := (blk_cell BK101.out 4).trans rfl; have hcz20_5 : w19.cell? ⟨gb101, 5, none⟩ = some (.slice A0_5 l0_5.length c0_5) := (blk_cell BK101.out 5).trans rfl; have hcz20_6 : w19.cell? ⟨gb101, 6, none⟩ = some (.int .i64 a0_6) := (blk_cell BK101.out 6).trans rfl; have hcz20_7 : w19.cell? ⟨gb101, 7, none⟩ = some (.slice A0_7 l0_7.length c0_7) := (blk_cell BK101.out 7).trans rfl; have hfz20_0 := blk_frozen BK101.out 0; have hfz20_1 := blk_frozen BK101.out 1; have hfz20_2 := blk_frozen BK101.out 2; have hfz20_3 := blk_frozen BK101.out 3; have hfz20_4 := blk_frozen BK101.out 4; have hfz20_5 := blk_frozen BK101.out 5; have hfz20_6 := blk_frozen BK101.out 6; have hfz20_7 := blk_frozen BK101.out 7) | ((with_reducible refine gate_callee (f := 60) rfl ?_); refine goesL_ (some 15) rfl rfl Tryd.func60 (by kernel_rfl) rfl #[.slice A0_1 l0_1.length c0_1, .int .i64 (wrap64 (a1 - (a0_0.size : Int)))] rfl (by (try simp only [List.map_toArray, List.map_cons, List.map_nil]); first | done | rfl | (simp only [List.length_drop, List.length_take]; rfl)) ?_; (with_reducible refine (laws_szIntS.calls _ _ l0_1 (wrap64 (a1 - (a0_0.size : Int))) t102 _ ?side1 ?side2 A6.out).mono ?_); (case side1 => repeat (first | exact (Kd.C_below HR0_1.out HB.out) | (with_reducible refine Kd.C_alloc ?_ _) | (with_reducible refine Kd.C_drewN ?_ _) | (with_reducible refine Kd.C_drew ?_))); (case side2 => exact HC0_1.out); rintro e w' ⟨rfl, ⟨nd, rfl⟩⟩; refine ⟨_, rfl, ?_⟩) | ((with_reducible refine gate_callee (f := 60) rfl ?_); refine goesL_ (some 28) rfl rfl Tryd.func60 (by kernel_rfl) rfl #[.slice A0_3 l0_3.length c0_3, .int .i64 (wrap64 (t102 - (a0_2.size : Int)))] rfl (by (try simp only [List.map_toArray, List.map_cons, List.map_nil]); first | done | rfl | (simp only [List.length_drop, List.length_take]; rfl)) ?_; (with_reducible refine (laws_szIntS.calls _ _ l0_3 (wrap64 (t102 - (a0_2.size : Int))) t103 _ ?side1 ?side2 A13.out).mono ?_); (case side1 => repeat (first | exact (Kd.C_below HR0_3.out (by repeat (first | (with_reducible first | exact HB.out | apply below_alloc | apply pw_below_drewN | apply below_drew1 | refine below_set ?_ GE101.out) | exact HB.out))) | (with_reducible refine Kd.C_alloc ?_ _) | (with_reducible refine Kd.C_drewN ?_ _) | (with_reducible refine Kd.C_drew ?_))); (case side2 => exact HC0_3.out); rintro e w' ⟨rfl, ⟨nd, rfl⟩⟩; refine ⟨_, rfl, ?_⟩) | ((with_reducible refine gate_callee (f := 61) rfl ?_); refine goesL_ (some 34) rfl rfl Tryd.func61 (by kernel_rfl) rfl #[.slice A0_5 l0_5.length c0_5, .int .i64 t103] rfl (by (try simp only [List.map_toArray, List.map_cons, List.map_nil]); first | done | rfl | (simp only [List.length_drop, List.length_take]; rfl)) ?_; (with_reducible refine (laws_szByteS.calls _ _ l0_5 t103 t104 _ ?side1 ?side2 A17.out).mono ?_); (case side1 => repeat (first | exact (Kd.C_below HR0_5.out (by repeat (first | (with_reducible first | exact HB.out | apply below_alloc | apply pw_below_drewN | apply below_drew1 | refine below_set ?_ GE101.out) | exact HB.out))) | (with_reducible refine Kd.C_alloc ?_ _) | (with_reducible refine Kd.C_drewN ?_ _) | (with_reducible refine Kd.C_drew ?_))); (case side2 => exact HC0_5.out); rintro e w' ⟨rfl, ⟨nd, rfl⟩⟩; refine ⟨_, rfl, ?_⟩))
            go_ret
            exact ⟨by first | rfl | (simp [errW_none, errW_some] <;> rfl) | (simp [*, errW_none, errW_some] <;> rfl), by repeat (first | (with_reducible first | exact HB.out | apply below_alloc | apply pw_below_drewN | apply below_drew1 | refine below_set ?_ GE101.out) | exact HB.out)⟩
          · rw [if_neg c18] at H
            have c18b0 : decide (t104 < 0) = false := decide_eq_false c18
            clear c18
            replace H := Option.bind_eq_some_iff.mp H
            obtain ⟨t105, A210, H⟩ := H
            replace H : (if t105 < 0 then (some (-1)) else (some t105)) = some r := H
            have A21 := Aside0.mk A210
            clear A210
            by_cases c22 : t105 < 0
            · rw [if_pos c22] at H
              have c22b0 : decide (t105 < 0) = true := decide_eq_true c22
              clear c22
              obtain rfl := Option.some.inj H
              go_enter Tryd.func25, Tryd.ntmps25
              go_wp2_with (first | ((with_reducible refine gate_dst (N := 2) rfl ?_); refine box_event ?hg (N := 2) ?hd (cs := #[.string a0_0, .slice A0_1 l0_1.length c0_1, .string a0_2, .slice A0_3 l0_3.length c0_3, .int .i64 a0_4, .slice A0_5 l0_5.length c0_5, .int .i64 a0_6, .slice A0_7 l0_7.length c0_7]) (t := 35) ?hr ?_; (case hd => rfl); (case hg => rfl); (case hr => first | (go_simp; done) | (go_simp; rfl)); intro gb101 hg w23 hbox hb; have n0_ := Aside0.mk (below_step (by repeat (first | (with_reducible first | exact HB.out | apply below_alloc | apply pw_below_drewN | apply below_drew1) | exact HB.out)) hb); have n1_ := Aside0.mk (hbox); have n2_ := Aside0.mk ((by rw [hg]; exact (below_size (by repeat (first | (with_reducible first | exact HB.out | apply below_alloc | apply pw_below_drewN | apply below_drew1) | exact HB.out))) : w.heap.size ≤ gb101)); have n3_ := Aside0.mk ((by rw [hg]; exact (below_size (by repeat (first | (with_reducible first | exact HB.out | apply below_alloc | apply pw_below_drewN | apply below_drew1) | exact HB.out))) : w.heap.size ≤ gb101)); clear HB; have HB := n0_; have BK101 := n1_; have GW101 := n2_; have GE101 := n3_; clear n0_ n1_ n2_ n3_; clear hb hbox hg; have hcz24_0 : w23.cell? ⟨gb101, 0, none⟩ = some (.string a0_0) := (blk_cell BK101.out 0).trans rfl; have hcz24_1 : w23.cell? ⟨gb101, 1, none⟩ = some (.slice A0_1 l0_1.length c0_1) := (blk_cell BK101.out 1).trans rfl; have hcz24_2 : w23.cell? ⟨gb101, 2, none⟩ = some (.string a0_2) := (blk_cell BK101.out 2).trans rfl; have hcz24_3 : w23.cell? ⟨gb101, 3, none⟩ = some (.slice A0_3 l0_3.length c0_3) := (blk_cell BK101.out 3).trans rfl; have hcz24_4 : w23.cell? ⟨gb101, 4, none⟩ = some (.int .i64 a0_4) := (blk_cell BK101.out 4).trans rfl; have hcz24_5 : w23.cell? ⟨gb101, 5, none⟩ = some (.slice A0_5 l0_5.length c0_5) := (blk_cell BK101.out 5).trans rfl; have hcz24_6 : w23.cell? ⟨gb101, 6, none⟩ = some (.int .i64 a0_6) := (blk_cell BK101.out 6).trans rfl; have hcz24_7 : w23.cell? ⟨gb101, 7, none⟩ = some (.slice A0_7 l0_7.length c0_7) := (blk_cell BK101.out 7).trans rfl; have hfz24_0 := blk_frozen BK101.out 0; have hfz24_1 := blk_frozen BK101.out 1; have hfz24_2 := blk_frozen BK101.out 2; have hfz24_3 := blk_frozen BK101.out 3; have hfz24_4 := blk_frozen BK101.out 4; have hfz24_5 := blk_frozen BK101.out 5; have hfz24_6 := blk_frozen BK101.out 6; have hfz24_7 := blk_frozen BK101.out 7) | ((with_reducible refine gate_callee (f := 60) rfl ?_); refine goesL_ (some 15) rfl rfl Tryd.func60 (by kernel_rfl) rfl #[.slice A0_1 l0_1.length c0_1, .int .i64 (wrap64 (a1 - (a0_0.size : Int)))] rfl (by (try simp only [List.map_toArray, List.map_cons, List.map_nil]); first | done | rfl | (simp only [List.length_drop, List.length_take]; rfl)) ?_; (with_reducible refine (laws_szIntS.calls _ _ l0_1 (wrap64 (a1 - (a0_0.size : Int))) t102 _ ?side1 ?side2 A6.out).mono ?_); (case side1 => repeat (first | exact (Kd.C_below HR0_1.out HB.out) | (with_reducible refine Kd.C_alloc ?_ _) | (with_reducible refine Kd.C_drewN ?_ _) | (with_reducible refine Kd.C_drew ?_))); (case side2 => exact HC0_1.out); rintro e w' ⟨rfl, ⟨nd, rfl⟩⟩; refine ⟨_, rfl, ?_⟩) | ((with_reducible refine gate_callee (f := 60) rfl ?_); refine goesL_ (some 28) rfl rfl Tryd.func60 (by kernel_rfl) rfl #[.slice A0_3 l0_3.length c0_3, .int .i64 (wrap64 (t102 - (a0_2.size : Int)))] rfl (by (try simp only [List.map_toArray, List.map_cons, List.map_nil]); first | done | rfl | (simp only [List.length_drop, List.length_take]; rfl)) ?_; (with_reducible refine (laws_szIntS.calls _ _ l0_3 (wrap64 (t102 - (a0_2.size : Int))) t103 _ ?side1 ?side2 A13.out).mono ?_); (case side1 => repeat (first | exact (Kd.C_below HR0_3.out (by repeat (first | (with_reducible first | exact HB.out | apply below_alloc | apply pw_below_drewN | apply below_drew1 | refine below_set ?_ GE101.out) | exact HB.out))) | (with_reducible refine Kd.C_alloc ?_ _) | (with_reducible refine Kd.C_drewN ?_ _) | (with_reducible refine Kd.C_drew ?_))); (case side2 => exact HC0_3.out); rintro e w' ⟨rfl, ⟨nd, rfl⟩⟩; refine ⟨_, rfl, ?_⟩) | ((with_reducible refine gate_callee (f := 61) rfl ?_); refine goesL_ (some 34) rfl rfl Tryd.func61 (by kernel_rfl) rfl #[.slice A0_5 l0_5.length c0_5, .int .i64 t103] rfl (by (try simp only [List.map_toArray, List.map_cons, List.map_nil]); first | done | rfl | (simp only [List.length_drop, List.length_take]; rfl)) ?_; (with_reducible refine (laws_szByteS.calls _ _ l0_5 t103 t104 _ ?side1 ?side2 A17.out).mono ?_); (case side1 => repeat (first | exact (Kd.C_below HR0_5.out (by repeat (first | (with_reducible first | exact HB.out | apply below_alloc | apply pw_below_drewN | apply below_drew1 | refine below_set ?_ GE101.out) | exact HB.out))) | (with_reducible refine Kd.C_alloc ?_ _) | (with_reducible refine Kd.C_drewN ?_ _) | (with_reducible refine Kd.C_drew ?_))); (case side2 => exact HC0_5.out); rintro e w' ⟨rfl, ⟨nd, rfl⟩⟩; refine ⟨_, rfl, ?_⟩) | ((with_reducible refine gate_callee (f := 61) rfl ?_); refine goesL_ (some 40) rfl rfl Tryd.func61 (by kernel_rfl) rfl #[.slice A0_7 l0_7.length c0_7, .int .i64 t104] rfl (by (try simp only [List.map_toArray, List.map_cons, List.map_nil]); first | done | rfl | (simp only [List.length_drop, List.length_take]; rfl)) ?_; (with_reducible refine (laws_szByteS.calls _ _ l0_7 t104 t105 _ ?side1 ?side2 A21.out).mono ?_); (case side1 => repeat (first | exact (Kd.C_below HR0_7.out (by repeat (first | (with_reducible first | exact HB.out | apply below_alloc | apply pw_below_drewN | apply below_drew1 | refine below_set ?_ GE101.out) | exact HB.out))) | (with_reducible refine Kd.C_alloc ?_ _) | (with_reducible refine Kd.C_drewN ?_ _) | (with_reducible refine Kd.C_drew ?_))); (case side2 => exact HC0_7.out); rintro e w' ⟨rfl, ⟨nd, rfl⟩⟩; refine ⟨_, rfl, ?_⟩))
              go_ret
              exact ⟨by first | rfl | (simp [errW_none, errW_some] <;> rfl) | (simp [*, errW_none, errW_some] <;> rfl), by repeat (first | (with_reducible first | exact HB.out | apply below_alloc | apply pw_below_drewN | apply below_drew1 | refine below_set ?_ GE101.out) | exact HB.out)⟩
            · rw [if_neg c22] at H
              have c22b0 : decide (t105 < 0) = false := decide_eq_false c22
              clear c22
              obtain rfl := Option.some.inj H
              go_enter Tryd.func25, Tryd.ntmps25
              go_wp2_with (first | ((with_reducible refine gate_dst (N := 2) rfl ?_); refine box_event ?hg (N := 2) ?hd (cs := #[.string a0_0, .slice A0_1 l0_1.length c0_1, .string a0_2, .slice A0_3 l0_3.length c0_3, .int .i64 a0_4, .slice A0_5 l0_5.length c0_5, .int .i64 a0_6, .slice A0_7 l0_7.length c0_7]) (t := 35) ?hr ?_; (case hd => rfl); (case hg => rfl); (case hr => first | (go_simp; done) | (go_simp; rfl)); intro gb101 hg w25 hbox hb; have n0_ := Aside0.mk (below_step (by repeat (first | (with_reducible first | exact HB.out | apply below_alloc | apply pw_below_drewN | apply below_drew1) | exact HB.out)) hb); have n1_ := Aside0.mk (hbox); have n2_ := Aside0.mk ((by rw [hg]; exact (below_size (by repeat (first | (with_reducible first | exact HB.out | apply below_alloc | apply pw_below_drewN | apply below_drew1) | exact HB.out))) : w.heap.size ≤ gb101)); have n3_ := Aside0.mk ((by rw [hg]; exact (below_size (by repeat (first | (with_reducible first | exact HB.out | apply below_alloc | apply pw_below_drewN | apply below_drew1) | exact HB.out))) : w.heap.size ≤ gb101)); clear HB; have HB := n0_; have BK101 := n1_; have GW101 := n2_; have GE101 := n3_; clear n0_ n1_ n2_ n3_; clear hb hbox hg; have hcz26_0 : w25.cell? ⟨gb101, 0, none⟩ = some (.string a0_0) := (blk_cell BK101.out 0).trans rfl; have hcz26_1 : w25.cell? ⟨gb101, 1, none⟩ = some (.slice A0_1 l0_1.length c0_1) := (blk_cell BK101.out 1).trans rfl; have hcz26_2 : w25.cell? ⟨gb101, 2, none⟩ = some (.string a0_2) := (blk_cell BK101.out 2).trans rfl; have hcz26_3 : w25.cell? ⟨gb101, 3, none⟩ = some (.slice A0_3 l0_3.length c0_3) := (blk_cell BK101.out 3).trans rfl; have hcz26_4 : w25.cell? ⟨gb101, 4, none⟩ = some (.int .i64 a0_4) := (blk_cell BK101.out 4).trans rfl; have hcz26_5 : w25.cell? ⟨gb101, 5, none⟩ = some (.slice A0_5 l0_5.length c0_5) := (blk_cell BK101.out 5).trans rfl; have hcz26_6 : w25.cell? ⟨gb101, 6, none⟩ = some (.int .i64 a0_6) := (blk_cell BK101.out 6).trans rfl; have hcz26_7 : w25.cell? ⟨gb101, 7, none⟩ = some (.slice A0_7 l0_7.length c0_7) := (blk_cell BK101.out 7).trans rfl; have hfz26_0 := blk_frozen BK101.out 0; have hfz26_1 := blk_frozen BK101.out 1; have hfz26_2 := blk_frozen BK101.out 2; have hfz26_3 := blk_frozen BK101.out 3; have hfz26_4 := blk_frozen BK101.out 4; have hfz26_5 := blk_frozen BK101.out 5; have hfz26_6 := blk_frozen BK101.out 6; have hfz26_7 := blk_frozen BK101.out 7) | ((with_reducible refine gate_callee (f := 60) rfl ?_); refine goesL_ (some 15) rfl rfl Tryd.func60 (by kernel_rfl) rfl #[.slice A0_1 l0_1.length c0_1, .int .i64 (wrap64 (a1 - (a0_0.size : Int)))] rfl (by (try simp only [List.map_toArray, List.map_cons, List.map_nil]); first | done | rfl | (simp only [List.length_drop, List.length_take]; rfl)) ?_; (with_reducible refine (laws_szIntS.calls _ _ l0_1 (wrap64 (a1 - (a0_0.size : Int))) t102 _ ?side1 ?side2 A6.out).mono ?_); (case side1 => repeat (first | exact (Kd.C_below HR0_1.out HB.out) | (with_reducible refine Kd.C_alloc ?_ _) | (with_reducible refine Kd.C_drewN ?_ _) | (with_reducible refine Kd.C_drew ?_))); (case side2 => exact HC0_1.out); rintro e w' ⟨rfl, ⟨nd, rfl⟩⟩; refine ⟨_, rfl, ?_⟩) | ((with_reducible refine gate_callee (f := 60) rfl ?_); refine goesL_ (some 28) rfl rfl Tryd.func60 (by kernel_rfl) rfl #[.slice A0_3 l0_3.length c0_3, .int .i64 (wrap64 (t102 - (a0_2.size : Int)))] rfl (by (try simp only [List.map_toArray, List.map_cons, List.map_nil]); first | done | rfl | (simp only [List.length_drop, List.length_take]; rfl)) ?_; (with_reducible refine (laws_szIntS.calls _ _ l0_3 (wrap64 (t102 - (a0_2.size : Int))) t103 _ ?side1 ?side2 A13.out).mono ?_); (case side1 => repeat (first | exact (Kd.C_below HR0_3.out (by repeat (first | (with_reducible first | exact HB.out | apply below_alloc | apply pw_below_drewN | apply below_drew1 | refine below_set ?_ GE101.out) | exact HB.out))) | (with_reducible refine Kd.C_alloc ?_ _) | (with_reducible refine Kd.C_drewN ?_ _) | (with_reducible refine Kd.C_drew ?_))); (case side2 => exact HC0_3.out); rintro e w' ⟨rfl, ⟨nd, rfl⟩⟩; refine ⟨_, rfl, ?_⟩) | ((with_reducible refine gate_callee (f := 61) rfl ?_); refine goesL_ (some 34) rfl rfl Tryd.func61 (by kernel_rfl) rfl #[.slice A0_5 l0_5.length c0_5, .int .i64 t103] rfl (by (try simp only [List.map_toArray, List.map_cons, List.map_nil]); first | done | rfl | (simp only [List.length_drop, List.length_take]; rfl)) ?_; (with_reducible refine (laws_szByteS.calls _ _ l0_5 t103 t104 _ ?side1 ?side2 A17.out).mono ?_); (case side1 => repeat (first | exact (Kd.C_below HR0_5.out (by repeat (first | (with_reducible first | exact HB.out | apply below_alloc | apply pw_below_drewN | apply below_drew1 | refine below_set ?_ GE101.out) | exact HB.out))) | (with_reducible refine Kd.C_alloc ?_ _) | (with_reducible refine Kd.C_drewN ?_ _) | (with_reducible refine Kd.C_drew ?_))); (case side2 => exact HC0_5.out); rintro e w' ⟨rfl, ⟨nd, rfl⟩⟩; refine ⟨_, rfl, ?_⟩) | ((with_reducible refine gate_callee (f := 61) rfl ?_); refine goesL_ (some 40) rfl rfl Tryd.func61 (by kernel_rfl) rfl #[.slice A0_7 l0_7.length c0_7, .int .i64 t104] rfl (by (try simp only [List.map_toArray, List.map_cons, List.map_nil]); first | done | rfl | (simp only [List.length_drop, List.length_take]; rfl)) ?_; (with_reducible refine (laws_szByteS.calls _ _ l0_7 t104 t105 _ ?side1 ?side2 A21.out).mono ?_); (case side1 => repeat (first | exact (Kd.C_below HR0_7.out (by repeat (first | (with_reducible first | exact HB.out | apply below_alloc | apply pw_below_drewN | apply below_drew1 | refine below_set ?_ GE101.out) | exact HB.out))) | (with_reducible refine Kd.C_alloc ?_ _) | (with_reducible refine Kd.C_drewN ?_ _) | (with_reducible refine Kd.C_drew ?_))); (case side2 => exact HC0_7.out); rintro e w' ⟨rfl, ⟨nd, rfl⟩⟩; refine ⟨_, rfl, ?_⟩))
              go_ret
              exact ⟨by first | rfl | (simp [errW_none, errW_some] <;> rfl) | (simp [*, errW_none, errW_some] <;> rfl), by repeat (first | (with_reducible first | exact HB.out | apply below_alloc | apply pw_below_drewN | apply below_drew1 | refine below_set ?_ GE101.out) | exact HB.out)⟩

/-! ### spec_l1In: function 39 -/
def spec_l1In.f (a0 : Int) (a1 : Int) (a2 : Int) : Option (Bool) := if a0 ≥ a1 then (some (decide (a0 ≤ a2))) else (some false)
set_option maxHeartbeats 8000000 in
set_option maxRecDepth 100000 in
theorem spec_l1In.calls (a0 : Int) (a1 : Int) (a2 : Int) (r : Bool) (w : World) (h : spec_l1In.f a0 a1 a2 = some r) :
    Calls Tryd.prog 39 #[.int .i64 a0, .int .i64 a1, .int .i64 a2] w fun e w' => e = .returned (.bool r) ∧ Drawn0 w w' := by
  have H : (if a0 ≥ a1 then (some (decide (a0 ≤ a2))) else (some false)) = some r := h
  clear h
  by_cases c4 : a0 ≥ a1
  · rw [if_pos c4] at H
    have c4b0 : decide (a1 ≤ a0) = true := decide_eq_true c4
    clear c4
    obtain rfl := Option.some.inj H
    go_enter Tryd.func39, Tryd.ntmps39
    go_wp2
    go_ret
    exact ⟨by first | rfl | (simp; done) | (simp [*]; done), by repeat (first | exact Drawn0.refl _ | apply Drawn0.step)⟩
  · rw [if_neg c4] at H
    have c4b0 : decide (a1 ≤ a0) = false := decide_eq_false c4
    clear c4
    obtain rfl := Option.some.inj H
    go_enter Tryd.func39, Tryd.ntmps39
    go_wp2
    go_ret
    exact ⟨by first | rfl | (simp; done) | (simp [*]; done), by repeat (first | exact Drawn0.refl _ | apply Drawn0.step)⟩

/-! ### spec_NameOk: function 12 -/
def nameRune (c : Int) : Bool := (decide (97 ≤ c) && decide (c ≤ 122)) || (decide (65 ≤ c) && decide (c ≤ 90)) || (decide (48 ≤ c) && decide (c ≤ 57)) || c == 45 || c == 95 || c == 32 || decide (160 ≤ c)
def brokenAt (s : ByteArray) (pos : Nat) (c : Int) : Bool := c == 65533 && (decide (s.size ≤ pos + 2) || bt s pos != 239 || bt s (pos + 1 : Nat) != 191 || bt s (pos + 2 : Nat) != 189)
def spec_NameOk.l0 : Nat → ByteArray → Int → Nat → Option Bool
  | 0, _, _, _ => none
  | k + 1, s, n, pos => if pos < s.size then (if brokenAt s pos ((Utf8.decode s pos).1 : Int) = true then some false else if nameRune ((Utf8.decode s pos).1 : Int) = true then spec_NameOk.l0 k s (wrap64 (n + 1)) (pos + (Utf8.decode s pos).2) else some false) else (if 1 ≤ n then (if n ≤ 24 then (if 0 < s.size then some ((bt s 0 != 32) && (bt s ((s.size : Int) - 1) != 32)) else none) else some false) else some false)
def spec_NameOk.f (k : Nat) (a0 : ByteArray) : Option Bool := if a0.size ≤ 1048576 then spec_NameOk.l0 k a0 0 0 else none
theorem spec_NameOk.mono_l : ∀ k s n pos, LeO (spec_NameOk.l0 k s n pos) (spec_NameOk.l0 (k + 1) s n pos)
  | 0, _, _, _ => fun r h => by simp [spec_NameOk.l0] at h
  | k + 1, s, n, pos => by
    intro r h
    rw [spec_NameOk.l0] at h ⊢
    by_cases h1 : pos < s.size
    · rw [if_pos h1] at h ⊢
      by_cases h2 : brokenAt s pos ((Utf8.decode s pos).1 : Int) = true
      · rw [if_pos h2] at h ⊢; exact h
      · rw [if_neg h2] at h ⊢
        by_cases h3 : nameRune ((Utf8.decode s pos).1 : Int) = true
        · rw [if_pos h3] at h ⊢; exact spec_NameOk.mono_l k _ _ _ r h
        · rw [if_neg h3] at h ⊢; exact h
    · rw [if_neg h1] at h ⊢; exact h
theorem spec_NameOk.mono : ∀ a0 k, LeO (spec_NameOk.f k a0) (spec_NameOk.f (k + 1) a0) := by
  intro a0 k
  unfold spec_NameOk.f
  split
  · exact spec_NameOk.mono_l k _ _ _
  · exact LeO.refl _
theorem below_iter (w : World) (s : ByteArray) (pos : Nat) : Below w.heap.size w (w.iter s pos) := (Below.refl _ w).alloc (Nat.le_refl _) _
theorem rune_range (s : ByteArray) (pos : Nat) (h : pos < s.size) : (Utf8.decode s pos).1 ≤ 1114111 := Lib.rune_le s pos
theorem broken_iff (s : ByteArray) (pos : Nat) (hp : pos < s.size) : brokenAt s pos 65533 = true ↔ (s.size ≤ pos + 2 ∨ ∃ h : pos + 2 < s.size, ¬ (((s[pos]'hp).toNat : Int) = 239 ∧ ((s[pos + 1]'(by omega)).toNat : Int) = 191 ∧ ((s[pos + 2]'h).toNat : Int) = 189)) := by
  unfold brokenAt
  by_cases h : s.size ≤ pos + 2
  · rw [decide_eq_true h]
    simp [h]
  · have h2 : pos + 2 < s.size := by omega
    have e0 : bt s (pos : Int) = ((s[pos]'hp).toNat : Int) := (bt_at s (pos : Int) (by simpa using hp)).symm
    have e1 : bt s ((pos + 1 : Nat) : Int) = ((s[pos + 1]'(by omega)).toNat : Int) := (bt_at s ((pos + 1 : Nat) : Int) (by rw [Int.toNat_natCast]; omega)).symm
    have e2 : bt s ((pos + 2 : Nat) : Int) = ((s[pos + 2]'h2).toNat : Int) := (bt_at s ((pos + 2 : Nat) : Int) (by rw [Int.toNat_natCast]; omega)).symm
    rw [decide_eq_false h, e0, e1, e2]
    simp only [beq_self_eq_true, Bool.true_and, Bool.false_or, Bool.or_eq_true, bne_iff_ne, ne_eq]
    constructor
    · rintro ((a | a) | a)
      · exact Or.inr ⟨h2, fun hh => a hh.1⟩
      · exact Or.inr ⟨h2, fun hh => a hh.2.1⟩
      · exact Or.inr ⟨h2, fun hh => a hh.2.2⟩
    · rintro (a | ⟨_, a⟩)
      · exact absurd a h
      · by_cases x : ((s[pos]'hp).toNat : Int) = 239
        · by_cases y : ((s[pos + 1]'(by omega)).toNat : Int) = 191
          · exact Or.inr (fun z => a ⟨x, y, z⟩)
          · exact Or.inl (Or.inr y)
        · exact Or.inl (Or.inl x)
set_option maxHeartbeats 8000000 in
set_option maxRecDepth 1000000 in
theorem spec_NameOk.calls (k : Nat) (s : ByteArray) (r : Bool) (w : World) (h : spec_NameOk.f k s = some r) :
    Calls Tryd.prog 12 #[.string s] w fun e w' => e = .returned (.bool r) ∧ Below w.heap.size w w' := by
  unfold spec_NameOk.f at h
  by_cases hs : s.size ≤ 1048576
  case neg => rw [if_neg hs] at h; cases h
  rw [if_pos hs] at h
  have H' := Aside0.mk h
  clear h
  go_enter Tryd.func12, Tryd.ntmps12
  go_wp2
  go_loopg [3] k (fun kq v3 w' => ∃ (n : Int) (pos : Nat), v3 = .int .i64 n ∧ Aside0 (spec_NameOk.l0 kq s n pos = some r) ∧ Aside0 (kq ≤ k) ∧ w' = w.iter s pos)
  case atStart => exact ⟨0, 0, rfl, H', ⟨Nat.le_refl _⟩, rfl⟩
  case round =>
    clear H'
    obtain ⟨n, pos, rfl, HA, HK, rfl⟩ := hrel
    cases gk with
    | zero => exact absurd HA.out (by simp [spec_NameOk.l0])
    | succ k1 =>
      have H := HA.out
      clear HA
      simp only [spec_NameOk.l0] at H
      by_cases hp : pos < s.size
      · rw [if_pos hp] at H
        have hnx : ∀ ty, (Instr.next (.pointer (some ⟨w.heap.size, 0, none⟩)) true ty).run Tryd.prog (w.iter s pos) = _ := fun ty => run_next_any w s pos ty hp
        have hwd := Lib.decode_width_pos s pos hp
        have hr := rune_range s pos hp
        obtain ⟨p2, hp2⟩ : ∃ p2, pos + (Utf8.decode s pos).2 = p2 := ⟨_, rfl⟩
        obtain ⟨cn, hcn⟩ : ∃ cn, (Utf8.decode s pos).1 = cn := ⟨_, rfl⟩
        rw [hp2, hcn] at H hnx
        rw [hcn] at hr
        clear hwd hcn
        obtain ⟨c, hc⟩ : ∃ c : Int, (cn : Int) = c := ⟨_, rfl⟩
        rw [hc] at H hnx
        have hc0 : 0 ≤ c ∧ c ≤ 1114111 := by omega
        have hcw : IntKind.i64.wrap c = c := by rw [IntKind.wrap_i64]; omega
        have hcw' : wrap64 c = c := by unfold wrap64; omega
        clear hc hr
        by_cases hb : c = 65533
        · subst hb
          clear hcw hcw'
          go_wp2
          · rename_i a1 a2 a3 a4 a5 a6
            have hbk : brokenAt s pos 65533 = true := (broken_iff s pos hp).2 (by
              rcases a6 with h | h
              · exact Or.inl (by omega)
              · exact Or.inr ⟨by omega, fun hh => by rw [hh.2.2] at h; exact absurd h (by decide)⟩)
            rw [hbk, if_pos rfl] at H
            obtain rfl := Option.some.inj H
            go_ret
            exact ⟨rfl, below_iter _ _ _⟩
          · rename_i a1 a2 a3 a4 a5 a6
            have hbk : brokenAt s pos 65533 = false := Bool.eq_false_iff.2 (fun hh => by
              rcases (broken_iff s pos hp).1 hh with h | ⟨h, h'⟩
              · omega
              · exact h' ⟨a2, a4, bne_eq_false_iff_eq.1 a6.2⟩)
            rw [hbk, if_neg (by decide), if_pos (by decide)] at H
            go_roundg k1
            case measure => have := HK.out; omega
            case rel => exact ⟨wrap64 (n + 1), p2, by first | rfl | (simp; done), ⟨H⟩, ⟨by have := HK.out; omega⟩, rfl⟩
          · rename_i a1 a2 a3 a4
            have hbk : brokenAt s pos 65533 = true := (broken_iff s pos hp).2 (Or.inr ⟨by omega, fun hh => a4 hh.2.1⟩)
            rw [hbk, if_pos rfl] at H
            obtain rfl := Option.some.inj H
            go_ret
            exact ⟨rfl, below_iter _ _ _⟩
          · rename_i a1 a2
            have hbk : brokenAt s pos 65533 = true := (broken_iff s pos hp).2 (Or.inr ⟨by omega, fun hh => a2 hh.1⟩)
            rw [hbk, if_pos rfl] at H
            obtain rfl := Option.some.inj H
            go_ret
            exact ⟨rfl, below_iter _ _ _⟩
          · rename_i a1
            have hbk : brokenAt s pos 65533 = true := (broken_iff s pos hp).2 (Or.inl (by omega))
            rw [hbk, if_pos rfl] at H
            obtain rfl := Option.some.inj H
            go_ret
            exact ⟨rfl, below_iter _ _ _⟩
        · have hb1 : (c == 65533) = false := beq_eq_false_iff_ne.2 hb
          have hbr : brokenAt s pos c = false := by unfold brokenAt; rw [hb1]; rfl
          rw [hbr, if_neg (by decide)] at H
          rcases (by omega : (c ≤ 31) ∨ (32 ≤ c ∧ c ≤ 32) ∨ (33 ≤ c ∧ c ≤ 44) ∨ (45 ≤ c ∧ c ≤ 45) ∨ (46 ≤ c ∧ c ≤ 47) ∨ (48 ≤ c ∧ c ≤ 57) ∨ (58 ≤ c ∧ c ≤ 64) ∨ (65 ≤ c ∧ c ≤ 90) ∨ (91 ≤ c ∧ c ≤ 94) ∨ (95 ≤ c ∧ c ≤ 95) ∨ (96 ≤ c ∧ c ≤ 96) ∨ (97 ≤ c ∧ c ≤ 122) ∨ (123 ≤ c ∧ c ≤ 159) ∨ (160 ≤ c)) with h | h | h | h | h | h | h | h | h | h | h | h | h | h
          · have hg : nameRune c = false := by unfold nameRune; simp; omega
            have f0 : decide (97 ≤ c) = false := decide_eq_false (by omega)
            have f1 : decide (65 ≤ c) = false := decide_eq_false (by omega)
            have f2 : decide (48 ≤ c) = false := decide_eq_false (by omega)
            have f3 : decide (c ≤ 122) = true := decide_eq_true (by omega)
            have f4 : decide (c ≤ 90) = true := decide_eq_true (by omega)
            have f5 : decide (c ≤ 57) = true := decide_eq_true (by omega)
            have f6 : (c != 45) = true := bne_iff_ne.2 (by omega)
            have f7 : (c == 45) = false := beq_eq_false_iff_ne.2 (by omega)
            have f8 : (c != 95) = true := bne_iff_ne.2 (by omega)
            have f9 : (c == 95) = false := beq_eq_false_iff_ne.2 (by omega)
            have f10 : (c != 32) = true := bne_iff_ne.2 (by omega)
            have f11 : (c == 32) = false := beq_eq_false_iff_ne.2 (by omega)
            have f12 : decide (c < 160) = true := decide_eq_true (by omega)
            have f13 : decide (160 ≤ c) = false := decide_eq_false (by omega)
            rw [hg, if_neg (by decide)] at H
            clear h hc0 hcw hb hg hbr
            go_wp2
            obtain rfl := Option.some.inj H
            go_ret
            exact ⟨rfl, below_iter _ _ _⟩
          · have hg : nameRune c = true := by unfold nameRune; simp; omega
            have f0 : decide (97 ≤ c) = false := decide_eq_false (by omega)
            have f1 : decide (65 ≤ c) = false := decide_eq_false (by omega)
            have f2 : decide (48 ≤ c) = false := decide_eq_false (by omega)
            have f3 : decide (c ≤ 122) = true := decide_eq_true (by omega)
            have f4 : decide (c ≤ 90) = true := decide_eq_true (by omega)
            have f5 : decide (c ≤ 57) = true := decide_eq_true (by omega)
            have f6 : (c != 45) = true := bne_iff_ne.2 (by omega)
            have f7 : (c == 45) = false := beq_eq_false_iff_ne.2 (by omega)
            have f8 : (c != 95) = true := bne_iff_ne.2 (by omega)
            have f9 : (c == 95) = false := beq_eq_false_iff_ne.2 (by omega)
            have f10 : (c != 32) = false := bne_eq_false_iff_eq.2 (by omega)
            have f11 : (c == 32) = true := beq_iff_eq.2 (by omega)
            have f12 : decide (c < 160) = true := decide_eq_true (by omega)
            have f13 : decide (160 ≤ c) = false := decide_eq_false (by omega)
            rw [hg, if_pos rfl] at H
            clear h hc0 hcw hb hg hbr
            go_wp2
            go_roundg k1
            case measure => have := HK.out; omega
            case rel => exact ⟨wrap64 (n + 1), p2, by first | rfl | (simp; done), ⟨H⟩, ⟨by have := HK.out; omega⟩, rfl⟩
          · have hg : nameRune c = false := by unfold nameRune; simp; omega
            have f0 : decide (97 ≤ c) = false := decide_eq_false (by omega)
            have f1 : decide (65 ≤ c) = false := decide_eq_false (by omega)
            have f2 : decide (48 ≤ c) = false := decide_eq_false (by omega)
            have f3 : decide (c ≤ 122) = true := decide_eq_true (by omega)
            have f4 : decide (c ≤ 90) = true := decide_eq_true (by omega)
            have f5 : decide (c ≤ 57) = true := decide_eq_true (by omega)
            have f6 : (c != 45) = true := bne_iff_ne.2 (by omega)
            have f7 : (c == 45) = false := beq_eq_false_iff_ne.2 (by omega)
            have f8 : (c != 95) = true := bne_iff_ne.2 (by omega)
            have f9 : (c == 95) = false := beq_eq_false_iff_ne.2 (by omega)
            have f10 : (c != 32) = true := bne_iff_ne.2 (by omega)
            have f11 : (c == 32) = false := beq_eq_false_iff_ne.2 (by omega)
            have f12 : decide (c < 160) = true := decide_eq_true (by omega)
            have f13 : decide (160 ≤ c) = false := decide_eq_false (by omega)
            rw [hg, if_neg (by decide)] at H
            clear h hc0 hcw hb hg hbr
            go_wp2
            obtain rfl := Option.some.inj H
            go_ret
            exact ⟨rfl, below_iter _ _ _⟩
          · have hg : nameRune c = true := by unfold nameRune; simp; omega
            have f0 : decide (97 ≤ c) = false := decide_eq_false (by omega)
            have f1 : decide (65 ≤ c) = false := decide_eq_false (by omega)
            have f2 : decide (48 ≤ c) = false := decide_eq_false (by omega)
            have f3 : decide (c ≤ 122) = true := decide_eq_true (by omega)
            have f4 : decide (c ≤ 90) = true := decide_eq_true (by omega)
            have f5 : decide (c ≤ 57) = true := decide_eq_true (by omega)
            have f6 : (c != 45) = false := bne_eq_false_iff_eq.2 (by omega)
            have f7 : (c == 45) = true := beq_iff_eq.2 (by omega)
            have f8 : (c != 95) = true := bne_iff_ne.2 (by omega)
            have f9 : (c == 95) = false := beq_eq_false_iff_ne.2 (by omega)
            have f10 : (c != 32) = true := bne_iff_ne.2 (by omega)
            have f11 : (c == 32) = false := beq_eq_false_iff_ne.2 (by omega)
            have f12 : decide (c < 160) = true := decide_eq_true (by omega)
            have f13 : decide (160 ≤ c) = false := decide_eq_false (by omega)
            rw [hg, if_pos rfl] at H
            clear h hc0 hcw hb hg hbr
            go_wp2
            go_roundg k1
            case measure => have := HK.out; omega
            case rel => exact ⟨wrap64 (n + 1), p2, by first | rfl | (simp; done), ⟨H⟩, ⟨by have := HK.out; omega⟩, rfl⟩
          · have hg : nameRune c = false := by unfold nameRune; simp; omega
            have f0 : decide (97 ≤ c) = false := decide_eq_false (by omega)
            have f1 : decide (65 ≤ c) = false := decide_eq_false (by omega)
            have f2 : decide (48 ≤ c) = false := decide_eq_false (by omega)
            have f3 : decide (c ≤ 122) = true := decide_eq_true (by omega)
            have f4 : decide (c ≤ 90) = true := decide_eq_true (by omega)
            have f5 : decide (c ≤ 57) = true := decide_eq_true (by omega)
            have f6 : (c != 45) = true := bne_iff_ne.2 (by omega)
            have f7 : (c == 45) = false := beq_eq_false_iff_ne.2 (by omega)
            have f8 : (c != 95) = true := bne_iff_ne.2 (by omega)
            have f9 : (c == 95) = false := beq_eq_false_iff_ne.2 (by omega)
            have f10 : (c != 32) = true := bne_iff_ne.2 (by omega)
            have f11 : (c == 32) = false := beq_eq_false_iff_ne.2 (by omega)
            have f12 : decide (c < 160) = true := decide_eq_true (by omega)
            have f13 : decide (160 ≤ c) = false := decide_eq_false (by omega)
            rw [hg, if_neg (by decide)] at H
            clear h hc0 hcw hb hg hbr
            go_wp2
            obtain rfl := Option.some.inj H
            go_ret
            exact ⟨rfl, below_iter _ _ _⟩
          · have hg : nameRune c = true := by unfold nameRune; simp; omega
            have f0 : decide (97 ≤ c) = false := decide_eq_false (by omega)
            have f1 : decide (65 ≤ c) = false := decide_eq_false (by omega)
            have f2 : decide (48 ≤ c) = true := decide_eq_true (by omega)
            have f3 : decide (c ≤ 122) = true := decide_eq_true (by omega)
            have f4 : decide (c ≤ 90) = true := decide_eq_true (by omega)
            have f5 : decide (c ≤ 57) = true := decide_eq_true (by omega)
            have f6 : (c != 45) = true := bne_iff_ne.2 (by omega)
            have f7 : (c == 45) = false := beq_eq_false_iff_ne.2 (by omega)
            have f8 : (c != 95) = true := bne_iff_ne.2 (by omega)
            have f9 : (c == 95) = false := beq_eq_false_iff_ne.2 (by omega)
            have f10 : (c != 32) = true := bne_iff_ne.2 (by omega)
            have f11 : (c == 32) = false := beq_eq_false_iff_ne.2 (by omega)
            have f12 : decide (c < 160) = true := decide_eq_true (by omega)
            have f13 : decide (160 ≤ c) = false := decide_eq_false (by omega)
            rw [hg, if_pos rfl] at H
            clear h hc0 hcw hb hg hbr
            go_wp2
            go_roundg k1
            case measure => have := HK.out; omega
            case rel => exact ⟨wrap64 (n + 1), p2, by first | rfl | (simp; done), ⟨H⟩, ⟨by have := HK.out; omega⟩, rfl⟩
          · have hg : nameRune c = false := by unfold nameRune; simp; omega
            have f0 : decide (97 ≤ c) = false := decide_eq_false (by omega)
            have f1 : decide (65 ≤ c) = false := decide_eq_false (by omega)
            have f2 : decide (48 ≤ c) = true := decide_eq_true (by omega)
            have f3 : decide (c ≤ 122) = true := decide_eq_true (by omega)
            have f4 : decide (c ≤ 90) = true := decide_eq_true (by omega)
            have f5 : decide (c ≤ 57) = false := decide_eq_false (by omega)
            have f6 : (c != 45) = true := bne_iff_ne.2 (by omega)
            have f7 : (c == 45) = false := beq_eq_false_iff_ne.2 (by omega)
            have f8 : (c != 95) = true := bne_iff_ne.2 (by omega)
            have f9 : (c == 95) = false := beq_eq_false_iff_ne.2 (by omega)
            have f10 : (c != 32) = true := bne_iff_ne.2 (by omega)
            have f11 : (c == 32) = false := beq_eq_false_iff_ne.2 (by omega)
            have f12 : decide (c < 160) = true := decide_eq_true (by omega)
            have f13 : decide (160 ≤ c) = false := decide_eq_false (by omega)
            rw [hg, if_neg (by decide)] at H
            clear h hc0 hcw hb hg hbr
            go_wp2
            obtain rfl := Option.some.inj H
            go_ret
            exact ⟨rfl, below_iter _ _ _⟩
          · have hg : nameRune c = true := by unfold nameRune; simp; omega
            have f0 : decide (97 ≤ c) = false := decide_eq_false (by omega)
            have f1 : decide (65 ≤ c) = true := decide_eq_true (by omega)
            have f2 : decide (48 ≤ c) = true := decide_eq_true (by omega)
            have f3 : decide (c ≤ 122) = true := decide_eq_true (by omega)
            have f4 : decide (c ≤ 90) = true := decide_eq_true (by omega)
            have f5 : decide (c ≤ 57) = false := decide_eq_false (by omega)
            have f6 : (c != 45) = true := bne_iff_ne.2 (by omega)
            have f7 : (c == 45) = false := beq_eq_false_iff_ne.2 (by omega)
            have f8 : (c != 95) = true := bne_iff_ne.2 (by omega)
            have f9 : (c == 95) = false := beq_eq_false_iff_ne.2 (by omega)
            have f10 : (c != 32) = true := bne_iff_ne.2 (by omega)
            have f11 : (c == 32) = false := beq_eq_false_iff_ne.2 (by omega)
            have f12 : decide (c < 160) = true := decide_eq_true (by omega)
            have f13 : decide (160 ≤ c) = false := decide_eq_false (by omega)
            rw [hg, if_pos rfl] at H
            clear h hc0 hcw hb hg hbr
            go_wp2
            go_roundg k1
            case measure => have := HK.out; omega
            case rel => exact ⟨wrap64 (n + 1), p2, by first | rfl | (simp; done), ⟨H⟩, ⟨by have := HK.out; omega⟩, rfl⟩
          · have hg : nameRune c = false := by unfold nameRune; simp; omega
            have f0 : decide (97 ≤ c) = false := decide_eq_false (by omega)
            have f1 : decide (65 ≤ c) = true := decide_eq_true (by omega)
            have f2 : decide (48 ≤ c) = true := decide_eq_true (by omega)
            have f3 : decide (c ≤ 122) = true := decide_eq_true (by omega)
            have f4 : decide (c ≤ 90) = false := decide_eq_false (by omega)
            have f5 : decide (c ≤ 57) = false := decide_eq_false (by omega)
            have f6 : (c != 45) = true := bne_iff_ne.2 (by omega)
            have f7 : (c == 45) = false := beq_eq_false_iff_ne.2 (by omega)
            have f8 : (c != 95) = true := bne_iff_ne.2 (by omega)
            have f9 : (c == 95) = false := beq_eq_false_iff_ne.2 (by omega)
            have f10 : (c != 32) = true := bne_iff_ne.2 (by omega)
            have f11 : (c == 32) = false := beq_eq_false_iff_ne.2 (by omega)
            have f12 : decide (c < 160) = true := decide_eq_true (by omega)
            have f13 : decide (160 ≤ c) = false := decide_eq_false (by omega)
            rw [hg, if_neg (by decide)] at H
            clear h hc0 hcw hb hg hbr
            go_wp2
            obtain rfl := Option.some.inj H
            go_ret
            exact ⟨rfl, below_iter _ _ _⟩
          · have hg : nameRune c = true := by unfold nameRune; simp; omega
            have f0 : decide (97 ≤ c) = false := decide_eq_false (by omega)
            have f1 : decide (65 ≤ c) = true := decide_eq_true (by omega)
            have f2 : decide (48 ≤ c) = true := decide_eq_true (by omega)
            have f3 : decide (c ≤ 122) = true := decide_eq_true (by omega)
            have f4 : decide (c ≤ 90) = false := decide_eq_false (by omega)
            have f5 : decide (c ≤ 57) = false := decide_eq_false (by omega)
            have f6 : (c != 45) = true := bne_iff_ne.2 (by omega)
            have f7 : (c == 45) = false := beq_eq_false_iff_ne.2 (by omega)
            have f8 : (c != 95) = false := bne_eq_false_iff_eq.2 (by omega)
            have f9 : (c == 95) = true := beq_iff_eq.2 (by omega)
            have f10 : (c != 32) = true := bne_iff_ne.2 (by omega)
            have f11 : (c == 32) = false := beq_eq_false_iff_ne.2 (by omega)
            have f12 : decide (c < 160) = true := decide_eq_true (by omega)
            have f13 : decide (160 ≤ c) = false := decide_eq_false (by omega)
            rw [hg, if_pos rfl] at H
            clear h hc0 hcw hb hg hbr
            go_wp2
            go_roundg k1
            case measure => have := HK.out; omega
            case rel => exact ⟨wrap64 (n + 1), p2, by first | rfl | (simp; done), ⟨H⟩, ⟨by have := HK.out; omega⟩, rfl⟩
          · have hg : nameRune c = false := by unfold nameRune; simp; omega
            have f0 : decide (97 ≤ c) = false := decide_eq_false (by omega)
            have f1 : decide (65 ≤ c) = true := decide_eq_true (by omega)
            have f2 : decide (48 ≤ c) = true := decide_eq_true (by omega)
            have f3 : decide (c ≤ 122) = true := decide_eq_true (by omega)
            have f4 : decide (c ≤ 90) = false := decide_eq_false (by omega)
            have f5 : decide (c ≤ 57) = false := decide_eq_false (by omega)
            have f6 : (c != 45) = true := bne_iff_ne.2 (by omega)
            have f7 : (c == 45) = false := beq_eq_false_iff_ne.2 (by omega)
            have f8 : (c != 95) = true := bne_iff_ne.2 (by omega)
            have f9 : (c == 95) = false := beq_eq_false_iff_ne.2 (by omega)
            have f10 : (c != 32) = true := bne_iff_ne.2 (by omega)
            have f11 : (c == 32) = false := beq_eq_false_iff_ne.2 (by omega)
            have f12 : decide (c < 160) = true := decide_eq_true (by omega)
            have f13 : decide (160 ≤ c) = false := decide_eq_false (by omega)
            rw [hg, if_neg (by decide)] at H
            clear h hc0 hcw hb hg hbr
            go_wp2
            obtain rfl := Option.some.inj H
            go_ret
            exact ⟨rfl, below_iter _ _ _⟩
          · have hg : nameRune c = true := by unfold nameRune; simp; omega
            have f0 : decide (97 ≤ c) = true := decide_eq_true (by omega)
            have f1 : decide (65 ≤ c) = true := decide_eq_true (by omega)
            have f2 : decide (48 ≤ c) = true := decide_eq_true (by omega)
            have f3 : decide (c ≤ 122) = true := decide_eq_true (by omega)
            have f4 : decide (c ≤ 90) = false := decide_eq_false (by omega)
            have f5 : decide (c ≤ 57) = false := decide_eq_false (by omega)
            have f6 : (c != 45) = true := bne_iff_ne.2 (by omega)
            have f7 : (c == 45) = false := beq_eq_false_iff_ne.2 (by omega)
            have f8 : (c != 95) = true := bne_iff_ne.2 (by omega)
            have f9 : (c == 95) = false := beq_eq_false_iff_ne.2 (by omega)
            have f10 : (c != 32) = true := bne_iff_ne.2 (by omega)
            have f11 : (c == 32) = false := beq_eq_false_iff_ne.2 (by omega)
            have f12 : decide (c < 160) = true := decide_eq_true (by omega)
            have f13 : decide (160 ≤ c) = false := decide_eq_false (by omega)
            rw [hg, if_pos rfl] at H
            clear h hc0 hcw hb hg hbr
            go_wp2
            go_roundg k1
            case measure => have := HK.out; omega
            case rel => exact ⟨wrap64 (n + 1), p2, by first | rfl | (simp; done), ⟨H⟩, ⟨by have := HK.out; omega⟩, rfl⟩
          · have hg : nameRune c = false := by unfold nameRune; simp; omega
            have f0 : decide (97 ≤ c) = true := decide_eq_true (by omega)
            have f1 : decide (65 ≤ c) = true := decide_eq_true (by omega)
            have f2 : decide (48 ≤ c) = true := decide_eq_true (by omega)
            have f3 : decide (c ≤ 122) = false := decide_eq_false (by omega)
            have f4 : decide (c ≤ 90) = false := decide_eq_false (by omega)
            have f5 : decide (c ≤ 57) = false := decide_eq_false (by omega)
            have f6 : (c != 45) = true := bne_iff_ne.2 (by omega)
            have f7 : (c == 45) = false := beq_eq_false_iff_ne.2 (by omega)
            have f8 : (c != 95) = true := bne_iff_ne.2 (by omega)
            have f9 : (c == 95) = false := beq_eq_false_iff_ne.2 (by omega)
            have f10 : (c != 32) = true := bne_iff_ne.2 (by omega)
            have f11 : (c == 32) = false := beq_eq_false_iff_ne.2 (by omega)
            have f12 : decide (c < 160) = true := decide_eq_true (by omega)
            have f13 : decide (160 ≤ c) = false := decide_eq_false (by omega)
            rw [hg, if_neg (by decide)] at H
            clear h hc0 hcw hb hg hbr
            go_wp2
            obtain rfl := Option.some.inj H
            go_ret
            exact ⟨rfl, below_iter _ _ _⟩
          · have hg : nameRune c = true := by unfold nameRune; simp; omega
            have f0 : decide (97 ≤ c) = true := decide_eq_true (by omega)
            have f1 : decide (65 ≤ c) = true := decide_eq_true (by omega)
            have f2 : decide (48 ≤ c) = true := decide_eq_true (by omega)
            have f3 : decide (c ≤ 122) = false := decide_eq_false (by omega)
            have f4 : decide (c ≤ 90) = false := decide_eq_false (by omega)
            have f5 : decide (c ≤ 57) = false := decide_eq_false (by omega)
            have f6 : (c != 45) = true := bne_iff_ne.2 (by omega)
            have f7 : (c == 45) = false := beq_eq_false_iff_ne.2 (by omega)
            have f8 : (c != 95) = true := bne_iff_ne.2 (by omega)
            have f9 : (c == 95) = false := beq_eq_false_iff_ne.2 (by omega)
            have f10 : (c != 32) = true := bne_iff_ne.2 (by omega)
            have f11 : (c == 32) = false := beq_eq_false_iff_ne.2 (by omega)
            have f12 : decide (c < 160) = false := decide_eq_false (by omega)
            have f13 : decide (160 ≤ c) = true := decide_eq_true (by omega)
            rw [hg, if_pos rfl] at H
            clear h hc0 hcw hb hg hbr
            go_wp2
            go_roundg k1
            case measure => have := HK.out; omega
            case rel => exact ⟨wrap64 (n + 1), p2, by first | rfl | (simp; done), ⟨H⟩, ⟨by have := HK.out; omega⟩, rfl⟩
      · rw [if_neg hp] at H
        have hnx : ∀ ty, (Instr.next (.pointer (some ⟨w.heap.size, 0, none⟩)) true ty).run Tryd.prog (w.iter s pos) = _ := fun ty => run_next_end w s pos ty hp
        go_wp2
        · rename_i a1 a2 a3 a4
          have e0 : bt s 0 = ((s[0]'a3).toNat : Int) := (bt_at s 0 a3).symm
          rw [if_pos a1, if_pos a2, if_pos a3, e0, a4] at H
          obtain rfl := Option.some.inj H
          go_ret
          exact ⟨rfl, below_iter _ _ _⟩
        · rename_i a1 a2 a3 a4 a5
          have e0 : bt s 0 = ((s[0]'a3).toNat : Int) := (bt_at s 0 a3).symm
          have en : ((s.size : Int) - 1) = ((s.size - 1 : Nat) : Int) := by omega
          have e1 := bt_at s ((s.size - 1 : Nat) : Int) (by rw [Int.toNat_natCast]; omega)
          have e2 : (((s[0]'a3).toNat : Int) != 32) = true := bne_iff_ne.2 a4
          rw [if_pos a1, if_pos a2, if_pos a3, e0, e2, Bool.true_and, en, ← e1] at H
          obtain rfl := Option.some.inj H
          go_ret
          refine ⟨?_, below_iter _ _ _⟩
          show Ending.returned (.bool (((s[0]'a3).toNat : Int) != 32 && _)) = _
          rw [e2, Bool.true_and]
          rfl
        · have a1 : 1 ≤ n := by assumption
          have a2 : n ≤ 24 := by assumption
          have a3 : ¬ 0 < s.size := by assumption
          rw [if_pos a1, if_pos a2, if_neg a3] at H
          cases H
        · rename_i a1 a2
          rw [if_pos a1, if_neg (by omega)] at H
          obtain rfl := Option.some.inj H
          go_ret
          exact ⟨rfl, below_iter _ _ _⟩
        · rename_i a1
          rw [if_neg (by omega)] at H
          obtain rfl := Option.some.inj H
          go_ret
          exact ⟨rfl, below_iter _ _ _⟩

/-! ### spec_l16Version: function 48 -/
def spec_l16Version.f (l0 : List Int) : Option (Bool) := if (l0.length : Int) = 3 then (if 0 < (l0.length : Int) then ((spec_l1In.f (rd l0 0) 0 999).bind fun t107 => (if t107 = true then (if 1 < (l0.length : Int) then ((spec_l1In.f (rd l0 1) 0 999).bind fun t109 => (if t109 = true then (if 2 < (l0.length : Int) then ((spec_l1In.f (rd l0 2) 0 999).bind fun t111 => (some t111)) else (none)) else (some false))) else (none)) else (some false))) else (none)) else (some false)
set_option maxHeartbeats 8000000 in
set_option maxRecDepth 100000 in
theorem spec_l16Version.calls (A0 : Option Addr) (c0 : Nat) (l0 : List Int) (r : Bool) (w : World) (hr0 : Kd.C (Kd.int .i64) w A0 l0.length l0) (hc0 : l0.length ≤ c0) (h : spec_l16Version.f l0 = some r) :
    Calls Tryd.prog 48 #[.slice A0 l0.length c0] w fun e w' => e = .returned (.bool r) ∧ Drawn0 w w' := by
  have HR0 := Aside0.mk hr0
  have HC0 := Aside0.mk hc0
  clear hr0 hc0
  have H : (if (l0.length : Int) = 3 then (if 0 < (l0.length : Int) then ((spec_l1In.f (rd l0 0) 0 999).bind fun t107 => (if t107 = true then (if 1 < (l0.length : Int) then ((spec_l1In.f (rd l0 1) 0 999).bind fun t109 => (if t109 = true then (if 2 < (l0.length : Int) then ((spec_l1In.f (rd l0 2) 0 999).bind fun t111 => (some t111)) else (none)) else (some false))) else (none)) else (some false))) else (none)) else (some false)) = some r := h
  clear h
  by_cases c2 : (l0.length : Int) = 3
  · rw [if_pos c2] at H
    have c2b0 : ((l0.length : Int) == 3) = true := beq_iff_eq.mpr c2
    have c2b1 : ((l0.length : Int) != 3) = false := bne_eq_false_iff_eq.mpr c2
    clear c2
    by_cases c3 : 0 < (l0.length : Int)
    · rw [if_pos c3] at H
      have c3b0 : decide (0 < (l0.length : Int)) = true := decide_eq_true c3
      have c3b1 : decide (0 < l0.length) = true := decide_eq_true (by omega)
      clear c3
      replace H := Option.bind_eq_some_iff.mp H
      obtain ⟨t107, A40, H⟩ := H
      replace H : (if t107 = true then (if 1 < (l0.length : Int) then ((spec_l1In.f (rd l0 1) 0 999).bind fun t109 => (if t109 = true then (if 2 < (l0.length : Int) then ((spec_l1In.f (rd l0 2) 0 999).bind fun t111 => (some t111)) else (none)) else (some false))) else (none)) else (some false)) = some r := H
      have A4 := Aside0.mk A40
      clear A40
      by_cases c5 : t107 = true
      · subst c5
        have H1 : (if 1 < (l0.length : Int) then ((spec_l1In.f (rd l0 1) 0 999).bind fun t109 => (if t109 = true then (if 2 < (l0.length : Int) then ((spec_l1In.f (rd l0 2) 0 999).bind fun t111 => (some t111)) else (none)) else (some false))) else (none)) = some r := by first | (rw [if_pos rfl] at H; exact H) | with_reducible rfl
        clear H
        have H := H1
        clear H1
        by_cases c6 : 1 < (l0.length : Int)
        · rw [if_pos c6] at H
          have c6b0 : decide (1 < (l0.length : Int)) = true := decide_eq_true c6
          have c6b1 : decide (1 < l0.length) = true := decide_eq_true (by omega)
          clear c6
          replace H := Option.bind_eq_some_iff.mp H
          obtain ⟨t109, A70, H⟩ := H
          replace H : (if t109 = true then (if 2 < (l0.length : Int) then ((spec_l1In.f (rd l0 2) 0 999).bind fun t111 => (some t111)) else (none)) else (some false)) = some r := H
          have A7 := Aside0.mk A70
          clear A70
          by_cases c8 : t109 = true
          · subst c8
            have H1 : (if 2 < (l0.length : Int) then ((spec_l1In.f (rd l0 2) 0 999).bind fun t111 => (some t111)) else (none)) = some r := by first | (rw [if_pos rfl] at H; exact H) | with_reducible rfl
            clear H
            have H := H1
            clear H1
            by_cases c9 : 2 < (l0.length : Int)
            · rw [if_pos c9] at H
              have c9b0 : decide (2 < (l0.length : Int)) = true := decide_eq_true c9
              have c9b1 : decide (2 < l0.length) = true := decide_eq_true (by omega)
              clear c9
              replace H := Option.bind_eq_some_iff.mp H
              obtain ⟨t111, A100, H⟩ := H
              replace H : (some t111) = some r := H
              have A10 := Aside0.mk A100
              clear A100
              obtain rfl := Option.some.inj H
              have p106 : 0 ≤ (0 : Int) := (by omega)
              have q106 : 0 < (l0.length : Int) := of_decide_eq_true (by first | (with_reducible assumption) | assumption)
              obtain ⟨ad106, e106, hx106_0⟩ := Kd.at_int HR0.out 0 p106 q106
              cases e106
              have qi106 : (0 < l0.length) = True := eq_true (by omega)
              (try rw [show ((0 : Int)).toNat = 0 from rfl] at hx106_0)
              (try rw [Addr.add_zero'] at hx106_0)
              replace p106 := eq_true p106
              replace q106 := eq_true q106
              go_enter Tryd.func48, Tryd.ntmps48
              go_wp2_with (first | (go_at_call 39; (with_reducible refine (spec_l1In.calls (rd l0 0) 0 999 true _ A4.out).mono ?_); rintro e w' ⟨rfl, ⟨nd, rfl⟩⟩; have p108 : 0 ≤ (1 : Int) := (by omega); have q108 : 1 < (l0.length : Int) := of_decide_eq_true (by first | (with_reducible assumption) | assumption); obtain ⟨ad108, e108, hx108_0⟩ := Kd.at_int HR0.out 1 p108 q108; obtain rfl : ad106 = ad108 := (by injection e108); (try simp only [show (1 : Int).toNat = 1 from rfl, Nat.reduceMul, Nat.reduceEqDiff, Go.Addr.add, ↓reduceIte] at hx108_0); have qi108 : (1 < l0.length) = True := eq_true (by omega); (try rw [show ((1 : Int)).toNat = 1 from rfl] at hx108_0); replace p108 := eq_true p108; replace q108 := eq_true q108) | (go_at_call 39; (with_reducible refine (spec_l1In.calls (rd l0 1) 0 999 true _ A7.out).mono ?_); rintro e w' ⟨rfl, ⟨nd, rfl⟩⟩; have p110 : 0 ≤ (2 : Int) := (by omega); have q110 : 2 < (l0.length : Int) := of_decide_eq_true (by first | (with_reducible assumption) | assumption); obtain ⟨ad110, e110, hx110_0⟩ := Kd.at_int HR0.out 2 p110 q110; obtain rfl : ad106 = ad110 := (by injection e110); (try simp only [show (2 : Int).toNat = 2 from rfl, Nat.reduceMul, Nat.reduceEqDiff, Go.Addr.add, ↓reduceIte] at hx110_0); have qi110 : (2 < l0.length) = True := eq_true (by omega); (try rw [show ((2 : Int)).toNat = 2 from rfl] at hx110_0); replace p110 := eq_true p110; replace q110 := eq_true q110) | (go_at_call 39; (with_reducible refine (spec_l1In.calls (rd l0 2) 0 999 t111 _ A10.out).mono ?_); rintro e w' ⟨rfl, ⟨nd, rfl⟩⟩))
              go_ret
              exact ⟨by first | rfl | (simp; done) | (simp [*]; done), by repeat (first | exact Drawn0.refl _ | apply Drawn0.step)⟩
            · rw [if_neg c9] at H
              exact absurd H (by simp)
          · replace c8 := Bool.eq_false_iff.mpr c8
            subst c8
            have H1 : (some false) = some r := by first | (rw [if_neg (show ¬ (false = true) by decide)] at H; exact H) | with_reducible rfl
            clear H
            have H := H1
            clear H1
            obtain rfl := Option.some.inj H
            have p106 : 0 ≤ (0 : Int) := (by omega)
            have q106 : 0 < (l0.length : Int) := of_decide_eq_true (by first | (with_reducible assumption) | assumption)
            obtain ⟨ad106, e106, hx106_0⟩ := Kd.at_int HR0.out 0 p106 q106
            cases e106
            have qi106 : (0 < l0.length) = True := eq_true (by omega)
            (try rw [show ((0 : Int)).toNat = 0 from rfl] at hx106_0)
            (try rw [Addr.add_zero'] at hx106_0)
            replace p106 := eq_true p106
            replace q106 := eq_true q106
            go_enter Tryd.func48, Tryd.ntmps48
            go_wp2_with (first | (go_at_call 39; (with_reducible refine (spec_l1In.calls (rd l0 0) 0 999 true _ A4.out).mono ?_); rintro e w' ⟨rfl, ⟨nd, rfl⟩⟩; have p108 : 0 ≤ (1 : Int) := (by omega); have q108 : 1 < (l0.length : Int) := of_decide_eq_true (by first | (with_reducible assumption) | assumption); obtain ⟨ad108, e108, hx108_0⟩ := Kd.at_int HR0.out 1 p108 q108; obtain rfl : ad106 = ad108 := (by injection e108); (try simp only [show (1 : Int).toNat = 1 from rfl, Nat.reduceMul, Nat.reduceEqDiff, Go.Addr.add, ↓reduceIte] at hx108_0); have qi108 : (1 < l0.length) = True := eq_true (by omega); (try rw [show ((1 : Int)).toNat = 1 from rfl] at hx108_0); replace p108 := eq_true p108; replace q108 := eq_true q108) | (go_at_call 39; (with_reducible refine (spec_l1In.calls (rd l0 1) 0 999 false _ A7.out).mono ?_); rintro e w' ⟨rfl, ⟨nd, rfl⟩⟩))
            go_ret
            exact ⟨by first | rfl | (simp; done) | (simp [*]; done), by repeat (first | exact Drawn0.refl _ | apply Drawn0.step)⟩
        · rw [if_neg c6] at H
          exact absurd H (by simp)
      · replace c5 := Bool.eq_false_iff.mpr c5
        subst c5
        have H1 : (some false) = some r := by first | (rw [if_neg (show ¬ (false = true) by decide)] at H; exact H) | with_reducible rfl
        clear H
        have H := H1
        clear H1
        obtain rfl := Option.some.inj H
        have p106 : 0 ≤ (0 : Int) := (by omega)
        have q106 : 0 < (l0.length : Int) := of_decide_eq_true (by first | (with_reducible assumption) | assumption)
        obtain ⟨ad106, e106, hx106_0⟩ := Kd.at_int HR0.out 0 p106 q106
        cases e106
        have qi106 : (0 < l0.length) = True := eq_true (by omega)
        (try rw [show ((0 : Int)).toNat = 0 from rfl] at hx106_0)
        (try rw [Addr.add_zero'] at hx106_0)
        replace p106 := eq_true p106
        replace q106 := eq_true q106
        go_enter Tryd.func48, Tryd.ntmps48
        go_wp2_with (first | (go_at_call 39; (with_reducible refine (spec_l1In.calls (rd l0 0) 0 999 false _ A4.out).mono ?_); rintro e w' ⟨rfl, ⟨nd, rfl⟩⟩))
        go_ret
        exact ⟨by first | rfl | (simp; done) | (simp [*]; done), by repeat (first | exact Drawn0.refl _ | apply Drawn0.step)⟩
    · rw [if_neg c3] at H
      exact absurd H (by simp)
  · rw [if_neg c2] at H
    have c2b0 : ((l0.length : Int) == 3) = false := beq_eq_false_iff_ne.mpr c2
    have c2b1 : ((l0.length : Int) != 3) = true := bne_iff_ne.mpr c2
    obtain rfl := Option.some.inj H
    go_enter Tryd.func48, Tryd.ntmps48
    go_wp2
    go_ret
    exact ⟨by first | rfl | (simp; done) | (simp [*]; done), by repeat (first | exact Drawn0.refl _ | apply Drawn0.step)⟩

end Go.Proofs.YtekjcdcmiingmaaDoor.PFnExactPaperOk
