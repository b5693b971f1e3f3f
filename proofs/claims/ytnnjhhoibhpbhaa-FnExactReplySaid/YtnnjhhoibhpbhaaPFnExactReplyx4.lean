-- Made by a program of this repository (xp.py over the kit's print) out of the translation. Lean checks it.
import Derived.Test.YtnnjhhoibhpbhaaPFnExactReplyx0
import Derived.Test.YtnnjhhoibhpbhaaPFnExactReplyx1
import Derived.Test.YtnnjhhoibhpbhaaPFnExactReplyx2
import Derived.Test.YtnnjhhoibhpbhaaPFnExactReplyx3
namespace Go.Proofs.Ytnnjhhoibhpbhaa.PFnExactReply
open Go.RowKit Go.Proofs.YtnnjhhoibhpbhaaW.PrintWords Go.Proofs.YtnnjhhoibhpbhaaW.PrintLast Go.Proofs.YtnnjhhoibhpbhaaW.PrintMore
attribute [local go_sem] max2_int min2_int max_two min_two max_three min_three max_four min_four   -- for this text's walks alone
set_option linter.unusedVariables false
set_option linter.unusedSimpArgs false

/-! ### laws_FnExactReply: function 12 -/
mutual
def laws_FnExactReply.j0 : Nat → List Int → Int → Bool → List Int → Bool → Bool → Int → Int → Int → List Int → Int → Int → Int → List Int → Int → Int → Int → List Int → Int → Int → Int → List Int → Option (Bool)
 | 0, _, _, _, _, _, _, _, _, _, _, _, _, _, _, _, _, _, _, _, _, _, _ => none
 | k + 1, x0, x1, x9, x10, x13, x55, x154000, x154001, x154002, x154003, x172000, x172001, x172002, x172003, x182000, x182001, x182002, x182003, x190000, x190001, x190002, x190003 => if x55 = true then (some false) else ((laws_toByteS.f k x0).bind fun t191 => ((laws_eqByteS.f k x10 t191).bind fun t194 => (if t194 = true then ((laws_toFrame.f k x154000 x154001 x154002 x154003).bind fun bt195 => ((laws_eqFrame.f k x182000 x182001 x182002 x182003 bt195.1 bt195.2.1 bt195.2.2.1 bt195.2.2.2).bind fun t201 => (if t201 = true then ((laws_markByteS.f k x10 1).bind fun bt202 => ((laws_markFrame.f k x182000 x182001 x182002 x182003 bt202.1).bind fun bt204 => (if bt204.1 < 0 then (laws_FnExactReply.j1 k x0 x1 x9 true x154000 x154001 x154002 x154003 x172000 x172001 x172002 x172003 x190000 x190001 x190002 x190003) else ((laws_eqFrame.f k x190000 x190001 x190002 x190003 x172000 x172001 x172002 x172003).bind fun t206 => (if t206 = true then (laws_FnExactReply.j1 k x0 x1 x9 (x13 != x9) x154000 x154001 x154002 x154003 x172000 x172001 x172002 x172003 x190000 x190001 x190002 x190003) else (laws_FnExactReply.j1 k x0 x1 x9 true x154000 x154001 x154002 x154003 x172000 x172001 x172002 x172003 x190000 x190001 x190002 x190003)))))) else (some false)))) else (some false))))
def laws_FnExactReply.j1 : Nat → List Int → Int → Bool → Bool → Int → Int → Int → List Int → Int → Int → Int → List Int → Int → Int → Int → List Int → Option (Bool)
 | 0, _, _, _, _, _, _, _, _, _, _, _, _, _, _, _, _ => none
 | k + 1, x0, x1, x9, x84, x154000, x154001, x154002, x154003, x172000, x172001, x172002, x172003, x190000, x190001, x190002, x190003 => if x84 = true then (some false) else ((laws_markFrame.f k x190000 x190001 x190002 x190003 1).bind fun bt207 => ((laws_heldFrame.f k x190000 x190001 x190002 bt207.2 1).bind fun t209 => (if t209 < 0 then (some false) else (if t209 = bt207.1 then ((laws_toByteS.f k x0).bind fun t210 => ((laws_toFrame.f k x154000 x154001 x154002 x154003).bind fun bt213 => ((impl_Reply.f t210 x1 bt213.1 bt213.2.1 bt213.2.2.1 bt213.2.2.2).bind fun bt219 => ((laws_eqFrame.f k bt219.1 bt219.2.1 bt219.2.2.1 bt219.2.2.2.1 x172000 x172001 x172002 x172003).bind fun t227 => (if t227 = true then (laws_FnExactReply.j2 k bt207.1 (bt219.2.2.2.2 != x9) x190000 x190001 x190002 bt207.2) else (laws_FnExactReply.j2 k bt207.1 true x190000 x190001 x190002 bt207.2)))))) else (some false)))))
def laws_FnExactReply.j2 : Nat → Int → Bool → Int → Int → Int → List Int → Option (Bool)
 | 0, _, _, _, _, _, _ => none
 | k + 1, x15, x113, x190000, x190001, x190002, x190003 => if x113 = true then (some false) else ((laws_heldFrame.f k x190000 x190001 x190002 x190003 1).bind fun t228 => (if t228 < 0 then (some false) else (if t228 = x15 then (some true) else (some false))))
end
def laws_FnExactReply.f (k : Nat) (l0 : List Int) (a1 : Int) (a2_0 : Int) (a2_1 : Int) (a2_2 : Int) (l2_3 : List Int) : Option (Bool) := if (l0.length : Int) > 1048576 then (some true) else ((laws_szFrame.f a2_0 a2_1 a2_2 l2_3 1048576).bind fun t154 => (if t154 < 0 then (some true) else ((laws_toByteS.f k l0).bind fun t155 => ((laws_toFrame.f k a2_0 a2_1 a2_2 l2_3).bind fun bt158 => ((spec_Reply.f t155 a1 bt158.1 bt158.2.1 bt158.2.2.1 bt158.2.2.2).bind fun bt164 => ((laws_toByteS.f k l0).bind fun t172 => ((laws_toFrame.f k a2_0 a2_1 a2_2 l2_3).bind fun bt175 => ((impl_Reply.f t172 a1 bt175.1 bt175.2.1 bt175.2.2.1 bt175.2.2.2).bind fun bt182 => ((laws_eqFrame.f k bt182.1 bt182.2.1 bt182.2.2.1 bt182.2.2.2.1 bt164.1 bt164.2.1 bt164.2.2.1 bt164.2.2.2.1).bind fun t190 => (if t190 = true then (laws_FnExactReply.j0 k l0 a1 bt164.2.2.2.2 t172 bt182.2.2.2.2 (bt182.2.2.2.2 != bt164.2.2.2.2) a2_0 a2_1 a2_2 l2_3 bt164.1 bt164.2.1 bt164.2.2.1 bt164.2.2.2.1 bt175.1 bt175.2.1 bt175.2.2.1 bt175.2.2.2 bt182.1 bt182.2.1 bt182.2.2.1 bt182.2.2.2.1) else (laws_FnExactReply.j0 k l0 a1 bt164.2.2.2.2 t172 bt182.2.2.2.2 true a2_0 a2_1 a2_2 l2_3 bt164.1 bt164.2.1 bt164.2.2.1 bt164.2.2.2.1 bt175.1 bt175.2.1 bt175.2.2.1 bt175.2.2.2 bt182.1 bt182.2.1 bt182.2.2.1 bt182.2.2.2.1)))))))))))
theorem laws_FnExactReply.mono_l : ∀ k, (∀ y0 y1 y2 y3 y4 y5 y6 y7 y8 y9 y10 y11 y12 y13 y14 y15 y16 y17 y18 y19 y20 y21, LeO (laws_FnExactReply.j0 k y0 y1 y2 y3 y4 y5 y6 y7 y8 y9 y10 y11 y12 y13 y14 y15 y16 y17 y18 y19 y20 y21) (laws_FnExactReply.j0 (k + 1) y0 y1 y2 y3 y4 y5 y6 y7 y8 y9 y10 y11 y12 y13 y14 y15 y16 y17 y18 y19 y20 y21)) ∧ (∀ y0 y1 y2 y3 y4 y5 y6 y7 y8 y9 y10 y11 y12 y13 y14 y15, LeO (laws_FnExactReply.j1 k y0 y1 y2 y3 y4 y5 y6 y7 y8 y9 y10 y11 y12 y13 y14 y15) (laws_FnExactReply.j1 (k + 1) y0 y1 y2 y3 y4 y5 y6 y7 y8 y9 y10 y11 y12 y13 y14 y15)) ∧ (∀ y0 y1 y2 y3 y4 y5, LeO (laws_FnExactReply.j2 k y0 y1 y2 y3 y4 y5) (laws_FnExactReply.j2 (k + 1) y0 y1 y2 y3 y4 y5))
 | 0 => ⟨fun _ _ _ _ _ _ _ _ _ _ _ _ _ _ _ _ _ _ _ _ _ _ r h => by simp [laws_FnExactReply.j0] at h, fun _ _ _ _ _ _ _ _ _ _ _ _ _ _ _ _ r h => by simp [laws_FnExactReply.j1] at h, fun _ _ _ _ _ _ r h => by simp [laws_FnExactReply.j2] at h⟩
 | k + 1 => by
  obtain ⟨ih0, ih1, ih2⟩ := laws_FnExactReply.mono_l k
  refine ⟨?_, ?_, ?_⟩
  ·intro y0 y1 y2 y3 y4 y5 y6 y7 y8 y9 y10 y11 y12 y13 y14 y15 y16 y17 y18 y19 y20 y21
   unfold laws_FnExactReply.j0
   repeat' first
   | (with_reducible exact ih0 _ _ _ _ _ _ _ _ _ _ _ _ _ _ _ _ _ _ _ _ _ _)
   | (with_reducible exact ih1 _ _ _ _ _ _ _ _ _ _ _ _ _ _ _ _)
   | (with_reducible exact ih2 _ _ _ _ _ _)
   | (with_reducible exact laws_eqByteS.mono _ _ _)
   | (with_reducible exact laws_eqFrame.mono _ _ _ _ _ _ _ _ _)
   | (with_reducible exact laws_heldFrame.mono _ _ _ _ _ _)
   | (with_reducible exact laws_markByteS.mono _ _ _)
   | (with_reducible exact laws_markFrame.mono _ _ _ _ _ _)
   | (with_reducible exact laws_toByteS.mono _ _)
   | (with_reducible exact laws_toFrame.mono _ _ _ _ _)
   | (with_reducible exact LeO.refl _)
   | (with_reducible exact LeO.none _)
   | (with_reducible refine LeO.ite ?_ ?_)
   | (with_reducible refine LeO.bind ?_ (fun _ => ?_))
   | exact ih0 _ _ _ _ _ _ _ _ _ _ _ _ _ _ _ _ _ _ _ _ _ _
   | exact ih1 _ _ _ _ _ _ _ _ _ _ _ _ _ _ _ _
   | exact ih2 _ _ _ _ _ _
   | exact laws_eqByteS.mono _ _ _
   | exact laws_eqFrame.mono _ _ _ _ _ _ _ _ _
   | exact laws_heldFrame.mono _ _ _ _ _ _
   | exact laws_markByteS.mono _ _ _
   | exact laws_markFrame.mono _ _ _ _ _ _
   | exact laws_toByteS.mono _ _
   | exact laws_toFrame.mono _ _ _ _ _
   | exact LeO.none _
   | refine LeO.ite ?_ ?_
   | refine LeO.bind ?_ (fun _ => ?_)
  ·intro y0 y1 y2 y3 y4 y5 y6 y7 y8 y9 y10 y11 y12 y13 y14 y15
   unfold laws_FnExactReply.j1
   repeat' first
   | (with_reducible exact ih0 _ _ _ _ _ _ _ _ _ _ _ _ _ _ _ _ _ _ _ _ _ _)
   | (with_reducible exact ih1 _ _ _ _ _ _ _ _ _ _ _ _ _ _ _ _)
   | (with_reducible exact ih2 _ _ _ _ _ _)
   | (with_reducible exact laws_eqByteS.mono _ _ _)
   | (with_reducible exact laws_eqFrame.mono _ _ _ _ _ _ _ _ _)
   | (with_reducible exact laws_heldFrame.mono _ _ _ _ _ _)
   | (with_reducible exact laws_markByteS.mono _ _ _)
   | (with_reducible exact laws_markFrame.mono _ _ _ _ _ _)
   | (with_reducible exact laws_toByteS.mono _ _)
   | (with_reducible exact laws_toFrame.mono _ _ _ _ _)
   | (with_reducible exact LeO.refl _)
   | (with_reducible exact LeO.none _)
   | (with_reducible refine LeO.ite ?_ ?_)
   | (with_reducible refine LeO.bind ?_ (fun _ => ?_))
   | exact ih0 _ _ _ _ _ _ _ _ _ _ _ _ _ _ _ _ _ _ _ _ _ _
   | exact ih1 _ _ _ _ _ _ _ _ _ _ _ _ _ _ _ _
   | exact ih2 _ _ _ _ _ _
   | exact laws_eqByteS.mono _ _ _
   | exact laws_eqFrame.mono _ _ _ _ _ _ _ _ _
   | exact laws_heldFrame.mono _ _ _ _ _ _
   | exact laws_markByteS.mono _ _ _
   | exact laws_markFrame.mono _ _ _ _ _ _
   | exact laws_toByteS.mono _ _
   | exact laws_toFrame.mono _ _ _ _ _
   | exact LeO.none _
   | refine LeO.ite ?_ ?_
   | refine LeO.bind ?_ (fun _ => ?_)
  ·intro y0 y1 y2 y3 y4 y5
   unfold laws_FnExactReply.j2
   repeat' first
   | (with_reducible exact ih0 _ _ _ _ _ _ _ _ _ _ _ _ _ _ _ _ _ _ _ _ _ _)
   | (with_reducible exact ih1 _ _ _ _ _ _ _ _ _ _ _ _ _ _ _ _)
   | (with_reducible exact ih2 _ _ _ _ _ _)
   | (with_reducible exact laws_eqByteS.mono _ _ _)
   | (with_reducible exact laws_eqFrame.mono _ _ _ _ _ _ _ _ _)
   | (with_reducible exact laws_heldFrame.mono _ _ _ _ _ _)
   | (with_reducible exact laws_markByteS.mono _ _ _)
   | (with_reducible exact laws_markFrame.mono _ _ _ _ _ _)
   | (with_reducible exact laws_toByteS.mono _ _)
   | (with_reducible exact laws_toFrame.mono _ _ _ _ _)
   | (with_reducible exact LeO.refl _)
   | (with_reducible exact LeO.none _)
   | (with_reducible refine LeO.ite ?_ ?_)
   | (with_reducible refine LeO.bind ?_ (fun _ => ?_))
   | exact ih0 _ _ _ _ _ _ _ _ _ _ _ _ _ _ _ _ _ _ _ _ _ _
   | exact ih1 _ _ _ _ _ _ _ _ _ _ _ _ _ _ _ _
   | exact ih2 _ _ _ _ _ _
   | exact laws_eqByteS.mono _ _ _
   | exact laws_eqFrame.mono _ _ _ _ _ _ _ _ _
   | exact laws_heldFrame.mono _ _ _ _ _ _
   | exact laws_markByteS.mono _ _ _
   | exact laws_markFrame.mono _ _ _ _ _ _
   | exact laws_toByteS.mono _ _
   | exact laws_toFrame.mono _ _ _ _ _
   | exact LeO.none _
   | refine LeO.ite ?_ ?_
   | refine LeO.bind ?_ (fun _ => ?_)
theorem laws_FnExactReply.mono : ∀ a0 a1 a2 a3 a4 a5 k, LeO (laws_FnExactReply.f k a0 a1 a2 a3 a4 a5) (laws_FnExactReply.f (k + 1) a0 a1 a2 a3 a4 a5) := by
 intro a0 a1 a2 a3 a4 a5 k
 obtain ⟨ih0, ih1, ih2⟩ := laws_FnExactReply.mono_l k
 unfold laws_FnExactReply.f
 repeat' first
   | (with_reducible exact ih0 _ _ _ _ _ _ _ _ _ _ _ _ _ _ _ _ _ _ _ _ _ _)
   | (with_reducible exact ih1 _ _ _ _ _ _ _ _ _ _ _ _ _ _ _ _)
   | (with_reducible exact ih2 _ _ _ _ _ _)
   | (with_reducible exact laws_eqByteS.mono _ _ _)
   | (with_reducible exact laws_eqFrame.mono _ _ _ _ _ _ _ _ _)
   | (with_reducible exact laws_heldFrame.mono _ _ _ _ _ _)
   | (with_reducible exact laws_markByteS.mono _ _ _)
   | (with_reducible exact laws_markFrame.mono _ _ _ _ _ _)
   | (with_reducible exact laws_toByteS.mono _ _)
   | (with_reducible exact laws_toFrame.mono _ _ _ _ _)
   | (with_reducible exact LeO.refl _)
   | (with_reducible exact LeO.none _)
   | (with_reducible refine LeO.ite ?_ ?_)
   | (with_reducible refine LeO.bind ?_ (fun _ => ?_))
   | exact ih0 _ _ _ _ _ _ _ _ _ _ _ _ _ _ _ _ _ _ _ _ _ _
   | exact ih1 _ _ _ _ _ _ _ _ _ _ _ _ _ _ _ _
   | exact ih2 _ _ _ _ _ _
   | exact laws_eqByteS.mono _ _ _
   | exact laws_eqFrame.mono _ _ _ _ _ _ _ _ _
   | exact laws_heldFrame.mono _ _ _ _ _ _
   | exact laws_markByteS.mono _ _ _
   | exact laws_markFrame.mono _ _ _ _ _ _
   | exact laws_toByteS.mono _ _
   | exact laws_toFrame.mono _ _ _ _ _
   | exact LeO.none _
   | refine LeO.ite ?_ ?_
   | refine LeO.bind ?_ (fun _ => ?_)
def laws_FnExactReply.T7 : Bool × List (List Nat × List Nat) := (true, [([], []), ([0], [0]), ([], []), ([], []), ([3, 1], [3]), ([1, 2, 4, 4], [1, 2, 4]), ([5], [5]), ([6], [6]), ([6], [6]), ([], []), ([9, 7, 5, 0, 1, 2, 3, 4, 5, 6, 7, 9], [7, 9]), ([8, 10, 0, 1, 2, 3, 4, 5, 6, 7, 8, 9, 10], [8])])
def laws_FnExactReply.B7 : List Nat := [0, 1, 0, 0, 11, 31, 63, 127, 127, 0, 767, 2047]
theorem laws_FnExactReply.tab7 : rtab .any (opsOf Try.f12 7) = laws_FnExactReply.T7 := by kernel_rfl
theorem laws_FnExactReply.bits7 : waitsOk laws_FnExactReply.T7.2 laws_FnExactReply.B7 = true := by kernel_rfl
def laws_FnExactReply.T30 : Bool × List (List Nat × List Nat) := (true, [([], []), ([0], [0]), ([], []), ([], []), ([3, 1], [3]), ([1, 2, 4, 4], [1, 2, 4]), ([5], [5]), ([6], [6]), ([6], [6]), ([], []), ([9, 7, 5, 0, 1, 2, 3, 4, 5, 6, 7, 9], [7, 9]), ([8, 10, 0, 1, 2, 3, 4, 5, 6, 7, 8, 9, 10], [8])])
def laws_FnExactReply.B30 : List Nat := [0, 1, 0, 0, 11, 31, 63, 127, 127, 0, 767, 2047]
theorem laws_FnExactReply.tab30 : rtab .any (opsOf Try.f12 30) = laws_FnExactReply.T30 := by kernel_rfl
theorem laws_FnExactReply.bits30 : waitsOk laws_FnExactReply.T30.2 laws_FnExactReply.B30 = true := by kernel_rfl
set_option maxHeartbeats 8000000 in
set_option maxRecDepth 100000 in
theorem laws_FnExactReply.calls (k : Nat) (A0 : Option Addr) (c0 : Nat) (l0 : List Int) (a1 : Int) (a2_0 : Int) (a2_1 : Int) (a2_2 : Int) (A2_3 : Option Addr) (c2_3 : Nat) (l2_3 : List Int) (w : World) (hr0 : Kd.C (Kd.int .u8) w A0 l0.length l0) (hc0 : l0.length ≤ c0) (hr2_3 : Kd.C (Kd.int .u8) w A2_3 l2_3.length l2_3) (hc2_3 : l2_3.length ≤ c2_3) (h : laws_FnExactReply.f k l0 a1 a2_0 a2_1 a2_2 l2_3 = some true) :
  Calls Try.prog 12 #[.slice A0 l0.length c0, .int .i64 a1, .agg #[.int .i64 a2_0, .int .i64 a2_1, .int .i64 a2_2, .slice A2_3 l2_3.length c2_3]] w fun e w' => e = .returned (.bool true) ∧ Below w.heap.size w w' := by
 have hu38 := Try.underlying38
 have hu41 := Try.underlying41
 have HR0 := Aside0.mk hr0
 have HC0 := Aside0.mk hc0
 clear hr0 hc0
 have HR2_3 := Aside0.mk hr2_3
 have HC2_3 := Aside0.mk hc2_3
 clear hr2_3 hc2_3
 have HB := am (Below.refl w.heap.size w)
 have H : (if (l0.length : Int) > 1048576 then (some true) else ((laws_szFrame.f a2_0 a2_1 a2_2 l2_3 1048576).bind fun t154 => (if t154 < 0 then (some true) else ((laws_toByteS.f k l0).bind fun t155 => ((laws_toFrame.f k a2_0 a2_1 a2_2 l2_3).bind fun bt158 => ((spec_Reply.f t155 a1 bt158.1 bt158.2.1 bt158.2.2.1 bt158.2.2.2).bind fun bt164 => ((laws_toByteS.f k l0).bind fun t172 => ((laws_toFrame.f k a2_0 a2_1 a2_2 l2_3).bind fun bt175 => ((impl_Reply.f t172 a1 bt175.1 bt175.2.1 bt175.2.2.1 bt175.2.2.2).bind fun bt182 => ((laws_eqFrame.f k bt182.1 bt182.2.1 bt182.2.2.1 bt182.2.2.2.1 bt164.1 bt164.2.1 bt164.2.2.1 bt164.2.2.2.1).bind fun t190 => (if t190 = true then (laws_FnExactReply.j0 k l0 a1 bt164.2.2.2.2 t172 bt182.2.2.2.2 (bt182.2.2.2.2 != bt164.2.2.2.2) a2_0 a2_1 a2_2 l2_3 bt164.1 bt164.2.1 bt164.2.2.1 bt164.2.2.2.1 bt175.1 bt175.2.1 bt175.2.2.1 bt175.2.2.2 bt182.1 bt182.2.1 bt182.2.2.1 bt182.2.2.2.1) else (laws_FnExactReply.j0 k l0 a1 bt164.2.2.2.2 t172 bt182.2.2.2.2 true a2_0 a2_1 a2_2 l2_3 bt164.1 bt164.2.1 bt164.2.2.1 bt164.2.2.2.1 bt175.1 bt175.2.1 bt175.2.2.1 bt175.2.2.2 bt182.1 bt182.2.1 bt182.2.2.1 bt182.2.2.2.1)))))))))))) = some true := h
 clear h
 by_cases c4 : (l0.length : Int) > 1048576
 ·rw [if_pos c4] at H
  have c4b0 : decide (1048576 < (l0.length : Int)) = true := decide_eq_true c4
  have c4b1 : decide (1048576 < l0.length) = true := decide_eq_true (by omega)
  clear c4
  clear H
  go_enter Try.func12, Try.ntmps12
  go_wp2_with (first | ((with_reducible refine gate_dst (N := 5) rfl ?_); refine box_event ?hg (N := 5) ?hd (cs := #[.int .i64 a2_0, .int .i64 a2_1, .int .i64 a2_2, .slice A2_3 l2_3.length c2_3]) (t := 38) ?hr ?_; (case hd => rfl); (case hg => rfl); (case hr => first | (go_simp; done) | (go_simp; rfl)); intro gb153 hg w5 hbox hb; have n0_ := am (shHB HB.out hb); have n1_ := am (hbox); have n2_ := am ((shGE HB.out hg : w.heap.size ≤ gb153)); have n3_ := am ((shGE HB.out hg : w.heap.size ≤ gb153)); clear HB; have HB := n0_; have BK153 := n1_; have GW153 := n2_; have GE153 := n3_; clear n0_ n1_ n2_ n3_; clear hb hbox hg))
  go_ret
  exact ⟨by first | rfl | (simp [errW_none, errW_some] <;> rfl) | (simp [*, errW_none, errW_some] <;> rfl), by repeat (first | (with_reducible first | exact HB.out | apply below_alloc | apply pw_below_drewN | apply below_drew1 | refine below_set ?_ GE153.out) | exact HB.out)⟩
 ·rw [if_neg c4] at H
  have c4b0 : decide (1048576 < (l0.length : Int)) = false := decide_eq_false c4
  have c4b1 : decide (1048576 < l0.length) = false := decide_eq_false (by omega)
  clear c4
  replace H := Option.bind_eq_some_iff.mp H
  obtain ⟨t154, A60, H⟩ := H
  replace H : (if t154 < 0 then (some true) else ((laws_toByteS.f k l0).bind fun t155 => ((laws_toFrame.f k a2_0 a2_1 a2_2 l2_3).bind fun bt158 => ((spec_Reply.f t155 a1 bt158.1 bt158.2.1 bt158.2.2.1 bt158.2.2.2).bind fun bt164 => ((laws_toByteS.f k l0).bind fun t172 => ((laws_toFrame.f k a2_0 a2_1 a2_2 l2_3).bind fun bt175 => ((impl_Reply.f t172 a1 bt175.1 bt175.2.1 bt175.2.2.1 bt175.2.2.2).bind fun bt182 => ((laws_eqFrame.f k bt182.1 bt182.2.1 bt182.2.2.1 bt182.2.2.2.1 bt164.1 bt164.2.1 bt164.2.2.1 bt164.2.2.2.1).bind fun t190 => (if t190 = true then (laws_FnExactReply.j0 k l0 a1 bt164.2.2.2.2 t172 bt182.2.2.2.2 (bt182.2.2.2.2 != bt164.2.2.2.2) a2_0 a2_1 a2_2 l2_3 bt164.1 bt164.2.1 bt164.2.2.1 bt164.2.2.2.1 bt175.1 bt175.2.1 bt175.2.2.1 bt175.2.2.2 bt182.1 bt182.2.1 bt182.2.2.1 bt182.2.2.2.1) else (laws_FnExactReply.j0 k l0 a1 bt164.2.2.2.2 t172 bt182.2.2.2.2 true a2_0 a2_1 a2_2 l2_3 bt164.1 bt164.2.1 bt164.2.2.1 bt164.2.2.2.1 bt175.1 bt175.2.1 bt175.2.2.1 bt175.2.2.2 bt182.1 bt182.2.1 bt182.2.2.1 bt182.2.2.2.1)))))))))) = some true := H
  have A6 := Aside0.mk A60
  clear A60
  by_cases c7 : t154 < 0
  ·rw [if_pos c7] at H
   have c7b0 : decide (t154 < 0) = true := decide_eq_true c7
   clear c7
   clear H
   go_enter Try.func12, Try.ntmps12
   go_wp2_with (first | ((with_reducible refine gate_dst (N := 5) rfl ?_); refine box_event ?hg (N := 5) ?hd (cs := #[.int .i64 a2_0, .int .i64 a2_1, .int .i64 a2_2, .slice A2_3 l2_3.length c2_3]) (t := 38) ?hr ?_; (case hd => rfl); (case hg => rfl); (case hr => first | (go_simp; done) | (go_simp; rfl)); intro gb153 hg w8 hbox hb; have n0_ := am (shHB HB.out hb); have n1_ := am (hbox); have n2_ := am ((shGE HB.out hg : w.heap.size ≤ gb153)); have n3_ := am ((shGE HB.out hg : w.heap.size ≤ gb153)); clear HB; have HB := n0_; have BK153 := n1_; have GW153 := n2_; have GE153 := n3_; clear n0_ n1_ n2_ n3_; clear hb hbox hg; have hcz9_0 : w8.cell? ⟨gb153, 0, none⟩ = some (.int .i64 a2_0) := (blk_cell BK153.out 0).trans rfl; have hcz9_1 : w8.cell? ⟨gb153, 1, none⟩ = some (.int .i64 a2_1) := (blk_cell BK153.out 1).trans rfl; have hcz9_2 : w8.cell? ⟨gb153, 2, none⟩ = some (.int .i64 a2_2) := (blk_cell BK153.out 2).trans rfl; have hcz9_3 : w8.cell? ⟨gb153, 3, none⟩ = some (.slice A2_3 l2_3.length c2_3) := (blk_cell BK153.out 3).trans rfl; have hfz9_0 := blk_frozen BK153.out 0; have hfz9_1 := blk_frozen BK153.out 1; have hfz9_2 := blk_frozen BK153.out 2; have hfz9_3 := blk_frozen BK153.out 3) | ((with_reducible refine gate_callee (f := 22) rfl ?_); refine goesL_ (some 24) rfl rfl Try.func22 (by kernel_rfl) rfl #[.agg #[.int .i64 a2_0, .int .i64 a2_1, .int .i64 a2_2, .slice A2_3 l2_3.length c2_3], .int .i64 1048576] rfl (by (try simp only [List.map_toArray, List.map_cons, List.map_nil]); first | done | rfl | (simp only [List.length_drop, List.length_take]; rfl)) ?_; (with_reducible refine (laws_szFrame.calls a2_0 a2_1 a2_2 _ _ l2_3 1048576 t154 _ ?side1 ?side2 A6.out).mono ?_); (case side1 => repeat (first | exact (Kd.C_below HR2_3.out HB.out) | (with_reducible refine Kd.C_alloc ?_ _) | (with_reducible refine Kd.C_drewN ?_ _) | (with_reducible refine Kd.C_drew ?_))); (case side2 => exact HC2_3.out); rintro e w10 ⟨rfl, hb⟩; refine ⟨_, rfl, ?_⟩; have n0_ := am (shBK BK153.out hb); have n1_ := am (shHB HB.out hb); clear BK153; clear HB; have BK153 := n0_; have HB := n1_; clear n0_ n1_; (try clear hb); (try clear hb2); (try clear hk); (try clear hi)))
   go_ret
   exact ⟨by first | rfl | (simp [errW_none, errW_some] <;> rfl) | (simp [*, errW_none, errW_some] <;> rfl), by repeat (first | (with_reducible first | exact HB.out | apply below_alloc | apply pw_below_drewN | apply below_drew1 | refine below_set ?_ GE153.out) | exact HB.out)⟩
  ·rw [if_neg c7] at H
   have c7b0 : decide (t154 < 0) = false := decide_eq_false c7
   clear c7
   replace H := Option.bind_eq_some_iff.mp H
   obtain ⟨t155, A110, H⟩ := H
   replace H : ((laws_toFrame.f k a2_0 a2_1 a2_2 l2_3).bind fun bt158 => ((spec_Reply.f t155 a1 bt158.1 bt158.2.1 bt158.2.2.1 bt158.2.2.2).bind fun bt164 => ((laws_toByteS.f k l0).bind fun t172 => ((laws_toFrame.f k a2_0 a2_1 a2_2 l2_3).bind fun bt175 => ((impl_Reply.f t172 a1 bt175.1 bt175.2.1 bt175.2.2.1 bt175.2.2.2).bind fun bt182 => ((laws_eqFrame.f k bt182.1 bt182.2.1 bt182.2.2.1 bt182.2.2.2.1 bt164.1 bt164.2.1 bt164.2.2.1 bt164.2.2.2.1).bind fun t190 => (if t190 = true then (laws_FnExactReply.j0 k l0 a1 bt164.2.2.2.2 t172 bt182.2.2.2.2 (bt182.2.2.2.2 != bt164.2.2.2.2) a2_0 a2_1 a2_2 l2_3 bt164.1 bt164.2.1 bt164.2.2.1 bt164.2.2.2.1 bt175.1 bt175.2.1 bt175.2.2.1 bt175.2.2.2 bt182.1 bt182.2.1 bt182.2.2.1 bt182.2.2.2.1) else (laws_FnExactReply.j0 k l0 a1 bt164.2.2.2.2 t172 bt182.2.2.2.2 true a2_0 a2_1 a2_2 l2_3 bt164.1 bt164.2.1 bt164.2.2.1 bt164.2.2.2.1 bt175.1 bt175.2.1 bt175.2.2.1 bt175.2.2.2 bt182.1 bt182.2.1 bt182.2.2.1 bt182.2.2.2.1)))))))) = some true := H
   have A11 := Aside0.mk A110
   clear A110
   replace H := Option.bind_eq_some_iff.mp H
   obtain ⟨⟨t158, t159, t160, t161⟩, A120, H⟩ := H
   replace H : ((spec_Reply.f t155 a1 t158 t159 t160 t161).bind fun bt164 => ((laws_toByteS.f k l0).bind fun t172 => ((laws_toFrame.f k a2_0 a2_1 a2_2 l2_3).bind fun bt175 => ((impl_Reply.f t172 a1 bt175.1 bt175.2.1 bt175.2.2.1 bt175.2.2.2).bind fun bt182 => ((laws_eqFrame.f k bt182.1 bt182.2.1 bt182.2.2.1 bt182.2.2.2.1 bt164.1 bt164.2.1 bt164.2.2.1 bt164.2.2.2.1).bind fun t190 => (if t190 = true then (laws_FnExactReply.j0 k l0 a1 bt164.2.2.2.2 t172 bt182.2.2.2.2 (bt182.2.2.2.2 != bt164.2.2.2.2) a2_0 a2_1 a2_2 l2_3 bt164.1 bt164.2.1 bt164.2.2.1 bt164.2.2.2.1 bt175.1 bt175.2.1 bt175.2.2.1 bt175.2.2.2 bt182.1 bt182.2.1 bt182.2.2.1 bt182.2.2.2.1) else (laws_FnExactReply.j0 k l0 a1 bt164.2.2.2.2 t172 bt182.2.2.2.2 true a2_0 a2_1 a2_2 l2_3 bt164.1 bt164.2.1 bt164.2.2.1 bt164.2.2.2.1 bt175.1 bt175.2.1 bt175.2.2.1 bt175.2.2.2 bt182.1 bt182.2.1 bt182.2.2.1 bt182.2.2.2.1))))))) = some true := H
   have A12 := Aside0.mk A120
   clear A120
   replace H := Option.bind_eq_some_iff.mp H
   obtain ⟨⟨t164, t165, t166, t167, t170⟩, A130, H⟩ := H
   replace H : ((laws_toByteS.f k l0).bind fun t172 => ((laws_toFrame.f k a2_0 a2_1 a2_2 l2_3).bind fun bt175 => ((impl_Reply.f t172 a1 bt175.1 bt175.2.1 bt175.2.2.1 bt175.2.2.2).bind fun bt182 => ((laws_eqFrame.f k bt182.1 bt182.2.1 bt182.2.2.1 bt182.2.2.2.1 t164 t165 t166 t167).bind fun t190 => (if t190 = true then (laws_FnExactReply.j0 k l0 a1 t170 t172 bt182.2.2.2.2 (bt182.2.2.2.2 != t170) a2_0 a2_1 a2_2 l2_3 t164 t165 t166 t167 bt175.1 bt175.2.1 bt175.2.2.1 bt175.2.2.2 bt182.1 bt182.2.1 bt182.2.2.1 bt182.2.2.2.1) else (laws_FnExactReply.j0 k l0 a1 t170 t172 bt182.2.2.2.2 true a2_0 a2_1 a2_2 l2_3 t164 t165 t166 t167 bt175.1 bt175.2.1 bt175.2.2.1 bt175.2.2.2 bt182.1 bt182.2.1 bt182.2.2.1 bt182.2.2.2.1)))))) = some true := H
   have A13 := Aside0.mk A130
   clear A130
   replace H := Option.bind_eq_some_iff.mp H
   obtain ⟨t172, A140, H⟩ := H
   replace H : ((laws_toFrame.f k a2_0 a2_1 a2_2 l2_3).bind fun bt175 => ((impl_Reply.f t172 a1 bt175.1 bt175.2.1 bt175.2.2.1 bt175.2.2.2).bind fun bt182 => ((laws_eqFrame.f k bt182.1 bt182.2.1 bt182.2.2.1 bt182.2.2.2.1 t164 t165 t166 t167).bind fun t190 => (if t190 = true then (laws_FnExactReply.j0 k l0 a1 t170 t172 bt182.2.2.2.2 (bt182.2.2.2.2 != t170) a2_0 a2_1 a2_2 l2_3 t164 t165 t166 t167 bt175.1 bt175.2.1 bt175.2.2.1 bt175.2.2.2 bt182.1 bt182.2.1 bt182.2.2.1 bt182.2.2.2.1) else (laws_FnExactReply.j0 k l0 a1 t170 t172 bt182.2.2.2.2 true a2_0 a2_1 a2_2 l2_3 t164 t165 t166 t167 bt175.1 bt175.2.1 bt175.2.2.1 bt175.2.2.2 bt182.1 bt182.2.1 bt182.2.2.1 bt182.2.2.2.1))))) = some true := H
   have A14 := Aside0.mk A140
   clear A140
   replace H := Option.bind_eq_some_iff.mp H
   obtain ⟨⟨t175, t176, t177, t178⟩, A150, H⟩ := H
   replace H : ((impl_Reply.f t172 a1 t175 t176 t177 t178).bind fun bt182 => ((laws_eqFrame.f k bt182.1 bt182.2.1 bt182.2.2.1 bt182.2.2.2.1 t164 t165 t166 t167).bind fun t190 => (if t190 = true then (laws_FnExactReply.j0 k l0 a1 t170 t172 bt182.2.2.2.2 (bt182.2.2.2.2 != t170) a2_0 a2_1 a2_2 l2_3 t164 t165 t166 t167 t175 t176 t177 t178 bt182.1 bt182.2.1 bt182.2.2.1 bt182.2.2.2.1) else (laws_FnExactReply.j0 k l0 a1 t170 t172 bt182.2.2.2.2 true a2_0 a2_1 a2_2 l2_3 t164 t165 t166 t167 t175 t176 t177 t178 bt182.1 bt182.2.1 bt182.2.2.1 bt182.2.2.2.1)))) = some true := H
   have A15 := Aside0.mk A150
   clear A150
   replace H := Option.bind_eq_some_iff.mp H
   obtain ⟨⟨t182, t183, t184, t185, t188⟩, A160, H⟩ := H
   replace H : ((laws_eqFrame.f k t182 t183 t184 t185 t164 t165 t166 t167).bind fun t190 => (if t190 = true then (laws_FnExactReply.j0 k l0 a1 t170 t172 t188 (t188 != t170) a2_0 a2_1 a2_2 l2_3 t164 t165 t166 t167 t175 t176 t177 t178 t182 t183 t184 t185) else (laws_FnExactReply.j0 k l0 a1 t170 t172 t188 true a2_0 a2_1 a2_2 l2_3 t164 t165 t166 t167 t175 t176 t177 t178 t182 t183 t184 t185))) = some true := H
   have A16 := Aside0.mk A160
   clear A160
   have HC17 := Aside0.mk H
   clear H
   go_enter Try.func12, Try.ntmps12
   try go_wp2_with (first | ((with_reducible refine gate_dst (N := 5) rfl ?_); refine box_event ?hg (N := 5) ?hd (cs := #[.int .i64 a2_0, .int .i64 a2_1, .int .i64 a2_2, .slice A2_3 l2_3.length c2_3]) (t := 38) ?hr ?_; (case hd => rfl); (case hg => rfl); (case hr => first | (go_simp; done) | (go_simp; rfl)); intro gb153 hg w18 hbox hb; have n0_ := am (shHB HB.out hb); have n1_ := am (hbox); have n2_ := am ((shGE HB.out hg : w.heap.size ≤ gb153)); have n3_ := am ((shGE HB.out hg : w.heap.size ≤ gb153)); clear HB; have HB := n0_; have BK153 := n1_; have GW153 := n2_; have GE153 := n3_; clear n0_ n1_ n2_ n3_; clear hb hbox hg; have hcz19_0 : w18.cell? ⟨gb153, 0, none⟩ = some (.int .i64 a2_0) := (blk_cell BK153.out 0).trans rfl; have hcz19_1 : w18.cell? ⟨gb153, 1, none⟩ = some (.int .i64 a2_1) := (blk_cell BK153.out 1).trans rfl; have hcz19_2 : w18.cell? ⟨gb153, 2, none⟩ = some (.int .i64 a2_2) := (blk_cell BK153.out 2).trans rfl; have hcz19_3 : w18.cell? ⟨gb153, 3, none⟩ = some (.slice A2_3 l2_3.length c2_3) := (blk_cell BK153.out 3).trans rfl; have hfz19_0 := blk_frozen BK153.out 0; have hfz19_1 := blk_frozen BK153.out 1; have hfz19_2 := blk_frozen BK153.out 2; have hfz19_3 := blk_frozen BK153.out 3) | ((with_reducible refine gate_callee (f := 22) rfl ?_); refine goesL_ (some 24) rfl rfl Try.func22 (by kernel_rfl) rfl #[.agg #[.int .i64 a2_0, .int .i64 a2_1, .int .i64 a2_2, .slice A2_3 l2_3.length c2_3], .int .i64 1048576] rfl (by (try simp only [List.map_toArray, List.map_cons, List.map_nil]); first | done | rfl | (simp only [List.length_drop, List.length_take]; rfl)) ?_; (with_reducible refine (laws_szFrame.calls a2_0 a2_1 a2_2 _ _ l2_3 1048576 t154 _ ?side1 ?side2 A6.out).mono ?_); (case side1 => repeat (first | exact (Kd.C_below HR2_3.out HB.out) | (with_reducible refine Kd.C_alloc ?_ _) | (with_reducible refine Kd.C_drewN ?_ _) | (with_reducible refine Kd.C_drew ?_))); (case side2 => exact HC2_3.out); rintro e w20 ⟨rfl, hb⟩; refine ⟨_, rfl, ?_⟩; have n0_ := am (shBK BK153.out hb); have n1_ := am (shHB HB.out hb); clear BK153; clear HB; have BK153 := n0_; have HB := n1_; clear n0_ n1_; (try clear hb); (try clear hb2); (try clear hk); (try clear hi)))
   have n0_ := am (blk_drew BK153.out)
   have n1_ := am (below_drew1 HB.out)
   clear BK153
   clear HB
   have BK153 := n0_
   have HB := n1_
   clear n0_ n1_
   refine start_ (n := 12) (S := fun w' => w'.cell? ⟨gb153, 0, none⟩ = some (.int .i64 a2_0) ∧ w'.cell? ⟨gb153, 1, none⟩ = some (.int .i64 a2_1) ∧ w'.cell? ⟨gb153, 2, none⟩ = some (.int .i64 a2_2) ∧ w'.cell? ⟨gb153, 3, none⟩ = some (.slice A2_3 l2_3.length c2_3)) (ds := []) #[false, false, false, false, false, false, false, false, false, false, false, false] (by kernel_rfl) rfl rfl ⟨(blk_cell BK153.out 0).trans rfl, (blk_cell BK153.out 1).trans rfl, (blk_cell BK153.out 2).trans rfl, (blk_cell BK153.out 3).trans rfl⟩ (fun hHeld => ?_); refine with_tabW laws_FnExactReply.tab7 laws_FnExactReply.bits7 (fun HT_ HW_ => ?_)
   generalize w20.drew = w21 at BK153 HB hHeld ⊢
   refine pure_ (i := 0) (N := some 28) (v := ?_) (a' := ?_) #[true, false, false, false, false, false, false, false, false, false, false, false] rfl rfl (any_of HT_.out (by kernel_rfl)) (fun _ _ _ h => h) (Or.inl ⟨by rfl, ?_⟩) ?_ ?_
   rotate_left
   ·intro w'
    go_simp
    with_reducible rfl
   rotate_left
   ·simp only [Act.put, List.setIfInBounds_toArray, List.set_cons_zero, List.set_cons_succ, i64_w, i32_w]
    rfl
   refine pure_ (i := 2) (N := some 30) (v := ?_) (a' := ?_) #[true, false, true, false, false, false, false, false, false, false, false, false] rfl rfl (any_of HT_.out (by kernel_rfl)) (fun _ _ _ h => h) (Or.inl ⟨by rfl, ?_⟩) ?_ ?_
   rotate_left
   ·intro w'
    go_simp
    with_reducible rfl
   rotate_left
   ·simp only [Act.put, List.setIfInBounds_toArray, List.set_cons_zero, List.set_cons_succ, i64_w, i32_w]
    rfl
   refine take_ (i := 3) (N := some 31) (v := ?_) (a' := ?_) #[true, false, true, true, false, false, false, false, false, false, false, false] rfl rfl (take_ofW HT_.out HW_.out (by kernel_rfl)) (fun _ _ _ h => h) (Or.inl ⟨by rfl, ?_⟩) hHeld ?_ ?_
   rotate_left
   ·rintro w' ⟨s0, s1, s2, s3⟩
    go_simp
    with_reducible rfl
   rotate_left
   ·simp only [Act.put, List.setIfInBounds_toArray, List.set_cons_zero, List.set_cons_succ, i64_w, i32_w]
    rfl
   refine join_ (σ := Value × Value × Value × Nat) 2 #[true, true, true, true, true, true, true, true, true, true, false, false] (fun s_ => [(29, s_.1), (32, .agg #[.int .i64 t158, .int .i64 t159, .int .i64 t160, s_.2.1]), (33, .tuple #[.agg #[.int .i64 t164, .int .i64 t165, .int .i64 t166, s_.2.2.1], .bool t170]), (8, .pointer (some ⟨s_.2.2.2, 0, none⟩)), (27, .tuple #[.agg #[.int .i64 t164, .int .i64 t165, .int .i64 t166, s_.2.2.1], .bool t170]), (34, .agg #[.int .i64 t164, .int .i64 t165, .int .i64 t166, s_.2.2.1]), (35, .bool t170)]) (fun s_ w' => (w'.cell? ⟨gb153, 0, none⟩ = some (.int .i64 a2_0) ∧ w'.cell? ⟨gb153, 1, none⟩ = some (.int .i64 a2_1) ∧ w'.cell? ⟨gb153, 2, none⟩ = some (.int .i64 a2_2) ∧ w'.cell? ⟨gb153, 3, none⟩ = some (.slice A2_3 l2_3.length c2_3)) ∧ (Kd.R (Kd.int .u8) 5 w' w.heap.size (fun k_ => some k_ ≠ (s_.2.1 : Value).ownBlock ∧ some k_ ≠ (s_.2.2.1 : Value).ownBlock) s_.1 t155) ∧ (Kd.R (Kd.int .u8) 5 w' w.heap.size (fun k_ => some k_ ≠ (s_.1 : Value).ownBlock ∧ some k_ ≠ (s_.2.2.1 : Value).ownBlock) s_.2.1 t161) ∧ (Kd.R (Kd.int .u8) 5 w' w.heap.size (fun k_ => some k_ ≠ (s_.1 : Value).ownBlock ∧ some k_ ≠ (s_.2.1 : Value).ownBlock) s_.2.2.1 t167) ∧ (w'.heap[gb153]? = some (.cells #[.int .i64 a2_0, .int .i64 a2_1, .int .i64 a2_2, .slice A2_3 l2_3.length c2_3] 38 (0, 0))) ∧ (w'.heap[s_.2.2.2]? = some (.cells #[.int .i64 0, .int .i64 0, .int .i64 0, .slice none 0 0] 41 (0, 0))) ∧ (w.heap.size ≤ s_.2.2.2) ∧ (w.heap.size ≤ s_.2.2.2) ∧ (gb153 ≠ s_.2.2.2) ∧ (s_.2.2.2 ≠ gb153) ∧ (Below w.heap.size w w')) ?_ ?_
   rotate_left
   ·intro hCont
    refine two_ (i := 1) (j := 9) (Ni := some 29) (Nj := some 8) #[true, true, true, true, false, false, false, false, false, false, false, false] #[true, false, true, true, false, false, false, false, false, true, false, false] rfl rfl rfl rfl (two_of HT_.out (by kernel_rfl)) (by decide) (by decide) (fun K hK => ?_) (fun K hK => ?_)
    ·skip
     refine goes_ Try.func56 (by kernel_rfl) rfl #[.slice A0 l0.length c0] (by rfl) rfl rfl (by (try simp only [List.map_toArray, List.map_cons, List.map_nil]); first | done | rfl | (simp only [List.length_drop, List.length_take]; rfl)) ?_
     with_reducible refine (laws_toByteS.calls k _ _ l0 t155 _ ?side1 ?side2 A11.out).mono ?_
     (case side1 => repeat (first | exact (Kd.C_below HR0.out HB.out) | (with_reducible refine Kd.C_alloc ?_ _) | (with_reducible refine Kd.C_drewN ?_ _) | (with_reducible refine Kd.C_drew ?_)))
     (case side2 => exact HC0.out)
     rintro e w22 ⟨v156, rfl, ho0, hb⟩
     refine ⟨_, rfl, ?_⟩
     have n0_ := am (Kd.R_lower ho0 (below_size (by repeat (first | (with_reducible first | exact HB.out | apply below_alloc | apply pw_below_drewN | apply below_drew1 | refine below_set ?_ GE153.out) | exact HB.out))))
     have n1_ := am (shBK BK153.out hb)
     have n2_ := am (shHB HB.out hb)
     clear BK153
     clear HB
     have HO157 := n0_
     have BK153 := n1_
     have HB := n2_
     clear n0_ n1_ n2_
     (try clear hb)
     (try clear hb2)
     (try clear hk)
     (try clear hi)
     (try clear ho0)
     refine hK.out _ _ ⟨(blk_cell BK153.out 0).trans rfl, (blk_cell BK153.out 1).trans rfl, (blk_cell BK153.out 2).trans rfl, (blk_cell BK153.out 3).trans rfl⟩ (fun hHeld => ?_)
     clear hK K
     refine norm_ (a' := ?_) ?_ ?_
     rotate_left
     ·show Act.put _ (some 29) _ = _
      simp only [Act.put, List.setIfInBounds_toArray, List.set_cons_zero, List.set_cons_succ, i64_w, i32_w]
      rfl
     refine two_ (i := 4) (j := 9) (Ni := some 32) (Nj := some 8) #[true, true, true, true, true, false, false, false, false, false, false, false] #[true, true, true, true, false, false, false, false, false, true, false, false] rfl rfl rfl rfl (two_of HT_.out (by kernel_rfl)) (by decide) (by decide) (fun K hK => ?_) (fun K hK => ?_)
     ·skip
      refine goes_ Try.func24 (by kernel_rfl) rfl #[.agg #[.int .i64 a2_0, .int .i64 a2_1, .int .i64 a2_2, .slice A2_3 l2_3.length c2_3]] (by rfl) rfl rfl (by (try simp only [List.map_toArray, List.map_cons, List.map_nil]); first | done | rfl | (simp only [List.length_drop, List.length_take]; rfl)) ?_
      with_reducible refine (laws_toFrame.calls k a2_0 a2_1 a2_2 _ _ l2_3 t158 t159 t160 t161 _ ?side1 ?side2 A12.out).mono ?_
      (case side1 => repeat (first | exact (Kd.C_below HR2_3.out HB.out) | (with_reducible refine Kd.C_alloc ?_ _) | (with_reducible refine Kd.C_drewN ?_ _) | (with_reducible refine Kd.C_drew ?_)))
      (case side2 => exact HC2_3.out)
      rintro e w23 ⟨v162, rfl, ho0, hb⟩
      refine ⟨_, rfl, ?_⟩
      have n0_ := am (shRE HO157.out (Kd.R_base ho0) hb)
      have n1_ := am (Kd.R_lower (Kd.R_new' ho0 (shLT HO157.out)) (below_size (by repeat (first | (with_reducible first | exact HB.out | apply below_alloc | apply pw_below_drewN | apply below_drew1 | refine below_set ?_ GE153.out) | exact HB.out))))
      have n2_ := am (shBK BK153.out hb)
      have n3_ := am (shHB HB.out hb)
      clear HO157
      clear BK153
      clear HB
      have HO157 := n0_
      have HO163 := n1_
      have BK153 := n2_
      have HB := n3_
      clear n0_ n1_ n2_ n3_
      (try clear hb)
      (try clear hb2)
      (try clear hk)
      (try clear hi)
      (try clear ho0)
      obtain ⟨Ao24, co24, eo24⟩ := Kd.R_slice HO157.out
      (first | subst eo24 | (injection eo24 with f1_ f2_ f3_; have f4_ := f1_.symm; have f5_ := f3_.symm; clear f1_ f2_ f3_; subst f4_; subst f5_))
      obtain ⟨Ao25, co25, eo25⟩ := Kd.R_slice HO163.out
      (first | subst eo25 | (injection eo25 with f1_ f2_ f3_; have f4_ := f1_.symm; have f5_ := f3_.symm; clear f1_ f2_ f3_; subst f4_; subst f5_))
      refine hK.out _ _ ⟨(blk_cell BK153.out 0).trans rfl, (blk_cell BK153.out 1).trans rfl, (blk_cell BK153.out 2).trans rfl, (blk_cell BK153.out 3).trans rfl⟩ (fun hHeld => ?_)
      clear hK K
      refine norm_ (a' := ?_) ?_ ?_
      rotate_left
      ·show Act.put _ (some 32) _ = _
       simp only [Act.put, List.setIfInBounds_toArray, List.set_cons_zero, List.set_cons_succ, i64_w, i32_w]
       rfl
      refine two_ (i := 5) (j := 9) (Ni := some 33) (Nj := some 8) #[true, true, true, true, true, true, false, false, false, false, false, false] #[true, true, true, true, true, false, false, false, false, true, false, false] rfl rfl rfl rfl (two_of HT_.out (by kernel_rfl)) (by decide) (by decide) (fun K hK => ?_) (fun K hK => ?_)
      ·skip
       refine goes_ Try.func55 (by kernel_rfl) rfl #[.slice Ao24 t155.length co24, .int .i64 a1, .agg #[.int .i64 t158, .int .i64 t159, .int .i64 t160, .slice Ao25 t161.length co25]] (by rfl) rfl rfl (by (try simp only [List.map_toArray, List.map_cons, List.map_nil]); first | done | rfl | (simp only [List.length_drop, List.length_take]; rfl)) ?_
       with_reducible refine (spec_Reply.calls _ _ t155 a1 t158 t159 t160 _ _ t161 t164 t165 t166 t167 t170 _ ?side1 ?side2 ?side3 ?side4 A13.out).mono ?_
       (case side1 => repeat (first | exact (Kd.R_reads' HO157.out).2.2 | (with_reducible refine Kd.C_alloc ?_ _) | (with_reducible refine Kd.C_drewN ?_ _) | (with_reducible refine Kd.C_drew ?_)))
       (case side2 => exact (Kd.R_reads' HO157.out).2.1)
       (case side3 => repeat (first | exact (Kd.R_reads' HO163.out).2.2 | (with_reducible refine Kd.C_alloc ?_ _) | (with_reducible refine Kd.C_drewN ?_ _) | (with_reducible refine Kd.C_drew ?_)))
       (case side4 => exact (Kd.R_reads' HO163.out).2.1)
       rintro e w26 ⟨v168, rfl, ho0, hb⟩
       refine ⟨_, rfl, ?_⟩
       have n0_ := am (shRE HO157.out (Kd.R_base ho0) hb)
       have n1_ := am (shRE HO163.out (Kd.R_base ho0) hb)
       have n2_ := am (Kd.R_lower (Kd.R_new' (Kd.R_new' ho0 (shLT HO157.out)) (shLT HO163.out)) (below_size (by repeat (first | (with_reducible first | exact HB.out | apply below_alloc | apply pw_below_drewN | apply below_drew1 | refine below_set ?_ GE153.out) | exact HB.out))))
       have n3_ := am (shBK BK153.out hb)
       have n4_ := am (shHB HB.out hb)
       clear HO157
       clear HO163
       clear BK153
       clear HB
       have HO157 := n0_
       have HO163 := n1_
       have HO169 := n2_
       have BK153 := n3_
       have HB := n4_
       clear n0_ n1_ n2_ n3_ n4_
       (try clear hb)
       (try clear hb2)
       (try clear hk)
       (try clear hi)
       (try clear ho0)
       refine hK.out _ _ ⟨(blk_cell BK153.out 0).trans rfl, (blk_cell BK153.out 1).trans rfl, (blk_cell BK153.out 2).trans rfl, (blk_cell BK153.out 3).trans rfl⟩ (fun hHeld => ?_)
       clear hK K
       refine norm_ (a' := ?_) ?_ ?_
       rotate_left
       ·show Act.put _ (some 33) _ = _
        simp only [Act.put, List.setIfInBounds_toArray, List.set_cons_zero, List.set_cons_succ, i64_w, i32_w]
        rfl
       refine pure_ (i := 6) (N := some 27) (v := ?_) (a' := ?_) #[true, true, true, true, true, true, true, false, false, false, false, false] rfl rfl (any_of HT_.out (by kernel_rfl)) (fun _ _ _ h => h) (Or.inl ⟨by rfl, ?_⟩) ?_ ?_
       rotate_left
       ·intro w'
        go_simp
        with_reducible rfl
       rotate_left
       ·simp only [Act.put, List.setIfInBounds_toArray, List.set_cons_zero, List.set_cons_succ, i64_w, i32_w]
        rfl
       refine pure_ (i := 7) (N := some 34) (v := ?_) (a' := ?_) #[true, true, true, true, true, true, true, true, false, false, false, false] rfl rfl (any_of HT_.out (by kernel_rfl)) (fun _ _ _ h => h) (Or.inl ⟨by rfl, ?_⟩) ?_ ?_
       rotate_left
       ·intro w'
        go_simp
        with_reducible rfl
       rotate_left
       ·simp only [Act.put, List.setIfInBounds_toArray, List.set_cons_zero, List.set_cons_succ, i64_w, i32_w]
        rfl
       refine pure_ (i := 8) (N := some 35) (v := ?_) (a' := ?_) #[true, true, true, true, true, true, true, true, true, false, false, false] rfl rfl (any_of HT_.out (by kernel_rfl)) (fun _ _ _ h => h) (Or.inl ⟨by rfl, ?_⟩) ?_ ?_
       rotate_left
       ·intro w'
        go_simp
        with_reducible rfl
       rotate_left
       ·simp only [Act.put, List.setIfInBounds_toArray, List.set_cons_zero, List.set_cons_succ, i64_w, i32_w]
        rfl
       refine one_ (i := 9) (N := some 8) #[true, true, true, true, true, true, true, true, true, true, false, false] rfl rfl (one_of HT_.out (by kernel_rfl)) (by decide) (fun K hK => ?_)
       refine box_step ?hg (N := 8) ?hd (cs := #[.int .i64 0, .int .i64 0, .int .i64 0, .slice none 0 0]) (t := 41) ?hr ?_; (case hd => rfl); (case hg => rfl); (case hr => first | (go_simp; done) | (go_simp; rfl))
       intro gb171 hg w27 hbox hb
       have n0_ := am (shR HO157.out hb)
       have n1_ := am (shR HO163.out hb)
       have n2_ := am (shR HO169.out hb)
       have n3_ := am (shBK BK153.out hb)
       have n4_ := am (shHB HB.out hb)
       have n5_ := am (hbox)
       have n6_ := am ((shGE HB.out hg : w.heap.size ≤ gb171))
       have n7_ := am ((shGE HB.out hg : w.heap.size ≤ gb171))
       have n8_ := am ((shNB BK153.out hg : gb153 ≠ gb171))
       have n9_ := am ((shNC BK153.out hg : gb171 ≠ gb153))
       clear HO157
       clear HO163
       clear HO169
       clear BK153
       clear HB
       have HO157 := n0_
       have HO163 := n1_
       have HO169 := n2_
       have BK153 := n3_
       have HB := n4_
       have BK171 := n5_
       have GW171 := n6_
       have GE171 := n7_
       have NB153_171 := n8_
       have NB171_153 := n9_
       clear n0_ n1_ n2_ n3_ n4_ n5_ n6_ n7_ n8_ n9_
       clear hb hbox hg
       refine hK.out _ _ ⟨(blk_cell BK153.out 0).trans rfl, (blk_cell BK153.out 1).trans rfl, (blk_cell BK153.out 2).trans rfl, (blk_cell BK153.out 3).trans rfl⟩ (fun hHeld => ?_)
       clear hK K
       refine norm_ (a' := ?_) ?_ ?_
       rotate_left
       ·show Act.put _ (some 8) _ = _
        simp only [Act.put, List.setIfInBounds_toArray, List.set_cons_zero, List.set_cons_succ, i64_w, i32_w]
        rfl
       exact norm_ (by simp only [putAll, Act.put, List.setIfInBounds_toArray, List.set_cons_zero, List.set_cons_succ]) (hCont (.slice Ao24 t155.length co24, .slice Ao25 t161.length co25, v168, gb171) _ ⟨hHeld, (by (with_reducible repeat (first | apply Kd.R_alloc | apply Kd.R_drewN | apply Kd.R_drew)); exact Kd.R_mono HO157.out (fun _ hk => ⟨hk.1.2, hk.2⟩)), (by (with_reducible repeat (first | apply Kd.R_alloc | apply Kd.R_drewN | apply Kd.R_drew)); exact Kd.R_mono HO163.out (fun _ hk => ⟨hk.1.2, hk.2⟩)), (by (with_reducible repeat (first | apply Kd.R_alloc | apply Kd.R_drewN | apply Kd.R_drew)); exact Kd.R_mono HO169.out (fun _ hk => ⟨hk.1.2, hk.2⟩)), (by (with_reducible repeat (first | refine blk_drewN ?_ _ | refine blk_drew ?_ | refine blk_alloc ?_ _)); exact BK153.out), (by (with_reducible repeat (first | refine blk_drewN ?_ _ | refine blk_drew ?_ | refine blk_alloc ?_ _)); exact BK171.out), GW171.out, GE171.out, NB153_171.out, NB171_153.out, (by repeat (first | (with_reducible first | exact HB.out | apply below_alloc | apply pw_below_drewN | apply below_drew1 | refine below_set ?_ GE153.out | refine below_set ?_ GE171.out) | exact HB.out))⟩)
      ·skip
       refine box_step ?hg (N := 8) ?hd (cs := #[.int .i64 0, .int .i64 0, .int .i64 0, .slice none 0 0]) (t := 41) ?hr ?_; (case hd => rfl); (case hg => rfl); (case hr => first | (go_simp; done) | (go_simp; rfl))
       intro gb171 hg w24 hbox hb
       have n0_ := am (shR HO157.out hb)
       have n1_ := am (shR HO163.out hb)
       have n2_ := am (shBK BK153.out hb)
       have n3_ := am (shHB HB.out hb)
       have n4_ := am (hbox)
       have n5_ := am ((shGE HB.out hg : w.heap.size ≤ gb171))
       have n6_ := am ((shGE HB.out hg : w.heap.size ≤ gb171))
       have n7_ := am ((shNB BK153.out hg : gb153 ≠ gb171))
       have n8_ := am ((shNC BK153.out hg : gb171 ≠ gb153))
       clear HO157
       clear HO163
       clear BK153
       clear HB
       have HO157 := n0_
       have HO163 := n1_
       have BK153 := n2_
       have HB := n3_
       have BK171 := n4_
       have GW171 := n5_
       have GE171 := n6_
       have NB153_171 := n7_
       have NB171_153 := n8_
       clear n0_ n1_ n2_ n3_ n4_ n5_ n6_ n7_ n8_
       clear hb hbox hg
       obtain ⟨Ao25, co25, eo25⟩ := Kd.R_slice HO157.out
       (first | subst eo25 | (injection eo25 with f1_ f2_ f3_; have f4_ := f1_.symm; have f5_ := f3_.symm; clear f1_ f2_ f3_; subst f4_; subst f5_))
       obtain ⟨Ao26, co26, eo26⟩ := Kd.R_slice HO163.out
       (first | subst eo26 | (injection eo26 with f1_ f2_ f3_; have f4_ := f1_.symm; have f5_ := f3_.symm; clear f1_ f2_ f3_; subst f4_; subst f5_))
       refine hK.out _ _ ⟨(blk_cell BK153.out 0).trans rfl, (blk_cell BK153.out 1).trans rfl, (blk_cell BK153.out 2).trans rfl, (blk_cell BK153.out 3).trans rfl⟩ (fun hHeld => ?_)
       clear hK K
       refine norm_ (a' := ?_) ?_ ?_
       rotate_left
       ·show Act.put _ (some 8) _ = _
        simp only [Act.put, List.setIfInBounds_toArray, List.set_cons_zero, List.set_cons_succ, i64_w, i32_w]
        rfl
       refine one_ (i := 5) (N := some 33) #[true, true, true, true, true, true, false, false, false, true, false, false] rfl rfl (one_of HT_.out (by kernel_rfl)) (by decide) (fun K hK => ?_)
       refine goes_ Try.func55 (by kernel_rfl) rfl #[.slice Ao25 t155.length co25, .int .i64 a1, .agg #[.int .i64 t158, .int .i64 t159, .int .i64 t160, .slice Ao26 t161.length co26]] (by rfl) rfl rfl (by (try simp only [List.map_toArray, List.map_cons, List.map_nil]); first | done | rfl | (simp only [List.length_drop, List.length_take]; rfl)) ?_
       with_reducible refine (spec_Reply.calls _ _ t155 a1 t158 t159 t160 _ _ t161 t164 t165 t166 t167 t170 _ ?side1 ?side2 ?side3 ?side4 A13.out).mono ?_
       (case side1 => repeat (first | exact (Kd.R_reads' HO157.out).2.2 | (with_reducible refine Kd.C_alloc ?_ _) | (with_reducible refine Kd.C_drewN ?_ _) | (with_reducible refine Kd.C_drew ?_)))
       (case side2 => exact (Kd.R_reads' HO157.out).2.1)
       (case side3 => repeat (first | exact (Kd.R_reads' HO163.out).2.2 | (with_reducible refine Kd.C_alloc ?_ _) | (with_reducible refine Kd.C_drewN ?_ _) | (with_reducible refine Kd.C_drew ?_)))
       (case side4 => exact (Kd.R_reads' HO163.out).2.1)
       rintro e w27 ⟨v168, rfl, ho0, hb⟩
       refine ⟨_, rfl, ?_⟩
       have n0_ := am (shRE HO157.out (Kd.R_base ho0) hb)
       have n1_ := am (shRE HO163.out (Kd.R_base ho0) hb)
       have n2_ := am (Kd.R_lower (Kd.R_new' (Kd.R_new' ho0 (shLT HO157.out)) (shLT HO163.out)) (below_size (by repeat (first | (with_reducible first | exact HB.out | apply below_alloc | apply pw_below_drewN | apply below_drew1 | refine below_set ?_ GE153.out | refine below_set ?_ GE171.out) | exact HB.out))))
       have n3_ := am (shBK BK153.out hb)
       have n4_ := am (shBK BK171.out hb)
       have n5_ := am (shHB HB.out hb)
       clear HO157
       clear HO163
       clear BK153
       clear BK171
       clear HB
       have HO157 := n0_
       have HO163 := n1_
       have HO169 := n2_
       have BK153 := n3_
       have BK171 := n4_
       have HB := n5_
       clear n0_ n1_ n2_ n3_ n4_ n5_
       (try clear hb)
       (try clear hb2)
       (try clear hk)
       (try clear hi)
       (try clear ho0)
       refine hK.out _ _ ⟨(blk_cell BK153.out 0).trans rfl, (blk_cell BK153.out 1).trans rfl, (blk_cell BK153.out 2).trans rfl, (blk_cell BK153.out 3).trans rfl⟩ (fun hHeld => ?_)
       clear hK K
       refine norm_ (a' := ?_) ?_ ?_
       rotate_left
       ·show Act.put _ (some 33) _ = _
        simp only [Act.put, List.setIfInBounds_toArray, List.set_cons_zero, List.set_cons_succ, i64_w, i32_w]
        rfl
       refine pure_ (i := 6) (N := some 27) (v := ?_) (a' := ?_) #[true, true, true, true, true, true, true, false, false, true, false, false] rfl rfl (any_of HT_.out (by kernel_rfl)) (fun _ _ _ h => h) (Or.inl ⟨by rfl, ?_⟩) ?_ ?_
       rotate_left
       ·intro w'
        go_simp
        with_reducible rfl
       rotate_left
       ·simp only [Act.put, List.setIfInBounds_toArray, List.set_cons_zero, List.set_cons_succ, i64_w, i32_w]
        rfl
       refine pure_ (i := 7) (N := some 34) (v := ?_) (a' := ?_) #[true, true, true, true, true, true, true, true, false, true, false, false] rfl rfl (any_of HT_.out (by kernel_rfl)) (fun _ _ _ h => h) (Or.inl ⟨by rfl, ?_⟩) ?_ ?_
       rotate_left
       ·intro w'
        go_simp
        with_reducible rfl
       rotate_left
       ·simp only [Act.put, List.setIfInBounds_toArray, List.set_cons_zero, List.set_cons_succ, i64_w, i32_w]
        rfl
       refine pure_ (i := 8) (N := some 35) (v := ?_) (a' := ?_) #[true, true, true, true, true, true, true, true, true, true, false, false] rfl rfl (any_of HT_.out (by kernel_rfl)) (fun _ _ _ h => h) (Or.inl ⟨by rfl, ?_⟩) ?_ ?_
       rotate_left
       ·intro w'
        go_simp
        with_reducible rfl
       rotate_left
       ·simp only [Act.put, List.setIfInBounds_toArray, List.set_cons_zero, List.set_cons_succ, i64_w, i32_w]
        rfl
       exact norm_ (by simp only [putAll, Act.put, List.setIfInBounds_toArray, List.set_cons_zero, List.set_cons_succ]) (hCont (.slice Ao25 t155.length co25, .slice Ao26 t161.length co26, v168, gb171) _ ⟨hHeld, (by (with_reducible repeat (first | apply Kd.R_alloc | apply Kd.R_drewN | apply Kd.R_drew)); exact Kd.R_mono HO157.out (fun _ hk => ⟨hk.1.2, hk.2⟩)), (by (with_reducible repeat (first | apply Kd.R_alloc | apply Kd.R_drewN | apply Kd.R_drew)); exact Kd.R_mono HO163.out (fun _ hk => ⟨hk.1.2, hk.2⟩)), (by (with_reducible repeat (first | apply Kd.R_alloc | apply Kd.R_drewN | apply Kd.R_drew)); exact Kd.R_mono HO169.out (fun _ hk => ⟨hk.1.2, hk.2⟩)), (by (with_reducible repeat (first | refine blk_drewN ?_ _ | refine blk_drew ?_ | refine blk_alloc ?_ _)); exact BK153.out), (by (with_reducible repeat (first | refine blk_drewN ?_ _ | refine blk_drew ?_ | refine blk_alloc ?_ _)); exact BK171.out), GW171.out, GE171.out, NB153_171.out, NB171_153.out, (by repeat (first | (with_reducible first | exact HB.out | apply below_alloc | apply pw_below_drewN | apply below_drew1 | refine below_set ?_ GE153.out | refine below_set ?_ GE171.out) | exact HB.out))⟩)
     ·skip
      refine box_step ?hg (N := 8) ?hd (cs := #[.int .i64 0, .int .i64 0, .int .i64 0, .slice none 0 0]) (t := 41) ?hr ?_; (case hd => rfl); (case hg => rfl); (case hr => first | (go_simp; done) | (go_simp; rfl))
      intro gb171 hg w23 hbox hb
      have n0_ := am (shR HO157.out hb)
      have n1_ := am (shBK BK153.out hb)
      have n2_ := am (shHB HB.out hb)
      have n3_ := am (hbox)
      have n4_ := am ((shGE HB.out hg : w.heap.size ≤ gb171))
      have n5_ := am ((shGE HB.out hg : w.heap.size ≤ gb171))
      have n6_ := am ((shNB BK153.out hg : gb153 ≠ gb171))
      have n7_ := am ((shNC BK153.out hg : gb171 ≠ gb153))
      clear HO157
      clear BK153
      clear HB
      have HO157 := n0_
      have BK153 := n1_
      have HB := n2_
      have BK171 := n3_
      have GW171 := n4_
      have GE171 := n5_
      have NB153_171 := n6_
      have NB171_153 := n7_
      clear n0_ n1_ n2_ n3_ n4_ n5_ n6_ n7_
      clear hb hbox hg
      refine hK.out _ _ ⟨(blk_cell BK153.out 0).trans rfl, (blk_cell BK153.out 1).trans rfl, (blk_cell BK153.out 2).trans rfl, (blk_cell BK153.out 3).trans rfl⟩ (fun hHeld => ?_)
      clear hK K
      refine norm_ (a' := ?_) ?_ ?_
      rotate_left
      ·show Act.put _ (some 8) _ = _
       simp only [Act.put, List.setIfInBounds_toArray, List.set_cons_zero, List.set_cons_succ, i64_w, i32_w]
       rfl
      refine one_ (i := 4) (N := some 32) #[true, true, true, true, true, false, false, false, false, true, false, false] rfl rfl (one_of HT_.out (by kernel_rfl)) (by decide) (fun K hK => ?_)
      refine goes_ Try.func24 (by kernel_rfl) rfl #[.agg #[.int .i64 a2_0, .int .i64 a2_1, .int .i64 a2_2, .slice A2_3 l2_3.length c2_3]] (by rfl) rfl rfl (by (try simp only [List.map_toArray, List.map_cons, List.map_nil]); first | done | rfl | (simp only [List.length_drop, List.length_take]; rfl)) ?_
      with_reducible refine (laws_toFrame.calls k a2_0 a2_1 a2_2 _ _ l2_3 t158 t159 t160 t161 _ ?side1 ?side2 A12.out).mono ?_
      (case side1 => repeat (first | exact (Kd.C_below HR2_3.out HB.out) | (with_reducible refine Kd.C_alloc ?_ _) | (with_reducible refine Kd.C_drewN ?_ _) | (with_reducible refine Kd.C_drew ?_)))
      (case side2 => exact HC2_3.out)
      rintro e w24 ⟨v162, rfl, ho0, hb⟩
      refine ⟨_, rfl, ?_⟩
      have n0_ := am (shRE HO157.out (Kd.R_base ho0) hb)
      have n1_ := am (Kd.R_lower (Kd.R_new' ho0 (shLT HO157.out)) (below_size (by repeat (first | (with_reducible first | exact HB.out | apply below_alloc | apply pw_below_drewN | apply below_drew1 | refine below_set ?_ GE153.out | refine below_set ?_ GE171.out) | exact HB.out))))
      have n2_ := am (shBK BK153.out hb)
      have n3_ := am (shBK BK171.out hb)
      have n4_ := am (shHB HB.out hb)
      clear HO157
      clear BK153
      clear BK171
      clear HB
      have HO157 := n0_
      have HO163 := n1_
      have BK153 := n2_
      have BK171 := n3_
      have HB := n4_
      clear n0_ n1_ n2_ n3_ n4_
      (try clear hb)
      (try clear hb2)
      (try clear hk)
      (try clear hi)
      (try clear ho0)
      obtain ⟨Ao25, co25, eo25⟩ := Kd.R_slice HO157.out
      (first | subst eo25 | (injection eo25 with f1_ f2_ f3_; have f4_ := f1_.symm; have f5_ := f3_.symm; clear f1_ f2_ f3_; subst f4_; subst f5_))
      obtain ⟨Ao26, co26, eo26⟩ := Kd.R_slice HO163.out
      (first | subst eo26 | (injection eo26 with f1_ f2_ f3_; have f4_ := f1_.symm; have f5_ := f3_.symm; clear f1_ f2_ f3_; subst f4_; subst f5_))
      refine hK.out _ _ ⟨(blk_cell BK153.out 0).trans rfl, (blk_cell BK153.out 1).trans rfl, (blk_cell BK153.out 2).trans rfl, (blk_cell BK153.out 3).trans rfl⟩ (fun hHeld => ?_)
      clear hK K
      refine norm_ (a' := ?_) ?_ ?_
      rotate_left
      ·show Act.put _ (some 32) _ = _
       simp only [Act.put, List.setIfInBounds_toArray, List.set_cons_zero, List.set_cons_succ, i64_w, i32_w]
       rfl
      refine one_ (i := 5) (N := some 33) #[true, true, true, true, true, true, false, false, false, true, false, false] rfl rfl (one_of HT_.out (by kernel_rfl)) (by decide) (fun K hK => ?_)
      refine goes_ Try.func55 (by kernel_rfl) rfl #[.slice Ao25 t155.length co25, .int .i64 a1, .agg #[.int .i64 t158, .int .i64 t159, .int .i64 t160, .slice Ao26 t161.length co26]] (by rfl) rfl rfl (by (try simp only [List.map_toArray, List.map_cons, List.map_nil]); first | done | rfl | (simp only [List.length_drop, List.length_take]; rfl)) ?_
      with_reducible refine (spec_Reply.calls _ _ t155 a1 t158 t159 t160 _ _ t161 t164 t165 t166 t167 t170 _ ?side1 ?side2 ?side3 ?side4 A13.out).mono ?_
      (case side1 => repeat (first | exact (Kd.R_reads' HO157.out).2.2 | (with_reducible refine Kd.C_alloc ?_ _) | (with_reducible refine Kd.C_drewN ?_ _) | (with_reducible refine Kd.C_drew ?_)))
      (case side2 => exact (Kd.R_reads' HO157.out).2.1)
      (case side3 => repeat (first | exact (Kd.R_reads' HO163.out).2.2 | (with_reducible refine Kd.C_alloc ?_ _) | (with_reducible refine Kd.C_drewN ?_ _) | (with_reducible refine Kd.C_drew ?_)))
      (case side4 => exact (Kd.R_reads' HO163.out).2.1)
      rintro e w27 ⟨v168, rfl, ho0, hb⟩
      refine ⟨_, rfl, ?_⟩
      have n0_ := am (shRE HO157.out (Kd.R_base ho0) hb)
      have n1_ := am (shRE HO163.out (Kd.R_base ho0) hb)
      have n2_ := am (Kd.R_lower (Kd.R_new' (Kd.R_new' ho0 (shLT HO157.out)) (shLT HO163.out)) (below_size (by repeat (first | (with_reducible first | exact HB.out | apply below_alloc | apply pw_below_drewN | apply below_drew1 | refine below_set ?_ GE153.out | refine below_set ?_ GE171.out) | exact HB.out))))
      have n3_ := am (shBK BK153.out hb)
      have n4_ := am (shBK BK171.out hb)
      have n5_ := am (shHB HB.out hb)
      clear HO157
      clear HO163
      clear BK153
      clear BK171
      clear HB
      have HO157 := n0_
      have HO163 := n1_
      have HO169 := n2_
      have BK153 := n3_
      have BK171 := n4_
      have HB := n5_
      clear n0_ n1_ n2_ n3_ n4_ n5_
      (try clear hb)
      (try clear hb2)
      (try clear hk)
      (try clear hi)
      (try clear ho0)
      refine hK.out _ _ ⟨(blk_cell BK153.out 0).trans rfl, (blk_cell BK153.out 1).trans rfl, (blk_cell BK153.out 2).trans rfl, (blk_cell BK153.out 3).trans rfl⟩ (fun hHeld => ?_)
      clear hK K
      refine norm_ (a' := ?_) ?_ ?_
      rotate_left
      ·show Act.put _ (some 33) _ = _
       simp only [Act.put, List.setIfInBounds_toArray, List.set_cons_zero, List.set_cons_succ, i64_w, i32_w]
       rfl
      refine pure_ (i := 6) (N := some 27) (v := ?_) (a' := ?_) #[true, true, true, true, true, true, true, false, false, true, false, false] rfl rfl (any_of HT_.out (by kernel_rfl)) (fun _ _ _ h => h) (Or.inl ⟨by rfl, ?_⟩) ?_ ?_
      rotate_left
      ·intro w'
       go_simp
       with_reducible rfl
      rotate_left
      ·simp only [Act.put, List.setIfInBounds_toArray, List.set_cons_zero, List.set_cons_succ, i64_w, i32_w]
       rfl
      refine pure_ (i := 7) (N := some 34) (v := ?_) (a' := ?_) #[true, true, true, true, true, true, true, true, false, true, false, false] rfl rfl (any_of HT_.out (by kernel_rfl)) (fun _ _ _ h => h) (Or.inl ⟨by rfl, ?_⟩) ?_ ?_
      rotate_left
      ·intro w'
       go_simp
       with_reducible rfl
      rotate_left
      ·simp only [Act.put, List.setIfInBounds_toArray, List.set_cons_zero, List.set_cons_succ, i64_w, i32_w]
       rfl
      refine pure_ (i := 8) (N := some 35) (v := ?_) (a' := ?_) #[true, true, true, true, true, true, true, true, true, true, false, false] rfl rfl (any_of HT_.out (by kernel_rfl)) (fun _ _ _ h => h) (Or.inl ⟨by rfl, ?_⟩) ?_ ?_
      rotate_left
      ·intro w'
       go_simp
       with_reducible rfl
      rotate_left
      ·simp only [Act.put, List.setIfInBounds_toArray, List.set_cons_zero, List.set_cons_succ, i64_w, i32_w]
       rfl
      exact norm_ (by simp only [putAll, Act.put, List.setIfInBounds_toArray, List.set_cons_zero, List.set_cons_succ]) (hCont (.slice Ao25 t155.length co25, .slice Ao26 t161.length co26, v168, gb171) _ ⟨hHeld, (by (with_reducible repeat (first | apply Kd.R_alloc | apply Kd.R_drewN | apply Kd.R_drew)); exact Kd.R_mono HO157.out (fun _ hk => ⟨hk.1.2, hk.2⟩)), (by (with_reducible repeat (first | apply Kd.R_alloc | apply Kd.R_drewN | apply Kd.R_drew)); exact Kd.R_mono HO163.out (fun _ hk => ⟨hk.1.2, hk.2⟩)), (by (with_reducible repeat (first | apply Kd.R_alloc | apply Kd.R_drewN | apply Kd.R_drew)); exact Kd.R_mono HO169.out (fun _ hk => ⟨hk.1.2, hk.2⟩)), (by (with_reducible repeat (first | refine blk_drewN ?_ _ | refine blk_drew ?_ | refine blk_alloc ?_ _)); exact BK153.out), (by (with_reducible repeat (first | refine blk_drewN ?_ _ | refine blk_drew ?_ | refine blk_alloc ?_ _)); exact BK171.out), GW171.out, GE171.out, NB153_171.out, NB171_153.out, (by repeat (first | (with_reducible first | exact HB.out | apply below_alloc | apply pw_below_drewN | apply below_drew1 | refine below_set ?_ GE153.out | refine below_set ?_ GE171.out) | exact HB.out))⟩)
    ·skip
     refine box_step ?hg (N := 8) ?hd (cs := #[.int .i64 0, .int .i64 0, .int .i64 0, .slice none 0 0]) (t := 41) ?hr ?_; (case hd => rfl); (case hg => rfl); (case hr => first | (go_simp; done) | (go_simp; rfl))
     intro gb171 hg w22 hbox hb
     have n0_ := am (shBK BK153.out hb)
     have n1_ := am (shHB HB.out hb)
     have n2_ := am (hbox)
     have n3_ := am ((shGE HB.out hg : w.heap.size ≤ gb171))
     have n4_ := am ((shGE HB.out hg : w.heap.size ≤ gb171))
     have n5_ := am ((shNB BK153.out hg : gb153 ≠ gb171))
     have n6_ := am ((shNC BK153.out hg : gb171 ≠ gb153))
     clear BK153
     clear HB
     have BK153 := n0_
     have HB := n1_
     have BK171 := n2_
     have GW171 := n3_
     have GE171 := n4_
     have NB153_171 := n5_
     have NB171_153 := n6_
     clear n0_ n1_ n2_ n3_ n4_ n5_ n6_
     clear hb hbox hg
     refine hK.out _ _ ⟨(blk_cell BK153.out 0).trans rfl, (blk_cell BK153.out 1).trans rfl, (blk_cell BK153.out 2).trans rfl, (blk_cell BK153.out 3).trans rfl⟩ (fun hHeld => ?_)
     clear hK K
     refine norm_ (a' := ?_) ?_ ?_
     rotate_left
     ·show Act.put _ (some 8) _ = _
      simp only [Act.put, List.setIfInBounds_toArray, List.set_cons_zero, List.set_cons_succ, i64_w, i32_w]
      rfl
     refine one_ (i := 1) (N := some 29) #[true, true, true, true, false, false, false, false, false, true, false, false] rfl rfl (one_of HT_.out (by kernel_rfl)) (by decide) (fun K hK => ?_)
     refine goes_ Try.func56 (by kernel_rfl) rfl #[.slice A0 l0.length c0] (by rfl) rfl rfl (by (try simp only [List.map_toArray, List.map_cons, List.map_nil]); first | done | rfl | (simp only [List.length_drop, List.length_take]; rfl)) ?_
     with_reducible refine (laws_toByteS.calls k _ _ l0 t155 _ ?side1 ?side2 A11.out).mono ?_
     (case side1 => repeat (first | exact (Kd.C_below HR0.out HB.out) | (with_reducible refine Kd.C_alloc ?_ _) | (with_reducible refine Kd.C_drewN ?_ _) | (with_reducible refine Kd.C_drew ?_)))
     (case side2 => exact HC0.out)
     rintro e w23 ⟨v156, rfl, ho0, hb⟩
     refine ⟨_, rfl, ?_⟩
     have n0_ := am (Kd.R_lower ho0 (below_size (by repeat (first | (with_reducible first | exact HB.out | apply below_alloc | apply pw_below_drewN | apply below_drew1 | refine below_set ?_ GE153.out | refine below_set ?_ GE171.out) | exact HB.out))))
     have n1_ := am (shBK BK153.out hb)
     have n2_ := am (shBK BK171.out hb)
     have n3_ := am (shHB HB.out hb)
     clear BK153
     clear BK171
     clear HB
     have HO157 := n0_
     have BK153 := n1_
     have BK171 := n2_
     have HB := n3_
     clear n0_ n1_ n2_ n3_
     (try clear hb)
     (try clear hb2)
     (try clear hk)
     (try clear hi)
     (try clear ho0)
     refine hK.out _ _ ⟨(blk_cell BK153.out 0).trans rfl, (blk_cell BK153.out 1).trans rfl, (blk_cell BK153.out 2).trans rfl, (blk_cell BK153.out 3).trans rfl⟩ (fun hHeld => ?_)
     clear hK K
     refine norm_ (a' := ?_) ?_ ?_
     rotate_left
     ·show Act.put _ (some 29) _ = _
      simp only [Act.put, List.setIfInBounds_toArray, List.set_cons_zero, List.set_cons_succ, i64_w, i32_w]
      rfl
     refine one_ (i := 4) (N := some 32) #[true, true, true, true, true, false, false, false, false, true, false, false] rfl rfl (one_of HT_.out (by kernel_rfl)) (by decide) (fun K hK => ?_)
     refine goes_ Try.func24 (by kernel_rfl) rfl #[.agg #[.int .i64 a2_0, .int .i64 a2_1, .int .i64 a2_2, .slice A2_3 l2_3.length c2_3]] (by rfl) rfl rfl (by (try simp only [List.map_toArray, List.map_cons, List.map_nil]); first | done | rfl | (simp only [List.length_drop, List.length_take]; rfl)) ?_
     with_reducible refine (laws_toFrame.calls k a2_0 a2_1 a2_2 _ _ l2_3 t158 t159 t160 t161 _ ?side1 ?side2 A12.out).mono ?_
     (case side1 => repeat (first | exact (Kd.C_below HR2_3.out HB.out) | (with_reducible refine Kd.C_alloc ?_ _) | (with_reducible refine Kd.C_drewN ?_ _) | (with_reducible refine Kd.C_drew ?_)))
     (case side2 => exact HC2_3.out)
     rintro e w24 ⟨v162, rfl, ho0, hb⟩
     refine ⟨_, rfl, ?_⟩
     have n0_ := am (shRE HO157.out (Kd.R_base ho0) hb)
     have n1_ := am (Kd.R_lower (Kd.R_new' ho0 (shLT HO157.out)) (below_size (by repeat (first | (with_reducible first | exact HB.out | apply below_alloc | apply pw_below_drewN | apply below_drew1 | refine below_set ?_ GE153.out | refine below_set ?_ GE171.out) | exact HB.out))))
     have n2_ := am (shBK BK153.out hb)
     have n3_ := am (shBK BK171.out hb)
     have n4_ := am (shHB HB.out hb)
     clear HO157
     clear BK153
     clear BK171
     clear HB
     have HO157 := n0_
     have HO163 := n1_
     have BK153 := n2_
     have BK171 := n3_
     have HB := n4_
     clear n0_ n1_ n2_ n3_ n4_
     (try clear hb)
     (try clear hb2)
     (try clear hk)
     (try clear hi)
     (try clear ho0)
     obtain ⟨Ao25, co25, eo25⟩ := Kd.R_slice HO157.out
     (first | subst eo25 | (injection eo25 with f1_ f2_ f3_; have f4_ := f1_.symm; have f5_ := f3_.symm; clear f1_ f2_ f3_; subst f4_; subst f5_))
     obtain ⟨Ao26, co26, eo26⟩ := Kd.R_slice HO163.out
     (first | subst eo26 | (injection eo26 with f1_ f2_ f3_; have f4_ := f1_.symm; have f5_ := f3_.symm; clear f1_ f2_ f3_; subst f4_; subst f5_))
     refine hK.out _ _ ⟨(blk_cell BK153.out 0).trans rfl, (blk_cell BK153.out 1).trans rfl, (blk_cell BK153.out 2).trans rfl, (blk_cell BK153.out 3).trans rfl⟩ (fun hHeld => ?_)
     clear hK K
     refine norm_ (a' := ?_) ?_ ?_
     rotate_left
     ·show Act.put _ (some 32) _ = _
      simp only [Act.put, List.setIfInBounds_toArray, List.set_cons_zero, List.set_cons_succ, i64_w, i32_w]
      rfl
     refine one_ (i := 5) (N := some 33) #[true, true, true, true, true, true, false, false, false, true, false, false] rfl rfl (one_of HT_.out (by kernel_rfl)) (by decide) (fun K hK => ?_)
     refine goes_ Try.func55 (by kernel_rfl) rfl #[.slice Ao25 t155.length co25, .int .i64 a1, .agg #[.int .i64 t158, .int .i64 t159, .int .i64 t160, .slice Ao26 t161.length co26]] (by rfl) rfl rfl (by (try simp only [List.map_toArray, List.map_cons, List.map_nil]); first | done | rfl | (simp only [List.length_drop, List.length_take]; rfl)) ?_
     with_reducible refine (spec_Reply.calls _ _ t155 a1 t158 t159 t160 _ _ t161 t164 t165 t166 t167 t170 _ ?side1 ?side2 ?side3 ?side4 A13.out).mono ?_
     (case side1 => repeat (first | exact (Kd.R_reads' HO157.out).2.2 | (with_reducible refine Kd.C_alloc ?_ _) | (with_reducible refine Kd.C_drewN ?_ _) | (with_reducible refine Kd.C_drew ?_)))
     (case side2 => exact (Kd.R_reads' HO157.out).2.1)
     (case side3 => repeat (first | exact (Kd.R_reads' HO163.out).2.2 | (with_reducible refine Kd.C_alloc ?_ _) | (with_reducible refine Kd.C_drewN ?_ _) | (with_reducible refine Kd.C_drew ?_)))
     (case side4 => exact (Kd.R_reads' HO163.out).2.1)
     rintro e w27 ⟨v168, rfl, ho0, hb⟩
     refine ⟨_, rfl, ?_⟩
     have n0_ := am (shRE HO157.out (Kd.R_base ho0) hb)
     have n1_ := am (shRE HO163.out (Kd.R_base ho0) hb)
     have n2_ := am (Kd.R_lower (Kd.R_new' (Kd.R_new' ho0 (shLT HO157.out)) (shLT HO163.out)) (below_size (by repeat (first | (with_reducible first | exact HB.out | apply below_alloc | apply pw_below_drewN | apply below_drew1 | refine below_set ?_ GE153.out | refine below_set ?_ GE171.out) | exact HB.out))))
     have n3_ := am (shBK BK153.out hb)
     have n4_ := am (shBK BK171.out hb)
     have n5_ := am (shHB HB.out hb)
     clear HO157
     clear HO163
     clear BK153
     clear BK171
     clear HB
     have HO157 := n0_
     have HO163 := n1_
     have HO169 := n2_
     have BK153 := n3_
     have BK171 := n4_
     have HB := n5_
     clear n0_ n1_ n2_ n3_ n4_ n5_
     (try clear hb)
     (try clear hb2)
     (try clear hk)
     (try clear hi)
     (try clear ho0)
     refine hK.out _ _ ⟨(blk_cell BK153.out 0).trans rfl, (blk_cell BK153.out 1).trans rfl, (blk_cell BK153.out 2).trans rfl, (blk_cell BK153.out 3).trans rfl⟩ (fun hHeld => ?_)
     clear hK K
     refine norm_ (a' := ?_) ?_ ?_
     rotate_left
     ·show Act.put _ (some 33) _ = _
      simp only [Act.put, List.setIfInBounds_toArray, List.set_cons_zero, List.set_cons_succ, i64_w, i32_w]
      rfl
     refine pure_ (i := 6) (N := some 27) (v := ?_) (a' := ?_) #[true, true, true, true, true, true, true, false, false, true, false, false] rfl rfl (any_of HT_.out (by kernel_rfl)) (fun _ _ _ h => h) (Or.inl ⟨by rfl, ?_⟩) ?_ ?_
     rotate_left
     ·intro w'
      go_simp
      with_reducible rfl
     rotate_left
     ·simp only [Act.put, List.setIfInBounds_toArray, List.set_cons_zero, List.set_cons_succ, i64_w, i32_w]
      rfl
     refine pure_ (i := 7) (N := some 34) (v := ?_) (a' := ?_) #[true, true, true, true, true, true, true, true, false, true, false, false] rfl rfl (any_of HT_.out (by kernel_rfl)) (fun _ _ _ h => h) (Or.inl ⟨by rfl, ?_⟩) ?_ ?_
     rotate_left
     ·intro w'
      go_simp
      with_reducible rfl
     rotate_left
     ·simp only [Act.put, List.setIfInBounds_toArray, List.set_cons_zero, List.set_cons_succ, i64_w, i32_w]
      rfl
     refine pure_ (i := 8) (N := some 35) (v := ?_) (a' := ?_) #[true, true, true, true, true, true, true, true, true, true, false, false] rfl rfl (any_of HT_.out (by kernel_rfl)) (fun _ _ _ h => h) (Or.inl ⟨by rfl, ?_⟩) ?_ ?_
     rotate_left
     ·intro w'
      go_simp
      with_reducible rfl
     rotate_left
     ·simp only [Act.put, List.setIfInBounds_toArray, List.set_cons_zero, List.set_cons_succ, i64_w, i32_w]
      rfl
     exact norm_ (by simp only [putAll, Act.put, List.setIfInBounds_toArray, List.set_cons_zero, List.set_cons_succ]) (hCont (.slice Ao25 t155.length co25, .slice Ao26 t161.length co26, v168, gb171) _ ⟨hHeld, (by (with_reducible repeat (first | apply Kd.R_alloc | apply Kd.R_drewN | apply Kd.R_drew)); exact Kd.R_mono HO157.out (fun _ hk => ⟨hk.1.2, hk.2⟩)), (by (with_reducible repeat (first | apply Kd.R_alloc | apply Kd.R_drewN | apply Kd.R_drew)); exact Kd.R_mono HO163.out (fun _ hk => ⟨hk.1.2, hk.2⟩)), (by (with_reducible repeat (first | apply Kd.R_alloc | apply Kd.R_drewN | apply Kd.R_drew)); exact Kd.R_mono HO169.out (fun _ hk => ⟨hk.1.2, hk.2⟩)), (by (with_reducible repeat (first | refine blk_drewN ?_ _ | refine blk_drew ?_ | refine blk_alloc ?_ _)); exact BK153.out), (by (with_reducible repeat (first | refine blk_drewN ?_ _ | refine blk_drew ?_ | refine blk_alloc ?_ _)); exact BK171.out), GW171.out, GE171.out, NB153_171.out, NB171_153.out, (by repeat (first | (with_reducible first | exact HB.out | apply below_alloc | apply pw_below_drewN | apply below_drew1 | refine below_set ?_ GE153.out | refine below_set ?_ GE171.out) | exact HB.out))⟩)
   rintro ⟨v156, v162, v168, gb171⟩ w28 ⟨hS_, h0_, h1_, h2_, h3_, h4_, h5_, h6_, h7_, h8_, h9_⟩
   have n0_ : Aside0 (Kd.R (Kd.int .u8) 5 w28 w.heap.size (fun k_ => some k_ ≠ (v162 : Value).ownBlock ∧ some k_ ≠ (v168 : Value).ownBlock) v156 t155) := ⟨h0_⟩
   have n1_ : Aside0 (Kd.R (Kd.int .u8) 5 w28 w.heap.size (fun k_ => some k_ ≠ (v156 : Value).ownBlock ∧ some k_ ≠ (v168 : Value).ownBlock) v162 t161) := ⟨h1_⟩
   have n2_ : Aside0 (Kd.R (Kd.int .u8) 5 w28 w.heap.size (fun k_ => some k_ ≠ (v156 : Value).ownBlock ∧ some k_ ≠ (v162 : Value).ownBlock) v168 t167) := ⟨h2_⟩
   have n3_ : Aside0 (w28.heap[gb153]? = some (.cells #[.int .i64 a2_0, .int .i64 a2_1, .int .i64 a2_2, .slice A2_3 l2_3.length c2_3] 38 (0, 0))) := ⟨h3_⟩
   have n4_ : Aside0 (w28.heap[gb171]? = some (.cells #[.int .i64 0, .int .i64 0, .int .i64 0, .slice none 0 0] 41 (0, 0))) := ⟨h4_⟩
   have n5_ : Aside0 (w.heap.size ≤ gb171) := ⟨h5_⟩
   have n6_ : Aside0 (w.heap.size ≤ gb171) := ⟨h6_⟩
   have n7_ : Aside0 (gb153 ≠ gb171) := ⟨h7_⟩
   have n8_ : Aside0 (gb171 ≠ gb153) := ⟨h8_⟩
   have n9_ : Aside0 (Below w.heap.size w w28) := ⟨h9_⟩
   clear BK153
   clear HB
   clear h0_ h1_ h2_ h3_ h4_ h5_ h6_ h7_ h8_ h9_
   have HO157 := n0_
   have HO163 := n1_
   have HO169 := n2_
   have BK153 := n3_
   have BK171 := n4_
   have GW171 := n5_
   have GE171 := n6_
   have NB153_171 := n7_
   have NB171_153 := n8_
   have HB := n9_
   clear n0_ n1_ n2_ n3_ n4_ n5_ n6_ n7_ n8_ n9_
   have hHeld : w28.cell? ⟨gb153, 0, none⟩ = some (.int .i64 a2_0) ∧ w28.cell? ⟨gb153, 1, none⟩ = some (.int .i64 a2_1) ∧ w28.cell? ⟨gb153, 2, none⟩ = some (.int .i64 a2_2) ∧ w28.cell? ⟨gb153, 3, none⟩ = some (.slice A2_3 l2_3.length c2_3) := hS_
   obtain ⟨Ao32, co32, eo32⟩ := Kd.R_slice HO169.out
   (first | subst eo32 | (injection eo32 with f1_ f2_ f3_; have f4_ := f1_.symm; have f5_ := f3_.symm; clear f1_ f2_ f3_; subst f4_; subst f5_))
   refine norm_ (a' := ?_) ?_ ?_
   rotate_left
   ·simp only [putAll, Act.put, List.setIfInBounds_toArray, List.set_cons_zero, List.set_cons_succ]
    rfl
   refine one_ (i := 10) (N := none) #[true, true, true, true, true, true, true, true, true, true, true, false] rfl rfl (one_of HT_.out (by kernel_rfl)) (by decide) (fun K hK => ?_)
   have hs29 : w28.cell? ⟨gb171, 0, none⟩ = some (.int .i64 0) := (blk_cell BK171.out 0).trans rfl
   have hfs29 := blk_frozen BK171.out 0
   have hns29_0 := NB153_171.out
   have hms29_0 := NB171_153.out
   have hs30 : w28.cell? ⟨gb171, 1, none⟩ = some (.int .i64 0) := (blk_cell BK171.out 1).trans rfl
   have hfs30 := blk_frozen BK171.out 1
   have hns30_0 := NB153_171.out
   have hms30_0 := NB171_153.out
   have hs31 : w28.cell? ⟨gb171, 2, none⟩ = some (.int .i64 0) := (blk_cell BK171.out 2).trans rfl
   have hfs31 := blk_frozen BK171.out 2
   have hns31_0 := NB153_171.out
   have hms31_0 := NB171_153.out
   have hs33 : w28.cell? ⟨gb171, 3, none⟩ = some (.slice none 0 0) := (blk_cell BK171.out 3).trans rfl
   have hfs33 := blk_frozen BK171.out 3
   have hns33_0 := NB153_171.out
   have hms33_0 := NB171_153.out
   refine skip_ (w1 := ?_) (by rfl) rfl ?_ ?_
   rotate_left
   ·go_simp
    rfl
   refine hK.out _ _ ⟨((cell_far (p := ⟨gb171, _, none⟩) NB153_171.out _).trans (((cell_far (p := ⟨gb171, _, none⟩) NB153_171.out _).trans (((cell_far (p := ⟨gb171, _, none⟩) NB153_171.out _).trans (((cell_far (p := ⟨gb171, _, none⟩) NB153_171.out _).trans (hHeld.1)))))))), ((cell_far (p := ⟨gb171, _, none⟩) NB153_171.out _).trans (((cell_far (p := ⟨gb171, _, none⟩) NB153_171.out _).trans (((cell_far (p := ⟨gb171, _, none⟩) NB153_171.out _).trans (((cell_far (p := ⟨gb171, _, none⟩) NB153_171.out _).trans (hHeld.2.1)))))))), ((cell_far (p := ⟨gb171, _, none⟩) NB153_171.out _).trans (((cell_far (p := ⟨gb171, _, none⟩) NB153_171.out _).trans (((cell_far (p := ⟨gb171, _, none⟩) NB153_171.out _).trans (((cell_far (p := ⟨gb171, _, none⟩) NB153_171.out _).trans (hHeld.2.2.1)))))))), ((cell_far (p := ⟨gb171, _, none⟩) NB153_171.out _).trans (((cell_far (p := ⟨gb171, _, none⟩) NB153_171.out _).trans (((cell_far (p := ⟨gb171, _, none⟩) NB153_171.out _).trans (((cell_far (p := ⟨gb171, _, none⟩) NB153_171.out _).trans (hHeld.2.2.2))))))))⟩ (fun hHeld => ?_)
   clear hK K
   refine pure_ (i := 11) (N := some 9) (v := ?_) (a' := ?_) #[true, true, true, true, true, true, true, true, true, true, true, true] rfl rfl (any_of HT_.out (by kernel_rfl)) (fun _ _ _ h => h) (Or.inl ⟨by rfl, ?_⟩) ?_ ?_
   rotate_left
   ·intro w'
    go_simp
    with_reducible rfl
   rotate_left
   ·simp only [Act.put, List.setIfInBounds_toArray, List.set_cons_zero, List.set_cons_succ, i64_w, i32_w]
    rfl
   refine done_ (done_of HT_.out (by kernel_rfl)) ?_
   go_upto_region 11 with (first | ((with_reducible refine gate_callee (f := 56) rfl ?_); refine goesL_ (some 37) rfl rfl Try.func56 (by kernel_rfl) rfl #[.slice A0 l0.length c0] rfl (by (try simp only [List.map_toArray, List.map_cons, List.map_nil]); first | done | rfl | (simp only [List.length_drop, List.length_take]; rfl)) ?_; (with_reducible refine (laws_toByteS.calls k _ _ l0 t172 _ ?side1 ?side2 A14.out).mono ?_); (case side1 => exact Kd.C_below HR0.out (by repeat (first | (with_reducible first | exact HB.out | apply below_alloc | apply pw_below_drewN | apply below_drew1 | refine below_set ?_ GE153.out | refine below_set ?_ GE171.out) | exact HB.out))); (case side2 => exact HC0.out); rintro e w34 ⟨v173, rfl, ho0, hb⟩; refine ⟨_, rfl, ?_⟩; have n0_ := am (Kd.R_elder' (by (with_reducible repeat (first | apply Kd.R_alloc | apply Kd.R_drewN | apply Kd.R_drew)); exact (Kd.R_mono (Kd.R_far (p := ⟨gb171, 3, none⟩) (Kd.R_far (p := ⟨gb171, 2, none⟩) (Kd.R_far (p := ⟨gb171, 1, none⟩) (Kd.R_far (p := ⟨gb171, 0, none⟩) (Kd.R_types HO157.out BK171.out (by decide)) (fun _ hk => hk.2) (.int .i64 t164)) (fun _ hk => hk.2) (.int .i64 t165)) (fun _ hk => hk.2) (.int .i64 t166)) (fun _ hk => hk.2) (.slice Ao32 t167.length co32)) (fun _ h_ => h_.1))) (Kd.R_base ho0) hb); have n1_ := am (Kd.R_elder' (by (with_reducible repeat (first | apply Kd.R_alloc | apply Kd.R_drewN | apply Kd.R_drew)); exact (Kd.R_mono (Kd.R_far (p := ⟨gb171, 3, none⟩) (Kd.R_far (p := ⟨gb171, 2, none⟩) (Kd.R_far (p := ⟨gb171, 1, none⟩) (Kd.R_far (p := ⟨gb171, 0, none⟩) (Kd.R_types HO163.out BK171.out (by decide)) (fun _ hk => hk.2) (.int .i64 t164)) (fun _ hk => hk.2) (.int .i64 t165)) (fun _ hk => hk.2) (.int .i64 t166)) (fun _ hk => hk.2) (.slice Ao32 t167.length co32)) (fun _ h_ => h_.1))) (Kd.R_base ho0) hb); have n2_ := am (Kd.R_elder' (by (with_reducible repeat (first | apply Kd.R_alloc | apply Kd.R_drewN | apply Kd.R_drew)); exact (Kd.R_mono (Kd.R_far (p := ⟨gb171, 3, none⟩) (Kd.R_far (p := ⟨gb171, 2, none⟩) (Kd.R_far (p := ⟨gb171, 1, none⟩) (Kd.R_far (p := ⟨gb171, 0, none⟩) (Kd.R_types HO169.out BK171.out (by decide)) (fun _ hk => hk.2) (.int .i64 t164)) (fun _ hk => hk.2) (.int .i64 t165)) (fun _ hk => hk.2) (.int .i64 t166)) (fun _ hk => hk.2) (.slice Ao32 t167.length co32)) (fun _ h_ => h_.1))) (Kd.R_base ho0) hb); have n3_ := am (Kd.R_lower (Kd.R_new' (Kd.R_new' (Kd.R_new' ho0 (Kd.R_lt (by (with_reducible repeat (first | apply Kd.R_alloc | apply Kd.R_drewN | apply Kd.R_drew)); exact (Kd.R_mono (Kd.R_far (p := ⟨gb171, 3, none⟩) (Kd.R_far (p := ⟨gb171, 2, none⟩) (Kd.R_far (p := ⟨gb171, 1, none⟩) (Kd.R_far (p := ⟨gb171, 0, none⟩) (Kd.R_types HO157.out BK171.out (by decide)) (fun _ hk => hk.2) (.int .i64 t164)) (fun _ hk => hk.2) (.int .i64 t165)) (fun _ hk => hk.2) (.int .i64 t166)) (fun _ hk => hk.2) (.slice Ao32 t167.length co32)) (fun _ h_ => h_.1))))) (Kd.R_lt (by (with_reducible repeat (first | apply Kd.R_alloc | apply Kd.R_drewN | apply Kd.R_drew)); exact (Kd.R_mono (Kd.R_far (p := ⟨gb171, 3, none⟩) (Kd.R_far (p := ⟨gb171, 2, none⟩) (Kd.R_far (p := ⟨gb171, 1, none⟩) (Kd.R_far (p := ⟨gb171, 0, none⟩) (Kd.R_types HO163.out BK171.out (by decide)) (fun _ hk => hk.2) (.int .i64 t164)) (fun _ hk => hk.2) (.int .i64 t165)) (fun _ hk => hk.2) (.int .i64 t166)) (fun _ hk => hk.2) (.slice Ao32 t167.length co32)) (fun _ h_ => h_.1))))) (Kd.R_lt (by (with_reducible repeat (first | apply Kd.R_alloc | apply Kd.R_drewN | apply Kd.R_drew)); exact (Kd.R_mono (Kd.R_far (p := ⟨gb171, 3, none⟩) (Kd.R_far (p := ⟨gb171, 2, none⟩) (Kd.R_far (p := ⟨gb171, 1, none⟩) (Kd.R_far (p := ⟨gb171, 0, none⟩) (Kd.R_types HO169.out BK171.out (by decide)) (fun _ hk => hk.2) (.int .i64 t164)) (fun _ hk => hk.2) (.int .i64 t165)) (fun _ hk => hk.2) (.int .i64 t166)) (fun _ hk => hk.2) (.slice Ao32 t167.length co32)) (fun _ h_ => h_.1))))) (below_size (by repeat (first | (with_reducible first | exact HB.out | apply below_alloc | apply pw_below_drewN | apply below_drew1 | refine below_set ?_ GE153.out | refine below_set ?_ GE171.out) | exact HB.out)))); have n4_ := am (blk_below (g := gb153) (o := .cells #[.int .i64 a2_0, .int .i64 a2_1, .int .i64 a2_2, .slice A2_3 l2_3.length c2_3] 38 (0, 0)) (by (with_reducible repeat (first | refine blk_drewN ?_ _ | refine blk_drew ?_ | refine blk_alloc ?_ _)); refine blk_far ?_ NB153_171.out _; (with_reducible repeat (first | refine blk_drewN ?_ _ | refine blk_drew ?_ | refine blk_alloc ?_ _)); refine blk_far ?_ NB153_171.out _; (with_reducible repeat (first | refine blk_drewN ?_ _ | refine blk_drew ?_ | refine blk_alloc ?_ _)); refine blk_far ?_ NB153_171.out _; (with_reducible repeat (first | refine blk_drewN ?_ _ | refine blk_drew ?_ | refine blk_alloc ?_ _)); refine blk_far ?_ NB153_171.out _; (with_reducible repeat (first | refine blk_drewN ?_ _ | refine blk_drew ?_ | refine blk_alloc ?_ _)); exact BK153.out) hb); have n5_ := am (blk_below (g := gb171) (o := .cells #[.int .i64 t164, .int .i64 t165, .int .i64 t166, .slice Ao32 t167.length co32] 41 (0, 0)) (by (with_reducible repeat (first | refine blk_drewN ?_ _ | refine blk_drew ?_ | refine blk_alloc ?_ _)); refine blk_put (cs := #[.int .i64 t164, .int .i64 t165, .int .i64 t166, .slice none 0 0]) ?_ 3 _ rfl; (with_reducible repeat (first | refine blk_drewN ?_ _ | refine blk_drew ?_ | refine blk_alloc ?_ _)); refine blk_put (cs := #[.int .i64 t164, .int .i64 t165, .int .i64 0, .slice none 0 0]) ?_ 2 _ rfl; (with_reducible repeat (first | refine blk_drewN ?_ _ | refine blk_drew ?_ | refine blk_alloc ?_ _)); refine blk_put (cs := #[.int .i64 t164, .int .i64 0, .int .i64 0, .slice none 0 0]) ?_ 1 _ rfl; (with_reducible repeat (first | refine blk_drewN ?_ _ | refine blk_drew ?_ | refine blk_alloc ?_ _)); refine blk_put (cs := #[.int .i64 0, .int .i64 0, .int .i64 0, .slice none 0 0]) ?_ 0 _ rfl; (with_reducible repeat (first | refine blk_drewN ?_ _ | refine blk_drew ?_ | refine blk_alloc ?_ _)); exact BK171.out) hb); have n6_ := am (below_step (by repeat (first | (with_reducible first | exact HB.out | apply below_alloc | apply pw_below_drewN | apply below_drew1 | refine below_set ?_ GE153.out | refine below_set ?_ GE171.out) | exact HB.out)) hb); clear HO157; clear HO163; clear HO169; clear BK153; clear BK171; clear HB; have HO157 := n0_; have HO163 := n1_; have HO169 := n2_; have HO174 := n3_; have BK153 := n4_; have BK171 := n5_; have HB := n6_; clear n0_ n1_ n2_ n3_ n4_ n5_ n6_; (try clear hb); (try clear hb2); (try clear hk); (try clear hi); (try clear ho0); have hnb35 := NB153_171.out; have hnc35 := NB171_153.out; have hcz36_0 : w34.cell? ⟨gb153, 0, none⟩ = some (.int .i64 a2_0) := (blk_cell BK153.out 0).trans rfl; have hcz36_1 : w34.cell? ⟨gb153, 1, none⟩ = some (.int .i64 a2_1) := (blk_cell BK153.out 1).trans rfl; have hcz36_2 : w34.cell? ⟨gb153, 2, none⟩ = some (.int .i64 a2_2) := (blk_cell BK153.out 2).trans rfl; have hcz36_3 : w34.cell? ⟨gb153, 3, none⟩ = some (.slice A2_3 l2_3.length c2_3) := (blk_cell BK153.out 3).trans rfl; have hfz36_0 := blk_frozen BK153.out 0; have hfz36_1 := blk_frozen BK153.out 1; have hfz36_2 := blk_frozen BK153.out 2; have hfz36_3 := blk_frozen BK153.out 3) | ((with_reducible refine gate_callee (f := 24) rfl ?_); refine goesL_ (some 39) rfl rfl Try.func24 (by kernel_rfl) rfl #[.agg #[.int .i64 a2_0, .int .i64 a2_1, .int .i64 a2_2, .slice A2_3 l2_3.length c2_3]] rfl (by (try simp only [List.map_toArray, List.map_cons, List.map_nil]); first | done | rfl | (simp only [List.length_drop, List.length_take]; rfl)) ?_; (with_reducible refine (laws_toFrame.calls k a2_0 a2_1 a2_2 _ _ l2_3 t175 t176 t177 t178 _ ?side1 ?side2 A15.out).mono ?_); (case side1 => repeat (first | exact (Kd.C_below HR2_3.out HB.out) | (with_reducible refine Kd.C_alloc ?_ _) | (with_reducible refine Kd.C_drewN ?_ _) | (with_reducible refine Kd.C_drew ?_))); (case side2 => exact HC2_3.out); rintro e w37 ⟨v179, rfl, ho0, hb⟩; refine ⟨_, rfl, ?_⟩; have n0_ := am (shRE HO157.out (Kd.R_base ho0) hb); have n1_ := am (shRE HO163.out (Kd.R_base ho0) hb); have n2_ := am (shRE HO169.out (Kd.R_base ho0) hb); have n3_ := am (shRE HO174.out (Kd.R_base ho0) hb); have n4_ := am (Kd.R_lower (Kd.R_new' (Kd.R_new' (Kd.R_new' (Kd.R_new' ho0 (shLT HO157.out)) (shLT HO163.out)) (shLT HO169.out)) (shLT HO174.out)) (below_size (by repeat (first | (with_reducible first | exact HB.out | apply below_alloc | apply pw_below_drewN | apply below_drew1 | refine below_set ?_ GE153.out | refine below_set ?_ GE171.out) | exact HB.out)))); have n5_ := am (shBK BK153.out hb); have n6_ := am (shBK BK171.out hb); have n7_ := am (shHB HB.out hb); clear HO157; clear HO163; clear HO169; clear HO174; clear BK153; clear BK171; clear HB; have HO157 := n0_; have HO163 := n1_; have HO169 := n2_; have HO174 := n3_; have HO180 := n4_; have BK153 := n5_; have BK171 := n6_; have HB := n7_; clear n0_ n1_ n2_ n3_ n4_ n5_ n6_ n7_; (try clear hb); (try clear hb2); (try clear hk); (try clear hi); (try clear ho0)) | ((with_reducible refine gate_dst (N := 11) rfl ?_); refine box_event ?hg (N := 11) ?hd (cs := #[.int .i64 0, .int .i64 0, .int .i64 0, .slice none 0 0]) (t := 41) ?hr ?_; (case hd => rfl); (case hg => rfl); (case hr => first | (go_simp; done) | (go_simp; rfl)); intro gb181 hg w38 hbox hb; have n0_ := am (shR HO157.out hb); have n1_ := am (shR HO163.out hb); have n2_ := am (shR HO169.out hb); have n3_ := am (shR HO174.out hb); have n4_ := am (shR HO180.out hb); have n5_ := am (shBK BK153.out hb); have n6_ := am (shBK BK171.out hb); have n7_ := am (shHB HB.out hb); have n8_ := am (hbox); have n9_ := am ((shGE HB.out hg : w.heap.size ≤ gb181)); have n10_ := am ((shGE HB.out hg : w.heap.size ≤ gb181)); have n11_ := am ((shNB BK153.out hg : gb153 ≠ gb181)); have n12_ := am ((shNC BK153.out hg : gb181 ≠ gb153)); have n13_ := am ((shNB BK171.out hg : gb171 ≠ gb181)); have n14_ := am ((shNC BK171.out hg : gb181 ≠ gb171)); clear HO157; clear HO163; clear HO169; clear HO174; clear HO180; clear BK153; clear BK171; clear HB; have HO157 := n0_; have HO163 := n1_; have HO169 := n2_; have HO174 := n3_; have HO180 := n4_; have BK153 := n5_; have BK171 := n6_; have HB := n7_; have BK181 := n8_; have GW181 := n9_; have GE181 := n10_; have NB153_181 := n11_; have NB181_153 := n12_; have NB171_181 := n13_; have NB181_171 := n14_; clear n0_ n1_ n2_ n3_ n4_ n5_ n6_ n7_ n8_ n9_ n10_ n11_ n12_ n13_ n14_; clear hb hbox hg; have hnb39 := NB181_153.out; have hnc39 := NB153_181.out; have hnb40 := NB181_171.out; have hnc40 := NB171_181.out; have hcz41_0 : w38.cell? ⟨gb181, 0, none⟩ = some (.int .i64 0) := (blk_cell BK181.out 0).trans rfl; have hcz41_1 : w38.cell? ⟨gb181, 1, none⟩ = some (.int .i64 0) := (blk_cell BK181.out 1).trans rfl; have hcz41_2 : w38.cell? ⟨gb181, 2, none⟩ = some (.int .i64 0) := (blk_cell BK181.out 2).trans rfl; have hcz41_3 : w38.cell? ⟨gb181, 3, none⟩ = some (.slice none 0 0) := (blk_cell BK181.out 3).trans rfl; have hfz41_0 := blk_frozen BK181.out 0; have hfz41_1 := blk_frozen BK181.out 1; have hfz41_2 := blk_frozen BK181.out 2; have hfz41_3 := blk_frozen BK181.out 3; obtain ⟨Ao42, co42, eo42⟩ := Kd.R_slice HO180.out; subst eo42; obtain ⟨Ao43, co43, eo43⟩ := Kd.R_slice HO174.out; subst eo43) | ((with_reducible refine gate_callee (f := 57) rfl ?_); refine goesL_ (some 44) rfl rfl Try.func57 (by kernel_rfl) rfl #[.slice Ao43 t172.length co43, .int .i64 a1, .agg #[.int .i64 t175, .int .i64 t176, .int .i64 t177, .slice Ao42 t178.length co42]] rfl (by (try simp only [List.map_toArray, List.map_cons, List.map_nil]); first | done | rfl | (simp only [List.length_drop, List.length_take]; rfl)) ?_; (with_reducible refine (impl_Reply.calls _ _ t172 a1 t175 t176 t177 _ _ t178 t182 t183 t184 t185 t188 _ ?side1 ?side2 ?side3 ?side4 A16.out).mono ?_); (case side1 => refine (Kd.R_reads' (e := 5) (base := w.heap.size) (ok := fun k_ => ((((True ∧ some k_ ≠ (v156 : Value).ownBlock) ∧ some k_ ≠ (v162 : Value).ownBlock) ∧ some k_ ≠ (.slice Ao32 t167.length co32 : Value).ownBlock) ∧ some k_ ≠ (.slice Ao42 t178.length co42 : Value).ownBlock)) (n := t172.length) (c := co43) ?_).2.2; exact (by (with_reducible repeat (first | apply Kd.R_alloc | apply Kd.R_drewN | apply Kd.R_drew)); exact (Kd.R_mono (Kd.R_far (p := ⟨gb181, 3, none⟩) (Kd.R_far (p := ⟨gb181, 2, none⟩) (Kd.R_far (p := ⟨gb181, 1, none⟩) (Kd.R_far (p := ⟨gb181, 0, none⟩) (Kd.R_types HO174.out BK181.out (by decide)) (fun _ hk => hk.2) (.int .i64 t175)) (fun _ hk => hk.2) (.int .i64 t176)) (fun _ hk => hk.2) (.int .i64 t177)) (fun _ hk => hk.2) (.slice Ao42 t178.length co42)) (fun _ h_ => h_.1)))); (case side2 => exact (Kd.R_reads' HO174.out).2.1); (case side3 => refine (Kd.R_reads' (e := 5) (base := w.heap.size) (ok := fun k_ => ((((True ∧ some k_ ≠ (v156 : Value).ownBlock) ∧ some k_ ≠ (v162 : Value).ownBlock) ∧ some k_ ≠ (.slice Ao32 t167.length co32 : Value).ownBlock) ∧ some k_ ≠ (.slice Ao43 t172.length co43 : Value).ownBlock)) (n := t178.length) (c := co42) ?_).2.2; exact (by (with_reducible repeat (first | apply Kd.R_alloc | apply Kd.R_drewN | apply Kd.R_drew)); exact (Kd.R_mono (Kd.R_far (p := ⟨gb181, 3, none⟩) (Kd.R_far (p := ⟨gb181, 2, none⟩) (Kd.R_far (p := ⟨gb181, 1, none⟩) (Kd.R_far (p := ⟨gb181, 0, none⟩) (Kd.R_types HO180.out BK181.out (by decide)) (fun _ hk => hk.2) (.int .i64 t175)) (fun _ hk => hk.2) (.int .i64 t176)) (fun _ hk => hk.2) (.int .i64 t177)) (fun _ hk => hk.2) (.slice Ao42 t178.length co42)) (fun _ h_ => h_.1)))); (case side4 => exact (Kd.R_reads' HO180.out).2.1); rintro e w44 ⟨v186, rfl, ho0, hb⟩; refine ⟨_, rfl, ?_⟩; have n0_ := am (Kd.R_elder' (by (with_reducible repeat (first | apply Kd.R_alloc | apply Kd.R_drewN | apply Kd.R_drew)); exact (Kd.R_mono (Kd.R_far (p := ⟨gb181, 3, none⟩) (Kd.R_far (p := ⟨gb181, 2, none⟩) (Kd.R_far (p := ⟨gb181, 1, none⟩) (Kd.R_far (p := ⟨gb181, 0, none⟩) (Kd.R_types HO157.out BK181.out (by decide)) (fun _ hk => hk.2) (.int .i64 t175)) (fun _ hk => hk.2) (.int .i64 t176)) (fun _ hk => hk.2) (.int .i64 t177)) (fun _ hk => hk.2) (.slice Ao42 t178.length co42)) (fun _ h_ => h_.1))) (Kd.R_base ho0) hb); have n1_ := am (Kd.R_elder' (by (with_reducible repeat (first | apply Kd.R_alloc | apply Kd.R_drewN | apply Kd.R_drew)); exact (Kd.R_mono (Kd.R_far (p := ⟨gb181, 3, none⟩) (Kd.R_far (p := ⟨gb181, 2, none⟩) (Kd.R_far (p := ⟨gb181, 1, none⟩) (Kd.R_far (p := ⟨gb181, 0, none⟩) (Kd.R_types HO163.out BK181.out (by decide)) (fun _ hk => hk.2) (.int .i64 t175)) (fun _ hk => hk.2) (.int .i64 t176)) (fun _ hk => hk.2) (.int .i64 t177)) (fun _ hk => hk.2) (.slice Ao42 t178.length co42)) (fun _ h_ => h_.1))) (Kd.R_base ho0) hb); have n2_ := am (Kd.R_elder' (by (with_reducible repeat (first | apply Kd.R_alloc | apply Kd.R_drewN | apply Kd.R_drew)); exact (Kd.R_mono (Kd.R_far (p := ⟨gb181, 3, none⟩) (Kd.R_far (p := ⟨gb181, 2, none⟩) (Kd.R_far (p := ⟨gb181, 1, none⟩) (Kd.R_far (p := ⟨gb181, 0, none⟩) (Kd.R_types HO169.out BK181.out (by decide)) (fun _ hk => hk.2) (.int .i64 t175)) (fun _ hk => hk.2) (.int .i64 t176)) (fun _ hk => hk.2) (.int .i64 t177)) (fun _ hk => hk.2) (.slice Ao42 t178.length co42)) (fun _ h_ => h_.1))) (Kd.R_base ho0) hb); have n3_ := am (Kd.R_elder' (by (with_reducible repeat (first | apply Kd.R_alloc | apply Kd.R_drewN | apply Kd.R_drew)); exact (Kd.R_mono (Kd.R_far (p := ⟨gb181, 3, none⟩) (Kd.R_far (p := ⟨gb181, 2, none⟩) (Kd.R_far (p := ⟨gb181, 1, none⟩) (Kd.R_far (p := ⟨gb181, 0, none⟩) (Kd.R_types HO174.out BK181.out (by decide)) (fun _ hk => hk.2) (.int .i64 t175)) (fun _ hk => hk.2) (.int .i64 t176)) (fun _ hk => hk.2) (.int .i64 t177)) (fun _ hk => hk.2) (.slice Ao42 t178.length co42)) (fun _ h_ => h_.1))) (Kd.R_base ho0) hb); have n4_ := am (Kd.R_elder' (by (with_reducible repeat (first | apply Kd.R_alloc | apply Kd.R_drewN | apply Kd.R_drew)); exact (Kd.R_mono (Kd.R_far (p := ⟨gb181, 3, none⟩) (Kd.R_far (p := ⟨gb181, 2, none⟩) (Kd.R_far (p := ⟨gb181, 1, none⟩) (Kd.R_far (p := ⟨gb181, 0, none⟩) (Kd.R_types HO180.out BK181.out (by decide)) (fun _ hk => hk.2) (.int .i64 t175)) (fun _ hk => hk.2) (.int .i64 t176)) (fun _ hk => hk.2) (.int .i64 t177)) (fun _ hk => hk.2) (.slice Ao42 t178.length co42)) (fun _ h_ => h_.1))) (Kd.R_base ho0) hb); have n5_ := am (Kd.R_lower (Kd.R_new' (Kd.R_new' (Kd.R_new' (Kd.R_new' (Kd.R_new' ho0 (Kd.R_lt (by (with_reducible repeat (first | apply Kd.R_alloc | apply Kd.R_drewN | apply Kd.R_drew)); exact (Kd.R_mono (Kd.R_far (p := ⟨gb181, 3, none⟩) (Kd.R_far (p := ⟨gb181, 2, none⟩) (Kd.R_far (p := ⟨gb181, 1, none⟩) (Kd.R_far (p := ⟨gb181, 0, none⟩) (Kd.R_types HO157.out BK181.out (by decide)) (fun _ hk => hk.2) (.int .i64 t175)) (fun _ hk => hk.2) (.int .i64 t176)) (fun _ hk => hk.2) (.int .i64 t177)) (fun _ hk => hk.2) (.slice Ao42 t178.length co42)) (fun _ h_ => h_.1))))) (Kd.R_lt (by (with_reducible repeat (first | apply Kd.R_alloc | apply Kd.R_drewN | apply Kd.R_drew)); exact (Kd.R_mono (Kd.R_far (p := ⟨gb181, 3, none⟩) (Kd.R_far (p := ⟨gb181, 2, none⟩) (Kd.R_far (p := ⟨gb181, 1, none⟩) (Kd.R_far (p := ⟨gb181, 0, none⟩) (Kd.R_types HO163.out BK181.out (by decide)) (fun _ hk => hk.2) (.int .i64 t175)) (fun _ hk => hk.2) (.int .i64 t176)) (fun _ hk => hk.2) (.int .i64 t177)) (fun _ hk => hk.2) (.slice Ao42 t178.length co42)) (fun _ h_ => h_.1))))) (Kd.R_lt (by (with_reducible repeat (first | apply Kd.R_alloc | apply Kd.R_drewN | apply Kd.R_drew)); exact (Kd.R_mono (Kd.R_far (p := ⟨gb181, 3, none⟩) (Kd.R_far (p := ⟨gb181, 2, none⟩) (Kd.R_far (p := ⟨gb181, 1, none⟩) (Kd.R_far (p := ⟨gb181, 0, none⟩) (Kd.R_types HO169.out BK181.out (by decide)) (fun _ hk => hk.2) (.int .i64 t175)) (fun _ hk => hk.2) (.int .i64 t176)) (fun _ hk => hk.2) (.int .i64 t177)) (fun _ hk => hk.2) (.slice Ao42 t178.length co42)) (fun _ h_ => h_.1))))) (Kd.R_lt (by (with_reducible repeat (first | apply Kd.R_alloc | apply Kd.R_drewN | apply Kd.R_drew)); exact (Kd.R_mono (Kd.R_far (p := ⟨gb181, 3, none⟩) (Kd.R_far (p := ⟨gb181, 2, none⟩) (Kd.R_far (p := ⟨gb181, 1, none⟩) (Kd.R_far (p := ⟨gb181, 0, none⟩) (Kd.R_types HO174.out BK181.out (by decide)) (fun _ hk => hk.2) (.int .i64 t175)) (fun _ hk => hk.2) (.int .i64 t176)) (fun _ hk => hk.2) (.int .i64 t177)) (fun _ hk => hk.2) (.slice Ao42 t178.length co42)) (fun _ h_ => h_.1))))) (Kd.R_lt (by (with_reducible repeat (first | apply Kd.R_alloc | apply Kd.R_drewN | apply Kd.R_drew)); exact (Kd.R_mono (Kd.R_far (p := ⟨gb181, 3, none⟩) (Kd.R_far (p := ⟨gb181, 2, none⟩) (Kd.R_far (p := ⟨gb181, 1, none⟩) (Kd.R_far (p := ⟨gb181, 0, none⟩) (Kd.R_types HO180.out BK181.out (by decide)) (fun _ hk => hk.2) (.int .i64 t175)) (fun _ hk => hk.2) (.int .i64 t176)) (fun _ hk => hk.2) (.int .i64 t177)) (fun _ hk => hk.2) (.slice Ao42 t178.length co42)) (fun _ h_ => h_.1))))) (below_size (by repeat (first | (with_reducible first | exact HB.out | apply below_alloc | apply pw_below_drewN | apply below_drew1 | refine below_set ?_ GE153.out | refine below_set ?_ GE171.out | refine below_set ?_ GE181.out) | exact HB.out)))); have n6_ := am (blk_below (g := gb153) (o := .cells #[.int .i64 a2_0, .int .i64 a2_1, .int .i64 a2_2, .slice A2_3 l2_3.length c2_3] 38 (0, 0)) (by (with_reducible repeat (first | refine blk_drewN ?_ _ | refine blk_drew ?_ | refine blk_alloc ?_ _)); refine blk_far ?_ NB153_181.out _; (with_reducible repeat (first | refine blk_drewN ?_ _ | refine blk_drew ?_ | refine blk_alloc ?_ _)); refine blk_far ?_ NB153_181.out _; (with_reducible repeat (first | refine blk_drewN ?_ _ | refine blk_drew ?_ | refine blk_alloc ?_ _)); refine blk_far ?_ NB153_181.out _; (with_reducible repeat (first | refine blk_drewN ?_ _ | refine blk_drew ?_ | refine blk_alloc ?_ _)); refine blk_far ?_ NB153_181.out _; (with_reducible repeat (first | refine blk_drewN ?_ _ | refine blk_drew ?_ | refine blk_alloc ?_ _)); exact BK153.out) hb); have n7_ := am (blk_below (g := gb171) (o := .cells #[.int .i64 t164, .int .i64 t165, .int .i64 t166, .slice Ao32 t167.length co32] 41 (0, 0)) (by (with_reducible repeat (first | refine blk_drewN ?_ _ | refine blk_drew ?_ | refine blk_alloc ?_ _)); refine blk_far ?_ NB171_181.out _; (with_reducible repeat (first | refine blk_drewN ?_ _ | refine blk_drew ?_ | refine blk_alloc ?_ _)); refine blk_far ?_ NB171_181.out _; (with_reducible repeat (first | refine blk_drewN ?_ _ | refine blk_drew ?_ | refine blk_alloc ?_ _)); refine blk_far ?_ NB171_181.out _; (with_reducible repeat (first | refine blk_drewN ?_ _ | refine blk_drew ?_ | refine blk_alloc ?_ _)); refine blk_far ?_ NB171_181.out _; (with_reducible repeat (first | refine blk_drewN ?_ _ | refine blk_drew ?_ | refine blk_alloc ?_ _)); exact BK171.out) hb); have n8_ := am (blk_below (g := gb181) (o := .cells #[.int .i64 t175, .int .i64 t176, .int .i64 t177, .slice Ao42 t178.length co42] 41 (0, 0)) (by (with_reducible repeat (first | refine blk_drewN ?_ _ | refine blk_drew ?_ | refine blk_alloc ?_ _)); refine blk_put (cs := #[.int .i64 t175, .int .i64 t176, .int .i64 t177, .slice none 0 0]) ?_ 3 _ rfl; (with_reducible repeat (first | refine blk_drewN ?_ _ | refine blk_drew ?_ | refine blk_alloc ?_ _)); refine blk_put (cs := #[.int .i64 t175, .int .i64 t176, .int .i64 0, .slice none 0 0]) ?_ 2 _ rfl; (with_reducible repeat (first | refine blk_drewN ?_ _ | refine blk_drew ?_ | refine blk_alloc ?_ _)); refine blk_put (cs := #[.int .i64 t175, .int .i64 0, .int .i64 0, .slice none 0 0]) ?_ 1 _ rfl; (with_reducible repeat (first | refine blk_drewN ?_ _ | refine blk_drew ?_ | refine blk_alloc ?_ _)); refine blk_put (cs := #[.int .i64 0, .int .i64 0, .int .i64 0, .slice none 0 0]) ?_ 0 _ rfl; (with_reducible repeat (first | refine blk_drewN ?_ _ | refine blk_drew ?_ | refine blk_alloc ?_ _)); exact BK181.out) hb); have n9_ := am (below_step (by repeat (first | (with_reducible first | exact HB.out | apply below_alloc | apply pw_below_drewN | apply below_drew1 | refine below_set ?_ GE153.out | refine below_set ?_ GE171.out | refine below_set ?_ GE181.out) | exact HB.out)) hb); clear HO157; clear HO163; clear HO169; clear HO174; clear HO180; clear BK153; clear BK171; clear BK181; clear HB; have HO157 := n0_; have HO163 := n1_; have HO169 := n2_; have HO174 := n3_; have HO180 := n4_; have HO187 := n5_; have BK153 := n6_; have BK171 := n7_; have BK181 := n8_; have HB := n9_; clear n0_ n1_ n2_ n3_ n4_ n5_ n6_ n7_ n8_ n9_; (try clear hb); (try clear hb2); (try clear hk); (try clear hi); (try clear ho0)) | ((with_reducible refine gate_dst (N := 12) rfl ?_); refine box_event ?hg (N := 12) ?hd (cs := #[.int .i64 0, .int .i64 0, .int .i64 0, .slice none 0 0]) (t := 41) ?hr ?_; (case hd => rfl); (case hg => rfl); (case hr => first | (go_simp; done) | (go_simp; rfl)); intro gb189 hg w45 hbox hb; have n0_ := am (shR HO157.out hb); have n1_ := am (shR HO163.out hb); have n2_ := am (shR HO169.out hb); have n3_ := am (shR HO174.out hb); have n4_ := am (shR HO180.out hb); have n5_ := am (shR HO187.out hb); have n6_ := am (shBK BK153.out hb); have n7_ := am (shBK BK171.out hb); have n8_ := am (shBK BK181.out hb); have n9_ := am (shHB HB.out hb); have n10_ := am (hbox); have n11_ := am ((shGE HB.out hg : w.heap.size ≤ gb189)); have n12_ := am ((shGE HB.out hg : w.heap.size ≤ gb189)); have n13_ := am ((shNB BK153.out hg : gb153 ≠ gb189)); have n14_ := am ((shNC BK153.out hg : gb189 ≠ gb153)); have n15_ := am ((shNB BK171.out hg : gb171 ≠ gb189)); have n16_ := am ((shNC BK171.out hg : gb189 ≠ gb171)); have n17_ := am ((shNB BK181.out hg : gb181 ≠ gb189)); have n18_ := am ((shNC BK181.out hg : gb189 ≠ gb181)); clear HO157; clear HO163; clear HO169; clear HO174; clear HO180; clear HO187; clear BK153; clear BK171; clear BK181; clear HB; have HO157 := n0_; have HO163 := n1_; have HO169 := n2_; have HO174 := n3_; have HO180 := n4_; have HO187 := n5_; have BK153 := n6_; have BK171 := n7_; have BK181 := n8_; have HB := n9_; have BK189 := n10_; have GW189 := n11_; have GE189 := n12_; have NB153_189 := n13_; have NB189_153 := n14_; have NB171_189 := n15_; have NB189_171 := n16_; have NB181_189 := n17_; have NB189_181 := n18_; clear n0_ n1_ n2_ n3_ n4_ n5_ n6_ n7_ n8_ n9_ n10_ n11_ n12_ n13_ n14_ n15_ n16_ n17_ n18_; clear hb hbox hg; have hnb46 := NB189_153.out; have hnc46 := NB153_189.out; have hnb47 := NB189_171.out; have hnc47 := NB171_189.out; have hnb48 := NB189_181.out; have hnc48 := NB181_189.out; have hcz49_0 : w45.cell? ⟨gb189, 0, none⟩ = some (.int .i64 0) := (blk_cell BK189.out 0).trans rfl; have hcz49_1 : w45.cell? ⟨gb189, 1, none⟩ = some (.int .i64 0) := (blk_cell BK189.out 1).trans rfl; have hcz49_2 : w45.cell? ⟨gb189, 2, none⟩ = some (.int .i64 0) := (blk_cell BK189.out 2).trans rfl; have hcz49_3 : w45.cell? ⟨gb189, 3, none⟩ = some (.slice none 0 0) := (blk_cell BK189.out 3).trans rfl; have hfz49_0 := blk_frozen BK189.out 0; have hfz49_1 := blk_frozen BK189.out 1; have hfz49_2 := blk_frozen BK189.out 2; have hfz49_3 := blk_frozen BK189.out 3; obtain ⟨Ao50, co50, eo50⟩ := Kd.R_slice HO187.out; subst eo50))
   (try simp only [Act.put, List.setIfInBounds_toArray, List.set_cons_zero, List.set_cons_succ])
   go_cut [55] (fun v55 wc => ∃ (kq : Nat) (x55_16 : Bool), v55 = .bool x55_16 ∧ Aside0 (laws_FnExactReply.j0 kq l0 a1 t170 t172 t188 x55_16 a2_0 a2_1 a2_2 l2_3 t164 t165 t166 t167 t175 t176 t177 t178 t182 t183 t184 t185 = some true) ∧ Aside0 (kq ≤ k) ∧ Aside0 (Kd.R (Kd.int .u8) 5 wc w.heap.size (fun k_ => some k_ ≠ ((.slice Ao32 t167.length co32) : Value).ownBlock ∧ some k_ ≠ ((.slice Ao42 t178.length co42) : Value).ownBlock ∧ some k_ ≠ ((.slice Ao50 t185.length co50) : Value).ownBlock) (.slice Ao43 t172.length co43) t172) ∧ Aside0 (Kd.R (Kd.int .u8) 5 wc w.heap.size (fun k_ => some k_ ≠ ((.slice Ao43 t172.length co43) : Value).ownBlock ∧ some k_ ≠ ((.slice Ao42 t178.length co42) : Value).ownBlock ∧ some k_ ≠ ((.slice Ao50 t185.length co50) : Value).ownBlock) (.slice Ao32 t167.length co32) t167) ∧ Aside0 (Kd.R (Kd.int .u8) 5 wc w.heap.size (fun k_ => some k_ ≠ ((.slice Ao43 t172.length co43) : Value).ownBlock ∧ some k_ ≠ ((.slice Ao32 t167.length co32) : Value).ownBlock ∧ some k_ ≠ ((.slice Ao50 t185.length co50) : Value).ownBlock) (.slice Ao42 t178.length co42) t178) ∧ Aside0 (Kd.R (Kd.int .u8) 5 wc w.heap.size (fun k_ => some k_ ≠ ((.slice Ao43 t172.length co43) : Value).ownBlock ∧ some k_ ≠ ((.slice Ao32 t167.length co32) : Value).ownBlock ∧ some k_ ≠ ((.slice Ao42 t178.length co42) : Value).ownBlock) (.slice Ao50 t185.length co50) t185) ∧ Aside0 (wc.heap[gb153]? = some (.cells #[.int .i64 a2_0, .int .i64 a2_1, .int .i64 a2_2, (.slice A2_3 l2_3.length c2_3)] 38 (0, 0))) ∧ Aside0 (wc.heap[gb171]? = some (.cells #[.int .i64 t164, .int .i64 t165, .int .i64 t166, (.slice Ao32 t167.length co32)] 41 (0, 0))) ∧ Aside0 (wc.heap[gb181]? = some (.cells #[.int .i64 t175, .int .i64 t176, .int .i64 t177, (.slice Ao42 t178.length co42)] 41 (0, 0))) ∧ Aside0 (wc.heap[gb189]? = some (.cells #[.int .i64 t182, .int .i64 t183, .int .i64 t184, (.slice Ao50 t185.length co50)] 41 (0, 0))) ∧ Aside0 (Below w.heap.size w wc))
   case first =>
    have H := HC17.out
    clear HC17
    replace H := Option.bind_eq_some_iff.mp H
    obtain ⟨t190, A510, H⟩ := H
    replace H : (if t190 = true then (laws_FnExactReply.j0 k l0 a1 t170 t172 t188 (t188 != t170) a2_0 a2_1 a2_2 l2_3 t164 t165 t166 t167 t175 t176 t177 t178 t182 t183 t184 t185) else (laws_FnExactReply.j0 k l0 a1 t170 t172 t188 true a2_0 a2_1 a2_2 l2_3 t164 t165 t166 t167 t175 t176 t177 t178 t182 t183 t184 t185)) = some true := H
    have A51 := Aside0.mk A510
    clear A510
    by_cases c52 : t190 = true
    ·subst c52
     have H1 : (laws_FnExactReply.j0 k l0 a1 t170 t172 t188 (t188 != t170) a2_0 a2_1 a2_2 l2_3 t164 t165 t166 t167 t175 t176 t177 t178 t182 t183 t184 t185) = some true := by first | (rw [if_pos rfl] at H; exact H) | with_reducible rfl
     clear H
     have H := H1
     clear H1
     have H' := Aside0.mk H
     clear H
     have hnb53 := NB189_153.out
     have hnc53 := NB153_189.out
     have hnb54 := NB189_171.out
     have hnc54 := NB171_189.out
     have hnb55 := NB189_181.out
     have hnc55 := NB181_189.out
     have hcz56_0 : w45.cell? ⟨gb189, 0, none⟩ = some (.int .i64 0) := (blk_cell BK189.out 0).trans rfl
     have hcz56_1 : w45.cell? ⟨gb189, 1, none⟩ = some (.int .i64 0) := (blk_cell BK189.out 1).trans rfl
     have hcz56_2 : w45.cell? ⟨gb189, 2, none⟩ = some (.int .i64 0) := (blk_cell BK189.out 2).trans rfl
     have hcz56_3 : w45.cell? ⟨gb189, 3, none⟩ = some (.slice none 0 0) := (blk_cell BK189.out 3).trans rfl
     have hfz56_0 := blk_frozen BK189.out 0
     have hfz56_1 := blk_frozen BK189.out 1
     have hfz56_2 := blk_frozen BK189.out 2
     have hfz56_3 := blk_frozen BK189.out 3
     have hnb57 := NB171_153.out
     have hnc57 := NB153_171.out
     have hnb58 := NB171_181.out
     have hnc58 := NB181_171.out
     have hcz59_0 : w45.cell? ⟨gb171, 0, none⟩ = some (.int .i64 t164) := (blk_cell BK171.out 0).trans rfl
     have hcz59_1 : w45.cell? ⟨gb171, 1, none⟩ = some (.int .i64 t165) := (blk_cell BK171.out 1).trans rfl
     have hcz59_2 : w45.cell? ⟨gb171, 2, none⟩ = some (.int .i64 t166) := (blk_cell BK171.out 2).trans rfl
     have hcz59_3 : w45.cell? ⟨gb171, 3, none⟩ = some (.slice Ao32 t167.length co32) := (blk_cell BK171.out 3).trans rfl
     have hfz59_0 := blk_frozen BK171.out 0
     have hfz59_1 := blk_frozen BK171.out 1
     have hfz59_2 := blk_frozen BK171.out 2
     have hfz59_3 := blk_frozen BK171.out 3
     go_wp2_with (first | ((with_reducible refine gate_callee (f := 26) rfl ?_); refine goesL_ (some 49) rfl rfl Try.func26 (by kernel_rfl) rfl #[.agg #[.int .i64 t182, .int .i64 t183, .int .i64 t184, .slice Ao50 t185.length co50], .agg #[.int .i64 t164, .int .i64 t165, .int .i64 t166, .slice Ao32 t167.length co32]] rfl (by (try simp only [List.map_toArray, List.map_cons, List.map_nil]); first | done | rfl | (simp only [List.length_drop, List.length_take]; rfl)) ?_; (with_reducible refine (laws_eqFrame.calls k t182 t183 t184 _ _ t185 t164 t165 t166 _ _ t167 true _ ?side1 ?side2 ?side3 ?side4 A51.out).mono ?_); (case side1 => refine (Kd.R_reads' (e := 5) (base := w.heap.size) (ok := fun k_ => (((((True ∧ some k_ ≠ (v156 : Value).ownBlock) ∧ some k_ ≠ (v162 : Value).ownBlock) ∧ some k_ ≠ (.slice Ao32 t167.length co32 : Value).ownBlock) ∧ some k_ ≠ (.slice Ao43 t172.length co43 : Value).ownBlock) ∧ some k_ ≠ (.slice Ao42 t178.length co42 : Value).ownBlock)) (n := t185.length) (c := co50) ?_).2.2; exact (by (with_reducible repeat (first | apply Kd.R_alloc | apply Kd.R_drewN | apply Kd.R_drew)); exact (Kd.R_mono (Kd.R_far (p := ⟨gb189, 3, none⟩) (Kd.R_far (p := ⟨gb189, 2, none⟩) (Kd.R_far (p := ⟨gb189, 1, none⟩) (Kd.R_far (p := ⟨gb189, 0, none⟩) (Kd.R_types HO187.out BK189.out (by decide)) (fun _ hk => hk.2) (.int .i64 t182)) (fun _ hk => hk.2) (.int .i64 t183)) (fun _ hk => hk.2) (.int .i64 t184)) (fun _ hk => hk.2) (.slice Ao50 t185.length co50)) (fun _ h_ => h_.1)))); (case side2 => exact (Kd.R_reads' HO187.out).2.1); (case side3 => refine (Kd.R_reads' (e := 5) (base := w.heap.size) (ok := fun k_ => ((((some k_ ≠ (v156 : Value).ownBlock ∧ some k_ ≠ (v162 : Value).ownBlock) ∧ some k_ ≠ (.slice Ao43 t172.length co43 : Value).ownBlock) ∧ some k_ ≠ (.slice Ao42 t178.length co42 : Value).ownBlock) ∧ some k_ ≠ (.slice Ao50 t185.length co50 : Value).ownBlock)) (n := t167.length) (c := co32) ?_).2.2; exact (by (with_reducible repeat (first | apply Kd.R_alloc | apply Kd.R_drewN | apply Kd.R_drew)); exact (Kd.R_mono (Kd.R_far (p := ⟨gb189, 3, none⟩) (Kd.R_far (p := ⟨gb189, 2, none⟩) (Kd.R_far (p := ⟨gb189, 1, none⟩) (Kd.R_far (p := ⟨gb189, 0, none⟩) (Kd.R_types HO169.out BK189.out (by decide)) (fun _ hk => hk.2) (.int .i64 t182)) (fun _ hk => hk.2) (.int .i64 t183)) (fun _ hk => hk.2) (.int .i64 t184)) (fun _ hk => hk.2) (.slice Ao50 t185.length co50)) (fun _ h_ => h_.1)))); (case side4 => exact (Kd.R_reads' HO169.out).2.1); rintro e w60 ⟨rfl, hb⟩; refine ⟨_, rfl, ?_⟩; have n0_ := am (Kd.R_below (by (with_reducible repeat (first | apply Kd.R_alloc | apply Kd.R_drewN | apply Kd.R_drew)); exact (Kd.R_mono (Kd.R_far (p := ⟨gb189, 3, none⟩) (Kd.R_far (p := ⟨gb189, 2, none⟩) (Kd.R_far (p := ⟨gb189, 1, none⟩) (Kd.R_far (p := ⟨gb189, 0, none⟩) (Kd.R_types HO157.out BK189.out (by decide)) (fun _ hk => hk.2) (.int .i64 t182)) (fun _ hk => hk.2) (.int .i64 t183)) (fun _ hk => hk.2) (.int .i64 t184)) (fun _ hk => hk.2) (.slice Ao50 t185.length co50)) (fun _ h_ => h_.1))) hb); have n1_ := am (Kd.R_below (by (with_reducible repeat (first | apply Kd.R_alloc | apply Kd.R_drewN | apply Kd.R_drew)); exact (Kd.R_mono (Kd.R_far (p := ⟨gb189, 3, none⟩) (Kd.R_far (p := ⟨gb189, 2, none⟩) (Kd.R_far (p := ⟨gb189, 1, none⟩) (Kd.R_far (p := ⟨gb189, 0, none⟩) (Kd.R_types HO163.out BK189.out (by decide)) (fun _ hk => hk.2) (.int .i64 t182)) (fun _ hk => hk.2) (.int .i64 t183)) (fun _ hk => hk.2) (.int .i64 t184)) (fun _ hk => hk.2) (.slice Ao50 t185.length co50)) (fun _ h_ => h_.1))) hb); have n2_ := am (Kd.R_below (by (with_reducible repeat (first | apply Kd.R_alloc | apply Kd.R_drewN | apply Kd.R_drew)); exact (Kd.R_mono (Kd.R_far (p := ⟨gb189, 3, none⟩) (Kd.R_far (p := ⟨gb189, 2, none⟩) (Kd.R_far (p := ⟨gb189, 1, none⟩) (Kd.R_far (p := ⟨gb189, 0, none⟩) (Kd.R_types HO169.out BK189.out (by decide)) (fun _ hk => hk.2) (.int .i64 t182)) (fun _ hk => hk.2) (.int .i64 t183)) (fun _ hk => hk.2) (.int .i64 t184)) (fun _ hk => hk.2) (.slice Ao50 t185.length co50)) (fun _ h_ => h_.1))) hb); have n3_ := am (Kd.R_below (by (with_reducible repeat (first | apply Kd.R_alloc | apply Kd.R_drewN | apply Kd.R_drew)); exact (Kd.R_mono (Kd.R_far (p := ⟨gb189, 3, none⟩) (Kd.R_far (p := ⟨gb189, 2, none⟩) (Kd.R_far (p := ⟨gb189, 1, none⟩) (Kd.R_far (p := ⟨gb189, 0, none⟩) (Kd.R_types HO174.out BK189.out (by decide)) (fun _ hk => hk.2) (.int .i64 t182)) (fun _ hk => hk.2) (.int .i64 t183)) (fun _ hk => hk.2) (.int .i64 t184)) (fun _ hk => hk.2) (.slice Ao50 t185.length co50)) (fun _ h_ => h_.1))) hb); have n4_ := am (Kd.R_below (by (with_reducible repeat (first | apply Kd.R_alloc | apply Kd.R_drewN | apply Kd.R_drew)); exact (Kd.R_mono (Kd.R_far (p := ⟨gb189, 3, none⟩) (Kd.R_far (p := ⟨gb189, 2, none⟩) (Kd.R_far (p := ⟨gb189, 1, none⟩) (Kd.R_far (p := ⟨gb189, 0, none⟩) (Kd.R_types HO180.out BK189.out (by decide)) (fun _ hk => hk.2) (.int .i64 t182)) (fun _ hk => hk.2) (.int .i64 t183)) (fun _ hk => hk.2) (.int .i64 t184)) (fun _ hk => hk.2) (.slice Ao50 t185.length co50)) (fun _ h_ => h_.1))) hb); have n5_ := am (Kd.R_below (by (with_reducible repeat (first | apply Kd.R_alloc | apply Kd.R_drewN | apply Kd.R_drew)); exact (Kd.R_mono (Kd.R_far (p := ⟨gb189, 3, none⟩) (Kd.R_far (p := ⟨gb189, 2, none⟩) (Kd.R_far (p := ⟨gb189, 1, none⟩) (Kd.R_far (p := ⟨gb189, 0, none⟩) (Kd.R_types HO187.out BK189.out (by decide)) (fun _ hk => hk.2) (.int .i64 t182)) (fun _ hk => hk.2) (.int .i64 t183)) (fun _ hk => hk.2) (.int .i64 t184)) (fun _ hk => hk.2) (.slice Ao50 t185.length co50)) (fun _ h_ => h_.1))) hb); have n6_ := am (blk_below (g := gb153) (o := .cells #[.int .i64 a2_0, .int .i64 a2_1, .int .i64 a2_2, .slice A2_3 l2_3.length c2_3] 38 (0, 0)) (by (with_reducible repeat (first | refine blk_drewN ?_ _ | refine blk_drew ?_ | refine blk_alloc ?_ _)); refine blk_far ?_ NB153_189.out _; (with_reducible repeat (first | refine blk_drewN ?_ _ | refine blk_drew ?_ | refine blk_alloc ?_ _)); refine blk_far ?_ NB153_189.out _; (with_reducible repeat (first | refine blk_drewN ?_ _ | refine blk_drew ?_ | refine blk_alloc ?_ _)); refine blk_far ?_ NB153_189.out _; (with_reducible repeat (first | refine blk_drewN ?_ _ | refine blk_drew ?_ | refine blk_alloc ?_ _)); refine blk_far ?_ NB153_189.out _; (with_reducible repeat (first | refine blk_drewN ?_ _ | refine blk_drew ?_ | refine blk_alloc ?_ _)); exact BK153.out) hb); have n7_ := am (blk_below (g := gb171) (o := .cells #[.int .i64 t164, .int .i64 t165, .int .i64 t166, .slice Ao32 t167.length co32] 41 (0, 0)) (by (with_reducible repeat (first | refine blk_drewN ?_ _ | refine blk_drew ?_ | refine blk_alloc ?_ _)); refine blk_far ?_ NB171_189.out _; (with_reducible repeat (first | refine blk_drewN ?_ _ | refine blk_drew ?_ | refine blk_alloc ?_ _)); refine blk_far ?_ NB171_189.out _; (with_reducible repeat (first | refine blk_drewN ?_ _ | refine blk_drew ?_ | refine blk_alloc ?_ _)); refine blk_far ?_ NB171_189.out _; (with_reducible repeat (first | refine blk_drewN ?_ _ | refine blk_drew ?_ | refine blk_alloc ?_ _)); refine blk_far ?_ NB171_189.out _; (with_reducible repeat (first | refine blk_drewN ?_ _ | refine blk_drew ?_ | refine blk_alloc ?_ _)); exact BK171.out) hb); have n8_ := am (blk_below (g := gb181) (o := .cells #[.int .i64 t175, .int .i64 t176, .int .i64 t177, .slice Ao42 t178.length co42] 41 (0, 0)) (by (with_reducible repeat (first | refine blk_drewN ?_ _ | refine blk_drew ?_ | refine blk_alloc ?_ _)); refine blk_far ?_ NB181_189.out _; (with_reducible repeat (first | refine blk_drewN ?_ _ | refine blk_drew ?_ | refine blk_alloc ?_ _)); refine blk_far ?_ NB181_189.out _; (with_reducible repeat (first | refine blk_drewN ?_ _ | refine blk_drew ?_ | refine blk_alloc ?_ _)); refine blk_far ?_ NB181_189.out _; (with_reducible repeat (first | refine blk_drewN ?_ _ | refine blk_drew ?_ | refine blk_alloc ?_ _)); refine blk_far ?_ NB181_189.out _; (with_reducible repeat (first | refine blk_drewN ?_ _ | refine blk_drew ?_ | refine blk_alloc ?_ _)); exact BK181.out) hb); have n9_ := am (blk_below (g := gb189) (o := .cells #[.int .i64 t182, .int .i64 t183, .int .i64 t184, .slice Ao50 t185.length co50] 41 (0, 0)) (by (with_reducible repeat (first | refine blk_drewN ?_ _ | refine blk_drew ?_ | refine blk_alloc ?_ _)); refine blk_put (cs := #[.int .i64 t182, .int .i64 t183, .int .i64 t184, .slice none 0 0]) ?_ 3 _ rfl; (with_reducible repeat (first | refine blk_drewN ?_ _ | refine blk_drew ?_ | refine blk_alloc ?_ _)); refine blk_put (cs := #[.int .i64 t182, .int .i64 t183, .int .i64 0, .slice none 0 0]) ?_ 2 _ rfl; (with_reducible repeat (first | refine blk_drewN ?_ _ | refine blk_drew ?_ | refine blk_alloc ?_ _)); refine blk_put (cs := #[.int .i64 t182, .int .i64 0, .int .i64 0, .slice none 0 0]) ?_ 1 _ rfl; (with_reducible repeat (first | refine blk_drewN ?_ _ | refine blk_drew ?_ | refine blk_alloc ?_ _)); refine blk_put (cs := #[.int .i64 0, .int .i64 0, .int .i64 0, .slice none 0 0]) ?_ 0 _ rfl; (with_reducible repeat (first | refine blk_drewN ?_ _ | refine blk_drew ?_ | refine blk_alloc ?_ _)); exact BK189.out) hb); have n10_ := am (below_step (by repeat (first | (with_reducible first | exact HB.out | apply below_alloc | apply pw_below_drewN | apply below_drew1 | refine below_set ?_ GE153.out | refine below_set ?_ GE171.out | refine below_set ?_ GE181.out | refine below_set ?_ GE189.out) | exact HB.out)) hb); clear HO157; clear HO163; clear HO169; clear HO174; clear HO180; clear HO187; clear BK153; clear BK171; clear BK181; clear BK189; clear HB; have HO157 := n0_; have HO163 := n1_; have HO169 := n2_; have HO174 := n3_; have HO180 := n4_; have HO187 := n5_; have BK153 := n6_; have BK171 := n7_; have BK181 := n8_; have BK189 := n9_; have HB := n10_; clear n0_ n1_ n2_ n3_ n4_ n5_ n6_ n7_ n8_ n9_ n10_; (try clear hb); (try clear hb2); (try clear hk); (try clear hi)))
     go_meet
     case rel => exact ⟨_, ((t188 != t170)), (by first | rfl | (simp; done) | (simp [*]; done)), H', ⟨by first | omega | exact Nat.le_refl _⟩, ⟨by (with_reducible repeat (first | apply Kd.R_alloc | apply Kd.R_drewN | apply Kd.R_drew)); exact Kd.R_mono HO174.out (fun _ hk => ⟨hk.1.1.2, ⟨hk.1.2, hk.2⟩⟩)⟩, ⟨by (with_reducible repeat (first | apply Kd.R_alloc | apply Kd.R_drewN | apply Kd.R_drew)); exact Kd.R_mono HO169.out (fun _ hk => ⟨hk.1.1.2, ⟨hk.1.2, hk.2⟩⟩)⟩, ⟨by (with_reducible repeat (first | apply Kd.R_alloc | apply Kd.R_drewN | apply Kd.R_drew)); exact Kd.R_mono HO180.out (fun _ hk => ⟨hk.1.2, ⟨hk.1.1.2, hk.2⟩⟩)⟩, ⟨by (with_reducible repeat (first | apply Kd.R_alloc | apply Kd.R_drewN | apply Kd.R_drew)); exact Kd.R_mono HO187.out (fun _ hk => ⟨hk.1.2, ⟨hk.1.1.2, hk.2⟩⟩)⟩, ⟨by (with_reducible repeat (first | refine blk_drewN ?_ _ | refine blk_drew ?_ | refine blk_alloc ?_ _)); exact BK153.out⟩, ⟨by (with_reducible repeat (first | refine blk_drewN ?_ _ | refine blk_drew ?_ | refine blk_alloc ?_ _)); exact BK171.out⟩, ⟨by (with_reducible repeat (first | refine blk_drewN ?_ _ | refine blk_drew ?_ | refine blk_alloc ?_ _)); exact BK181.out⟩, ⟨by (with_reducible repeat (first | refine blk_drewN ?_ _ | refine blk_drew ?_ | refine blk_alloc ?_ _)); exact BK189.out⟩, ⟨by repeat (first | (with_reducible first | exact HB.out | apply below_alloc | apply pw_below_drewN | apply below_drew1 | refine below_set ?_ GE153.out | refine below_set ?_ GE171.out | refine below_set ?_ GE181.out | refine below_set ?_ GE189.out) | exact HB.out)⟩⟩
    ·replace c52 := Bool.eq_false_iff.mpr c52
     subst c52
     have H1 : (laws_FnExactReply.j0 k l0 a1 t170 t172 t188 true a2_0 a2_1 a2_2 l2_3 t164 t165 t166 t167 t175 t176 t177 t178 t182 t183 t184 t185) = some true := by first | (rw [if_neg (show ¬ (false = true) by decide)] at H; exact H) | with_reducible rfl
     clear H
     have H := H1
     clear H1
     exact absurd H (by cases k <;> simp [laws_FnExactReply.j0])
   case rest =>
    clear HC17
    try clear c2
    try clear p2
    try clear c3
    try clear c4
    try clear c5
    try clear c24
    try clear c26
    try clear c35
    try clear c39
    try clear c40
    try clear c46
    try clear c47
    try clear c48
    try clear c52
    try clear c53
    try clear c54
    try clear c55
    try clear c56
    try clear c57
    try clear c58
    try clear hcz36_0
    try clear hcz36_1
    try clear hcz36_2
    try clear hcz36_3
    try clear hcz41_0
    try clear hcz41_1
    try clear hcz41_2
    try clear hcz41_3
    try clear hcz49_0
    try clear hcz49_1
    try clear hcz49_2
    try clear hcz49_3
    try clear hcz56_0
    try clear hcz56_1
    try clear hcz56_2
    try clear hcz56_3
    try clear hcz59_0
    try clear hcz59_1
    try clear hcz59_2
    try clear hcz59_3
    try clear hfz36_0
    try clear hfz36_1
    try clear hfz36_2
    try clear hfz36_3
    try clear hfz41_0
    try clear hfz41_1
    try clear hfz41_2
    try clear hfz41_3
    try clear hfz49_0
    try clear hfz49_1
    try clear hfz49_2
    try clear hfz49_3
    try clear hfz56_0
    try clear hfz56_1
    try clear hfz56_2
    try clear hfz56_3
    try clear hfz59_0
    try clear hfz59_1
    try clear hfz59_2
    try clear hfz59_3
    obtain ⟨kq, x55_16, rfl, HA, HJ16, HO_10, HO_172003, HO_182003, HO_190003, BK153, BK171, BK181, BK189, HB⟩ := hcut
    cases kq with
    | zero => exact absurd HA.out (by simp [laws_FnExactReply.j0])
    | succ kj16 =>
     have H := HA.out
     clear HA
     simp only [laws_FnExactReply.j0] at H
     by_cases c61 : x55_16 = true
     ·subst c61
      have H1 : (some false) = some true := by first | (rw [if_pos rfl] at H; exact H) | with_reducible rfl
      clear H
      have H := H1
      clear H1
      exact absurd H (by simp)
     ·replace c61 := Bool.eq_false_iff.mpr c61
      subst c61
      have H1 : ((laws_toByteS.f kj16 l0).bind fun t191 => ((laws_eqByteS.f kj16 t172 t191).bind fun t194 => (if t194 = true then ((laws_toFrame.f kj16 a2_0 a2_1 a2_2 l2_3).bind fun bt195 => ((laws_eqFrame.f kj16 t175 t176 t177 t178 bt195.1 bt195.2.1 bt195.2.2.1 bt195.2.2.2).bind fun t201 => (if t201 = true then ((laws_markByteS.f kj16 t172 1).bind fun bt202 => ((laws_markFrame.f kj16 t175 t176 t177 t178 bt202.1).bind fun bt204 => (if bt204.1 < 0 then (laws_FnExactReply.j1 kj16 l0 a1 t170 true a2_0 a2_1 a2_2 l2_3 t164 t165 t166 t167 t182 t183 t184 t185) else ((laws_eqFrame.f kj16 t182 t183 t184 t185 t164 t165 t166 t167).bind fun t206 => (if t206 = true then (laws_FnExactReply.j1 kj16 l0 a1 t170 (t188 != t170) a2_0 a2_1 a2_2 l2_3 t164 t165 t166 t167 t182 t183 t184 t185) else (laws_FnExactReply.j1 kj16 l0 a1 t170 true a2_0 a2_1 a2_2 l2_3 t164 t165 t166 t167 t182 t183 t184 t185)))))) else (some false)))) else (some false)))) = some true := by first | (rw [if_neg (show ¬ (false = true) by decide)] at H; exact H) | with_reducible rfl
      clear H
      have H := H1
      clear H1
      replace H := Option.bind_eq_some_iff.mp H
      obtain ⟨t191, A620, H⟩ := H
      replace H : ((laws_eqByteS.f kj16 t172 t191).bind fun t194 => (if t194 = true then ((laws_toFrame.f kj16 a2_0 a2_1 a2_2 l2_3).bind fun bt195 => ((laws_eqFrame.f kj16 t175 t176 t177 t178 bt195.1 bt195.2.1 bt195.2.2.1 bt195.2.2.2).bind fun t201 => (if t201 = true then ((laws_markByteS.f kj16 t172 1).bind fun bt202 => ((laws_markFrame.f kj16 t175 t176 t177 t178 bt202.1).bind fun bt204 => (if bt204.1 < 0 then (laws_FnExactReply.j1 kj16 l0 a1 t170 true a2_0 a2_1 a2_2 l2_3 t164 t165 t166 t167 t182 t183 t184 t185) else ((laws_eqFrame.f kj16 t182 t183 t184 t185 t164 t165 t166 t167).bind fun t206 => (if t206 = true then (laws_FnExactReply.j1 kj16 l0 a1 t170 (t188 != t170) a2_0 a2_1 a2_2 l2_3 t164 t165 t166 t167 t182 t183 t184 t185) else (laws_FnExactReply.j1 kj16 l0 a1 t170 true a2_0 a2_1 a2_2 l2_3 t164 t165 t166 t167 t182 t183 t184 t185)))))) else (some false)))) else (some false))) = some true := H
      have A62 := Aside0.mk A620
      clear A620
      replace H := Option.bind_eq_some_iff.mp H
      obtain ⟨t194, A630, H⟩ := H
      replace H : (if t194 = true then ((laws_toFrame.f kj16 a2_0 a2_1 a2_2 l2_3).bind fun bt195 => ((laws_eqFrame.f kj16 t175 t176 t177 t178 bt195.1 bt195.2.1 bt195.2.2.1 bt195.2.2.2).bind fun t201 => (if t201 = true then ((laws_markByteS.f kj16 t172 1).bind fun bt202 => ((laws_markFrame.f kj16 t175 t176 t177 t178 bt202.1).bind fun bt204 => (if bt204.1 < 0 then (laws_FnExactReply.j1 kj16 l0 a1 t170 true a2_0 a2_1 a2_2 l2_3 t164 t165 t166 t167 t182 t183 t184 t185) else ((laws_eqFrame.f kj16 t182 t183 t184 t185 t164 t165 t166 t167).bind fun t206 => (if t206 = true then (laws_FnExactReply.j1 kj16 l0 a1 t170 (t188 != t170) a2_0 a2_1 a2_2 l2_3 t164 t165 t166 t167 t182 t183 t184 t185) else (laws_FnExactReply.j1 kj16 l0 a1 t170 true a2_0 a2_1 a2_2 l2_3 t164 t165 t166 t167 t182 t183 t184 t185)))))) else (some false)))) else (some false)) = some true := H
      have A63 := Aside0.mk A630
      clear A630
      by_cases c64 : t194 = true
      ·subst c64
       have H1 : ((laws_toFrame.f kj16 a2_0 a2_1 a2_2 l2_3).bind fun bt195 => ((laws_eqFrame.f kj16 t175 t176 t177 t178 bt195.1 bt195.2.1 bt195.2.2.1 bt195.2.2.2).bind fun t201 => (if t201 = true then ((laws_markByteS.f kj16 t172 1).bind fun bt202 => ((laws_markFrame.f kj16 t175 t176 t177 t178 bt202.1).bind fun bt204 => (if bt204.1 < 0 then (laws_FnExactReply.j1 kj16 l0 a1 t170 true a2_0 a2_1 a2_2 l2_3 t164 t165 t166 t167 t182 t183 t184 t185) else ((laws_eqFrame.f kj16 t182 t183 t184 t185 t164 t165 t166 t167).bind fun t206 => (if t206 = true then (laws_FnExactReply.j1 kj16 l0 a1 t170 (t188 != t170) a2_0 a2_1 a2_2 l2_3 t164 t165 t166 t167 t182 t183 t184 t185) else (laws_FnExactReply.j1 kj16 l0 a1 t170 true a2_0 a2_1 a2_2 l2_3 t164 t165 t166 t167 t182 t183 t184 t185)))))) else (some false)))) = some true := by first | (rw [if_pos rfl] at H; exact H) | with_reducible rfl
       clear H
       have H := H1
       clear H1
       replace H := Option.bind_eq_some_iff.mp H
       obtain ⟨⟨t195, t196, t197, t198⟩, A650, H⟩ := H
       replace H : ((laws_eqFrame.f kj16 t175 t176 t177 t178 t195 t196 t197 t198).bind fun t201 => (if t201 = true then ((laws_markByteS.f kj16 t172 1).bind fun bt202 => ((laws_markFrame.f kj16 t175 t176 t177 t178 bt202.1).bind fun bt204 => (if bt204.1 < 0 then (laws_FnExactReply.j1 kj16 l0 a1 t170 true a2_0 a2_1 a2_2 l2_3 t164 t165 t166 t167 t182 t183 t184 t185) else ((laws_eqFrame.f kj16 t182 t183 t184 t185 t164 t165 t166 t167).bind fun t206 => (if t206 = true then (laws_FnExactReply.j1 kj16 l0 a1 t170 (t188 != t170) a2_0 a2_1 a2_2 l2_3 t164 t165 t166 t167 t182 t183 t184 t185) else (laws_FnExactReply.j1 kj16 l0 a1 t170 true a2_0 a2_1 a2_2 l2_3 t164 t165 t166 t167 t182 t183 t184 t185)))))) else (some false))) = some true := H
       have A65 := Aside0.mk A650
       clear A650
       replace H := Option.bind_eq_some_iff.mp H
       obtain ⟨t201, A660, H⟩ := H
       replace H : (if t201 = true then ((laws_markByteS.f kj16 t172 1).bind fun bt202 => ((laws_markFrame.f kj16 t175 t176 t177 t178 bt202.1).bind fun bt204 => (if bt204.1 < 0 then (laws_FnExactReply.j1 kj16 l0 a1 t170 true a2_0 a2_1 a2_2 l2_3 t164 t165 t166 t167 t182 t183 t184 t185) else ((laws_eqFrame.f kj16 t182 t183 t184 t185 t164 t165 t166 t167).bind fun t206 => (if t206 = true then (laws_FnExactReply.j1 kj16 l0 a1 t170 (t188 != t170) a2_0 a2_1 a2_2 l2_3 t164 t165 t166 t167 t182 t183 t184 t185) else (laws_FnExactReply.j1 kj16 l0 a1 t170 true a2_0 a2_1 a2_2 l2_3 t164 t165 t166 t167 t182 t183 t184 t185)))))) else (some false)) = some true := H
       have A66 := Aside0.mk A660
       clear A660
       by_cases c67 : t201 = true
       ·subst c67
        have H1 : ((laws_markByteS.f kj16 t172 1).bind fun bt202 => ((laws_markFrame.f kj16 t175 t176 t177 t178 bt202.1).bind fun bt204 => (if bt204.1 < 0 then (laws_FnExactReply.j1 kj16 l0 a1 t170 true a2_0 a2_1 a2_2 l2_3 t164 t165 t166 t167 t182 t183 t184 t185) else ((laws_eqFrame.f kj16 t182 t183 t184 t185 t164 t165 t166 t167).bind fun t206 => (if t206 = true then (laws_FnExactReply.j1 kj16 l0 a1 t170 (t188 != t170) a2_0 a2_1 a2_2 l2_3 t164 t165 t166 t167 t182 t183 t184 t185) else (laws_FnExactReply.j1 kj16 l0 a1 t170 true a2_0 a2_1 a2_2 l2_3 t164 t165 t166 t167 t182 t183 t184 t185)))))) = some true := by first | (rw [if_pos rfl] at H; exact H) | with_reducible rfl
        clear H
        have H := H1
        clear H1
        replace H := Option.bind_eq_some_iff.mp H
        obtain ⟨⟨t202, t203⟩, A680, H⟩ := H
        replace H : ((laws_markFrame.f kj16 t175 t176 t177 t178 t202).bind fun bt204 => (if bt204.1 < 0 then (laws_FnExactReply.j1 kj16 l0 a1 t170 true a2_0 a2_1 a2_2 l2_3 t164 t165 t166 t167 t182 t183 t184 t185) else ((laws_eqFrame.f kj16 t182 t183 t184 t185 t164 t165 t166 t167).bind fun t206 => (if t206 = true then (laws_FnExactReply.j1 kj16 l0 a1 t170 (t188 != t170) a2_0 a2_1 a2_2 l2_3 t164 t165 t166 t167 t182 t183 t184 t185) else (laws_FnExactReply.j1 kj16 l0 a1 t170 true a2_0 a2_1 a2_2 l2_3 t164 t165 t166 t167 t182 t183 t184 t185))))) = some true := H
        have A68 := Aside0.mk A680
        clear A680
        replace H := Option.bind_eq_some_iff.mp H
        obtain ⟨⟨t204, t205⟩, A690, H⟩ := H
        replace H : (if t204 < 0 then (laws_FnExactReply.j1 kj16 l0 a1 t170 true a2_0 a2_1 a2_2 l2_3 t164 t165 t166 t167 t182 t183 t184 t185) else ((laws_eqFrame.f kj16 t182 t183 t184 t185 t164 t165 t166 t167).bind fun t206 => (if t206 = true then (laws_FnExactReply.j1 kj16 l0 a1 t170 (t188 != t170) a2_0 a2_1 a2_2 l2_3 t164 t165 t166 t167 t182 t183 t184 t185) else (laws_FnExactReply.j1 kj16 l0 a1 t170 true a2_0 a2_1 a2_2 l2_3 t164 t165 t166 t167 t182 t183 t184 t185)))) = some true := H
        have A69 := Aside0.mk A690
        clear A690
        have HC70 := Aside0.mk H
        clear H
        try go_wp2_with (first | ((with_reducible refine gate_callee (f := 56) rfl ?_); refine goesL_ (some 58) rfl rfl Try.func56 (by kernel_rfl) rfl #[.slice A0 l0.length c0] rfl (by (try simp only [List.map_toArray, List.map_cons, List.map_nil]); first | done | rfl | (simp only [List.length_drop, List.length_take]; rfl)) ?_; (with_reducible refine (laws_toByteS.calls kj16 _ _ l0 t191 _ ?side1 ?side2 A62.out).mono ?_); (case side1 => repeat (first | exact (Kd.C_below HR0.out HB.out) | (with_reducible refine Kd.C_alloc ?_ _) | (with_reducible refine Kd.C_drewN ?_ _) | (with_reducible refine Kd.C_drew ?_))); (case side2 => exact HC0.out); rintro e w71 ⟨v192, rfl, ho0, hb⟩; refine ⟨_, rfl, ?_⟩; have n0_ := am (shRE HO_10.out (Kd.R_base ho0) hb); have n1_ := am (shRE HO_172003.out (Kd.R_base ho0) hb); have n2_ := am (shRE HO_182003.out (Kd.R_base ho0) hb); have n3_ := am (shRE HO_190003.out (Kd.R_base ho0) hb); have n4_ := am (Kd.R_lower (Kd.R_new' (Kd.R_new' (Kd.R_new' (Kd.R_new' ho0 (shLT HO_10.out)) (shLT HO_172003.out)) (shLT HO_182003.out)) (shLT HO_190003.out)) (below_size (by repeat (first | (with_reducible first | exact HB.out | apply below_alloc | apply pw_below_drewN | apply below_drew1 | refine below_set ?_ GE153.out | refine below_set ?_ GE171.out | refine below_set ?_ GE181.out | refine below_set ?_ GE189.out) | exact HB.out)))); have n5_ := am (shBK BK153.out hb); have n6_ := am (shBK BK171.out hb); have n7_ := am (shBK BK181.out hb); have n8_ := am (shBK BK189.out hb); have n9_ := am (shHB HB.out hb); clear HO_10; clear HO_172003; clear HO_182003; clear HO_190003; clear BK153; clear BK171; clear BK181; clear BK189; clear HB; have HO_10 := n0_; have HO_172003 := n1_; have HO_182003 := n2_; have HO_190003 := n3_; have HO193 := n4_; have BK153 := n5_; have BK171 := n6_; have BK181 := n7_; have BK189 := n8_; have HB := n9_; clear n0_ n1_ n2_ n3_ n4_ n5_ n6_ n7_ n8_ n9_; (try clear hb); (try clear hb2); (try clear hk); (try clear hi); (try clear ho0); obtain ⟨Ao72, co72, eo72⟩ := Kd.R_slice HO193.out; subst eo72) | ((with_reducible refine gate_callee (f := 39) rfl ?_); refine goesL_ (some 59) rfl rfl Try.func39 (by kernel_rfl) rfl #[.slice Ao43 t172.length co43, .slice Ao72 t191.length co72] rfl (by (try simp only [List.map_toArray, List.map_cons, List.map_nil]); first | done | rfl | (simp only [List.length_drop, List.length_take]; rfl)) ?_; (with_reducible refine (laws_eqByteS.calls kj16 _ _ t172 _ _ t191 true _ ?side1 ?side2 ?side3 ?side4 A63.out).mono ?_); (case side1 => repeat (first | exact (Kd.R_reads' HO_10.out).2.2 | (with_reducible refine Kd.C_alloc ?_ _) | (with_reducible refine Kd.C_drewN ?_ _) | (with_reducible refine Kd.C_drew ?_))); (case side2 => exact (Kd.R_reads' HO_10.out).2.1); (case side3 => repeat (first | exact (Kd.R_reads' HO193.out).2.2 | (with_reducible refine Kd.C_alloc ?_ _) | (with_reducible refine Kd.C_drewN ?_ _) | (with_reducible refine Kd.C_drew ?_))); (case side4 => exact (Kd.R_reads' HO193.out).2.1); rintro e w' ⟨rfl, ⟨nd, rfl⟩⟩; refine ⟨_, rfl, ?_⟩))
        (try (rw [drewN_self w71]; generalize hq_ : World.drewN w71 _ = w71; have n0_ := am (Kd.R_at hq_ HO_10.out); have n1_ := am (Kd.R_at hq_ HO_172003.out); have n2_ := am (Kd.R_at hq_ HO_182003.out); have n3_ := am (Kd.R_at hq_ HO_190003.out); have n4_ := am (Kd.R_at hq_ HO193.out); have n5_ := am (blk_at hq_ BK153.out); have n6_ := am (blk_at hq_ BK171.out); have n7_ := am (blk_at hq_ BK181.out); have n8_ := am (blk_at hq_ BK189.out); have n9_ := am (below_at hq_ HB.out); clear hq_ HO_10 HO_172003 HO_182003 HO_190003 HO193 BK153 BK171 BK181 BK189 HB; have HO_10 := n0_; have HO_172003 := n1_; have HO_182003 := n2_; have HO_190003 := n3_; have HO193 := n4_; have BK153 := n5_; have BK171 := n6_; have BK181 := n7_; have BK189 := n8_; have HB := n9_; clear n0_ n1_ n2_ n3_ n4_ n5_ n6_ n7_ n8_ n9_))
        have n0_ := am (Kd.R_drew HO_10.out)
        have n1_ := am (Kd.R_drew HO_172003.out)
        have n2_ := am (Kd.R_drew HO_182003.out)
        have n3_ := am (Kd.R_drew HO_190003.out)
        have n4_ := am (Kd.R_drew HO193.out)
        have n5_ := am (blk_drew BK153.out)
        have n6_ := am (blk_drew BK171.out)
        have n7_ := am (blk_drew BK181.out)
        have n8_ := am (blk_drew BK189.out)
        have n9_ := am (below_drew1 HB.out)
        clear HO_10
        clear HO_172003
        clear HO_182003
        clear HO_190003
        clear HO193
        clear BK153
        clear BK171
        clear BK181
        clear BK189
        clear HB
        have HO_10 := n0_
        have HO_172003 := n1_
        have HO_182003 := n2_
        have HO_190003 := n3_
        have HO193 := n4_
        have BK153 := n5_
        have BK171 := n6_
        have BK181 := n7_
        have BK189 := n8_
        have HB := n9_
        clear n0_ n1_ n2_ n3_ n4_ n5_ n6_ n7_ n8_ n9_
        refine start_ (n := 5) (S := fun w' => w'.cell? ⟨gb181, 0, none⟩ = some (.int .i64 t175) ∧ w'.cell? ⟨gb181, 1, none⟩ = some (.int .i64 t176) ∧ w'.cell? ⟨gb181, 2, none⟩ = some (.int .i64 t177) ∧ w'.cell? ⟨gb181, 3, none⟩ = some (.slice Ao42 t178.length co42) ∧ w'.cell? ⟨gb153, 0, none⟩ = some (.int .i64 a2_0) ∧ w'.cell? ⟨gb153, 1, none⟩ = some (.int .i64 a2_1) ∧ w'.cell? ⟨gb153, 2, none⟩ = some (.int .i64 a2_2) ∧ w'.cell? ⟨gb153, 3, none⟩ = some (.slice A2_3 l2_3.length c2_3)) (ds := []) #[false, false, false, false, false] (by kernel_rfl) rfl rfl ⟨(blk_cell BK181.out 0).trans rfl, (blk_cell BK181.out 1).trans rfl, (blk_cell BK181.out 2).trans rfl, (blk_cell BK181.out 3).trans rfl, (blk_cell BK153.out 0).trans rfl, (blk_cell BK153.out 1).trans rfl, (blk_cell BK153.out 2).trans rfl, (blk_cell BK153.out 3).trans rfl⟩ (fun hHeld => ?_)
        generalize w71.drew = w73 at HO_10 HO_172003 HO_182003 HO_190003 HO193 BK153 BK171 BK181 BK189 HB hHeld ⊢
        refine take_ (i := 0) (N := some 61) (v := ?_) (a' := ?_) #[true, false, false, false, false] rfl rfl (by kernel_rfl) (fun _ _ _ h => h) (Or.inl ⟨by rfl, ?_⟩) hHeld ?_ ?_
        rotate_left
        ·rintro w' ⟨s0, s1, s2, s3, s4, s5, s6, s7⟩
         go_simp
         with_reducible rfl
        rotate_left
        ·simp only [Act.put, List.setIfInBounds_toArray, List.set_cons_zero, List.set_cons_succ, i64_w, i32_w]
         rfl
        refine take_ (i := 1) (N := some 62) (v := ?_) (a' := ?_) #[true, true, false, false, false] rfl rfl (by kernel_rfl) (fun _ _ _ h => h) (Or.inl ⟨by rfl, ?_⟩) hHeld ?_ ?_
        rotate_left
        ·rintro w' ⟨s0, s1, s2, s3, s4, s5, s6, s7⟩
         go_simp
         with_reducible rfl
        rotate_left
        ·simp only [Act.put, List.setIfInBounds_toArray, List.set_cons_zero, List.set_cons_succ, i64_w, i32_w]
         rfl
        refine one_ (i := 2) (N := some 63) #[true, true, true, false, false] rfl rfl (by kernel_rfl) (by decide) (fun K hK => ?_)
        refine goes_ Try.func24 (by kernel_rfl) rfl #[.agg #[.int .i64 a2_0, .int .i64 a2_1, .int .i64 a2_2, .slice A2_3 l2_3.length c2_3]] (by rfl) rfl rfl (by (try simp only [List.map_toArray, List.map_cons, List.map_nil]); first | done | rfl | (simp only [List.length_drop, List.length_take]; rfl)) ?_
        with_reducible refine (laws_toFrame.calls kj16 a2_0 a2_1 a2_2 _ _ l2_3 t195 t196 t197 t198 _ ?side1 ?side2 A65.out).mono ?_
        (case side1 => repeat (first | exact (Kd.C_below HR2_3.out HB.out) | (with_reducible refine Kd.C_alloc ?_ _) | (with_reducible refine Kd.C_drewN ?_ _) | (with_reducible refine Kd.C_drew ?_)))
        (case side2 => exact HC2_3.out)
        rintro e w74 ⟨v199, rfl, ho0, hb⟩
        refine ⟨_, rfl, ?_⟩
        have n0_ := am (shRE HO_10.out (Kd.R_base ho0) hb)
        have n1_ := am (shRE HO_172003.out (Kd.R_base ho0) hb)
        have n2_ := am (shRE HO_182003.out (Kd.R_base ho0) hb)
        have n3_ := am (shRE HO_190003.out (Kd.R_base ho0) hb)
        have n4_ := am (shRE HO193.out (Kd.R_base ho0) hb)
        have n5_ := am (Kd.R_lower (Kd.R_new' (Kd.R_new' (Kd.R_new' (Kd.R_new' (Kd.R_new' ho0 (shLT HO_10.out)) (shLT HO_172003.out)) (shLT HO_182003.out)) (shLT HO_190003.out)) (shLT HO193.out)) (below_size (by repeat (first | (with_reducible first | exact HB.out | apply below_alloc | apply pw_below_drewN | apply below_drew1 | refine below_set ?_ GE153.out | refine below_set ?_ GE171.out | refine below_set ?_ GE181.out | refine below_set ?_ GE189.out) | exact HB.out))))
        have n6_ := am (shBK BK153.out hb)
        have n7_ := am (shBK BK171.out hb)
        have n8_ := am (shBK BK181.out hb)
        have n9_ := am (shBK BK189.out hb)
        have n10_ := am (shHB HB.out hb)
        clear HO_10
        clear HO_172003
        clear HO_182003
        clear HO_190003
        clear HO193
        clear BK153
        clear BK171
        clear BK181
        clear BK189
        clear HB
        have HO_10 := n0_
        have HO_172003 := n1_
        have HO_182003 := n2_
        have HO_190003 := n3_
        have HO193 := n4_
        have HO200 := n5_
        have BK153 := n6_
        have BK171 := n7_
        have BK181 := n8_
        have BK189 := n9_
        have HB := n10_
        clear n0_ n1_ n2_ n3_ n4_ n5_ n6_ n7_ n8_ n9_ n10_
        (try clear hb)
        (try clear hb2)
        (try clear hk)
        (try clear hi)
        (try clear ho0)
        obtain ⟨Ao75, co75, eo75⟩ := Kd.R_slice HO200.out
        (first | subst eo75 | (injection eo75 with f1_ f2_ f3_; have f4_ := f1_.symm; have f5_ := f3_.symm; clear f1_ f2_ f3_; subst f4_; subst f5_))
        refine hK.out _ _ ⟨(blk_cell BK181.out 0).trans rfl, (blk_cell BK181.out 1).trans rfl, (blk_cell BK181.out 2).trans rfl, (blk_cell BK181.out 3).trans rfl, (blk_cell BK153.out 0).trans rfl, (blk_cell BK153.out 1).trans rfl, (blk_cell BK153.out 2).trans rfl, (blk_cell BK153.out 3).trans rfl⟩ (fun hHeld => ?_)
        clear hK K
        refine norm_ (a' := ?_) ?_ ?_
        rotate_left
        ·show Act.put _ (some 63) _ = _
         simp only [Act.put, List.setIfInBounds_toArray, List.set_cons_zero, List.set_cons_succ, i64_w, i32_w]
         rfl
        refine one_ (i := 3) (N := some 64) #[true, true, true, true, false] rfl rfl (by kernel_rfl) (by decide) (fun K hK => ?_)
        refine goes_ Try.func26 (by kernel_rfl) rfl #[.agg #[.int .i64 t175, .int .i64 t176, .int .i64 t177, .slice Ao42 t178.length co42], .agg #[.int .i64 t195, .int .i64 t196, .int .i64 t197, .slice Ao75 t198.length co75]] (by rfl) rfl rfl (by (try simp only [List.map_toArray, List.map_cons, List.map_nil]); first | done | rfl | (simp only [List.length_drop, List.length_take]; rfl)) ?_
        with_reducible refine (laws_eqFrame.calls kj16 t175 t176 t177 _ _ t178 t195 t196 t197 _ _ t198 true _ ?side1 ?side2 ?side3 ?side4 A66.out).mono ?_
        (case side1 => repeat (first | exact (Kd.R_reads' HO_182003.out).2.2 | (with_reducible refine Kd.C_alloc ?_ _) | (with_reducible refine Kd.C_drewN ?_ _) | (with_reducible refine Kd.C_drew ?_)))
        (case side2 => exact (Kd.R_reads' HO_182003.out).2.1)
        (case side3 => repeat (first | exact (Kd.R_reads' HO200.out).2.2 | (with_reducible refine Kd.C_alloc ?_ _) | (with_reducible refine Kd.C_drewN ?_ _) | (with_reducible refine Kd.C_drew ?_)))
        (case side4 => exact (Kd.R_reads' HO200.out).2.1)
        rintro e w76 ⟨rfl, hb⟩
        refine ⟨_, rfl, ?_⟩
        have n0_ := am (shR HO_10.out hb)
        have n1_ := am (shR HO_172003.out hb)
        have n2_ := am (shR HO_182003.out hb)
        have n3_ := am (shR HO_190003.out hb)
        have n4_ := am (shR HO193.out hb)
        have n5_ := am (shR HO200.out hb)
        have n6_ := am (shBK BK153.out hb)
        have n7_ := am (shBK BK171.out hb)
        have n8_ := am (shBK BK181.out hb)
        have n9_ := am (shBK BK189.out hb)
        have n10_ := am (shHB HB.out hb)
        clear HO_10
        clear HO_172003
        clear HO_182003
        clear HO_190003
        clear HO193
        clear HO200
        clear BK153
        clear BK171
        clear BK181
        clear BK189
        clear HB
        have HO_10 := n0_
        have HO_172003 := n1_
        have HO_182003 := n2_
        have HO_190003 := n3_
        have HO193 := n4_
        have HO200 := n5_
        have BK153 := n6_
        have BK171 := n7_
        have BK181 := n8_
        have BK189 := n9_
        have HB := n10_
        clear n0_ n1_ n2_ n3_ n4_ n5_ n6_ n7_ n8_ n9_ n10_
        (try clear hb)
        (try clear hb2)
        (try clear hk)
        (try clear hi)
        refine hK.out _ _ ⟨(blk_cell BK181.out 0).trans rfl, (blk_cell BK181.out 1).trans rfl, (blk_cell BK181.out 2).trans rfl, (blk_cell BK181.out 3).trans rfl, (blk_cell BK153.out 0).trans rfl, (blk_cell BK153.out 1).trans rfl, (blk_cell BK153.out 2).trans rfl, (blk_cell BK153.out 3).trans rfl⟩ (fun hHeld => ?_)
        clear hK K
        refine norm_ (a' := ?_) ?_ ?_
        rotate_left
        ·show Act.put _ (some 64) _ = _
         simp only [Act.put, List.setIfInBounds_toArray, List.set_cons_zero, List.set_cons_succ, i64_w, i32_w]
         rfl
        refine pure_ (i := 4) (N := some 65) (v := ?_) (a' := ?_) #[true, true, true, true, true] rfl rfl (by kernel_rfl) (fun _ _ _ h => h) (Or.inl ⟨by rfl, ?_⟩) ?_ ?_
        rotate_left
        ·intro w'
         go_simp
         with_reducible rfl
        rotate_left
        ·simp only [Act.put, List.setIfInBounds_toArray, List.set_cons_zero, List.set_cons_succ, i64_w, i32_w]
         rfl
        refine done_ (by kernel_rfl) ?_
        go_upto_region 20 with (first | ((with_reducible refine gate_callee (f := 40) rfl ?_); refine goesL_ (some 68) rfl rfl Try.func40 (by kernel_rfl) rfl #[.slice Ao43 t172.length co43, .int .i64 1] rfl (by (try simp only [List.map_toArray, List.map_cons, List.map_nil]); first | done | rfl | (simp only [List.length_drop, List.length_take]; rfl)) ?_; (with_reducible refine (laws_markByteS.calls kj16 (fun k_ => some k_ = (.slice Ao43 t172.length co43 : Value).ownBlock) (.slice Ao43 t172.length co43) t172 1 t202 t203 w _ ?side1 ?side2 A68.out).mono ?_); (case side1 => repeat (first | (with_reducible first | exact HB.out | apply below_alloc | apply pw_below_drewN | apply below_drew1 | refine below_set ?_ GE153.out | refine below_set ?_ GE171.out | refine below_set ?_ GE181.out | refine below_set ?_ GE189.out) | exact HB.out)); (case side2 => exact Kd.R_tight rfl HO_10.out); rintro e w77 ⟨rfl, hy0, hb, hkp⟩; refine ⟨_, rfl, ?_⟩; have n0_ := am (Kd.R_reok rfl hy0 (fun k_ e_ => HO_10.out.1 k_ e_)); have n1_ := am (Kd.R_mono (ok' := fun k_ => some k_ ≠ (.slice Ao43 t172.length co43 : Value).ownBlock ∧ some k_ ≠ (.slice Ao42 t178.length co42 : Value).ownBlock ∧ some k_ ≠ (.slice Ao50 t185.length co50 : Value).ownBlock ∧ some k_ ≠ (.slice Ao72 t191.length co72 : Value).ownBlock ∧ some k_ ≠ (.slice Ao75 t198.length co75 : Value).ownBlock) (Kd.R_keptB (HO_172003.out) hkp (fun k_ hk_ hs_ => (hk_.1.1.1) hs_)) (fun k_ hk_ => ⟨hk_.1.1.1.1, hk_.1.1.1.2.1, hk_.1.1.1.2.2, hk_.1.1.2, hk_.1.2⟩)); have n2_ := am (Kd.R_mono (ok' := fun k_ => some k_ ≠ (.slice Ao43 t172.length co43 : Value).ownBlock ∧ some k_ ≠ (.slice Ao32 t167.length co32 : Value).ownBlock ∧ some k_ ≠ (.slice Ao50 t185.length co50 : Value).ownBlock ∧ some k_ ≠ (.slice Ao72 t191.length co72 : Value).ownBlock ∧ some k_ ≠ (.slice Ao75 t198.length co75 : Value).ownBlock) (Kd.R_keptB (HO_182003.out) hkp (fun k_ hk_ hs_ => (hk_.1.1.1) hs_)) (fun k_ hk_ => ⟨hk_.1.1.1.1, hk_.1.1.1.2.1, hk_.1.1.1.2.2, hk_.1.1.2, hk_.1.2⟩)); have n3_ := am (Kd.R_mono (ok' := fun k_ => some k_ ≠ (.slice Ao43 t172.length co43 : Value).ownBlock ∧ some k_ ≠ (.slice Ao32 t167.length co32 : Value).ownBlock ∧ some k_ ≠ (.slice Ao42 t178.length co42 : Value).ownBlock ∧ some k_ ≠ (.slice Ao72 t191.length co72 : Value).ownBlock ∧ some k_ ≠ (.slice Ao75 t198.length co75 : Value).ownBlock) (Kd.R_keptB (HO_190003.out) hkp (fun k_ hk_ hs_ => (hk_.1.1.1) hs_)) (fun k_ hk_ => ⟨hk_.1.1.1.1, hk_.1.1.1.2.1, hk_.1.1.1.2.2, hk_.1.1.2, hk_.1.2⟩)); have n4_ := am (blk_kept (by (with_reducible repeat (first | refine blk_drewN ?_ _ | refine blk_drew ?_ | refine blk_alloc ?_ _)); exact BK153.out) hkp (fun hs_ => (fun e_ => (Kd.R_ne HO_10.out BK153.out (by decide)) e_) hs_)); have n5_ := am (blk_kept (by (with_reducible repeat (first | refine blk_drewN ?_ _ | refine blk_drew ?_ | refine blk_alloc ?_ _)); exact BK171.out) hkp (fun hs_ => (fun e_ => (Kd.R_ne HO_10.out BK171.out (by decide)) e_) hs_)); have n6_ := am (blk_kept (by (with_reducible repeat (first | refine blk_drewN ?_ _ | refine blk_drew ?_ | refine blk_alloc ?_ _)); exact BK181.out) hkp (fun hs_ => (fun e_ => (Kd.R_ne HO_10.out BK181.out (by decide)) e_) hs_)); have n7_ := am (blk_kept (by (with_reducible repeat (first | refine blk_drewN ?_ _ | refine blk_drew ?_ | refine blk_alloc ?_ _)); exact BK189.out) hkp (fun hs_ => (fun e_ => (Kd.R_ne HO_10.out BK189.out (by decide)) e_) hs_)); have n8_ := am (Kd.R_mono (ok' := fun k_ => some k_ ≠ (.slice Ao43 t172.length co43 : Value).ownBlock ∧ some k_ ≠ (.slice Ao32 t167.length co32 : Value).ownBlock ∧ some k_ ≠ (.slice Ao42 t178.length co42 : Value).ownBlock ∧ some k_ ≠ (.slice Ao50 t185.length co50 : Value).ownBlock ∧ some k_ ≠ (.slice Ao75 t198.length co75 : Value).ownBlock) (Kd.R_keptB (HO193.out) hkp (fun k_ hk_ hs_ => (hk_.1.1.1.1.2) hs_)) (fun k_ hk_ => ⟨hk_.1.1.1.1.1.2, hk_.1.1.1.1.2, hk_.1.1.1.2, hk_.1.1.2, hk_.1.2⟩)); have n9_ := am (Kd.R_mono (ok' := fun k_ => some k_ ≠ (.slice Ao43 t172.length co43 : Value).ownBlock ∧ some k_ ≠ (.slice Ao32 t167.length co32 : Value).ownBlock ∧ some k_ ≠ (.slice Ao42 t178.length co42 : Value).ownBlock ∧ some k_ ≠ (.slice Ao50 t185.length co50 : Value).ownBlock ∧ some k_ ≠ (.slice Ao72 t191.length co72 : Value).ownBlock) (Kd.R_keptB (HO200.out) hkp (fun k_ hk_ hs_ => (hk_.1.1.1.1.2) hs_)) (fun k_ hk_ => ⟨hk_.1.1.1.1.1.2, hk_.1.1.1.1.2, hk_.1.1.1.2, hk_.1.1.2, hk_.1.2⟩)); have n10_ := am (hb); clear HO_10; clear HO_172003; clear HO_182003; clear HO_190003; clear BK153; clear BK171; clear BK181; clear BK189; clear HO193; clear HO200; clear HB; have HO_10 := n0_; have HO_172003 := n1_; have HO_182003 := n2_; have HO_190003 := n3_; have BK153 := n4_; have BK171 := n5_; have BK181 := n6_; have BK189 := n7_; have HO193 := n8_; have HO200 := n9_; have HB := n10_; clear n0_ n1_ n2_ n3_ n4_ n5_ n6_ n7_ n8_ n9_ n10_; (try clear hb); (try clear hkp); (try clear hy0); have hnb78 := NB181_153.out; have hnc78 := NB153_181.out; have hnb79 := NB181_171.out; have hnc79 := NB171_181.out; have hnb80 := NB181_189.out; have hnc80 := NB189_181.out; have hcz81_0 : w77.cell? ⟨gb181, 0, none⟩ = some (.int .i64 t175) := (blk_cell BK181.out 0).trans rfl; have hcz81_1 : w77.cell? ⟨gb181, 1, none⟩ = some (.int .i64 t176) := (blk_cell BK181.out 1).trans rfl; have hcz81_2 : w77.cell? ⟨gb181, 2, none⟩ = some (.int .i64 t177) := (blk_cell BK181.out 2).trans rfl; have hcz81_3 : w77.cell? ⟨gb181, 3, none⟩ = some (.slice Ao42 t178.length co42) := (blk_cell BK181.out 3).trans rfl; have hfz81_0 := blk_frozen BK181.out 0; have hfz81_1 := blk_frozen BK181.out 1; have hfz81_2 := blk_frozen BK181.out 2; have hfz81_3 := blk_frozen BK181.out 3) | ((with_reducible refine gate_callee (f := 58) rfl ?_); refine goesL_ (some 71) rfl rfl Try.func58 (by kernel_rfl) rfl #[.agg #[.int .i64 t175, .int .i64 t176, .int .i64 t177, .slice Ao42 t178.length co42], .int .i64 t202] rfl (by (try simp only [List.map_toArray, List.map_cons, List.map_nil]); first | done | rfl | (simp only [List.length_drop, List.length_take]; rfl)) ?_; (with_reducible refine (laws_markFrame.calls kj16 t175 t176 t177 (fun k_ => some k_ = (.slice Ao42 t178.length co42 : Value).ownBlock) (.slice Ao42 t178.length co42) t178 t202 t204 t205 w _ ?side1 ?side2 A69.out).mono ?_); (case side1 => repeat (first | (with_reducible first | exact HB.out | apply below_alloc | apply pw_below_drewN | apply below_drew1 | refine below_set ?_ GE153.out | refine below_set ?_ GE171.out | refine below_set ?_ GE181.out | refine below_set ?_ GE189.out) | exact HB.out)); (case side2 => exact Kd.R_tight rfl HO_182003.out); rintro e w82 ⟨rfl, hy0, hb, hkp⟩; refine ⟨_, rfl, ?_⟩; have n0_ := am (Kd.R_mono (ok' := fun k_ => some k_ ≠ (.slice Ao32 t167.length co32 : Value).ownBlock ∧ some k_ ≠ (.slice Ao42 t178.length co42 : Value).ownBlock ∧ some k_ ≠ (.slice Ao50 t185.length co50 : Value).ownBlock ∧ some k_ ≠ (.slice Ao72 t191.length co72 : Value).ownBlock ∧ some k_ ≠ (.slice Ao75 t198.length co75 : Value).ownBlock) (Kd.R_keptB (HO_10.out) hkp (fun k_ hk_ hs_ => (hk_.1.1.2.1) hs_)) (fun k_ hk_ => ⟨hk_.1.1.1.1, hk_.1.1.1.2.1, hk_.1.1.1.2.2, hk_.1.1.2, hk_.1.2⟩)); have n1_ := am (Kd.R_mono (ok' := fun k_ => some k_ ≠ (.slice Ao43 t172.length co43 : Value).ownBlock ∧ some k_ ≠ (.slice Ao42 t178.length co42 : Value).ownBlock ∧ some k_ ≠ (.slice Ao50 t185.length co50 : Value).ownBlock ∧ some k_ ≠ (.slice Ao72 t191.length co72 : Value).ownBlock ∧ some k_ ≠ (.slice Ao75 t198.length co75 : Value).ownBlock) (Kd.R_keptB (HO_172003.out) hkp (fun k_ hk_ hs_ => (hk_.2.1) hs_)) (fun k_ hk_ => ⟨hk_.1.1, hk_.1.2.1, hk_.1.2.2.1, hk_.1.2.2.2.1, hk_.1.2.2.2.2⟩)); have n2_ := am (Kd.R_reok rfl hy0 (fun k_ e_ => HO_182003.out.1 k_ e_)); have n3_ := am (Kd.R_mono (ok' := fun k_ => some k_ ≠ (.slice Ao43 t172.length co43 : Value).ownBlock ∧ some k_ ≠ (.slice Ao32 t167.length co32 : Value).ownBlock ∧ some k_ ≠ (.slice Ao42 t178.length co42 : Value).ownBlock ∧ some k_ ≠ (.slice Ao72 t191.length co72 : Value).ownBlock ∧ some k_ ≠ (.slice Ao75 t198.length co75 : Value).ownBlock) (Kd.R_keptB (HO_190003.out) hkp (fun k_ hk_ hs_ => (hk_.2.2.1) hs_)) (fun k_ hk_ => ⟨hk_.1.1, hk_.1.2.1, hk_.1.2.2.1, hk_.1.2.2.2.1, hk_.1.2.2.2.2⟩)); have n4_ := am (blk_kept (by (with_reducible repeat (first | refine blk_drewN ?_ _ | refine blk_drew ?_ | refine blk_alloc ?_ _)); exact BK153.out) hkp (fun hs_ => (fun e_ => (Kd.R_ne HO_182003.out BK153.out (by decide)) e_) hs_)); have n5_ := am (blk_kept (by (with_reducible repeat (first | refine blk_drewN ?_ _ | refine blk_drew ?_ | refine blk_alloc ?_ _)); exact BK171.out) hkp (fun hs_ => (fun e_ => (Kd.R_ne HO_182003.out BK171.out (by decide)) e_) hs_)); have n6_ := am (blk_kept (by (with_reducible repeat (first | refine blk_drewN ?_ _ | refine blk_drew ?_ | refine blk_alloc ?_ _)); exact BK181.out) hkp (fun hs_ => (fun e_ => (Kd.R_ne HO_182003.out BK181.out (by decide)) e_) hs_)); have n7_ := am (blk_kept (by (with_reducible repeat (first | refine blk_drewN ?_ _ | refine blk_drew ?_ | refine blk_alloc ?_ _)); exact BK189.out) hkp (fun hs_ => (fun e_ => (Kd.R_ne HO_182003.out BK189.out (by decide)) e_) hs_)); have n8_ := am (Kd.R_mono (ok' := fun k_ => some k_ ≠ (.slice Ao43 t172.length co43 : Value).ownBlock ∧ some k_ ≠ (.slice Ao32 t167.length co32 : Value).ownBlock ∧ some k_ ≠ (.slice Ao42 t178.length co42 : Value).ownBlock ∧ some k_ ≠ (.slice Ao50 t185.length co50 : Value).ownBlock ∧ some k_ ≠ (.slice Ao75 t198.length co75 : Value).ownBlock) (Kd.R_keptB (HO193.out) hkp (fun k_ hk_ hs_ => (hk_.2.2.1) hs_)) (fun k_ hk_ => ⟨hk_.1.1, hk_.1.2.1, hk_.1.2.2.1, hk_.1.2.2.2.1, hk_.1.2.2.2.2⟩)); have n9_ := am (Kd.R_mono (ok' := fun k_ => some k_ ≠ (.slice Ao43 t172.length co43 : Value).ownBlock ∧ some k_ ≠ (.slice Ao32 t167.length co32 : Value).ownBlock ∧ some k_ ≠ (.slice Ao42 t178.length co42 : Value).ownBlock ∧ some k_ ≠ (.slice Ao50 t185.length co50 : Value).ownBlock ∧ some k_ ≠ (.slice Ao72 t191.length co72 : Value).ownBlock) (Kd.R_keptB (HO200.out) hkp (fun k_ hk_ hs_ => (hk_.2.2.1) hs_)) (fun k_ hk_ => ⟨hk_.1.1, hk_.1.2.1, hk_.1.2.2.1, hk_.1.2.2.2.1, hk_.1.2.2.2.2⟩)); have n10_ := am (hb); clear HO_10; clear HO_172003; clear HO_182003; clear HO_190003; clear BK153; clear BK171; clear BK181; clear BK189; clear HO193; clear HO200; clear HB; have HO_10 := n0_; have HO_172003 := n1_; have HO_182003 := n2_; have HO_190003 := n3_; have BK153 := n4_; have BK171 := n5_; have BK181 := n6_; have BK189 := n7_; have HO193 := n8_; have HO200 := n9_; have HB := n10_; clear n0_ n1_ n2_ n3_ n4_ n5_ n6_ n7_ n8_ n9_ n10_; (try clear hb); (try clear hkp); (try clear hy0)))
        (try simp only [Act.put, List.setIfInBounds_toArray, List.set_cons_zero, List.set_cons_succ])
        go_cut [84] (fun v84 wc => ∃ (kq : Nat) (x84_69 : Bool), v84 = .bool x84_69 ∧ Aside0 (laws_FnExactReply.j1 kq l0 a1 t170 x84_69 a2_0 a2_1 a2_2 l2_3 t164 t165 t166 t167 t182 t183 t184 t185 = some true) ∧ Aside0 (kq ≤ kj16) ∧ Aside0 (Kd.R (Kd.int .u8) 5 wc w.heap.size (fun k_ => some k_ ≠ ((.slice Ao42 t178.length co42) : Value).ownBlock ∧ some k_ ≠ ((.slice Ao50 t185.length co50) : Value).ownBlock) (.slice Ao32 t167.length co32) t167) ∧ Aside0 (Kd.R (Kd.int .u8) 5 wc w.heap.size (fun k_ => some k_ ≠ ((.slice Ao32 t167.length co32) : Value).ownBlock ∧ some k_ ≠ ((.slice Ao50 t185.length co50) : Value).ownBlock) (.slice Ao42 t178.length co42) t205) ∧ Aside0 (Kd.R (Kd.int .u8) 5 wc w.heap.size (fun k_ => some k_ ≠ ((.slice Ao32 t167.length co32) : Value).ownBlock ∧ some k_ ≠ ((.slice Ao42 t178.length co42) : Value).ownBlock) (.slice Ao50 t185.length co50) t185) ∧ Aside0 (wc.heap[gb153]? = some (.cells #[.int .i64 a2_0, .int .i64 a2_1, .int .i64 a2_2, (.slice A2_3 l2_3.length c2_3)] 38 (0, 0))) ∧ Aside0 (wc.heap[gb171]? = some (.cells #[.int .i64 t164, .int .i64 t165, .int .i64 t166, (.slice Ao32 t167.length co32)] 41 (0, 0))) ∧ Aside0 (wc.heap[gb181]? = some (.cells #[.int .i64 t175, .int .i64 t176, .int .i64 t177, (.slice Ao42 t178.length co42)] 41 (0, 0))) ∧ Aside0 (wc.heap[gb189]? = some (.cells #[.int .i64 t182, .int .i64 t183, .int .i64 t184, (.slice Ao50 t185.length co50)] 41 (0, 0))) ∧ Aside0 (Below w.heap.size w wc))
        case first =>
         have H := HC70.out
         clear HC70
         by_cases c83 : t204 < 0
         ·rw [if_pos c83] at H
          have c83b0 : decide (t204 < 0) = true := decide_eq_true c83
          clear c83
          (first | rw [c83b0] | (simp only [i64_w, i32_w]; rw [c83b0]) | skip)
          exact absurd H (by cases kj16 <;> simp [laws_FnExactReply.j1])
         ·rw [if_neg c83] at H
          have c83b0 : decide (t204 < 0) = false := decide_eq_false c83
          clear c83
          (first | rw [c83b0] | (simp only [i64_w, i32_w]; rw [c83b0]) | skip)
          replace H := Option.bind_eq_some_iff.mp H
          obtain ⟨t206, A840, H⟩ := H
          replace H : (if t206 = true then (laws_FnExactReply.j1 kj16 l0 a1 t170 (t188 != t170) a2_0 a2_1 a2_2 l2_3 t164 t165 t166 t167 t182 t183 t184 t185) else (laws_FnExactReply.j1 kj16 l0 a1 t170 true a2_0 a2_1 a2_2 l2_3 t164 t165 t166 t167 t182 t183 t184 t185)) = some true := H
          have A84 := Aside0.mk A840
          clear A840
          by_cases c85 : t206 = true
          ·subst c85
           have H1 : (laws_FnExactReply.j1 kj16 l0 a1 t170 (t188 != t170) a2_0 a2_1 a2_2 l2_3 t164 t165 t166 t167 t182 t183 t184 t185) = some true := by first | (rw [if_pos rfl] at H; exact H) | with_reducible rfl
           clear H
           have H := H1
           clear H1
           have H' := Aside0.mk H
           clear H
           have hnb86 := NB189_153.out
           have hnc86 := NB153_189.out
           have hnb87 := NB189_171.out
           have hnc87 := NB171_189.out
           have hnb88 := NB189_181.out
           have hnc88 := NB181_189.out
           have hcz89_0 : w82.cell? ⟨gb189, 0, none⟩ = some (.int .i64 t182) := (blk_cell BK189.out 0).trans rfl
           have hcz89_1 : w82.cell? ⟨gb189, 1, none⟩ = some (.int .i64 t183) := (blk_cell BK189.out 1).trans rfl
           have hcz89_2 : w82.cell? ⟨gb189, 2, none⟩ = some (.int .i64 t184) := (blk_cell BK189.out 2).trans rfl
           have hcz89_3 : w82.cell? ⟨gb189, 3, none⟩ = some (.slice Ao50 t185.length co50) := (blk_cell BK189.out 3).trans rfl
           have hfz89_0 := blk_frozen BK189.out 0
           have hfz89_1 := blk_frozen BK189.out 1
           have hfz89_2 := blk_frozen BK189.out 2
           have hfz89_3 := blk_frozen BK189.out 3
           have hnb90 := NB171_153.out
           have hnc90 := NB153_171.out
           have hnb91 := NB171_181.out
           have hnc91 := NB181_171.out
           have hcz92_0 : w82.cell? ⟨gb171, 0, none⟩ = some (.int .i64 t164) := (blk_cell BK171.out 0).trans rfl
           have hcz92_1 : w82.cell? ⟨gb171, 1, none⟩ = some (.int .i64 t165) := (blk_cell BK171.out 1).trans rfl
           have hcz92_2 : w82.cell? ⟨gb171, 2, none⟩ = some (.int .i64 t166) := (blk_cell BK171.out 2).trans rfl
           have hcz92_3 : w82.cell? ⟨gb171, 3, none⟩ = some (.slice Ao32 t167.length co32) := (blk_cell BK171.out 3).trans rfl
           have hfz92_0 := blk_frozen BK171.out 0
           have hfz92_1 := blk_frozen BK171.out 1
           have hfz92_2 := blk_frozen BK171.out 2
           have hfz92_3 := blk_frozen BK171.out 3
           go_wp2_with (first | (go_at_call 26; (with_reducible refine (laws_eqFrame.calls kj16 t182 t183 t184 _ _ t185 t164 t165 t166 _ _ t167 true _ ?side1 ?side2 ?side3 ?side4 A84.out).mono ?_); (case side1 => repeat (first | exact (Kd.R_reads' HO_190003.out).2.2 | (with_reducible refine Kd.C_alloc ?_ _) | (with_reducible refine Kd.C_drewN ?_ _) | (with_reducible refine Kd.C_drew ?_))); (case side2 => exact (Kd.R_reads' HO_190003.out).2.1); (case side3 => repeat (first | exact (Kd.R_reads' HO_172003.out).2.2 | (with_reducible refine Kd.C_alloc ?_ _) | (with_reducible refine Kd.C_drewN ?_ _) | (with_reducible refine Kd.C_drew ?_))); (case side4 => exact (Kd.R_reads' HO_172003.out).2.1); rintro e w93 ⟨rfl, hb⟩; have n0_ := am (Kd.R_below (by (with_reducible repeat (first | apply Kd.R_alloc | apply Kd.R_drewN | apply Kd.R_drew)); exact HO_10.out) hb); have n1_ := am (Kd.R_below (by (with_reducible repeat (first | apply Kd.R_alloc | apply Kd.R_drewN | apply Kd.R_drew)); exact HO_172003.out) hb); have n2_ := am (Kd.R_below (by (with_reducible repeat (first | apply Kd.R_alloc | apply Kd.R_drewN | apply Kd.R_drew)); exact HO_182003.out) hb); have n3_ := am (Kd.R_below (by (with_reducible repeat (first | apply Kd.R_alloc | apply Kd.R_drewN | apply Kd.R_drew)); exact HO_190003.out) hb); have n4_ := am (Kd.R_below (by (with_reducible repeat (first | apply Kd.R_alloc | apply Kd.R_drewN | apply Kd.R_drew)); exact HO193.out) hb); have n5_ := am (Kd.R_below (by (with_reducible repeat (first | apply Kd.R_alloc | apply Kd.R_drewN | apply Kd.R_drew)); exact HO200.out) hb); have n6_ := am (blk_below (g := gb153) (o := .cells #[.int .i64 a2_0, .int .i64 a2_1, .int .i64 a2_2, .slice A2_3 l2_3.length c2_3] 38 (0, 0)) (by (with_reducible repeat (first | refine blk_drewN ?_ _ | refine blk_drew ?_ | refine blk_alloc ?_ _)); exact BK153.out) hb); have n7_ := am (blk_below (g := gb171) (o := .cells #[.int .i64 t164, .int .i64 t165, .int .i64 t166, .slice Ao32 t167.length co32] 41 (0, 0)) (by (with_reducible repeat (first | refine blk_drewN ?_ _ | refine blk_drew ?_ | refine blk_alloc ?_ _)); exact BK171.out) hb); have n8_ := am (blk_below (g := gb181) (o := .cells #[.int .i64 t175, .int .i64 t176, .int .i64 t177, .slice Ao42 t178.length co42] 41 (0, 0)) (by (with_reducible repeat (first | refine blk_drewN ?_ _ | refine blk_drew ?_ | refine blk_alloc ?_ _)); exact BK181.out) hb); have n9_ := am (blk_below (g := gb189) (o := .cells #[.int .i64 t182, .int .i64 t183, .int .i64 t184, .slice Ao50 t185.length co50] 41 (0, 0)) (by (with_reducible repeat (first | refine blk_drewN ?_ _ | refine blk_drew ?_ | refine blk_alloc ?_ _)); exact BK189.out) hb); have n10_ := am (below_step (by repeat (first | (with_reducible first | exact HB.out | apply below_alloc | apply pw_below_drewN | apply below_drew1 | refine below_set ?_ GE153.out | refine below_set ?_ GE171.out | refine below_set ?_ GE181.out | refine below_set ?_ GE189.out) | exact HB.out)) hb); clear HO_10; clear HO_172003; clear HO_182003; clear HO_190003; clear HO193; clear HO200; clear BK153; clear BK171; clear BK181; clear BK189; clear HB; have HO_10 := n0_; have HO_172003 := n1_; have HO_182003 := n2_; have HO_190003 := n3_; have HO193 := n4_; have HO200 := n5_; have BK153 := n6_; have BK171 := n7_; have BK181 := n8_; have BK189 := n9_; have HB := n10_; clear n0_ n1_ n2_ n3_ n4_ n5_ n6_ n7_ n8_ n9_ n10_; (try clear hb); (try clear hb2); (try clear hk); (try clear hi)))
           go_meet
           case rel => exact ⟨_, ((t188 != t170)), (by first | rfl | (simp; done) | (simp [*]; done)), H', ⟨by have := HJ16.out; first | omega | exact Nat.le_refl _⟩, ⟨by (with_reducible repeat (first | apply Kd.R_alloc | apply Kd.R_drewN | apply Kd.R_drew)); exact Kd.R_mono HO_172003.out (fun _ hk => ⟨hk.2.1, hk.2.2.1⟩)⟩, ⟨by (with_reducible repeat (first | apply Kd.R_alloc | apply Kd.R_drewN | apply Kd.R_drew)); exact Kd.R_mono HO_182003.out (fun _ hk => ⟨hk.2.1, hk.2.2.1⟩)⟩, ⟨by (with_reducible repeat (first | apply Kd.R_alloc | apply Kd.R_drewN | apply Kd.R_drew)); exact Kd.R_mono HO_190003.out (fun _ hk => ⟨hk.2.1, hk.2.2.1⟩)⟩, ⟨by (with_reducible repeat (first | refine blk_drewN ?_ _ | refine blk_drew ?_ | refine blk_alloc ?_ _)); exact BK153.out⟩, ⟨by (with_reducible repeat (first | refine blk_drewN ?_ _ | refine blk_drew ?_ | refine blk_alloc ?_ _)); exact BK171.out⟩, ⟨by (with_reducible repeat (first | refine blk_drewN ?_ _ | refine blk_drew ?_ | refine blk_alloc ?_ _)); exact BK181.out⟩, ⟨by (with_reducible repeat (first | refine blk_drewN ?_ _ | refine blk_drew ?_ | refine blk_alloc ?_ _)); exact BK189.out⟩, ⟨by repeat (first | (with_reducible first | exact HB.out | apply below_alloc | apply pw_below_drewN | apply below_drew1 | refine below_set ?_ GE153.out | refine below_set ?_ GE171.out | refine below_set ?_ GE181.out | refine below_set ?_ GE189.out) | exact HB.out)⟩⟩
          ·replace c85 := Bool.eq_false_iff.mpr c85
           subst c85
           have H1 : (laws_FnExactReply.j1 kj16 l0 a1 t170 true a2_0 a2_1 a2_2 l2_3 t164 t165 t166 t167 t182 t183 t184 t185) = some true := by first | (rw [if_neg (show ¬ (false = true) by decide)] at H; exact H) | with_reducible rfl
           clear H
           have H := H1
           clear H1
           exact absurd H (by cases kj16 <;> simp [laws_FnExactReply.j1])
        case rest =>
         clear HC70
         try clear c2
         try clear p2
         try clear c3
         try clear c4
         try clear c5
         try clear c6
         try clear c7
         try clear c8
         try clear c9
         try clear c24
         try clear c26
         try clear c35
         try clear c39
         try clear c40
         try clear c46
         try clear c47
         try clear c48
         try clear c52
         try clear c53
         try clear c54
         try clear c55
         try clear c56
         try clear c57
         try clear c58
         try clear c61
         try clear c64
         try clear c67
         try clear c78
         try clear c79
         try clear c80
         try clear c83
         try clear c83b0
         try clear c85
         try clear c86
         try clear c87
         try clear c88
         try clear c90
         try clear c91
         try clear hcz36_0
         try clear hcz36_1
         try clear hcz36_2
         try clear hcz36_3
         try clear hcz41_0
         try clear hcz41_1
         try clear hcz41_2
         try clear hcz41_3
         try clear hcz49_0
         try clear hcz49_1
         try clear hcz49_2
         try clear hcz49_3
         try clear hcz56_0
         try clear hcz56_1
         try clear hcz56_2
         try clear hcz56_3
         try clear hcz59_0
         try clear hcz59_1
         try clear hcz59_2
         try clear hcz59_3
         try clear hcz81_0
         try clear hcz81_1
         try clear hcz81_2
         try clear hcz81_3
         try clear hcz89_0
         try clear hcz89_1
         try clear hcz89_2
         try clear hcz89_3
         try clear hcz92_0
         try clear hcz92_1
         try clear hcz92_2
         try clear hcz92_3
         try clear hfz36_0
         try clear hfz36_1
         try clear hfz36_2
         try clear hfz36_3
         try clear hfz41_0
         try clear hfz41_1
         try clear hfz41_2
         try clear hfz41_3
         try clear hfz49_0
         try clear hfz49_1
         try clear hfz49_2
         try clear hfz49_3
         try clear hfz56_0
         try clear hfz56_1
         try clear hfz56_2
         try clear hfz56_3
         try clear hfz59_0
         try clear hfz59_1
         try clear hfz59_2
         try clear hfz59_3
         try clear hfz81_0
         try clear hfz81_1
         try clear hfz81_2
         try clear hfz81_3
         try clear hfz89_0
         try clear hfz89_1
         try clear hfz89_2
         try clear hfz89_3
         try clear hfz92_0
         try clear hfz92_1
         try clear hfz92_2
         try clear hfz92_3
         try clear p2
         obtain ⟨kq, x84_69, rfl, HA, HJ69, HO_172003, HO_182003, HO_190003, BK153, BK171, BK181, BK189, HB⟩ := hcut
         have hl182003_69 := (Kd.R_reads' HO_182003.out).1
         rw [hl182003_69] at HO_182003
         (try simp only [hl182003_69])
         (try simp only [hl182003_69] at BK153)
         (try simp only [hl182003_69] at BK171)
         (try simp only [hl182003_69] at BK181)
         (try simp only [hl182003_69] at BK189)
         (try simp only [hl182003_69] at HO_172003)
         (try simp only [hl182003_69] at HO_190003)
         cases kq with
         | zero => exact absurd HA.out (by simp [laws_FnExactReply.j1])
         | succ kj69 =>
          have H := HA.out
          clear HA
          simp only [laws_FnExactReply.j1] at H
          by_cases c94 : x84_69 = true
          ·subst c94
           have H1 : (some false) = some true := by first | (rw [if_pos rfl] at H; exact H) | with_reducible rfl
           clear H
           have H := H1
           clear H1
           exact absurd H (by simp)
          ·replace c94 := Bool.eq_false_iff.mpr c94
           subst c94
           have H1 : ((laws_markFrame.f kj69 t182 t183 t184 t185 1).bind fun bt207 => ((laws_heldFrame.f kj69 t182 t183 t184 bt207.2 1).bind fun t209 => (if t209 < 0 then (some false) else (if t209 = bt207.1 then ((laws_toByteS.f kj69 l0).bind fun t210 => ((laws_toFrame.f kj69 a2_0 a2_1 a2_2 l2_3).bind fun bt213 => ((impl_Reply.f t210 a1 bt213.1 bt213.2.1 bt213.2.2.1 bt213.2.2.2).bind fun bt219 => ((laws_eqFrame.f kj69 bt219.1 bt219.2.1 bt219.2.2.1 bt219.2.2.2.1 t164 t165 t166 t167).bind fun t227 => (if t227 = true then (laws_FnExactReply.j2 kj69 bt207.1 (bt219.2.2.2.2 != t170) t182 t183 t184 bt207.2) else (laws_FnExactReply.j2 kj69 bt207.1 true t182 t183 t184 bt207.2)))))) else (some false))))) = some true := by first | (rw [if_neg (show ¬ (false = true) by decide)] at H; exact H) | with_reducible rfl
           clear H
           have H := H1
           clear H1
           replace H := Option.bind_eq_some_iff.mp H
           obtain ⟨⟨t207, t208⟩, A950, H⟩ := H
           replace H : ((laws_heldFrame.f kj69 t182 t183 t184 t208 1).bind fun t209 => (if t209 < 0 then (some false) else (if t209 = t207 then ((laws_toByteS.f kj69 l0).bind fun t210 => ((laws_toFrame.f kj69 a2_0 a2_1 a2_2 l2_3).bind fun bt213 => ((impl_Reply.f t210 a1 bt213.1 bt213.2.1 bt213.2.2.1 bt213.2.2.2).bind fun bt219 => ((laws_eqFrame.f kj69 bt219.1 bt219.2.1 bt219.2.2.1 bt219.2.2.2.1 t164 t165 t166 t167).bind fun t227 => (if t227 = true then (laws_FnExactReply.j2 kj69 t207 (bt219.2.2.2.2 != t170) t182 t183 t184 t208) else (laws_FnExactReply.j2 kj69 t207 true t182 t183 t184 t208)))))) else (some false)))) = some true := H
           have A95 := Aside0.mk A950
           clear A950
           replace H := Option.bind_eq_some_iff.mp H
           obtain ⟨t209, A960, H⟩ := H
           replace H : (if t209 < 0 then (some false) else (if t209 = t207 then ((laws_toByteS.f kj69 l0).bind fun t210 => ((laws_toFrame.f kj69 a2_0 a2_1 a2_2 l2_3).bind fun bt213 => ((impl_Reply.f t210 a1 bt213.1 bt213.2.1 bt213.2.2.1 bt213.2.2.2).bind fun bt219 => ((laws_eqFrame.f kj69 bt219.1 bt219.2.1 bt219.2.2.1 bt219.2.2.2.1 t164 t165 t166 t167).bind fun t227 => (if t227 = true then (laws_FnExactReply.j2 kj69 t207 (bt219.2.2.2.2 != t170) t182 t183 t184 t208) else (laws_FnExactReply.j2 kj69 t207 true t182 t183 t184 t208)))))) else (some false))) = some true := H
           have A96 := Aside0.mk A960
           clear A960
           by_cases c97 : t209 < 0
           ·rw [if_pos c97] at H
            have c97b0 : decide (t209 < 0) = true := decide_eq_true c97
            clear c97
            exact absurd H (by simp)
           ·rw [if_neg c97] at H
            have c97b0 : decide (t209 < 0) = false := decide_eq_false c97
            clear c97
            by_cases c98 : t209 = t207
            ·rw [if_pos c98] at H
             have c98b0 : (t209 == t207) = true := beq_iff_eq.mpr c98
             have c98b1 : (t209 != t207) = false := bne_eq_false_iff_eq.mpr c98
             clear c98
             replace H := Option.bind_eq_some_iff.mp H
             obtain ⟨t210, A990, H⟩ := H
             replace H : ((laws_toFrame.f kj69 a2_0 a2_1 a2_2 l2_3).bind fun bt213 => ((impl_Reply.f t210 a1 bt213.1 bt213.2.1 bt213.2.2.1 bt213.2.2.2).bind fun bt219 => ((laws_eqFrame.f kj69 bt219.1 bt219.2.1 bt219.2.2.1 bt219.2.2.2.1 t164 t165 t166 t167).bind fun t227 => (if t227 = true then (laws_FnExactReply.j2 kj69 t207 (bt219.2.2.2.2 != t170) t182 t183 t184 t208) else (laws_FnExactReply.j2 kj69 t207 true t182 t183 t184 t208))))) = some true := H
             have A99 := Aside0.mk A990
             clear A990
             replace H := Option.bind_eq_some_iff.mp H
             obtain ⟨⟨t213, t214, t215, t216⟩, A1000, H⟩ := H
             replace H : ((impl_Reply.f t210 a1 t213 t214 t215 t216).bind fun bt219 => ((laws_eqFrame.f kj69 bt219.1 bt219.2.1 bt219.2.2.1 bt219.2.2.2.1 t164 t165 t166 t167).bind fun t227 => (if t227 = true then (laws_FnExactReply.j2 kj69 t207 (bt219.2.2.2.2 != t170) t182 t183 t184 t208) else (laws_FnExactReply.j2 kj69 t207 true t182 t183 t184 t208)))) = some true := H
             have A100 := Aside0.mk A1000
             clear A1000
             replace H := Option.bind_eq_some_iff.mp H
             obtain ⟨⟨t219, t220, t221, t222, t225⟩, A1010, H⟩ := H
             replace H : ((laws_eqFrame.f kj69 t219 t220 t221 t222 t164 t165 t166 t167).bind fun t227 => (if t227 = true then (laws_FnExactReply.j2 kj69 t207 (t225 != t170) t182 t183 t184 t208) else (laws_FnExactReply.j2 kj69 t207 true t182 t183 t184 t208))) = some true := H
             have A101 := Aside0.mk A1010
             clear A1010
             have HC102 := Aside0.mk H
             clear H
             have hnb103 := NB189_153.out
             have hnc103 := NB153_189.out
             have hnb104 := NB189_171.out
             have hnc104 := NB171_189.out
             have hnb105 := NB189_181.out
             have hnc105 := NB181_189.out
             have hcz106_0 : wc.cell? ⟨gb189, 0, none⟩ = some (.int .i64 t182) := (blk_cell BK189.out 0).trans rfl
             have hcz106_1 : wc.cell? ⟨gb189, 1, none⟩ = some (.int .i64 t183) := (blk_cell BK189.out 1).trans rfl
             have hcz106_2 : wc.cell? ⟨gb189, 2, none⟩ = some (.int .i64 t184) := (blk_cell BK189.out 2).trans rfl
             have hcz106_3 : wc.cell? ⟨gb189, 3, none⟩ = some (.slice Ao50 t185.length co50) := (blk_cell BK189.out 3).trans rfl
             have hfz106_0 := blk_frozen BK189.out 0
             have hfz106_1 := blk_frozen BK189.out 1
             have hfz106_2 := blk_frozen BK189.out 2
             have hfz106_3 := blk_frozen BK189.out 3
             try go_wp2_with (first | ((with_reducible refine gate_callee (f := 58) rfl ?_); refine goesL_ (some 87) rfl rfl Try.func58 (by kernel_rfl) rfl #[.agg #[.int .i64 t182, .int .i64 t183, .int .i64 t184, .slice Ao50 t185.length co50], .int .i64 1] rfl (by (try simp only [List.map_toArray, List.map_cons, List.map_nil]); first | done | rfl | (simp only [List.length_drop, List.length_take]; rfl)) ?_; (with_reducible refine (laws_markFrame.calls kj69 t182 t183 t184 (fun k_ => some k_ = (.slice Ao50 t185.length co50 : Value).ownBlock) (.slice Ao50 t185.length co50) t185 1 t207 t208 w _ ?side1 ?side2 A95.out).mono ?_); (case side1 => repeat (first | (with_reducible first | exact HB.out | apply below_alloc | apply pw_below_drewN | apply below_drew1 | refine below_set ?_ GE153.out | refine below_set ?_ GE171.out | refine below_set ?_ GE181.out | refine below_set ?_ GE189.out) | exact HB.out)); (case side2 => exact Kd.R_tight rfl HO_190003.out); rintro e w107 ⟨rfl, hy0, hb, hkp⟩; refine ⟨_, rfl, ?_⟩; have n0_ := am (Kd.R_mono (ok' := fun k_ => some k_ ≠ (.slice Ao42 t205.length co42 : Value).ownBlock ∧ some k_ ≠ (.slice Ao50 t185.length co50 : Value).ownBlock) (Kd.R_keptB (HO_172003.out) hkp (fun k_ hk_ hs_ => (hk_.2) hs_)) (fun k_ hk_ => ⟨hk_.1.1, hk_.1.2⟩)); have n1_ := am (Kd.R_mono (ok' := fun k_ => some k_ ≠ (.slice Ao32 t167.length co32 : Value).ownBlock ∧ some k_ ≠ (.slice Ao50 t185.length co50 : Value).ownBlock) (Kd.R_keptB (HO_182003.out) hkp (fun k_ hk_ hs_ => (hk_.2) hs_)) (fun k_ hk_ => ⟨hk_.1.1, hk_.1.2⟩)); have n2_ := am (Kd.R_reok rfl hy0 (fun k_ e_ => HO_190003.out.1 k_ e_)); have n3_ := am (blk_kept (by (with_reducible repeat (first | refine blk_drewN ?_ _ | refine blk_drew ?_ | refine blk_alloc ?_ _)); exact BK153.out) hkp (fun hs_ => (fun e_ => (Kd.R_ne HO_190003.out BK153.out (by decide)) e_) hs_)); have n4_ := am (blk_kept (by (with_reducible repeat (first | refine blk_drewN ?_ _ | refine blk_drew ?_ | refine blk_alloc ?_ _)); exact BK171.out) hkp (fun hs_ => (fun e_ => (Kd.R_ne HO_190003.out BK171.out (by decide)) e_) hs_)); have n5_ := am (blk_kept (by (with_reducible repeat (first | refine blk_drewN ?_ _ | refine blk_drew ?_ | refine blk_alloc ?_ _)); exact BK181.out) hkp (fun hs_ => (fun e_ => (Kd.R_ne HO_190003.out BK181.out (by decide)) e_) hs_)); have n6_ := am (blk_kept (by (with_reducible repeat (first | refine blk_drewN ?_ _ | refine blk_drew ?_ | refine blk_alloc ?_ _)); exact BK189.out) hkp (fun hs_ => (fun e_ => (Kd.R_ne HO_190003.out BK189.out (by decide)) e_) hs_)); have n7_ := am (hb); clear HO_172003; clear HO_182003; clear HO_190003; clear BK153; clear BK171; clear BK181; clear BK189; clear HB; have HO_172003 := n0_; have HO_182003 := n1_; have HO_190003 := n2_; have BK153 := n3_; have BK171 := n4_; have BK181 := n5_; have BK189 := n6_; have HB := n7_; clear n0_ n1_ n2_ n3_ n4_ n5_ n6_ n7_; (try clear hb); (try clear hkp); (try clear hy0); have hcz108_0 : w107.cell? ⟨gb189, 0, none⟩ = some (.int .i64 t182) := (blk_cell BK189.out 0).trans rfl; have hcz108_1 : w107.cell? ⟨gb189, 1, none⟩ = some (.int .i64 t183) := (blk_cell BK189.out 1).trans rfl; have hcz108_2 : w107.cell? ⟨gb189, 2, none⟩ = some (.int .i64 t184) := (blk_cell BK189.out 2).trans rfl; have hcz108_3 : w107.cell? ⟨gb189, 3, none⟩ = some (.slice Ao50 t185.length co50) := (blk_cell BK189.out 3).trans rfl; have hfz108_0 := blk_frozen BK189.out 0; have hfz108_1 := blk_frozen BK189.out 1; have hfz108_2 := blk_frozen BK189.out 2; have hfz108_3 := blk_frozen BK189.out 3) | ((with_reducible refine gate_callee (f := 59) rfl ?_); refine goesL_ (some 90) rfl rfl Try.func59 (by kernel_rfl) rfl #[.agg #[.int .i64 t182, .int .i64 t183, .int .i64 t184, .slice Ao50 t208.length co50], .int .i64 1] rfl (by (try simp only [List.map_toArray, List.map_cons, List.map_nil]); first | done | (rw [show t208.length = t185.length from (Kd.R_reads' HO_190003.out).1.symm] <;> rfl) | rfl | (simp only [List.length_drop, List.length_take]; rfl)) ?_; (with_reducible refine (laws_heldFrame.calls kj69 t182 t183 t184 _ _ t208 1 t209 _ ?side1 ?side2 A96.out).mono ?_); (case side1 => repeat (first | exact (Kd.R_reads' HO_190003.out).2.2 | (with_reducible refine Kd.C_alloc ?_ _) | (with_reducible refine Kd.C_drewN ?_ _) | (with_reducible refine Kd.C_drew ?_))); (case side2 => rw [show t208.length = t185.length from (Kd.R_reads' HO_190003.out).1.symm]; exact (Kd.R_reads' HO_190003.out).2.1); rintro e w109 ⟨rfl, hb⟩; refine ⟨_, rfl, ?_⟩; have n0_ := am (shR HO_172003.out hb); have n1_ := am (shR HO_182003.out hb); have n2_ := am (shR HO_190003.out hb); have n3_ := am (shBK BK153.out hb); have n4_ := am (shBK BK171.out hb); have n5_ := am (shBK BK181.out hb); have n6_ := am (shBK BK189.out hb); have n7_ := am (shHB HB.out hb); clear HO_172003; clear HO_182003; clear HO_190003; clear BK153; clear BK171; clear BK181; clear BK189; clear HB; have HO_172003 := n0_; have HO_182003 := n1_; have HO_190003 := n2_; have BK153 := n3_; have BK171 := n4_; have BK181 := n5_; have BK189 := n6_; have HB := n7_; clear n0_ n1_ n2_ n3_ n4_ n5_ n6_ n7_; (try clear hb); (try clear hb2); (try clear hk); (try clear hi)))
             have n0_ := am (Kd.R_drew HO_172003.out)
             have n1_ := am (Kd.R_drew HO_182003.out)
             have n2_ := am (Kd.R_drew HO_190003.out)
             have n3_ := am (blk_drew BK153.out)
             have n4_ := am (blk_drew BK171.out)
             have n5_ := am (blk_drew BK181.out)
             have n6_ := am (blk_drew BK189.out)
             have n7_ := am (below_drew1 HB.out)
             clear HO_172003
             clear HO_182003
             clear HO_190003
             clear BK153
             clear BK171
             clear BK181
             clear BK189
             clear HB
             have HO_172003 := n0_
             have HO_182003 := n1_
             have HO_190003 := n2_
             have BK153 := n3_
             have BK171 := n4_
             have BK181 := n5_
             have BK189 := n6_
             have HB := n7_
             clear n0_ n1_ n2_ n3_ n4_ n5_ n6_ n7_
             refine start_ (n := 12) (S := fun w' => w'.cell? ⟨gb153, 0, none⟩ = some (.int .i64 a2_0) ∧ w'.cell? ⟨gb153, 1, none⟩ = some (.int .i64 a2_1) ∧ w'.cell? ⟨gb153, 2, none⟩ = some (.int .i64 a2_2) ∧ w'.cell? ⟨gb153, 3, none⟩ = some (.slice A2_3 l2_3.length c2_3)) (ds := []) #[false, false, false, false, false, false, false, false, false, false, false, false] (by kernel_rfl) rfl rfl ⟨(blk_cell BK153.out 0).trans rfl, (blk_cell BK153.out 1).trans rfl, (blk_cell BK153.out 2).trans rfl, (blk_cell BK153.out 3).trans rfl⟩ (fun hHeld => ?_); refine with_tabW laws_FnExactReply.tab30 laws_FnExactReply.bits30 (fun HT_ HW_ => ?_)
             generalize w109.drew = w110 at HO_172003 HO_182003 HO_190003 BK153 BK171 BK181 BK189 HB hHeld ⊢
             refine pure_ (i := 0) (N := some 97) (v := ?_) (a' := ?_) #[true, false, false, false, false, false, false, false, false, false, false, false] rfl rfl (any_of HT_.out (by kernel_rfl)) (fun _ _ _ h => h) (Or.inl ⟨by rfl, ?_⟩) ?_ ?_
             rotate_left
             ·intro w'
              go_simp
              with_reducible rfl
             rotate_left
             ·simp only [Act.put, List.setIfInBounds_toArray, List.set_cons_zero, List.set_cons_succ, i64_w, i32_w]
              rfl
             refine pure_ (i := 2) (N := some 99) (v := ?_) (a' := ?_) #[true, false, true, false, false, false, false, false, false, false, false, false] rfl rfl (any_of HT_.out (by kernel_rfl)) (fun _ _ _ h => h) (Or.inl ⟨by rfl, ?_⟩) ?_ ?_
             rotate_left
             ·intro w'
              go_simp
              with_reducible rfl
             rotate_left
             ·simp only [Act.put, List.setIfInBounds_toArray, List.set_cons_zero, List.set_cons_succ, i64_w, i32_w]
              rfl
             refine take_ (i := 3) (N := some 100) (v := ?_) (a' := ?_) #[true, false, true, true, false, false, false, false, false, false, false, false] rfl rfl (take_ofW HT_.out HW_.out (by kernel_rfl)) (fun _ _ _ h => h) (Or.inl ⟨by rfl, ?_⟩) hHeld ?_ ?_
             rotate_left
             ·rintro w' ⟨s0, s1, s2, s3⟩
              go_simp
              with_reducible rfl
             rotate_left
             ·simp only [Act.put, List.setIfInBounds_toArray, List.set_cons_zero, List.set_cons_succ, i64_w, i32_w]
              rfl
             refine join_ (σ := Value × Value × Value × Nat) 2 #[true, true, true, true, true, true, true, true, true, true, false, false] (fun s_ => [(98, s_.1), (101, .agg #[.int .i64 t213, .int .i64 t214, .int .i64 t215, s_.2.1]), (102, .tuple #[.agg #[.int .i64 t219, .int .i64 t220, .int .i64 t221, s_.2.2.1], .bool t225]), (17, .pointer (some ⟨s_.2.2.2, 0, none⟩)), (96, .tuple #[.agg #[.int .i64 t219, .int .i64 t220, .int .i64 t221, s_.2.2.1], .bool t225]), (103, .agg #[.int .i64 t219, .int .i64 t220, .int .i64 t221, s_.2.2.1]), (104, .bool t225)]) (fun s_ w' => (w'.cell? ⟨gb153, 0, none⟩ = some (.int .i64 a2_0) ∧ w'.cell? ⟨gb153, 1, none⟩ = some (.int .i64 a2_1) ∧ w'.cell? ⟨gb153, 2, none⟩ = some (.int .i64 a2_2) ∧ w'.cell? ⟨gb153, 3, none⟩ = some (.slice A2_3 l2_3.length c2_3)) ∧ (Kd.R (Kd.int .u8) 5 w' w.heap.size (fun k_ => some k_ ≠ (s_.2.1 : Value).ownBlock ∧ some k_ ≠ (s_.2.2.1 : Value).ownBlock ∧ some k_ ≠ (.slice Ao32 t167.length co32 : Value).ownBlock ∧ some k_ ≠ (.slice Ao42 t205.length co42 : Value).ownBlock ∧ some k_ ≠ (.slice Ao50 t185.length co50 : Value).ownBlock) s_.1 t210) ∧ (Kd.R (Kd.int .u8) 5 w' w.heap.size (fun k_ => some k_ ≠ (s_.1 : Value).ownBlock ∧ some k_ ≠ (s_.2.2.1 : Value).ownBlock ∧ some k_ ≠ (.slice Ao32 t167.length co32 : Value).ownBlock ∧ some k_ ≠ (.slice Ao42 t205.length co42 : Value).ownBlock ∧ some k_ ≠ (.slice Ao50 t185.length co50 : Value).ownBlock) s_.2.1 t216) ∧ (Kd.R (Kd.int .u8) 5 w' w.heap.size (fun k_ => some k_ ≠ (s_.1 : Value).ownBlock ∧ some k_ ≠ (s_.2.1 : Value).ownBlock ∧ some k_ ≠ (.slice Ao32 t167.length co32 : Value).ownBlock ∧ some k_ ≠ (.slice Ao42 t205.length co42 : Value).ownBlock ∧ some k_ ≠ (.slice Ao50 t185.length co50 : Value).ownBlock) s_.2.2.1 t222) ∧ (Kd.R (Kd.int .u8) 5 w' w.heap.size (fun k_ => some k_ ≠ (s_.1 : Value).ownBlock ∧ some k_ ≠ (s_.2.1 : Value).ownBlock ∧ some k_ ≠ (s_.2.2.1 : Value).ownBlock ∧ some k_ ≠ (.slice Ao42 t205.length co42 : Value).ownBlock ∧ some k_ ≠ (.slice Ao50 t185.length co50 : Value).ownBlock) (.slice Ao32 t167.length co32) t167) ∧ (Kd.R (Kd.int .u8) 5 w' w.heap.size (fun k_ => some k_ ≠ (s_.1 : Value).ownBlock ∧ some k_ ≠ (s_.2.1 : Value).ownBlock ∧ some k_ ≠ (s_.2.2.1 : Value).ownBlock ∧ some k_ ≠ (.slice Ao32 t167.length co32 : Value).ownBlock ∧ some k_ ≠ (.slice Ao50 t185.length co50 : Value).ownBlock) (.slice Ao42 t205.length co42) t205) ∧ (Kd.R (Kd.int .u8) 5 w' w.heap.size (fun k_ => some k_ ≠ (s_.1 : Value).ownBlock ∧ some k_ ≠ (s_.2.1 : Value).ownBlock ∧ some k_ ≠ (s_.2.2.1 : Value).ownBlock ∧ some k_ ≠ (.slice Ao32 t167.length co32 : Value).ownBlock ∧ some k_ ≠ (.slice Ao42 t205.length co42 : Value).ownBlock) (.slice Ao50 t185.length co50) t208) ∧ (w'.heap[gb153]? = some (.cells #[.int .i64 a2_0, .int .i64 a2_1, .int .i64 a2_2, .slice A2_3 l2_3.length c2_3] 38 (0, 0))) ∧ (w'.heap[gb171]? = some (.cells #[.int .i64 t164, .int .i64 t165, .int .i64 t166, .slice Ao32 t167.length co32] 41 (0, 0))) ∧ (w'.heap[gb181]? = some (.cells #[.int .i64 t175, .int .i64 t176, .int .i64 t177, .slice Ao42 t205.length co42] 41 (0, 0))) ∧ (w'.heap[gb189]? = some (.cells #[.int .i64 t182, .int .i64 t183, .int .i64 t184, .slice Ao50 t185.length co50] 41 (0, 0))) ∧ (w'.heap[s_.2.2.2]? = some (.cells #[.int .i64 0, .int .i64 0, .int .i64 0, .slice none 0 0] 41 (0, 0))) ∧ (w.heap.size ≤ s_.2.2.2) ∧ (w.heap.size ≤ s_.2.2.2) ∧ (gb153 ≠ s_.2.2.2) ∧ (s_.2.2.2 ≠ gb153) ∧ (gb171 ≠ s_.2.2.2) ∧ (s_.2.2.2 ≠ gb171) ∧ (gb181 ≠ s_.2.2.2) ∧ (s_.2.2.2 ≠ gb181) ∧ (gb189 ≠ s_.2.2.2) ∧ (s_.2.2.2 ≠ gb189) ∧ (Below w.heap.size w w')) ?_ ?_
             rotate_left
             ·intro hCont
              refine two_ (i := 1) (j := 9) (Ni := some 98) (Nj := some 17) #[true, true, true, true, false, false, false, false, false, false, false, false] #[true, false, true, true, false, false, false, false, false, true, false, false] rfl rfl rfl rfl (two_of HT_.out (by kernel_rfl)) (by decide) (by decide) (fun K hK => ?_) (fun K hK => ?_)
              ·skip
               refine goes_ Try.func56 (by kernel_rfl) rfl #[.slice A0 l0.length c0] (by rfl) rfl rfl (by (try simp only [List.map_toArray, List.map_cons, List.map_nil]); first | done | rfl | (simp only [List.length_drop, List.length_take]; rfl)) ?_
               with_reducible refine (laws_toByteS.calls kj69 _ _ l0 t210 _ ?side1 ?side2 A99.out).mono ?_
               (case side1 => repeat (first | exact (Kd.C_below HR0.out HB.out) | (with_reducible refine Kd.C_alloc ?_ _) | (with_reducible refine Kd.C_drewN ?_ _) | (with_reducible refine Kd.C_drew ?_)))
               (case side2 => exact HC0.out)
               rintro e w111 ⟨v211, rfl, ho0, hb⟩
               refine ⟨_, rfl, ?_⟩
               have n0_ := am (shRE HO_172003.out (Kd.R_base ho0) hb)
               have n1_ := am (shRE HO_182003.out (Kd.R_base ho0) hb)
               have n2_ := am (shRE HO_190003.out (Kd.R_base ho0) hb)
               have n3_ := am (Kd.R_lower (Kd.R_new' (Kd.R_new' (Kd.R_new' ho0 (shLT HO_172003.out)) (shLT HO_182003.out)) (shLT HO_190003.out)) (below_size (by repeat (first | (with_reducible first | exact HB.out | apply below_alloc | apply pw_below_drewN | apply below_drew1 | refine below_set ?_ GE153.out | refine below_set ?_ GE171.out | refine below_set ?_ GE181.out | refine below_set ?_ GE189.out) | exact HB.out))))
               have n4_ := am (shBK BK153.out hb)
               have n5_ := am (shBK BK171.out hb)
               have n6_ := am (shBK BK181.out hb)
               have n7_ := am (shBK BK189.out hb)
               have n8_ := am (shHB HB.out hb)
               clear HO_172003
               clear HO_182003
               clear HO_190003
               clear BK153
               clear BK171
               clear BK181
               clear BK189
               clear HB
               have HO_172003 := n0_
               have HO_182003 := n1_
               have HO_190003 := n2_
               have HO212 := n3_
               have BK153 := n4_
               have BK171 := n5_
               have BK181 := n6_
               have BK189 := n7_
               have HB := n8_
               clear n0_ n1_ n2_ n3_ n4_ n5_ n6_ n7_ n8_
               (try clear hb)
               (try clear hb2)
               (try clear hk)
               (try clear hi)
               (try clear ho0)
               refine hK.out _ _ ⟨(blk_cell BK153.out 0).trans rfl, (blk_cell BK153.out 1).trans rfl, (blk_cell BK153.out 2).trans rfl, (blk_cell BK153.out 3).trans rfl⟩ (fun hHeld => ?_)
               clear hK K
               refine norm_ (a' := ?_) ?_ ?_
               rotate_left
               ·show Act.put _ (some 98) _ = _
                simp only [Act.put, List.setIfInBounds_toArray, List.set_cons_zero, List.set_cons_succ, i64_w, i32_w]
                rfl
               refine two_ (i := 4) (j := 9) (Ni := some 101) (Nj := some 17) #[true, true, true, true, true, false, false, false, false, false, false, false] #[true, true, true, true, false, false, false, false, false, true, false, false] rfl rfl rfl rfl (two_of HT_.out (by kernel_rfl)) (by decide) (by decide) (fun K hK => ?_) (fun K hK => ?_)
               ·skip
                refine goes_ Try.func24 (by kernel_rfl) rfl #[.agg #[.int .i64 a2_0, .int .i64 a2_1, .int .i64 a2_2, .slice A2_3 l2_3.length c2_3]] (by rfl) rfl rfl (by (try simp only [List.map_toArray, List.map_cons, List.map_nil]); first | done | rfl | (simp only [List.length_drop, List.length_take]; rfl)) ?_
                with_reducible refine (laws_toFrame.calls kj69 a2_0 a2_1 a2_2 _ _ l2_3 t213 t214 t215 t216 _ ?side1 ?side2 A100.out).mono ?_
                (case side1 => repeat (first | exact (Kd.C_below HR2_3.out HB.out) | (with_reducible refine Kd.C_alloc ?_ _) | (with_reducible refine Kd.C_drewN ?_ _) | (with_reducible refine Kd.C_drew ?_)))
                (case side2 => exact HC2_3.out)
                rintro e w112 ⟨v217, rfl, ho0, hb⟩
                refine ⟨_, rfl, ?_⟩
                have n0_ := am (shRE HO_172003.out (Kd.R_base ho0) hb)
                have n1_ := am (shRE HO_182003.out (Kd.R_base ho0) hb)
                have n2_ := am (shRE HO_190003.out (Kd.R_base ho0) hb)
                have n3_ := am (shRE HO212.out (Kd.R_base ho0) hb)
                have n4_ := am (Kd.R_lower (Kd.R_new' (Kd.R_new' (Kd.R_new' (Kd.R_new' ho0 (shLT HO_172003.out)) (shLT HO_182003.out)) (shLT HO_190003.out)) (shLT HO212.out)) (below_size (by repeat (first | (with_reducible first | exact HB.out | apply below_alloc | apply pw_below_drewN | apply below_drew1 | refine below_set ?_ GE153.out | refine below_set ?_ GE171.out | refine below_set ?_ GE181.out | refine below_set ?_ GE189.out) | exact HB.out))))
                have n5_ := am (shBK BK153.out hb)
                have n6_ := am (shBK BK171.out hb)
                have n7_ := am (shBK BK181.out hb)
                have n8_ := am (shBK BK189.out hb)
                have n9_ := am (shHB HB.out hb)
                clear HO_172003
                clear HO_182003
                clear HO_190003
                clear HO212
                clear BK153
                clear BK171
                clear BK181
                clear BK189
                clear HB
                have HO_172003 := n0_
                have HO_182003 := n1_
                have HO_190003 := n2_
                have HO212 := n3_
                have HO218 := n4_
                have BK153 := n5_
                have BK171 := n6_
                have BK181 := n7_
                have BK189 := n8_
                have HB := n9_
                clear n0_ n1_ n2_ n3_ n4_ n5_ n6_ n7_ n8_ n9_
                (try clear hb)
                (try clear hb2)
                (try clear hk)
                (try clear hi)
                (try clear ho0)
                obtain ⟨Ao113, co113, eo113⟩ := Kd.R_slice HO212.out
                (first | subst eo113 | (injection eo113 with f1_ f2_ f3_; have f4_ := f1_.symm; have f5_ := f3_.symm; clear f1_ f2_ f3_; subst f4_; subst f5_))
                obtain ⟨Ao114, co114, eo114⟩ := Kd.R_slice HO218.out
                (first | subst eo114 | (injection eo114 with f1_ f2_ f3_; have f4_ := f1_.symm; have f5_ := f3_.symm; clear f1_ f2_ f3_; subst f4_; subst f5_))
                refine hK.out _ _ ⟨(blk_cell BK153.out 0).trans rfl, (blk_cell BK153.out 1).trans rfl, (blk_cell BK153.out 2).trans rfl, (blk_cell BK153.out 3).trans rfl⟩ (fun hHeld => ?_)
                clear hK K
                refine norm_ (a' := ?_) ?_ ?_
                rotate_left
                ·show Act.put _ (some 101) _ = _
                 simp only [Act.put, List.setIfInBounds_toArray, List.set_cons_zero, List.set_cons_succ, i64_w, i32_w]
                 rfl
                refine two_ (i := 5) (j := 9) (Ni := some 102) (Nj := some 17) #[true, true, true, true, true, true, false, false, false, false, false, false] #[true, true, true, true, true, false, false, false, false, true, false, false] rfl rfl rfl rfl (two_of HT_.out (by kernel_rfl)) (by decide) (by decide) (fun K hK => ?_) (fun K hK => ?_)
                ·skip
                 refine goes_ Try.func57 (by kernel_rfl) rfl #[.slice Ao113 t210.length co113, .int .i64 a1, .agg #[.int .i64 t213, .int .i64 t214, .int .i64 t215, .slice Ao114 t216.length co114]] (by rfl) rfl rfl (by (try simp only [List.map_toArray, List.map_cons, List.map_nil]); first | done | rfl | (simp only [List.length_drop, List.length_take]; rfl)) ?_
                 with_reducible refine (impl_Reply.calls _ _ t210 a1 t213 t214 t215 _ _ t216 t219 t220 t221 t222 t225 _ ?side1 ?side2 ?side3 ?side4 A101.out).mono ?_
                 (case side1 => repeat (first | exact (Kd.R_reads' HO212.out).2.2 | (with_reducible refine Kd.C_alloc ?_ _) | (with_reducible refine Kd.C_drewN ?_ _) | (with_reducible refine Kd.C_drew ?_)))
                 (case side2 => exact (Kd.R_reads' HO212.out).2.1)
                 (case side3 => repeat (first | exact (Kd.R_reads' HO218.out).2.2 | (with_reducible refine Kd.C_alloc ?_ _) | (with_reducible refine Kd.C_drewN ?_ _) | (with_reducible refine Kd.C_drew ?_)))
                 (case side4 => exact (Kd.R_reads' HO218.out).2.1)
                 rintro e w115 ⟨v223, rfl, ho0, hb⟩
                 refine ⟨_, rfl, ?_⟩
                 have n0_ := am (shRE HO_172003.out (Kd.R_base ho0) hb)
                 have n1_ := am (shRE HO_182003.out (Kd.R_base ho0) hb)
                 have n2_ := am (shRE HO_190003.out (Kd.R_base ho0) hb)
                 have n3_ := am (shRE HO212.out (Kd.R_base ho0) hb)
                 have n4_ := am (shRE HO218.out (Kd.R_base ho0) hb)
                 have n5_ := am (Kd.R_lower (Kd.R_new' (Kd.R_new' (Kd.R_new' (Kd.R_new' (Kd.R_new' ho0 (shLT HO_172003.out)) (shLT HO_182003.out)) (shLT HO_190003.out)) (shLT HO212.out)) (shLT HO218.out)) (below_size (by repeat (first | (with_reducible first | exact HB.out | apply below_alloc | apply pw_below_drewN | apply below_drew1 | refine below_set ?_ GE153.out | refine below_set ?_ GE171.out | refine below_set ?_ GE181.out | refine below_set ?_ GE189.out) | exact HB.out))))
                 have n6_ := am (shBK BK153.out hb)
                 have n7_ := am (shBK BK171.out hb)
                 have n8_ := am (shBK BK181.out hb)
                 have n9_ := am (shBK BK189.out hb)
                 have n10_ := am (shHB HB.out hb)
                 clear HO_172003
                 clear HO_182003
                 clear HO_190003
                 clear HO212
                 clear HO218
                 clear BK153
                 clear BK171
                 clear BK181
                 clear BK189
                 clear HB
                 have HO_172003 := n0_
                 have HO_182003 := n1_
                 have HO_190003 := n2_
                 have HO212 := n3_
                 have HO218 := n4_
                 have HO224 := n5_
                 have BK153 := n6_
                 have BK171 := n7_
                 have BK181 := n8_
                 have BK189 := n9_
                 have HB := n10_
                 clear n0_ n1_ n2_ n3_ n4_ n5_ n6_ n7_ n8_ n9_ n10_
                 (try clear hb)
                 (try clear hb2)
                 (try clear hk)
                 (try clear hi)
                 (try clear ho0)
                 refine hK.out _ _ ⟨(blk_cell BK153.out 0).trans rfl, (blk_cell BK153.out 1).trans rfl, (blk_cell BK153.out 2).trans rfl, (blk_cell BK153.out 3).trans rfl⟩ (fun hHeld => ?_)
                 clear hK K
                 refine norm_ (a' := ?_) ?_ ?_
                 rotate_left
                 ·show Act.put _ (some 102) _ = _
                  simp only [Act.put, List.setIfInBounds_toArray, List.set_cons_zero, List.set_cons_succ, i64_w, i32_w]
                  rfl
                 refine pure_ (i := 6) (N := some 96) (v := ?_) (a' := ?_) #[true, true, true, true, true, true, true, false, false, false, false, false] rfl rfl (any_of HT_.out (by kernel_rfl)) (fun _ _ _ h => h) (Or.inl ⟨by rfl, ?_⟩) ?_ ?_
                 rotate_left
                 ·intro w'
                  go_simp
                  with_reducible rfl
                 rotate_left
                 ·simp only [Act.put, List.setIfInBounds_toArray, List.set_cons_zero, List.set_cons_succ, i64_w, i32_w]
                  rfl
                 refine pure_ (i := 7) (N := some 103) (v := ?_) (a' := ?_) #[true, true, true, true, true, true, true, true, false, false, false, false] rfl rfl (any_of HT_.out (by kernel_rfl)) (fun _ _ _ h => h) (Or.inl ⟨by rfl, ?_⟩) ?_ ?_
                 rotate_left
                 ·intro w'
                  go_simp
                  with_reducible rfl
                 rotate_left
                 ·simp only [Act.put, List.setIfInBounds_toArray, List.set_cons_zero, List.set_cons_succ, i64_w, i32_w]
                  rfl
                 refine pure_ (i := 8) (N := some 104) (v := ?_) (a' := ?_) #[true, true, true, true, true, true, true, true, true, false, false, false] rfl rfl (any_of HT_.out (by kernel_rfl)) (fun _ _ _ h => h) (Or.inl ⟨by rfl, ?_⟩) ?_ ?_
                 rotate_left
                 ·intro w'
                  go_simp
                  with_reducible rfl
                 rotate_left
                 ·simp only [Act.put, List.setIfInBounds_toArray, List.set_cons_zero, List.set_cons_succ, i64_w, i32_w]
                  rfl
                 refine one_ (i := 9) (N := some 17) #[true, true, true, true, true, true, true, true, true, true, false, false] rfl rfl (one_of HT_.out (by kernel_rfl)) (by decide) (fun K hK => ?_)
                 refine box_step ?hg (N := 17) ?hd (cs := #[.int .i64 0, .int .i64 0, .int .i64 0, .slice none 0 0]) (t := 41) ?hr ?_; (case hd => rfl); (case hg => rfl); (case hr => first | (go_simp; done) | (go_simp; rfl))
                 intro gb226 hg w116 hbox hb
                 have n0_ := am (shR HO_172003.out hb)
                 have n1_ := am (shR HO_182003.out hb)
                 have n2_ := am (shR HO_190003.out hb)
                 have n3_ := am (shR HO212.out hb)
                 have n4_ := am (shR HO218.out hb)
                 have n5_ := am (shR HO224.out hb)
                 have n6_ := am (shBK BK153.out hb)
                 have n7_ := am (shBK BK171.out hb)
                 have n8_ := am (shBK BK181.out hb)
                 have n9_ := am (shBK BK189.out hb)
                 have n10_ := am (shHB HB.out hb)
                 have n11_ := am (hbox)
                 have n12_ := am ((shGE HB.out hg : w.heap.size ≤ gb226))
                 have n13_ := am ((shGE HB.out hg : w.heap.size ≤ gb226))
                 have n14_ := am ((shNB BK153.out hg : gb153 ≠ gb226))
                 have n15_ := am ((shNC BK153.out hg : gb226 ≠ gb153))
                 have n16_ := am ((shNB BK171.out hg : gb171 ≠ gb226))
                 have n17_ := am ((shNC BK171.out hg : gb226 ≠ gb171))
                 have n18_ := am ((shNB BK181.out hg : gb181 ≠ gb226))
                 have n19_ := am ((shNC BK181.out hg : gb226 ≠ gb181))
                 have n20_ := am ((shNB BK189.out hg : gb189 ≠ gb226))
                 have n21_ := am ((shNC BK189.out hg : gb226 ≠ gb189))
                 clear HO_172003
                 clear HO_182003
                 clear HO_190003
                 clear HO212
                 clear HO218
                 clear HO224
                 clear BK153
                 clear BK171
                 clear BK181
                 clear BK189
                 clear HB
                 have HO_172003 := n0_
                 have HO_182003 := n1_
                 have HO_190003 := n2_
                 have HO212 := n3_
                 have HO218 := n4_
                 have HO224 := n5_
                 have BK153 := n6_
                 have BK171 := n7_
                 have BK181 := n8_
                 have BK189 := n9_
                 have HB := n10_
                 have BK226 := n11_
                 have GW226 := n12_
                 have GE226 := n13_
                 have NB153_226 := n14_
                 have NB226_153 := n15_
                 have NB171_226 := n16_
                 have NB226_171 := n17_
                 have NB181_226 := n18_
                 have NB226_181 := n19_
                 have NB189_226 := n20_
                 have NB226_189 := n21_
                 clear n0_ n1_ n2_ n3_ n4_ n5_ n6_ n7_ n8_ n9_ n10_ n11_ n12_ n13_ n14_ n15_ n16_ n17_ n18_ n19_ n20_ n21_
                 clear hb hbox hg
                 refine hK.out _ _ ⟨(blk_cell BK153.out 0).trans rfl, (blk_cell BK153.out 1).trans rfl, (blk_cell BK153.out 2).trans rfl, (blk_cell BK153.out 3).trans rfl⟩ (fun hHeld => ?_)
                 clear hK K
                 refine norm_ (a' := ?_) ?_ ?_
                 rotate_left
                 ·show Act.put _ (some 17) _ = _
                  simp only [Act.put, List.setIfInBounds_toArray, List.set_cons_zero, List.set_cons_succ, i64_w, i32_w]
                  rfl
                 exact norm_ (by simp only [putAll, Act.put, List.setIfInBounds_toArray, List.set_cons_zero, List.set_cons_succ]) (hCont (.slice Ao113 t210.length co113, .slice Ao114 t216.length co114, v223, gb226) _ ⟨hHeld, (by (with_reducible repeat (first | apply Kd.R_alloc | apply Kd.R_drewN | apply Kd.R_drew)); exact Kd.R_mono HO212.out (fun _ hk => ⟨hk.1.2, ⟨hk.2, ⟨hk.1.1.1.1.2, ⟨hk.1.1.1.2, hk.1.1.2⟩⟩⟩⟩)), (by (with_reducible repeat (first | apply Kd.R_alloc | apply Kd.R_drewN | apply Kd.R_drew)); exact Kd.R_mono HO218.out (fun _ hk => ⟨hk.1.2, ⟨hk.2, ⟨hk.1.1.1.1.2, ⟨hk.1.1.1.2, hk.1.1.2⟩⟩⟩⟩)), (by (with_reducible repeat (first | apply Kd.R_alloc | apply Kd.R_drewN | apply Kd.R_drew)); exact Kd.R_mono HO224.out (fun _ hk => ⟨hk.1.2, ⟨hk.2, ⟨hk.1.1.1.1.2, ⟨hk.1.1.1.2, hk.1.1.2⟩⟩⟩⟩)), (by (with_reducible repeat (first | apply Kd.R_alloc | apply Kd.R_drewN | apply Kd.R_drew)); exact Kd.R_mono HO_172003.out (fun _ hk => ⟨hk.1.1.2, ⟨hk.1.2, ⟨hk.2, ⟨hk.1.1.1.1, hk.1.1.1.2⟩⟩⟩⟩)), (by (with_reducible repeat (first | apply Kd.R_alloc | apply Kd.R_drewN | apply Kd.R_drew)); exact Kd.R_mono HO_182003.out (fun _ hk => ⟨hk.1.1.2, ⟨hk.1.2, ⟨hk.2, ⟨hk.1.1.1.1, hk.1.1.1.2⟩⟩⟩⟩)), (by (with_reducible repeat (first | apply Kd.R_alloc | apply Kd.R_drewN | apply Kd.R_drew)); exact Kd.R_mono HO_190003.out (fun _ hk => ⟨hk.1.1.2, ⟨hk.1.2, ⟨hk.2, ⟨hk.1.1.1.1, hk.1.1.1.2⟩⟩⟩⟩)), (by (with_reducible repeat (first | refine blk_drewN ?_ _ | refine blk_drew ?_ | refine blk_alloc ?_ _)); exact BK153.out), (by (with_reducible repeat (first | refine blk_drewN ?_ _ | refine blk_drew ?_ | refine blk_alloc ?_ _)); exact BK171.out), (by (with_reducible repeat (first | refine blk_drewN ?_ _ | refine blk_drew ?_ | refine blk_alloc ?_ _)); exact BK181.out), (by (with_reducible repeat (first | refine blk_drewN ?_ _ | refine blk_drew ?_ | refine blk_alloc ?_ _)); exact BK189.out), (by (with_reducible repeat (first | refine blk_drewN ?_ _ | refine blk_drew ?_ | refine blk_alloc ?_ _)); exact BK226.out), GW226.out, GE226.out, NB153_226.out, NB226_153.out, NB171_226.out, NB226_171.out, NB181_226.out, NB226_181.out, NB189_226.out, NB226_189.out, (by repeat (first | (with_reducible first | exact HB.out | apply below_alloc | apply pw_below_drewN | apply below_drew1 | refine below_set ?_ GE153.out | refine below_set ?_ GE171.out | refine below_set ?_ GE181.out | refine below_set ?_ GE189.out | refine below_set ?_ GE226.out) | exact HB.out))⟩)
                ·skip
                 refine box_step ?hg (N := 17) ?hd (cs := #[.int .i64 0, .int .i64 0, .int .i64 0, .slice none 0 0]) (t := 41) ?hr ?_; (case hd => rfl); (case hg => rfl); (case hr => first | (go_simp; done) | (go_simp; rfl))
                 intro gb226 hg w113 hbox hb
                 have n0_ := am (shR HO_172003.out hb)
                 have n1_ := am (shR HO_182003.out hb)
                 have n2_ := am (shR HO_190003.out hb)
                 have n3_ := am (shR HO212.out hb)
                 have n4_ := am (shR HO218.out hb)
                 have n5_ := am (shBK BK153.out hb)
                 have n6_ := am (shBK BK171.out hb)
                 have n7_ := am (shBK BK181.out hb)
                 have n8_ := am (shBK BK189.out hb)
                 have n9_ := am (shHB HB.out hb)
                 have n10_ := am (hbox)
                 have n11_ := am ((shGE HB.out hg : w.heap.size ≤ gb226))
                 have n12_ := am ((shGE HB.out hg : w.heap.size ≤ gb226))
                 have n13_ := am ((shNB BK153.out hg : gb153 ≠ gb226))
                 have n14_ := am ((shNC BK153.out hg : gb226 ≠ gb153))
                 have n15_ := am ((shNB BK171.out hg : gb171 ≠ gb226))
                 have n16_ := am ((shNC BK171.out hg : gb226 ≠ gb171))
                 have n17_ := am ((shNB BK181.out hg : gb181 ≠ gb226))
                 have n18_ := am ((shNC BK181.out hg : gb226 ≠ gb181))
                 have n19_ := am ((shNB BK189.out hg : gb189 ≠ gb226))
                 have n20_ := am ((shNC BK189.out hg : gb226 ≠ gb189))
                 clear HO_172003
                 clear HO_182003
                 clear HO_190003
                 clear HO212
                 clear HO218
                 clear BK153
                 clear BK171
                 clear BK181
                 clear BK189
                 clear HB
                 have HO_172003 := n0_
                 have HO_182003 := n1_
                 have HO_190003 := n2_
                 have HO212 := n3_
                 have HO218 := n4_
                 have BK153 := n5_
                 have BK171 := n6_
                 have BK181 := n7_
                 have BK189 := n8_
                 have HB := n9_
                 have BK226 := n10_
                 have GW226 := n11_
                 have GE226 := n12_
                 have NB153_226 := n13_
                 have NB226_153 := n14_
                 have NB171_226 := n15_
                 have NB226_171 := n16_
                 have NB181_226 := n17_
                 have NB226_181 := n18_
                 have NB189_226 := n19_
                 have NB226_189 := n20_
                 clear n0_ n1_ n2_ n3_ n4_ n5_ n6_ n7_ n8_ n9_ n10_ n11_ n12_ n13_ n14_ n15_ n16_ n17_ n18_ n19_ n20_
                 clear hb hbox hg
                 obtain ⟨Ao114, co114, eo114⟩ := Kd.R_slice HO212.out
                 (first | subst eo114 | (injection eo114 with f1_ f2_ f3_; have f4_ := f1_.symm; have f5_ := f3_.symm; clear f1_ f2_ f3_; subst f4_; subst f5_))
                 obtain ⟨Ao115, co115, eo115⟩ := Kd.R_slice HO218.out
                 (first | subst eo115 | (injection eo115 with f1_ f2_ f3_; have f4_ := f1_.symm; have f5_ := f3_.symm; clear f1_ f2_ f3_; subst f4_; subst f5_))
                 refine hK.out _ _ ⟨(blk_cell BK153.out 0).trans rfl, (blk_cell BK153.out 1).trans rfl, (blk_cell BK153.out 2).trans rfl, (blk_cell BK153.out 3).trans rfl⟩ (fun hHeld => ?_)
                 clear hK K
                 refine norm_ (a' := ?_) ?_ ?_
                 rotate_left
                 ·show Act.put _ (some 17) _ = _
                  simp only [Act.put, List.setIfInBounds_toArray, List.set_cons_zero, List.set_cons_succ, i64_w, i32_w]
                  rfl
                 refine one_ (i := 5) (N := some 102) #[true, true, true, true, true, true, false, false, false, true, false, false] rfl rfl (one_of HT_.out (by kernel_rfl)) (by decide) (fun K hK => ?_)
                 refine goes_ Try.func57 (by kernel_rfl) rfl #[.slice Ao114 t210.length co114, .int .i64 a1, .agg #[.int .i64 t213, .int .i64 t214, .int .i64 t215, .slice Ao115 t216.length co115]] (by rfl) rfl rfl (by (try simp only [List.map_toArray, List.map_cons, List.map_nil]); first | done | rfl | (simp only [List.length_drop, List.length_take]; rfl)) ?_
                 with_reducible refine (impl_Reply.calls _ _ t210 a1 t213 t214 t215 _ _ t216 t219 t220 t221 t222 t225 _ ?side1 ?side2 ?side3 ?side4 A101.out).mono ?_
                 (case side1 => repeat (first | exact (Kd.R_reads' HO212.out).2.2 | (with_reducible refine Kd.C_alloc ?_ _) | (with_reducible refine Kd.C_drewN ?_ _) | (with_reducible refine Kd.C_drew ?_)))
                 (case side2 => exact (Kd.R_reads' HO212.out).2.1)
                 (case side3 => repeat (first | exact (Kd.R_reads' HO218.out).2.2 | (with_reducible refine Kd.C_alloc ?_ _) | (with_reducible refine Kd.C_drewN ?_ _) | (with_reducible refine Kd.C_drew ?_)))
                 (case side4 => exact (Kd.R_reads' HO218.out).2.1)
                 rintro e w116 ⟨v223, rfl, ho0, hb⟩
                 refine ⟨_, rfl, ?_⟩
                 have n0_ := am (shRE HO_172003.out (Kd.R_base ho0) hb)
                 have n1_ := am (shRE HO_182003.out (Kd.R_base ho0) hb)
                 have n2_ := am (shRE HO_190003.out (Kd.R_base ho0) hb)
                 have n3_ := am (shRE HO212.out (Kd.R_base ho0) hb)
                 have n4_ := am (shRE HO218.out (Kd.R_base ho0) hb)
                 have n5_ := am (Kd.R_lower (Kd.R_new' (Kd.R_new' (Kd.R_new' (Kd.R_new' (Kd.R_new' ho0 (shLT HO_172003.out)) (shLT HO_182003.out)) (shLT HO_190003.out)) (shLT HO212.out)) (shLT HO218.out)) (below_size (by repeat (first | (with_reducible first | exact HB.out | apply below_alloc | apply pw_below_drewN | apply below_drew1 | refine below_set ?_ GE153.out | refine below_set ?_ GE171.out | refine below_set ?_ GE181.out | refine below_set ?_ GE189.out | refine below_set ?_ GE226.out) | exact HB.out))))
                 have n6_ := am (shBK BK153.out hb)
                 have n7_ := am (shBK BK171.out hb)
                 have n8_ := am (shBK BK181.out hb)
                 have n9_ := am (shBK BK189.out hb)
                 have n10_ := am (shBK BK226.out hb)
                 have n11_ := am (shHB HB.out hb)
                 clear HO_172003
                 clear HO_182003
                 clear HO_190003
                 clear HO212
                 clear HO218
                 clear BK153
                 clear BK171
                 clear BK181
                 clear BK189
                 clear BK226
                 clear HB
                 have HO_172003 := n0_
                 have HO_182003 := n1_
                 have HO_190003 := n2_
                 have HO212 := n3_
                 have HO218 := n4_
                 have HO224 := n5_
                 have BK153 := n6_
                 have BK171 := n7_
                 have BK181 := n8_
                 have BK189 := n9_
                 have BK226 := n10_
                 have HB := n11_
                 clear n0_ n1_ n2_ n3_ n4_ n5_ n6_ n7_ n8_ n9_ n10_ n11_
                 (try clear hb)
                 (try clear hb2)
                 (try clear hk)
                 (try clear hi)
                 (try clear ho0)
                 refine hK.out _ _ ⟨(blk_cell BK153.out 0).trans rfl, (blk_cell BK153.out 1).trans rfl, (blk_cell BK153.out 2).trans rfl, (blk_cell BK153.out 3).trans rfl⟩ (fun hHeld => ?_)
                 clear hK K
                 refine norm_ (a' := ?_) ?_ ?_
                 rotate_left
                 ·show Act.put _ (some 102) _ = _
                  simp only [Act.put, List.setIfInBounds_toArray, List.set_cons_zero, List.set_cons_succ, i64_w, i32_w]
                  rfl
                 refine pure_ (i := 6) (N := some 96) (v := ?_) (a' := ?_) #[true, true, true, true, true, true, true, false, false, true, false, false] rfl rfl (any_of HT_.out (by kernel_rfl)) (fun _ _ _ h => h) (Or.inl ⟨by rfl, ?_⟩) ?_ ?_
                 rotate_left
                 ·intro w'
                  go_simp
                  with_reducible rfl
                 rotate_left
                 ·simp only [Act.put, List.setIfInBounds_toArray, List.set_cons_zero, List.set_cons_succ, i64_w, i32_w]
                  rfl
                 refine pure_ (i := 7) (N := some 103) (v := ?_) (a' := ?_) #[true, true, true, true, true, true, true, true, false, true, false, false] rfl rfl (any_of HT_.out (by kernel_rfl)) (fun _ _ _ h => h) (Or.inl ⟨by rfl, ?_⟩) ?_ ?_
                 rotate_left
                 ·intro w'
                  go_simp
                  with_reducible rfl
                 rotate_left
                 ·simp only [Act.put, List.setIfInBounds_toArray, List.set_cons_zero, List.set_cons_succ, i64_w, i32_w]
                  rfl
                 refine pure_ (i := 8) (N := some 104) (v := ?_) (a' := ?_) #[true, true, true, true, true, true, true, true, true, true, false, false] rfl rfl (any_of HT_.out (by kernel_rfl)) (fun _ _ _ h => h) (Or.inl ⟨by rfl, ?_⟩) ?_ ?_
                 rotate_left
                 ·intro w'
                  go_simp
                  with_reducible rfl
                 rotate_left
                 ·simp only [Act.put, List.setIfInBounds_toArray, List.set_cons_zero, List.set_cons_succ, i64_w, i32_w]
                  rfl
                 exact norm_ (by simp only [putAll, Act.put, List.setIfInBounds_toArray, List.set_cons_zero, List.set_cons_succ]) (hCont (.slice Ao114 t210.length co114, .slice Ao115 t216.length co115, v223, gb226) _ ⟨hHeld, (by (with_reducible repeat (first | apply Kd.R_alloc | apply Kd.R_drewN | apply Kd.R_drew)); exact Kd.R_mono HO212.out (fun _ hk => ⟨hk.1.2, ⟨hk.2, ⟨hk.1.1.1.1.2, ⟨hk.1.1.1.2, hk.1.1.2⟩⟩⟩⟩)), (by (with_reducible repeat (first | apply Kd.R_alloc | apply Kd.R_drewN | apply Kd.R_drew)); exact Kd.R_mono HO218.out (fun _ hk => ⟨hk.1.2, ⟨hk.2, ⟨hk.1.1.1.1.2, ⟨hk.1.1.1.2, hk.1.1.2⟩⟩⟩⟩)), (by (with_reducible repeat (first | apply Kd.R_alloc | apply Kd.R_drewN | apply Kd.R_drew)); exact Kd.R_mono HO224.out (fun _ hk => ⟨hk.1.2, ⟨hk.2, ⟨hk.1.1.1.1.2, ⟨hk.1.1.1.2, hk.1.1.2⟩⟩⟩⟩)), (by (with_reducible repeat (first | apply Kd.R_alloc | apply Kd.R_drewN | apply Kd.R_drew)); exact Kd.R_mono HO_172003.out (fun _ hk => ⟨hk.1.1.2, ⟨hk.1.2, ⟨hk.2, ⟨hk.1.1.1.1, hk.1.1.1.2⟩⟩⟩⟩)), (by (with_reducible repeat (first | apply Kd.R_alloc | apply Kd.R_drewN | apply Kd.R_drew)); exact Kd.R_mono HO_182003.out (fun _ hk => ⟨hk.1.1.2, ⟨hk.1.2, ⟨hk.2, ⟨hk.1.1.1.1, hk.1.1.1.2⟩⟩⟩⟩)), (by (with_reducible repeat (first | apply Kd.R_alloc | apply Kd.R_drewN | apply Kd.R_drew)); exact Kd.R_mono HO_190003.out (fun _ hk => ⟨hk.1.1.2, ⟨hk.1.2, ⟨hk.2, ⟨hk.1.1.1.1, hk.1.1.1.2⟩⟩⟩⟩)), (by (with_reducible repeat (first | refine blk_drewN ?_ _ | refine blk_drew ?_ | refine blk_alloc ?_ _)); exact BK153.out), (by (with_reducible repeat (first | refine blk_drewN ?_ _ | refine blk_drew ?_ | refine blk_alloc ?_ _)); exact BK171.out), (by (with_reducible repeat (first | refine blk_drewN ?_ _ | refine blk_drew ?_ | refine blk_alloc ?_ _)); exact BK181.out), (by (with_reducible repeat (first | refine blk_drewN ?_ _ | refine blk_drew ?_ | refine blk_alloc ?_ _)); exact BK189.out), (by (with_reducible repeat (first | refine blk_drewN ?_ _ | refine blk_drew ?_ | refine blk_alloc ?_ _)); exact BK226.out), GW226.out, GE226.out, NB153_226.out, NB226_153.out, NB171_226.out, NB226_171.out, NB181_226.out, NB226_181.out, NB189_226.out, NB226_189.out, (by repeat (first | (with_reducible first | exact HB.out | apply below_alloc | apply pw_below_drewN | apply below_drew1 | refine below_set ?_ GE153.out | refine below_set ?_ GE171.out | refine below_set ?_ GE181.out | refine below_set ?_ GE189.out | refine below_set ?_ GE226.out) | exact HB.out))⟩)
               ·skip
                refine box_step ?hg (N := 17) ?hd (cs := #[.int .i64 0, .int .i64 0, .int .i64 0, .slice none 0 0]) (t := 41) ?hr ?_; (case hd => rfl); (case hg => rfl); (case hr => first | (go_simp; done) | (go_simp; rfl))
                intro gb226 hg w112 hbox hb
                have n0_ := am (shR HO_172003.out hb)
                have n1_ := am (shR HO_182003.out hb)
                have n2_ := am (shR HO_190003.out hb)
                have n3_ := am (shR HO212.out hb)
                have n4_ := am (shBK BK153.out hb)
                have n5_ := am (shBK BK171.out hb)
                have n6_ := am (shBK BK181.out hb)
                have n7_ := am (shBK BK189.out hb)
                have n8_ := am (shHB HB.out hb)
                have n9_ := am (hbox)
                have n10_ := am ((shGE HB.out hg : w.heap.size ≤ gb226))
                have n11_ := am ((shGE HB.out hg : w.heap.size ≤ gb226))
                have n12_ := am ((shNB BK153.out hg : gb153 ≠ gb226))
                have n13_ := am ((shNC BK153.out hg : gb226 ≠ gb153))
                have n14_ := am ((shNB BK171.out hg : gb171 ≠ gb226))
                have n15_ := am ((shNC BK171.out hg : gb226 ≠ gb171))
                have n16_ := am ((shNB BK181.out hg : gb181 ≠ gb226))
                have n17_ := am ((shNC BK181.out hg : gb226 ≠ gb181))
                have n18_ := am ((shNB BK189.out hg : gb189 ≠ gb226))
                have n19_ := am ((shNC BK189.out hg : gb226 ≠ gb189))
                clear HO_172003
                clear HO_182003
                clear HO_190003
                clear HO212
                clear BK153
                clear BK171
                clear BK181
                clear BK189
                clear HB
                have HO_172003 := n0_
                have HO_182003 := n1_
                have HO_190003 := n2_
                have HO212 := n3_
                have BK153 := n4_
                have BK171 := n5_
                have BK181 := n6_
                have BK189 := n7_
                have HB := n8_
                have BK226 := n9_
                have GW226 := n10_
                have GE226 := n11_
                have NB153_226 := n12_
                have NB226_153 := n13_
                have NB171_226 := n14_
                have NB226_171 := n15_
                have NB181_226 := n16_
                have NB226_181 := n17_
                have NB189_226 := n18_
                have NB226_189 := n19_
                clear n0_ n1_ n2_ n3_ n4_ n5_ n6_ n7_ n8_ n9_ n10_ n11_ n12_ n13_ n14_ n15_ n16_ n17_ n18_ n19_
                clear hb hbox hg
                refine hK.out _ _ ⟨(blk_cell BK153.out 0).trans rfl, (blk_cell BK153.out 1).trans rfl, (blk_cell BK153.out 2).trans rfl, (blk_cell BK153.out 3).trans rfl⟩ (fun hHeld => ?_)
                clear hK K
                refine norm_ (a' := ?_) ?_ ?_
                rotate_left
                ·show Act.put _ (some 17) _ = _
                 simp only [Act.put, List.setIfInBounds_toArray, List.set_cons_zero, List.set_cons_succ, i64_w, i32_w]
                 rfl
                refine one_ (i := 4) (N := some 101) #[true, true, true, true, true, false, false, false, false, true, false, false] rfl rfl (one_of HT_.out (by kernel_rfl)) (by decide) (fun K hK => ?_)
                refine goes_ Try.func24 (by kernel_rfl) rfl #[.agg #[.int .i64 a2_0, .int .i64 a2_1, .int .i64 a2_2, .slice A2_3 l2_3.length c2_3]] (by rfl) rfl rfl (by (try simp only [List.map_toArray, List.map_cons, List.map_nil]); first | done | rfl | (simp only [List.length_drop, List.length_take]; rfl)) ?_
                with_reducible refine (laws_toFrame.calls kj69 a2_0 a2_1 a2_2 _ _ l2_3 t213 t214 t215 t216 _ ?side1 ?side2 A100.out).mono ?_
                (case side1 => repeat (first | exact (Kd.C_below HR2_3.out HB.out) | (with_reducible refine Kd.C_alloc ?_ _) | (with_reducible refine Kd.C_drewN ?_ _) | (with_reducible refine Kd.C_drew ?_)))
                (case side2 => exact HC2_3.out)
                rintro e w113 ⟨v217, rfl, ho0, hb⟩
                refine ⟨_, rfl, ?_⟩
                have n0_ := am (shRE HO_172003.out (Kd.R_base ho0) hb)
                have n1_ := am (shRE HO_182003.out (Kd.R_base ho0) hb)
                have n2_ := am (shRE HO_190003.out (Kd.R_base ho0) hb)
                have n3_ := am (shRE HO212.out (Kd.R_base ho0) hb)
                have n4_ := am (Kd.R_lower (Kd.R_new' (Kd.R_new' (Kd.R_new' (Kd.R_new' ho0 (shLT HO_172003.out)) (shLT HO_182003.out)) (shLT HO_190003.out)) (shLT HO212.out)) (below_size (by repeat (first | (with_reducible first | exact HB.out | apply below_alloc | apply pw_below_drewN | apply below_drew1 | refine below_set ?_ GE153.out | refine below_set ?_ GE171.out | refine below_set ?_ GE181.out | refine below_set ?_ GE189.out | refine below_set ?_ GE226.out) | exact HB.out))))
                have n5_ := am (shBK BK153.out hb)
                have n6_ := am (shBK BK171.out hb)
                have n7_ := am (shBK BK181.out hb)
                have n8_ := am (shBK BK189.out hb)
                have n9_ := am (shBK BK226.out hb)
                have n10_ := am (shHB HB.out hb)
                clear HO_172003
                clear HO_182003
                clear HO_190003
                clear HO212
                clear BK153
                clear BK171
                clear BK181
                clear BK189
                clear BK226
                clear HB
                have HO_172003 := n0_
                have HO_182003 := n1_
                have HO_190003 := n2_
                have HO212 := n3_
                have HO218 := n4_
                have BK153 := n5_
                have BK171 := n6_
                have BK181 := n7_
                have BK189 := n8_
                have BK226 := n9_
                have HB := n10_
                clear n0_ n1_ n2_ n3_ n4_ n5_ n6_ n7_ n8_ n9_ n10_
                (try clear hb)
                (try clear hb2)
                (try clear hk)
                (try clear hi)
                (try clear ho0)
                obtain ⟨Ao114, co114, eo114⟩ := Kd.R_slice HO212.out
                (first | subst eo114 | (injection eo114 with f1_ f2_ f3_; have f4_ := f1_.symm; have f5_ := f3_.symm; clear f1_ f2_ f3_; subst f4_; subst f5_))
                obtain ⟨Ao115, co115, eo115⟩ := Kd.R_slice HO218.out
                (first | subst eo115 | (injection eo115 with f1_ f2_ f3_; have f4_ := f1_.symm; have f5_ := f3_.symm; clear f1_ f2_ f3_; subst f4_; subst f5_))
                refine hK.out _ _ ⟨(blk_cell BK153.out 0).trans rfl, (blk_cell BK153.out 1).trans rfl, (blk_cell BK153.out 2).trans rfl, (blk_cell BK153.out 3).trans rfl⟩ (fun hHeld => ?_)
                clear hK K
                refine norm_ (a' := ?_) ?_ ?_
                rotate_left
                ·show Act.put _ (some 101) _ = _
                 simp only [Act.put, List.setIfInBounds_toArray, List.set_cons_zero, List.set_cons_succ, i64_w, i32_w]
                 rfl
                refine one_ (i := 5) (N := some 102) #[true, true, true, true, true, true, false, false, false, true, false, false] rfl rfl (one_of HT_.out (by kernel_rfl)) (by decide) (fun K hK => ?_)
                refine goes_ Try.func57 (by kernel_rfl) rfl #[.slice Ao114 t210.length co114, .int .i64 a1, .agg #[.int .i64 t213, .int .i64 t214, .int .i64 t215, .slice Ao115 t216.length co115]] (by rfl) rfl rfl (by (try simp only [List.map_toArray, List.map_cons, List.map_nil]); first | done | rfl | (simp only [List.length_drop, List.length_take]; rfl)) ?_
                with_reducible refine (impl_Reply.calls _ _ t210 a1 t213 t214 t215 _ _ t216 t219 t220 t221 t222 t225 _ ?side1 ?side2 ?side3 ?side4 A101.out).mono ?_
                (case side1 => repeat (first | exact (Kd.R_reads' HO212.out).2.2 | (with_reducible refine Kd.C_alloc ?_ _) | (with_reducible refine Kd.C_drewN ?_ _) | (with_reducible refine Kd.C_drew ?_)))
                (case side2 => exact (Kd.R_reads' HO212.out).2.1)
                (case side3 => repeat (first | exact (Kd.R_reads' HO218.out).2.2 | (with_reducible refine Kd.C_alloc ?_ _) | (with_reducible refine Kd.C_drewN ?_ _) | (with_reducible refine Kd.C_drew ?_)))
                (case side4 => exact (Kd.R_reads' HO218.out).2.1)
                rintro e w116 ⟨v223, rfl, ho0, hb⟩
                refine ⟨_, rfl, ?_⟩
                have n0_ := am (shRE HO_172003.out (Kd.R_base ho0) hb)
                have n1_ := am (shRE HO_182003.out (Kd.R_base ho0) hb)
                have n2_ := am (shRE HO_190003.out (Kd.R_base ho0) hb)
                have n3_ := am (shRE HO212.out (Kd.R_base ho0) hb)
                have n4_ := am (shRE HO218.out (Kd.R_base ho0) hb)
                have n5_ := am (Kd.R_lower (Kd.R_new' (Kd.R_new' (Kd.R_new' (Kd.R_new' (Kd.R_new' ho0 (shLT HO_172003.out)) (shLT HO_182003.out)) (shLT HO_190003.out)) (shLT HO212.out)) (shLT HO218.out)) (below_size (by repeat (first | (with_reducible first | exact HB.out | apply below_alloc | apply pw_below_drewN | apply below_drew1 | refine below_set ?_ GE153.out | refine below_set ?_ GE171.out | refine below_set ?_ GE181.out | refine below_set ?_ GE189.out | refine below_set ?_ GE226.out) | exact HB.out))))
                have n6_ := am (shBK BK153.out hb)
                have n7_ := am (shBK BK171.out hb)
                have n8_ := am (shBK BK181.out hb)
                have n9_ := am (shBK BK189.out hb)
                have n10_ := am (shBK BK226.out hb)
                have n11_ := am (shHB HB.out hb)
                clear HO_172003
                clear HO_182003
                clear HO_190003
                clear HO212
                clear HO218
                clear BK153
                clear BK171
                clear BK181
                clear BK189
                clear BK226
                clear HB
                have HO_172003 := n0_
                have HO_182003 := n1_
                have HO_190003 := n2_
                have HO212 := n3_
                have HO218 := n4_
                have HO224 := n5_
                have BK153 := n6_
                have BK171 := n7_
                have BK181 := n8_
                have BK189 := n9_
                have BK226 := n10_
                have HB := n11_
                clear n0_ n1_ n2_ n3_ n4_ n5_ n6_ n7_ n8_ n9_ n10_ n11_
                (try clear hb)
                (try clear hb2)
                (try clear hk)
                (try clear hi)
                (try clear ho0)
                refine hK.out _ _ ⟨(blk_cell BK153.out 0).trans rfl, (blk_cell BK153.out 1).trans rfl, (blk_cell BK153.out 2).trans rfl, (blk_cell BK153.out 3).trans rfl⟩ (fun hHeld => ?_)
                clear hK K
                refine norm_ (a' := ?_) ?_ ?_
                rotate_left
                ·show Act.put _ (some 102) _ = _
                 simp only [Act.put, List.setIfInBounds_toArray, List.set_cons_zero, List.set_cons_succ, i64_w, i32_w]
                 rfl
                refine pure_ (i := 6) (N := some 96) (v := ?_) (a' := ?_) #[true, true, true, true, true, true, true, false, false, true, false, false] rfl rfl (any_of HT_.out (by kernel_rfl)) (fun _ _ _ h => h) (Or.inl ⟨by rfl, ?_⟩) ?_ ?_
                rotate_left
                ·intro w'
                 go_simp
                 with_reducible rfl
                rotate_left
                ·simp only [Act.put, List.setIfInBounds_toArray, List.set_cons_zero, List.set_cons_succ, i64_w, i32_w]
                 rfl
                refine pure_ (i := 7) (N := some 103) (v := ?_) (a' := ?_) #[true, true, true, true, true, true, true, true, false, true, false, false] rfl rfl (any_of HT_.out (by kernel_rfl)) (fun _ _ _ h => h) (Or.inl ⟨by rfl, ?_⟩) ?_ ?_
                rotate_left
                ·intro w'
                 go_simp
                 with_reducible rfl
                rotate_left
                ·simp only [Act.put, List.setIfInBounds_toArray, List.set_cons_zero, List.set_cons_succ, i64_w, i32_w]
                 rfl
                refine pure_ (i := 8) (N := some 104) (v := ?_) (a' := ?_) #[true, true, true, true, true, true, true, true, true, true, false, false] rfl rfl (any_of HT_.out (by kernel_rfl)) (fun _ _ _ h => h) (Or.inl ⟨by rfl, ?_⟩) ?_ ?_
                rotate_left
                ·intro w'
                 go_simp
                 with_reducible rfl
                rotate_left
                ·simp only [Act.put, List.setIfInBounds_toArray, List.set_cons_zero, List.set_cons_succ, i64_w, i32_w]
                 rfl
                exact norm_ (by simp only [putAll, Act.put, List.setIfInBounds_toArray, List.set_cons_zero, List.set_cons_succ]) (hCont (.slice Ao114 t210.length co114, .slice Ao115 t216.length co115, v223, gb226) _ ⟨hHeld, (by (with_reducible repeat (first | apply Kd.R_alloc | apply Kd.R_drewN | apply Kd.R_drew)); exact Kd.R_mono HO212.out (fun _ hk => ⟨hk.1.2, ⟨hk.2, ⟨hk.1.1.1.1.2, ⟨hk.1.1.1.2, hk.1.1.2⟩⟩⟩⟩)), (by (with_reducible repeat (first | apply Kd.R_alloc | apply Kd.R_drewN | apply Kd.R_drew)); exact Kd.R_mono HO218.out (fun _ hk => ⟨hk.1.2, ⟨hk.2, ⟨hk.1.1.1.1.2, ⟨hk.1.1.1.2, hk.1.1.2⟩⟩⟩⟩)), (by (with_reducible repeat (first | apply Kd.R_alloc | apply Kd.R_drewN | apply Kd.R_drew)); exact Kd.R_mono HO224.out (fun _ hk => ⟨hk.1.2, ⟨hk.2, ⟨hk.1.1.1.1.2, ⟨hk.1.1.1.2, hk.1.1.2⟩⟩⟩⟩)), (by (with_reducible repeat (first | apply Kd.R_alloc | apply Kd.R_drewN | apply Kd.R_drew)); exact Kd.R_mono HO_172003.out (fun _ hk => ⟨hk.1.1.2, ⟨hk.1.2, ⟨hk.2, ⟨hk.1.1.1.1, hk.1.1.1.2⟩⟩⟩⟩)), (by (with_reducible repeat (first | apply Kd.R_alloc | apply Kd.R_drewN | apply Kd.R_drew)); exact Kd.R_mono HO_182003.out (fun _ hk => ⟨hk.1.1.2, ⟨hk.1.2, ⟨hk.2, ⟨hk.1.1.1.1, hk.1.1.1.2⟩⟩⟩⟩)), (by (with_reducible repeat (first | apply Kd.R_alloc | apply Kd.R_drewN | apply Kd.R_drew)); exact Kd.R_mono HO_190003.out (fun _ hk => ⟨hk.1.1.2, ⟨hk.1.2, ⟨hk.2, ⟨hk.1.1.1.1, hk.1.1.1.2⟩⟩⟩⟩)), (by (with_reducible repeat (first | refine blk_drewN ?_ _ | refine blk_drew ?_ | refine blk_alloc ?_ _)); exact BK153.out), (by (with_reducible repeat (first | refine blk_drewN ?_ _ | refine blk_drew ?_ | refine blk_alloc ?_ _)); exact BK171.out), (by (with_reducible repeat (first | refine blk_drewN ?_ _ | refine blk_drew ?_ | refine blk_alloc ?_ _)); exact BK181.out), (by (with_reducible repeat (first | refine blk_drewN ?_ _ | refine blk_drew ?_ | refine blk_alloc ?_ _)); exact BK189.out), (by (with_reducible repeat (first | refine blk_drewN ?_ _ | refine blk_drew ?_ | refine blk_alloc ?_ _)); exact BK226.out), GW226.out, GE226.out, NB153_226.out, NB226_153.out, NB171_226.out, NB226_171.out, NB181_226.out, NB226_181.out, NB189_226.out, NB226_189.out, (by repeat (first | (with_reducible first | exact HB.out | apply below_alloc | apply pw_below_drewN | apply below_drew1 | refine below_set ?_ GE153.out | refine below_set ?_ GE171.out | refine below_set ?_ GE181.out | refine below_set ?_ GE189.out | refine below_set ?_ GE226.out) | exact HB.out))⟩)
              ·skip
               refine box_step ?hg (N := 17) ?hd (cs := #[.int .i64 0, .int .i64 0, .int .i64 0, .slice none 0 0]) (t := 41) ?hr ?_; (case hd => rfl); (case hg => rfl); (case hr => first | (go_simp; done) | (go_simp; rfl))
               intro gb226 hg w111 hbox hb
               have n0_ := am (shR HO_172003.out hb)
               have n1_ := am (shR HO_182003.out hb)
               have n2_ := am (shR HO_190003.out hb)
               have n3_ := am (shBK BK153.out hb)
               have n4_ := am (shBK BK171.out hb)
               have n5_ := am (shBK BK181.out hb)
               have n6_ := am (shBK BK189.out hb)
               have n7_ := am (shHB HB.out hb)
               have n8_ := am (hbox)
               have n9_ := am ((shGE HB.out hg : w.heap.size ≤ gb226))
               have n10_ := am ((shGE HB.out hg : w.heap.size ≤ gb226))
               have n11_ := am ((shNB BK153.out hg : gb153 ≠ gb226))
               have n12_ := am ((shNC BK153.out hg : gb226 ≠ gb153))
               have n13_ := am ((shNB BK171.out hg : gb171 ≠ gb226))
               have n14_ := am ((shNC BK171.out hg : gb226 ≠ gb171))
               have n15_ := am ((shNB BK181.out hg : gb181 ≠ gb226))
               have n16_ := am ((shNC BK181.out hg : gb226 ≠ gb181))
               have n17_ := am ((shNB BK189.out hg : gb189 ≠ gb226))
               have n18_ := am ((shNC BK189.out hg : gb226 ≠ gb189))
               clear HO_172003
               clear HO_182003
               clear HO_190003
               clear BK153
               clear BK171
               clear BK181
               clear BK189
               clear HB
               have HO_172003 := n0_
               have HO_182003 := n1_
               have HO_190003 := n2_
               have BK153 := n3_
               have BK171 := n4_
               have BK181 := n5_
               have BK189 := n6_
               have HB := n7_
               have BK226 := n8_
               have GW226 := n9_
               have GE226 := n10_
               have NB153_226 := n11_
               have NB226_153 := n12_
               have NB171_226 := n13_
               have NB226_171 := n14_
               have NB181_226 := n15_
               have NB226_181 := n16_
               have NB189_226 := n17_
               have NB226_189 := n18_
               clear n0_ n1_ n2_ n3_ n4_ n5_ n6_ n7_ n8_ n9_ n10_ n11_ n12_ n13_ n14_ n15_ n16_ n17_ n18_
               clear hb hbox hg
               refine hK.out _ _ ⟨(blk_cell BK153.out 0).trans rfl, (blk_cell BK153.out 1).trans rfl, (blk_cell BK153.out 2).trans rfl, (blk_cell BK153.out 3).trans rfl⟩ (fun hHeld => ?_)
               clear hK K
               refine norm_ (a' := ?_) ?_ ?_
               rotate_left
               ·show Act.put _ (some 17) _ = _
                simp only [Act.put, List.setIfInBounds_toArray, List.set_cons_zero, List.set_cons_succ, i64_w, i32_w]
                rfl
               refine one_ (i := 1) (N := some 98) #[true, true, true, true, false, false, false, false, false, true, false, false] rfl rfl (one_of HT_.out (by kernel_rfl)) (by decide) (fun K hK => ?_)
               refine goes_ Try.func56 (by kernel_rfl) rfl #[.slice A0 l0.length c0] (by rfl) rfl rfl (by (try simp only [List.map_toArray, List.map_cons, List.map_nil]); first | done | rfl | (simp only [List.length_drop, List.length_take]; rfl)) ?_
               with_reducible refine (laws_toByteS.calls kj69 _ _ l0 t210 _ ?side1 ?side2 A99.out).mono ?_
               (case side1 => repeat (first | exact (Kd.C_below HR0.out HB.out) | (with_reducible refine Kd.C_alloc ?_ _) | (with_reducible refine Kd.C_drewN ?_ _) | (with_reducible refine Kd.C_drew ?_)))
               (case side2 => exact HC0.out)
               rintro e w112 ⟨v211, rfl, ho0, hb⟩
               refine ⟨_, rfl, ?_⟩
               have n0_ := am (shRE HO_172003.out (Kd.R_base ho0) hb)
               have n1_ := am (shRE HO_182003.out (Kd.R_base ho0) hb)
               have n2_ := am (shRE HO_190003.out (Kd.R_base ho0) hb)
               have n3_ := am (Kd.R_lower (Kd.R_new' (Kd.R_new' (Kd.R_new' ho0 (shLT HO_172003.out)) (shLT HO_182003.out)) (shLT HO_190003.out)) (below_size (by repeat (first | (with_reducible first | exact HB.out | apply below_alloc | apply pw_below_drewN | apply below_drew1 | refine below_set ?_ GE153.out | refine below_set ?_ GE171.out | refine below_set ?_ GE181.out | refine below_set ?_ GE189.out | refine below_set ?_ GE226.out) | exact HB.out))))
               have n4_ := am (shBK BK153.out hb)
               have n5_ := am (shBK BK171.out hb)
               have n6_ := am (shBK BK181.out hb)
               have n7_ := am (shBK BK189.out hb)
               have n8_ := am (shBK BK226.out hb)
               have n9_ := am (shHB HB.out hb)
               clear HO_172003
               clear HO_182003
               clear HO_190003
               clear BK153
               clear BK171
               clear BK181
               clear BK189
               clear BK226
               clear HB
               have HO_172003 := n0_
               have HO_182003 := n1_
               have HO_190003 := n2_
               have HO212 := n3_
               have BK153 := n4_
               have BK171 := n5_
               have BK181 := n6_
               have BK189 := n7_
               have BK226 := n8_
               have HB := n9_
               clear n0_ n1_ n2_ n3_ n4_ n5_ n6_ n7_ n8_ n9_
               (try clear hb)
               (try clear hb2)
               (try clear hk)
               (try clear hi)
               (try clear ho0)
               refine hK.out _ _ ⟨(blk_cell BK153.out 0).trans rfl, (blk_cell BK153.out 1).trans rfl, (blk_cell BK153.out 2).trans rfl, (blk_cell BK153.out 3).trans rfl⟩ (fun hHeld => ?_)
               clear hK K
               refine norm_ (a' := ?_) ?_ ?_
               rotate_left
               ·show Act.put _ (some 98) _ = _
                simp only [Act.put, List.setIfInBounds_toArray, List.set_cons_zero, List.set_cons_succ, i64_w, i32_w]
                rfl
               refine one_ (i := 4) (N := some 101) #[true, true, true, true, true, false, false, false, false, true, false, false] rfl rfl (one_of HT_.out (by kernel_rfl)) (by decide) (fun K hK => ?_)
               refine goes_ Try.func24 (by kernel_rfl) rfl #[.agg #[.int .i64 a2_0, .int .i64 a2_1, .int .i64 a2_2, .slice A2_3 l2_3.length c2_3]] (by rfl) rfl rfl (by (try simp only [List.map_toArray, List.map_cons, List.map_nil]); first | done | rfl | (simp only [List.length_drop, List.length_take]; rfl)) ?_
               with_reducible refine (laws_toFrame.calls kj69 a2_0 a2_1 a2_2 _ _ l2_3 t213 t214 t215 t216 _ ?side1 ?side2 A100.out).mono ?_
               (case side1 => repeat (first | exact (Kd.C_below HR2_3.out HB.out) | (with_reducible refine Kd.C_alloc ?_ _) | (with_reducible refine Kd.C_drewN ?_ _) | (with_reducible refine Kd.C_drew ?_)))
               (case side2 => exact HC2_3.out)
               rintro e w113 ⟨v217, rfl, ho0, hb⟩
               refine ⟨_, rfl, ?_⟩
               have n0_ := am (shRE HO_172003.out (Kd.R_base ho0) hb)
               have n1_ := am (shRE HO_182003.out (Kd.R_base ho0) hb)
               have n2_ := am (shRE HO_190003.out (Kd.R_base ho0) hb)
               have n3_ := am (shRE HO212.out (Kd.R_base ho0) hb)
               have n4_ := am (Kd.R_lower (Kd.R_new' (Kd.R_new' (Kd.R_new' (Kd.R_new' ho0 (shLT HO_172003.out)) (shLT HO_182003.out)) (shLT HO_190003.out)) (shLT HO212.out)) (below_size (by repeat (first | (with_reducible first | exact HB.out | apply below_alloc | apply pw_below_drewN | apply below_drew1 | refine below_set ?_ GE153.out | refine below_set ?_ GE171.out | refine below_set ?_ GE181.out | refine below_set ?_ GE189.out | refine below_set ?_ GE226.out) | exact HB.out))))
               have n5_ := am (shBK BK153.out hb)
               have n6_ := am (shBK BK171.out hb)
               have n7_ := am (shBK BK181.out hb)
               have n8_ := am (shBK BK189.out hb)
               have n9_ := am (shBK BK226.out hb)
               have n10_ := am (shHB HB.out hb)
               clear HO_172003
               clear HO_182003
               clear HO_190003
               clear HO212
               clear BK153
               clear BK171
               clear BK181
               clear BK189
               clear BK226
               clear HB
               have HO_172003 := n0_
               have HO_182003 := n1_
               have HO_190003 := n2_
               have HO212 := n3_
               have HO218 := n4_
               have BK153 := n5_
               have BK171 := n6_
               have BK181 := n7_
               have BK189 := n8_
               have BK226 := n9_
               have HB := n10_
               clear n0_ n1_ n2_ n3_ n4_ n5_ n6_ n7_ n8_ n9_ n10_
               (try clear hb)
               (try clear hb2)
               (try clear hk)
               (try clear hi)
               (try clear ho0)
               obtain ⟨Ao114, co114, eo114⟩ := Kd.R_slice HO212.out
               (first | subst eo114 | (injection eo114 with f1_ f2_ f3_; have f4_ := f1_.symm; have f5_ := f3_.symm; clear f1_ f2_ f3_; subst f4_; subst f5_))
               obtain ⟨Ao115, co115, eo115⟩ := Kd.R_slice HO218.out
               (first | subst eo115 | (injection eo115 with f1_ f2_ f3_; have f4_ := f1_.symm; have f5_ := f3_.symm; clear f1_ f2_ f3_; subst f4_; subst f5_))
               refine hK.out _ _ ⟨(blk_cell BK153.out 0).trans rfl, (blk_cell BK153.out 1).trans rfl, (blk_cell BK153.out 2).trans rfl, (blk_cell BK153.out 3).trans rfl⟩ (fun hHeld => ?_)
               clear hK K
               refine norm_ (a' := ?_) ?_ ?_
               rotate_left
               ·show Act.put _ (some 101) _ = _
                simp only [Act.put, List.setIfInBounds_toArray, List.set_cons_zero, List.set_cons_succ, i64_w, i32_w]
                rfl
               refine one_ (i := 5) (N := some 102) #[true, true, true, true, true, true, false, false, false, true, false, false] rfl rfl (one_of HT_.out (by kernel_rfl)) (by decide) (fun K hK => ?_)
               refine goes_ Try.func57 (by kernel_rfl) rfl #[.slice Ao114 t210.length co114, .int .i64 a1, .agg #[.int .i64 t213, .int .i64 t214, .int .i64 t215, .slice Ao115 t216.length co115]] (by rfl) rfl rfl (by (try simp only [List.map_toArray, List.map_cons, List.map_nil]); first | done | rfl | (simp only [List.length_drop, List.length_take]; rfl)) ?_
               with_reducible refine (impl_Reply.calls _ _ t210 a1 t213 t214 t215 _ _ t216 t219 t220 t221 t222 t225 _ ?side1 ?side2 ?side3 ?side4 A101.out).mono ?_
               (case side1 => repeat (first | exact (Kd.R_reads' HO212.out).2.2 | (with_reducible refine Kd.C_alloc ?_ _) | (with_reducible refine Kd.C_drewN ?_ _) | (with_reducible refine Kd.C_drew ?_)))
               (case side2 => exact (Kd.R_reads' HO212.out).2.1)
               (case side3 => repeat (first | exact (Kd.R_reads' HO218.out).2.2 | (with_reducible refine Kd.C_alloc ?_ _) | (with_reducible refine Kd.C_drewN ?_ _) | (with_reducible refine Kd.C_drew ?_)))
               (case side4 => exact (Kd.R_reads' HO218.out).2.1)
               rintro e w116 ⟨v223, rfl, ho0, hb⟩
               refine ⟨_, rfl, ?_⟩
               have n0_ := am (shRE HO_172003.out (Kd.R_base ho0) hb)
               have n1_ := am (shRE HO_182003.out (Kd.R_base ho0) hb)
               have n2_ := am (shRE HO_190003.out (Kd.R_base ho0) hb)
               have n3_ := am (shRE HO212.out (Kd.R_base ho0) hb)
               have n4_ := am (shRE HO218.out (Kd.R_base ho0) hb)
               have n5_ := am (Kd.R_lower (Kd.R_new' (Kd.R_new' (Kd.R_new' (Kd.R_new' (Kd.R_new' ho0 (shLT HO_172003.out)) (shLT HO_182003.out)) (shLT HO_190003.out)) (shLT HO212.out)) (shLT HO218.out)) (below_size (by repeat (first | (with_reducible first | exact HB.out | apply below_alloc | apply pw_below_drewN | apply below_drew1 | refine below_set ?_ GE153.out | refine below_set ?_ GE171.out | refine below_set ?_ GE181.out | refine below_set ?_ GE189.out | refine below_set ?_ GE226.out) | exact HB.out))))
               have n6_ := am (shBK BK153.out hb)
               have n7_ := am (shBK BK171.out hb)
               have n8_ := am (shBK BK181.out hb)
               have n9_ := am (shBK BK189.out hb)
               have n10_ := am (shBK BK226.out hb)
               have n11_ := am (shHB HB.out hb)
               clear HO_172003
               clear HO_182003
               clear HO_190003
               clear HO212
               clear HO218
               clear BK153
               clear BK171
               clear BK181
               clear BK189
               clear BK226
               clear HB
               have HO_172003 := n0_
               have HO_182003 := n1_
               have HO_190003 := n2_
               have HO212 := n3_
               have HO218 := n4_
               have HO224 := n5_
               have BK153 := n6_
               have BK171 := n7_
               have BK181 := n8_
               have BK189 := n9_
               have BK226 := n10_
               have HB := n11_
               clear n0_ n1_ n2_ n3_ n4_ n5_ n6_ n7_ n8_ n9_ n10_ n11_
               (try clear hb)
               (try clear hb2)
               (try clear hk)
               (try clear hi)
               (try clear ho0)
               refine hK.out _ _ ⟨(blk_cell BK153.out 0).trans rfl, (blk_cell BK153.out 1).trans rfl, (blk_cell BK153.out 2).trans rfl, (blk_cell BK153.out 3).trans rfl⟩ (fun hHeld => ?_)
               clear hK K
               refine norm_ (a' := ?_) ?_ ?_
               rotate_left
               ·show Act.put _ (some 102) _ = _
                simp only [Act.put, List.setIfInBounds_toArray, List.set_cons_zero, List.set_cons_succ, i64_w, i32_w]
                rfl
               refine pure_ (i := 6) (N := some 96) (v := ?_) (a' := ?_) #[true, true, true, true, true, true, true, false, false, true, false, false] rfl rfl (any_of HT_.out (by kernel_rfl)) (fun _ _ _ h => h) (Or.inl ⟨by rfl, ?_⟩) ?_ ?_
               rotate_left
               ·intro w'
                go_simp
                with_reducible rfl
               rotate_left
               ·simp only [Act.put, List.setIfInBounds_toArray, List.set_cons_zero, List.set_cons_succ, i64_w, i32_w]
                rfl
               refine pure_ (i := 7) (N := some 103) (v := ?_) (a' := ?_) #[true, true, true, true, true, true, true, true, false, true, false, false] rfl rfl (any_of HT_.out (by kernel_rfl)) (fun _ _ _ h => h) (Or.inl ⟨by rfl, ?_⟩) ?_ ?_
               rotate_left
               ·intro w'
                go_simp
                with_reducible rfl
               rotate_left
               ·simp only [Act.put, List.setIfInBounds_toArray, List.set_cons_zero, List.set_cons_succ, i64_w, i32_w]
                rfl
               refine pure_ (i := 8) (N := some 104) (v := ?_) (a' := ?_) #[true, true, true, true, true, true, true, true, true, true, false, false] rfl rfl (any_of HT_.out (by kernel_rfl)) (fun _ _ _ h => h) (Or.inl ⟨by rfl, ?_⟩) ?_ ?_
               rotate_left
               ·intro w'
                go_simp
                with_reducible rfl
               rotate_left
               ·simp only [Act.put, List.setIfInBounds_toArray, List.set_cons_zero, List.set_cons_succ, i64_w, i32_w]
                rfl
               exact norm_ (by simp only [putAll, Act.put, List.setIfInBounds_toArray, List.set_cons_zero, List.set_cons_succ]) (hCont (.slice Ao114 t210.length co114, .slice Ao115 t216.length co115, v223, gb226) _ ⟨hHeld, (by (with_reducible repeat (first | apply Kd.R_alloc | apply Kd.R_drewN | apply Kd.R_drew)); exact Kd.R_mono HO212.out (fun _ hk => ⟨hk.1.2, ⟨hk.2, ⟨hk.1.1.1.1.2, ⟨hk.1.1.1.2, hk.1.1.2⟩⟩⟩⟩)), (by (with_reducible repeat (first | apply Kd.R_alloc | apply Kd.R_drewN | apply Kd.R_drew)); exact Kd.R_mono HO218.out (fun _ hk => ⟨hk.1.2, ⟨hk.2, ⟨hk.1.1.1.1.2, ⟨hk.1.1.1.2, hk.1.1.2⟩⟩⟩⟩)), (by (with_reducible repeat (first | apply Kd.R_alloc | apply Kd.R_drewN | apply Kd.R_drew)); exact Kd.R_mono HO224.out (fun _ hk => ⟨hk.1.2, ⟨hk.2, ⟨hk.1.1.1.1.2, ⟨hk.1.1.1.2, hk.1.1.2⟩⟩⟩⟩)), (by (with_reducible repeat (first | apply Kd.R_alloc | apply Kd.R_drewN | apply Kd.R_drew)); exact Kd.R_mono HO_172003.out (fun _ hk => ⟨hk.1.1.2, ⟨hk.1.2, ⟨hk.2, ⟨hk.1.1.1.1, hk.1.1.1.2⟩⟩⟩⟩)), (by (with_reducible repeat (first | apply Kd.R_alloc | apply Kd.R_drewN | apply Kd.R_drew)); exact Kd.R_mono HO_182003.out (fun _ hk => ⟨hk.1.1.2, ⟨hk.1.2, ⟨hk.2, ⟨hk.1.1.1.1, hk.1.1.1.2⟩⟩⟩⟩)), (by (with_reducible repeat (first | apply Kd.R_alloc | apply Kd.R_drewN | apply Kd.R_drew)); exact Kd.R_mono HO_190003.out (fun _ hk => ⟨hk.1.1.2, ⟨hk.1.2, ⟨hk.2, ⟨hk.1.1.1.1, hk.1.1.1.2⟩⟩⟩⟩)), (by (with_reducible repeat (first | refine blk_drewN ?_ _ | refine blk_drew ?_ | refine blk_alloc ?_ _)); exact BK153.out), (by (with_reducible repeat (first | refine blk_drewN ?_ _ | refine blk_drew ?_ | refine blk_alloc ?_ _)); exact BK171.out), (by (with_reducible repeat (first | refine blk_drewN ?_ _ | refine blk_drew ?_ | refine blk_alloc ?_ _)); exact BK181.out), (by (with_reducible repeat (first | refine blk_drewN ?_ _ | refine blk_drew ?_ | refine blk_alloc ?_ _)); exact BK189.out), (by (with_reducible repeat (first | refine blk_drewN ?_ _ | refine blk_drew ?_ | refine blk_alloc ?_ _)); exact BK226.out), GW226.out, GE226.out, NB153_226.out, NB226_153.out, NB171_226.out, NB226_171.out, NB181_226.out, NB226_181.out, NB189_226.out, NB226_189.out, (by repeat (first | (with_reducible first | exact HB.out | apply below_alloc | apply pw_below_drewN | apply below_drew1 | refine below_set ?_ GE153.out | refine below_set ?_ GE171.out | refine below_set ?_ GE181.out | refine below_set ?_ GE189.out | refine below_set ?_ GE226.out) | exact HB.out))⟩)
             rintro ⟨v211, v217, v223, gb226⟩ w117 ⟨hS_, h0_, h1_, h2_, h3_, h4_, h5_, h6_, h7_, h8_, h9_, h10_, h11_, h12_, h13_, h14_, h15_, h16_, h17_, h18_, h19_, h20_, h21_⟩
             have n0_ : Aside0 (Kd.R (Kd.int .u8) 5 w117 w.heap.size (fun k_ => some k_ ≠ (v217 : Value).ownBlock ∧ some k_ ≠ (v223 : Value).ownBlock ∧ some k_ ≠ (.slice Ao32 t167.length co32 : Value).ownBlock ∧ some k_ ≠ (.slice Ao42 t205.length co42 : Value).ownBlock ∧ some k_ ≠ (.slice Ao50 t185.length co50 : Value).ownBlock) v211 t210) := ⟨h0_⟩
             have n1_ : Aside0 (Kd.R (Kd.int .u8) 5 w117 w.heap.size (fun k_ => some k_ ≠ (v211 : Value).ownBlock ∧ some k_ ≠ (v223 : Value).ownBlock ∧ some k_ ≠ (.slice Ao32 t167.length co32 : Value).ownBlock ∧ some k_ ≠ (.slice Ao42 t205.length co42 : Value).ownBlock ∧ some k_ ≠ (.slice Ao50 t185.length co50 : Value).ownBlock) v217 t216) := ⟨h1_⟩
             have n2_ : Aside0 (Kd.R (Kd.int .u8) 5 w117 w.heap.size (fun k_ => some k_ ≠ (v211 : Value).ownBlock ∧ some k_ ≠ (v217 : Value).ownBlock ∧ some k_ ≠ (.slice Ao32 t167.length co32 : Value).ownBlock ∧ some k_ ≠ (.slice Ao42 t205.length co42 : Value).ownBlock ∧ some k_ ≠ (.slice Ao50 t185.length co50 : Value).ownBlock) v223 t222) := ⟨h2_⟩
             have n3_ : Aside0 (Kd.R (Kd.int .u8) 5 w117 w.heap.size (fun k_ => some k_ ≠ (v211 : Value).ownBlock ∧ some k_ ≠ (v217 : Value).ownBlock ∧ some k_ ≠ (v223 : Value).ownBlock ∧ some k_ ≠ (.slice Ao42 t205.length co42 : Value).ownBlock ∧ some k_ ≠ (.slice Ao50 t185.length co50 : Value).ownBlock) (.slice Ao32 t167.length co32) t167) := ⟨h3_⟩
             have n4_ : Aside0 (Kd.R (Kd.int .u8) 5 w117 w.heap.size (fun k_ => some k_ ≠ (v211 : Value).ownBlock ∧ some k_ ≠ (v217 : Value).ownBlock ∧ some k_ ≠ (v223 : Value).ownBlock ∧ some k_ ≠ (.slice Ao32 t167.length co32 : Value).ownBlock ∧ some k_ ≠ (.slice Ao50 t185.length co50 : Value).ownBlock) (.slice Ao42 t205.length co42) t205) := ⟨h4_⟩
             have n5_ : Aside0 (Kd.R (Kd.int .u8) 5 w117 w.heap.size (fun k_ => some k_ ≠ (v211 : Value).ownBlock ∧ some k_ ≠ (v217 : Value).ownBlock ∧ some k_ ≠ (v223 : Value).ownBlock ∧ some k_ ≠ (.slice Ao32 t167.length co32 : Value).ownBlock ∧ some k_ ≠ (.slice Ao42 t205.length co42 : Value).ownBlock) (.slice Ao50 t185.length co50) t208) := ⟨h5_⟩
             have n6_ : Aside0 (w117.heap[gb153]? = some (.cells #[.int .i64 a2_0, .int .i64 a2_1, .int .i64 a2_2, .slice A2_3 l2_3.length c2_3] 38 (0, 0))) := ⟨h6_⟩
             have n7_ : Aside0 (w117.heap[gb171]? = some (.cells #[.int .i64 t164, .int .i64 t165, .int .i64 t166, .slice Ao32 t167.length co32] 41 (0, 0))) := ⟨h7_⟩
             have n8_ : Aside0 (w117.heap[gb181]? = some (.cells #[.int .i64 t175, .int .i64 t176, .int .i64 t177, .slice Ao42 t205.length co42] 41 (0, 0))) := ⟨h8_⟩
             have n9_ : Aside0 (w117.heap[gb189]? = some (.cells #[.int .i64 t182, .int .i64 t183, .int .i64 t184, .slice Ao50 t185.length co50] 41 (0, 0))) := ⟨h9_⟩
             have n10_ : Aside0 (w117.heap[gb226]? = some (.cells #[.int .i64 0, .int .i64 0, .int .i64 0, .slice none 0 0] 41 (0, 0))) := ⟨h10_⟩
             have n11_ : Aside0 (w.heap.size ≤ gb226) := ⟨h11_⟩
             have n12_ : Aside0 (w.heap.size ≤ gb226) := ⟨h12_⟩
             have n13_ : Aside0 (gb153 ≠ gb226) := ⟨h13_⟩
             have n14_ : Aside0 (gb226 ≠ gb153) := ⟨h14_⟩
             have n15_ : Aside0 (gb171 ≠ gb226) := ⟨h15_⟩
             have n16_ : Aside0 (gb226 ≠ gb171) := ⟨h16_⟩
             have n17_ : Aside0 (gb181 ≠ gb226) := ⟨h17_⟩
             have n18_ : Aside0 (gb226 ≠ gb181) := ⟨h18_⟩
             have n19_ : Aside0 (gb189 ≠ gb226) := ⟨h19_⟩
             have n20_ : Aside0 (gb226 ≠ gb189) := ⟨h20_⟩
             have n21_ : Aside0 (Below w.heap.size w w117) := ⟨h21_⟩
             clear HO_172003
             clear HO_182003
             clear HO_190003
             clear BK153
             clear BK171
             clear BK181
             clear BK189
             clear HB
             clear h0_ h1_ h2_ h3_ h4_ h5_ h6_ h7_ h8_ h9_ h10_ h11_ h12_ h13_ h14_ h15_ h16_ h17_ h18_ h19_ h20_ h21_
             have HO212 := n0_
             have HO218 := n1_
             have HO224 := n2_
             have HO_172003 := n3_
             have HO_182003 := n4_
             have HO_190003 := n5_
             have BK153 := n6_
             have BK171 := n7_
             have BK181 := n8_
             have BK189 := n9_
             have BK226 := n10_
             have GW226 := n11_
             have GE226 := n12_
             have NB153_226 := n13_
             have NB226_153 := n14_
             have NB171_226 := n15_
             have NB226_171 := n16_
             have NB181_226 := n17_
             have NB226_181 := n18_
             have NB189_226 := n19_
             have NB226_189 := n20_
             have HB := n21_
             clear n0_ n1_ n2_ n3_ n4_ n5_ n6_ n7_ n8_ n9_ n10_ n11_ n12_ n13_ n14_ n15_ n16_ n17_ n18_ n19_ n20_ n21_
             have hHeld : w117.cell? ⟨gb153, 0, none⟩ = some (.int .i64 a2_0) ∧ w117.cell? ⟨gb153, 1, none⟩ = some (.int .i64 a2_1) ∧ w117.cell? ⟨gb153, 2, none⟩ = some (.int .i64 a2_2) ∧ w117.cell? ⟨gb153, 3, none⟩ = some (.slice A2_3 l2_3.length c2_3) := hS_
             obtain ⟨Ao121, co121, eo121⟩ := Kd.R_slice HO224.out
             (first | subst eo121 | (injection eo121 with f1_ f2_ f3_; have f4_ := f1_.symm; have f5_ := f3_.symm; clear f1_ f2_ f3_; subst f4_; subst f5_))
             refine norm_ (a' := ?_) ?_ ?_
             rotate_left
             ·simp only [putAll, Act.put, List.setIfInBounds_toArray, List.set_cons_zero, List.set_cons_succ]
              rfl
             refine one_ (i := 10) (N := none) #[true, true, true, true, true, true, true, true, true, true, true, false] rfl rfl (one_of HT_.out (by kernel_rfl)) (by decide) (fun K hK => ?_)
             have hs118 : w117.cell? ⟨gb226, 0, none⟩ = some (.int .i64 0) := (blk_cell BK226.out 0).trans rfl
             have hfs118 := blk_frozen BK226.out 0
             have hns118_0 := NB153_226.out
             have hns118_1 := NB171_226.out
             have hns118_2 := NB181_226.out
             have hns118_3 := NB189_226.out
             have hms118_0 := NB226_153.out
             have hms118_1 := NB226_171.out
             have hms118_2 := NB226_181.out
             have hms118_3 := NB226_189.out
             have hs119 : w117.cell? ⟨gb226, 1, none⟩ = some (.int .i64 0) := (blk_cell BK226.out 1).trans rfl
             have hfs119 := blk_frozen BK226.out 1
             have hns119_0 := NB153_226.out
             have hns119_1 := NB171_226.out
             have hns119_2 := NB181_226.out
             have hns119_3 := NB189_226.out
             have hms119_0 := NB226_153.out
             have hms119_1 := NB226_171.out
             have hms119_2 := NB226_181.out
             have hms119_3 := NB226_189.out
             have hs120 : w117.cell? ⟨gb226, 2, none⟩ = some (.int .i64 0) := (blk_cell BK226.out 2).trans rfl
             have hfs120 := blk_frozen BK226.out 2
             have hns120_0 := NB153_226.out
             have hns120_1 := NB171_226.out
             have hns120_2 := NB181_226.out
             have hns120_3 := NB189_226.out
             have hms120_0 := NB226_153.out
             have hms120_1 := NB226_171.out
             have hms120_2 := NB226_181.out
             have hms120_3 := NB226_189.out
             have hs122 : w117.cell? ⟨gb226, 3, none⟩ = some (.slice none 0 0) := (blk_cell BK226.out 3).trans rfl
             have hfs122 := blk_frozen BK226.out 3
             have hns122_0 := NB153_226.out
             have hns122_1 := NB171_226.out
             have hns122_2 := NB181_226.out
             have hns122_3 := NB189_226.out
             have hms122_0 := NB226_153.out
             have hms122_1 := NB226_171.out
             have hms122_2 := NB226_181.out
             have hms122_3 := NB226_189.out
             refine skip_ (w1 := ?_) (by rfl) rfl ?_ ?_
             rotate_left
             ·go_simp
              rfl
             refine hK.out _ _ ⟨((cell_far (p := ⟨gb226, _, none⟩) NB153_226.out _).trans (((cell_far (p := ⟨gb226, _, none⟩) NB153_226.out _).trans (((cell_far (p := ⟨gb226, _, none⟩) NB153_226.out _).trans (((cell_far (p := ⟨gb226, _, none⟩) NB153_226.out _).trans (hHeld.1)))))))), ((cell_far (p := ⟨gb226, _, none⟩) NB153_226.out _).trans (((cell_far (p := ⟨gb226, _, none⟩) NB153_226.out _).trans (((cell_far (p := ⟨gb226, _, none⟩) NB153_226.out _).trans (((cell_far (p := ⟨gb226, _, none⟩) NB153_226.out _).trans (hHeld.2.1)))))))), ((cell_far (p := ⟨gb226, _, none⟩) NB153_226.out _).trans (((cell_far (p := ⟨gb226, _, none⟩) NB153_226.out _).trans (((cell_far (p := ⟨gb226, _, none⟩) NB153_226.out _).trans (((cell_far (p := ⟨gb226, _, none⟩) NB153_226.out _).trans (hHeld.2.2.1)))))))), ((cell_far (p := ⟨gb226, _, none⟩) NB153_226.out _).trans (((cell_far (p := ⟨gb226, _, none⟩) NB153_226.out _).trans (((cell_far (p := ⟨gb226, _, none⟩) NB153_226.out _).trans (((cell_far (p := ⟨gb226, _, none⟩) NB153_226.out _).trans (hHeld.2.2.2))))))))⟩ (fun hHeld => ?_)
             clear hK K
             refine pure_ (i := 11) (N := some 18) (v := ?_) (a' := ?_) #[true, true, true, true, true, true, true, true, true, true, true, true] rfl rfl (any_of HT_.out (by kernel_rfl)) (fun _ _ _ h => h) (Or.inl ⟨by rfl, ?_⟩) ?_ ?_
             rotate_left
             ·intro w'
              go_simp
              with_reducible rfl
             rotate_left
             ·simp only [Act.put, List.setIfInBounds_toArray, List.set_cons_zero, List.set_cons_succ, i64_w, i32_w]
              rfl
             refine done_ (done_of HT_.out (by kernel_rfl)) ?_
             go_upto_region 31 with (fail)
             go_cut [113] (fun v113 wc => ∃ (kq : Nat) (x113_101 : Bool), v113 = .bool x113_101 ∧ Aside0 (laws_FnExactReply.j2 kq t207 x113_101 t182 t183 t184 t208 = some true) ∧ Aside0 (kq ≤ kj69) ∧ Aside0 (Kd.R (Kd.int .u8) 5 wc w.heap.size (fun k_ => some k_ ≠ ((.slice Ao42 t205.length co42) : Value).ownBlock ∧ some k_ ≠ ((.slice Ao50 t185.length co50) : Value).ownBlock ∧ some k_ ≠ ((.slice Ao121 t222.length co121) : Value).ownBlock) (.slice Ao32 t167.length co32) t167) ∧ Aside0 (Kd.R (Kd.int .u8) 5 wc w.heap.size (fun k_ => some k_ ≠ ((.slice Ao32 t167.length co32) : Value).ownBlock ∧ some k_ ≠ ((.slice Ao50 t185.length co50) : Value).ownBlock ∧ some k_ ≠ ((.slice Ao121 t222.length co121) : Value).ownBlock) (.slice Ao42 t205.length co42) t205) ∧ Aside0 (Kd.R (Kd.int .u8) 5 wc w.heap.size (fun k_ => some k_ ≠ ((.slice Ao32 t167.length co32) : Value).ownBlock ∧ some k_ ≠ ((.slice Ao42 t205.length co42) : Value).ownBlock ∧ some k_ ≠ ((.slice Ao121 t222.length co121) : Value).ownBlock) (.slice Ao50 t185.length co50) t208) ∧ Aside0 (Kd.R (Kd.int .u8) 5 wc w.heap.size (fun k_ => some k_ ≠ ((.slice Ao32 t167.length co32) : Value).ownBlock ∧ some k_ ≠ ((.slice Ao42 t205.length co42) : Value).ownBlock ∧ some k_ ≠ ((.slice Ao50 t185.length co50) : Value).ownBlock) (.slice Ao121 t222.length co121) t222) ∧ Aside0 (wc.heap[gb153]? = some (.cells #[.int .i64 a2_0, .int .i64 a2_1, .int .i64 a2_2, (.slice A2_3 l2_3.length c2_3)] 38 (0, 0))) ∧ Aside0 (wc.heap[gb171]? = some (.cells #[.int .i64 t164, .int .i64 t165, .int .i64 t166, (.slice Ao32 t167.length co32)] 41 (0, 0))) ∧ Aside0 (wc.heap[gb181]? = some (.cells #[.int .i64 t175, .int .i64 t176, .int .i64 t177, (.slice Ao42 t205.length co42)] 41 (0, 0))) ∧ Aside0 (wc.heap[gb189]? = some (.cells #[.int .i64 t182, .int .i64 t183, .int .i64 t184, (.slice Ao50 t185.length co50)] 41 (0, 0))) ∧ Aside0 (wc.heap[gb226]? = some (.cells #[.int .i64 t219, .int .i64 t220, .int .i64 t221, (.slice Ao121 t222.length co121)] 41 (0, 0))) ∧ Aside0 (Below w.heap.size w wc))
             case first =>
              have H := HC102.out
              clear HC102
              replace H := Option.bind_eq_some_iff.mp H
              obtain ⟨t227, A1230, H⟩ := H
              replace H : (if t227 = true then (laws_FnExactReply.j2 kj69 t207 (t225 != t170) t182 t183 t184 t208) else (laws_FnExactReply.j2 kj69 t207 true t182 t183 t184 t208)) = some true := H
              have A123 := Aside0.mk A1230
              clear A1230
              by_cases c124 : t227 = true
              ·subst c124
               have H1 : (laws_FnExactReply.j2 kj69 t207 (t225 != t170) t182 t183 t184 t208) = some true := by first | (rw [if_pos rfl] at H; exact H) | with_reducible rfl
               clear H
               have H := H1
               clear H1
               have H' := Aside0.mk H
               clear H
               have hnb125 := NB226_153.out
               have hnc125 := NB153_226.out
               have hnb126 := NB226_171.out
               have hnc126 := NB171_226.out
               have hnb127 := NB226_181.out
               have hnc127 := NB181_226.out
               have hnb128 := NB226_189.out
               have hnc128 := NB189_226.out
               have hcz129_0 : w117.cell? ⟨gb226, 0, none⟩ = some (.int .i64 0) := (blk_cell BK226.out 0).trans rfl
               have hcz129_1 : w117.cell? ⟨gb226, 1, none⟩ = some (.int .i64 0) := (blk_cell BK226.out 1).trans rfl
               have hcz129_2 : w117.cell? ⟨gb226, 2, none⟩ = some (.int .i64 0) := (blk_cell BK226.out 2).trans rfl
               have hcz129_3 : w117.cell? ⟨gb226, 3, none⟩ = some (.slice none 0 0) := (blk_cell BK226.out 3).trans rfl
               have hfz129_0 := blk_frozen BK226.out 0
               have hfz129_1 := blk_frozen BK226.out 1
               have hfz129_2 := blk_frozen BK226.out 2
               have hfz129_3 := blk_frozen BK226.out 3
               have hnb130 := NB171_153.out
               have hnc130 := NB153_171.out
               have hnb131 := NB171_181.out
               have hnc131 := NB181_171.out
               have hnb132 := NB171_189.out
               have hnc132 := NB189_171.out
               have hcz133_0 : w117.cell? ⟨gb171, 0, none⟩ = some (.int .i64 t164) := (blk_cell BK171.out 0).trans rfl
               have hcz133_1 : w117.cell? ⟨gb171, 1, none⟩ = some (.int .i64 t165) := (blk_cell BK171.out 1).trans rfl
               have hcz133_2 : w117.cell? ⟨gb171, 2, none⟩ = some (.int .i64 t166) := (blk_cell BK171.out 2).trans rfl
               have hcz133_3 : w117.cell? ⟨gb171, 3, none⟩ = some (.slice Ao32 t167.length co32) := (blk_cell BK171.out 3).trans rfl
               have hfz133_0 := blk_frozen BK171.out 0
               have hfz133_1 := blk_frozen BK171.out 1
               have hfz133_2 := blk_frozen BK171.out 2
               have hfz133_3 := blk_frozen BK171.out 3
               go_wp2_with (first | ((with_reducible refine gate_callee (f := 26) rfl ?_); refine goesL_ (some 107) rfl rfl Try.func26 (by kernel_rfl) rfl #[.agg #[.int .i64 t219, .int .i64 t220, .int .i64 t221, .slice Ao121 t222.length co121], .agg #[.int .i64 t164, .int .i64 t165, .int .i64 t166, .slice Ao32 t167.length co32]] rfl (by (try simp only [List.map_toArray, List.map_cons, List.map_nil]); first | done | rfl | (simp only [List.length_drop, List.length_take]; rfl)) ?_; (with_reducible refine (laws_eqFrame.calls kj69 t219 t220 t221 _ _ t222 t164 t165 t166 _ _ t167 true _ ?side1 ?side2 ?side3 ?side4 A123.out).mono ?_); (case side1 => refine (Kd.R_reads' (e := 5) (base := w.heap.size) (ok := fun k_ => (some k_ ≠ (v211 : Value).ownBlock ∧ (some k_ ≠ (v217 : Value).ownBlock ∧ (some k_ ≠ (.slice Ao32 t167.length co32 : Value).ownBlock ∧ (some k_ ≠ (.slice Ao42 t205.length co42 : Value).ownBlock ∧ some k_ ≠ (.slice Ao50 t185.length co50 : Value).ownBlock))))) (n := t222.length) (c := co121) ?_).2.2; exact (by (with_reducible repeat (first | apply Kd.R_alloc | apply Kd.R_drewN | apply Kd.R_drew)); exact (Kd.R_mono (Kd.R_far (p := ⟨gb226, 3, none⟩) (Kd.R_far (p := ⟨gb226, 2, none⟩) (Kd.R_far (p := ⟨gb226, 1, none⟩) (Kd.R_far (p := ⟨gb226, 0, none⟩) (Kd.R_types HO224.out BK226.out (by decide)) (fun _ hk => hk.2) (.int .i64 t219)) (fun _ hk => hk.2) (.int .i64 t220)) (fun _ hk => hk.2) (.int .i64 t221)) (fun _ hk => hk.2) (.slice Ao121 t222.length co121)) (fun _ h_ => h_.1)))); (case side2 => exact (Kd.R_reads' HO224.out).2.1); (case side3 => refine (Kd.R_reads' (e := 5) (base := w.heap.size) (ok := fun k_ => (some k_ ≠ (v211 : Value).ownBlock ∧ (some k_ ≠ (v217 : Value).ownBlock ∧ (some k_ ≠ (.slice Ao121 t222.length co121 : Value).ownBlock ∧ (some k_ ≠ (.slice Ao42 t205.length co42 : Value).ownBlock ∧ some k_ ≠ (.slice Ao50 t185.length co50 : Value).ownBlock))))) (n := t167.length) (c := co32) ?_).2.2; exact (by (with_reducible repeat (first | apply Kd.R_alloc | apply Kd.R_drewN | apply Kd.R_drew)); exact (Kd.R_mono (Kd.R_far (p := ⟨gb226, 3, none⟩) (Kd.R_far (p := ⟨gb226, 2, none⟩) (Kd.R_far (p := ⟨gb226, 1, none⟩) (Kd.R_far (p := ⟨gb226, 0, none⟩) (Kd.R_types HO_172003.out BK226.out (by decide)) (fun _ hk => hk.2) (.int .i64 t219)) (fun _ hk => hk.2) (.int .i64 t220)) (fun _ hk => hk.2) (.int .i64 t221)) (fun _ hk => hk.2) (.slice Ao121 t222.length co121)) (fun _ h_ => h_.1)))); (case side4 => exact (Kd.R_reads' HO_172003.out).2.1); rintro e w134 ⟨rfl, hb⟩; refine ⟨_, rfl, ?_⟩; have n0_ := am (Kd.R_below (by (with_reducible repeat (first | apply Kd.R_alloc | apply Kd.R_drewN | apply Kd.R_drew)); exact (Kd.R_mono (Kd.R_far (p := ⟨gb226, 3, none⟩) (Kd.R_far (p := ⟨gb226, 2, none⟩) (Kd.R_far (p := ⟨gb226, 1, none⟩) (Kd.R_far (p := ⟨gb226, 0, none⟩) (Kd.R_types HO_172003.out BK226.out (by decide)) (fun _ hk => hk.2) (.int .i64 t219)) (fun _ hk => hk.2) (.int .i64 t220)) (fun _ hk => hk.2) (.int .i64 t221)) (fun _ hk => hk.2) (.slice Ao121 t222.length co121)) (fun _ h_ => h_.1))) hb); have n1_ := am (Kd.R_below (by (with_reducible repeat (first | apply Kd.R_alloc | apply Kd.R_drewN | apply Kd.R_drew)); exact (Kd.R_mono (Kd.R_far (p := ⟨gb226, 3, none⟩) (Kd.R_far (p := ⟨gb226, 2, none⟩) (Kd.R_far (p := ⟨gb226, 1, none⟩) (Kd.R_far (p := ⟨gb226, 0, none⟩) (Kd.R_types HO_182003.out BK226.out (by decide)) (fun _ hk => hk.2) (.int .i64 t219)) (fun _ hk => hk.2) (.int .i64 t220)) (fun _ hk => hk.2) (.int .i64 t221)) (fun _ hk => hk.2) (.slice Ao121 t222.length co121)) (fun _ h_ => h_.1))) hb); have n2_ := am (Kd.R_below (by (with_reducible repeat (first | apply Kd.R_alloc | apply Kd.R_drewN | apply Kd.R_drew)); exact (Kd.R_mono (Kd.R_far (p := ⟨gb226, 3, none⟩) (Kd.R_far (p := ⟨gb226, 2, none⟩) (Kd.R_far (p := ⟨gb226, 1, none⟩) (Kd.R_far (p := ⟨gb226, 0, none⟩) (Kd.R_types HO_190003.out BK226.out (by decide)) (fun _ hk => hk.2) (.int .i64 t219)) (fun _ hk => hk.2) (.int .i64 t220)) (fun _ hk => hk.2) (.int .i64 t221)) (fun _ hk => hk.2) (.slice Ao121 t222.length co121)) (fun _ h_ => h_.1))) hb); have n3_ := am (Kd.R_below (by (with_reducible repeat (first | apply Kd.R_alloc | apply Kd.R_drewN | apply Kd.R_drew)); exact (Kd.R_mono (Kd.R_far (p := ⟨gb226, 3, none⟩) (Kd.R_far (p := ⟨gb226, 2, none⟩) (Kd.R_far (p := ⟨gb226, 1, none⟩) (Kd.R_far (p := ⟨gb226, 0, none⟩) (Kd.R_types HO212.out BK226.out (by decide)) (fun _ hk => hk.2) (.int .i64 t219)) (fun _ hk => hk.2) (.int .i64 t220)) (fun _ hk => hk.2) (.int .i64 t221)) (fun _ hk => hk.2) (.slice Ao121 t222.length co121)) (fun _ h_ => h_.1))) hb); have n4_ := am (Kd.R_below (by (with_reducible repeat (first | apply Kd.R_alloc | apply Kd.R_drewN | apply Kd.R_drew)); exact (Kd.R_mono (Kd.R_far (p := ⟨gb226, 3, none⟩) (Kd.R_far (p := ⟨gb226, 2, none⟩) (Kd.R_far (p := ⟨gb226, 1, none⟩) (Kd.R_far (p := ⟨gb226, 0, none⟩) (Kd.R_types HO218.out BK226.out (by decide)) (fun _ hk => hk.2) (.int .i64 t219)) (fun _ hk => hk.2) (.int .i64 t220)) (fun _ hk => hk.2) (.int .i64 t221)) (fun _ hk => hk.2) (.slice Ao121 t222.length co121)) (fun _ h_ => h_.1))) hb); have n5_ := am (Kd.R_below (by (with_reducible repeat (first | apply Kd.R_alloc | apply Kd.R_drewN | apply Kd.R_drew)); exact (Kd.R_mono (Kd.R_far (p := ⟨gb226, 3, none⟩) (Kd.R_far (p := ⟨gb226, 2, none⟩) (Kd.R_far (p := ⟨gb226, 1, none⟩) (Kd.R_far (p := ⟨gb226, 0, none⟩) (Kd.R_types HO224.out BK226.out (by decide)) (fun _ hk => hk.2) (.int .i64 t219)) (fun _ hk => hk.2) (.int .i64 t220)) (fun _ hk => hk.2) (.int .i64 t221)) (fun _ hk => hk.2) (.slice Ao121 t222.length co121)) (fun _ h_ => h_.1))) hb); have n6_ := am (blk_below (g := gb153) (o := .cells #[.int .i64 a2_0, .int .i64 a2_1, .int .i64 a2_2, .slice A2_3 l2_3.length c2_3] 38 (0, 0)) (by (with_reducible repeat (first | refine blk_drewN ?_ _ | refine blk_drew ?_ | refine blk_alloc ?_ _)); refine blk_far ?_ NB153_226.out _; (with_reducible repeat (first | refine blk_drewN ?_ _ | refine blk_drew ?_ | refine blk_alloc ?_ _)); refine blk_far ?_ NB153_226.out _; (with_reducible repeat (first | refine blk_drewN ?_ _ | refine blk_drew ?_ | refine blk_alloc ?_ _)); refine blk_far ?_ NB153_226.out _; (with_reducible repeat (first | refine blk_drewN ?_ _ | refine blk_drew ?_ | refine blk_alloc ?_ _)); refine blk_far ?_ NB153_226.out _; (with_reducible repeat (first | refine blk_drewN ?_ _ | refine blk_drew ?_ | refine blk_alloc ?_ _)); exact BK153.out) hb); have n7_ := am (blk_below (g := gb171) (o := .cells #[.int .i64 t164, .int .i64 t165, .int .i64 t166, .slice Ao32 t167.length co32] 41 (0, 0)) (by (with_reducible repeat (first | refine blk_drewN ?_ _ | refine blk_drew ?_ | refine blk_alloc ?_ _)); refine blk_far ?_ NB171_226.out _; (with_reducible repeat (first | refine blk_drewN ?_ _ | refine blk_drew ?_ | refine blk_alloc ?_ _)); refine blk_far ?_ NB171_226.out _; (with_reducible repeat (first | refine blk_drewN ?_ _ | refine blk_drew ?_ | refine blk_alloc ?_ _)); refine blk_far ?_ NB171_226.out _; (with_reducible repeat (first | refine blk_drewN ?_ _ | refine blk_drew ?_ | refine blk_alloc ?_ _)); refine blk_far ?_ NB171_226.out _; (with_reducible repeat (first | refine blk_drewN ?_ _ | refine blk_drew ?_ | refine blk_alloc ?_ _)); exact BK171.out) hb); have n8_ := am (blk_below (g := gb181) (o := .cells #[.int .i64 t175, .int .i64 t176, .int .i64 t177, .slice Ao42 t205.length co42] 41 (0, 0)) (by (with_reducible repeat (first | refine blk_drewN ?_ _ | refine blk_drew ?_ | refine blk_alloc ?_ _)); refine blk_far ?_ NB181_226.out _; (with_reducible repeat (first | refine blk_drewN ?_ _ | refine blk_drew ?_ | refine blk_alloc ?_ _)); refine blk_far ?_ NB181_226.out _; (with_reducible repeat (first | refine blk_drewN ?_ _ | refine blk_drew ?_ | refine blk_alloc ?_ _)); refine blk_far ?_ NB181_226.out _; (with_reducible repeat (first | refine blk_drewN ?_ _ | refine blk_drew ?_ | refine blk_alloc ?_ _)); refine blk_far ?_ NB181_226.out _; (with_reducible repeat (first | refine blk_drewN ?_ _ | refine blk_drew ?_ | refine blk_alloc ?_ _)); exact BK181.out) hb); have n9_ := am (blk_below (g := gb189) (o := .cells #[.int .i64 t182, .int .i64 t183, .int .i64 t184, .slice Ao50 t185.length co50] 41 (0, 0)) (by (with_reducible repeat (first | refine blk_drewN ?_ _ | refine blk_drew ?_ | refine blk_alloc ?_ _)); refine blk_far ?_ NB189_226.out _; (with_reducible repeat (first | refine blk_drewN ?_ _ | refine blk_drew ?_ | refine blk_alloc ?_ _)); refine blk_far ?_ NB189_226.out _; (with_reducible repeat (first | refine blk_drewN ?_ _ | refine blk_drew ?_ | refine blk_alloc ?_ _)); refine blk_far ?_ NB189_226.out _; (with_reducible repeat (first | refine blk_drewN ?_ _ | refine blk_drew ?_ | refine blk_alloc ?_ _)); refine blk_far ?_ NB189_226.out _; (with_reducible repeat (first | refine blk_drewN ?_ _ | refine blk_drew ?_ | refine blk_alloc ?_ _)); exact BK189.out) hb); have n10_ := am (blk_below (g := gb226) (o := .cells #[.int .i64 t219, .int .i64 t220, .int .i64 t221, .slice Ao121 t222.length co121] 41 (0, 0)) (by (with_reducible repeat (first | refine blk_drewN ?_ _ | refine blk_drew ?_ | refine blk_alloc ?_ _)); refine blk_put (cs := #[.int .i64 t219, .int .i64 t220, .int .i64 t221, .slice none 0 0]) ?_ 3 _ rfl; (with_reducible repeat (first | refine blk_drewN ?_ _ | refine blk_drew ?_ | refine blk_alloc ?_ _)); refine blk_put (cs := #[.int .i64 t219, .int .i64 t220, .int .i64 0, .slice none 0 0]) ?_ 2 _ rfl; (with_reducible repeat (first | refine blk_drewN ?_ _ | refine blk_drew ?_ | refine blk_alloc ?_ _)); refine blk_put (cs := #[.int .i64 t219, .int .i64 0, .int .i64 0, .slice none 0 0]) ?_ 1 _ rfl; (with_reducible repeat (first | refine blk_drewN ?_ _ | refine blk_drew ?_ | refine blk_alloc ?_ _)); refine blk_put (cs := #[.int .i64 0, .int .i64 0, .int .i64 0, .slice none 0 0]) ?_ 0 _ rfl; (with_reducible repeat (first | refine blk_drewN ?_ _ | refine blk_drew ?_ | refine blk_alloc ?_ _)); exact BK226.out) hb); have n11_ := am (below_step (by repeat (first | (with_reducible first | exact HB.out | apply below_alloc | apply pw_below_drewN | apply below_drew1 | refine below_set ?_ GE153.out | refine below_set ?_ GE171.out | refine below_set ?_ GE181.out | refine below_set ?_ GE189.out | refine below_set ?_ GE226.out) | exact HB.out)) hb); clear HO_172003; clear HO_182003; clear HO_190003; clear HO212; clear HO218; clear HO224; clear BK153; clear BK171; clear BK181; clear BK189; clear BK226; clear HB; have HO_172003 := n0_; have HO_182003 := n1_; have HO_190003 := n2_; have HO212 := n3_; have HO218 := n4_; have HO224 := n5_; have BK153 := n6_; have BK171 := n7_; have BK181 := n8_; have BK189 := n9_; have BK226 := n10_; have HB := n11_; clear n0_ n1_ n2_ n3_ n4_ n5_ n6_ n7_ n8_ n9_ n10_ n11_; (try clear hb); (try clear hb2); (try clear hk); (try clear hi)))
               go_meet
               case rel => exact ⟨_, ((t225 != t170)), (by first | rfl | (simp; done) | (simp [*]; done)), H', ⟨by have := HJ16.out; have := HJ69.out; first | omega | exact Nat.le_refl _⟩, ⟨by (try simp only [hl182003_69]); (with_reducible repeat (first | apply Kd.R_alloc | apply Kd.R_drewN | apply Kd.R_drew)); exact Kd.R_mono HO_172003.out (fun _ hk => ⟨hk.2.2.2.1, ⟨hk.2.2.2.2, hk.2.2.1⟩⟩)⟩, ⟨by (try simp only [hl182003_69]); (with_reducible repeat (first | apply Kd.R_alloc | apply Kd.R_drewN | apply Kd.R_drew)); exact Kd.R_mono HO_182003.out (fun _ hk => ⟨hk.2.2.2.1, ⟨hk.2.2.2.2, hk.2.2.1⟩⟩)⟩, ⟨by (try simp only [hl182003_69]); (with_reducible repeat (first | apply Kd.R_alloc | apply Kd.R_drewN | apply Kd.R_drew)); exact Kd.R_mono HO_190003.out (fun _ hk => ⟨hk.2.2.2.1, ⟨hk.2.2.2.2, hk.2.2.1⟩⟩)⟩, ⟨by (try simp only [hl182003_69]); (with_reducible repeat (first | apply Kd.R_alloc | apply Kd.R_drewN | apply Kd.R_drew)); exact Kd.R_mono HO224.out (fun _ hk => ⟨hk.2.2.1, ⟨hk.2.2.2.1, hk.2.2.2.2⟩⟩)⟩, ⟨by (try simp only [hl182003_69]); (with_reducible repeat (first | refine blk_drewN ?_ _ | refine blk_drew ?_ | refine blk_alloc ?_ _)); exact BK153.out⟩, ⟨by (try simp only [hl182003_69]); (with_reducible repeat (first | refine blk_drewN ?_ _ | refine blk_drew ?_ | refine blk_alloc ?_ _)); exact BK171.out⟩, ⟨by (try simp only [hl182003_69]); (with_reducible repeat (first | refine blk_drewN ?_ _ | refine blk_drew ?_ | refine blk_alloc ?_ _)); exact BK181.out⟩, ⟨by (try simp only [hl182003_69]); (with_reducible repeat (first | refine blk_drewN ?_ _ | refine blk_drew ?_ | refine blk_alloc ?_ _)); exact BK189.out⟩, ⟨by (try simp only [hl182003_69]); (with_reducible repeat (first | refine blk_drewN ?_ _ | refine blk_drew ?_ | refine blk_alloc ?_ _)); exact BK226.out⟩, ⟨by repeat (first | (with_reducible first | exact HB.out | apply below_alloc | apply pw_below_drewN | apply below_drew1 | refine below_set ?_ GE153.out | refine below_set ?_ GE171.out | refine below_set ?_ GE181.out | refine below_set ?_ GE189.out | refine below_set ?_ GE226.out) | exact HB.out)⟩⟩
              ·replace c124 := Bool.eq_false_iff.mpr c124
               subst c124
               have H1 : (laws_FnExactReply.j2 kj69 t207 true t182 t183 t184 t208) = some true := by first | (rw [if_neg (show ¬ (false = true) by decide)] at H; exact H) | with_reducible rfl
               clear H
               have H := H1
               clear H1
               exact absurd H (by cases kj69 <;> simp [laws_FnExactReply.j2])
             case rest =>
              clear HC102
              try clear c1
              try clear c2
              try clear p2
              try clear c5
              try clear c12
              try clear c13
              try clear c24
              try clear c26
              try clear c56
              try clear c57
              try clear c124
              try clear c125
              try clear c126
              try clear c127
              try clear c128
              try clear c130
              try clear c131
              try clear c132
              try clear hcz129_0
              try clear hcz129_1
              try clear hcz129_2
              try clear hcz129_3
              try clear hcz133_0
              try clear hcz133_1
              try clear hcz133_2
              try clear hcz133_3
              try clear hfz129_0
              try clear hfz129_1
              try clear hfz129_2
              try clear hfz129_3
              try clear hfz133_0
              try clear hfz133_1
              try clear hfz133_2
              try clear hfz133_3
              obtain ⟨kq, x113_101, rfl, HA, HJ101, HO_172003, HO_182003, HO_190003, HO_227003, BK153, BK171, BK181, BK189, BK226, HB⟩ := hcut
              have hl190003_101 := (Kd.R_reads' HO_190003.out).1
              rw [hl190003_101] at HO_190003
              (try simp only [hl190003_101])
              (try simp only [hl190003_101] at BK153)
              (try simp only [hl190003_101] at BK171)
              (try simp only [hl190003_101] at BK181)
              (try simp only [hl190003_101] at BK189)
              (try simp only [hl190003_101] at BK226)
              (try simp only [hl190003_101] at HO_172003)
              (try simp only [hl190003_101] at HO_182003)
              (try simp only [hl190003_101] at HO_227003)
              cases kq with
              | zero => exact absurd HA.out (by simp [laws_FnExactReply.j2])
              | succ kj101 =>
               have H := HA.out
               clear HA
               simp only [laws_FnExactReply.j2] at H
               by_cases c135 : x113_101 = true
               ·subst c135
                have H1 : (some false) = some true := by first | (rw [if_pos rfl] at H; exact H) | with_reducible rfl
                clear H
                have H := H1
                clear H1
                exact absurd H (by simp)
               ·replace c135 := Bool.eq_false_iff.mpr c135
                subst c135
                have H1 : ((laws_heldFrame.f kj101 t182 t183 t184 t208 1).bind fun t228 => (if t228 < 0 then (some false) else (if t228 = t207 then (some true) else (some false)))) = some true := by first | (rw [if_neg (show ¬ (false = true) by decide)] at H; exact H) | with_reducible rfl
                clear H
                have H := H1
                clear H1
                replace H := Option.bind_eq_some_iff.mp H
                obtain ⟨t228, A1360, H⟩ := H
                replace H : (if t228 < 0 then (some false) else (if t228 = t207 then (some true) else (some false))) = some true := H
                have A136 := Aside0.mk A1360
                clear A1360
                by_cases c137 : t228 < 0
                ·rw [if_pos c137] at H
                 have c137b0 : decide (t228 < 0) = true := decide_eq_true c137
                 clear c137
                 exact absurd H (by simp)
                ·rw [if_neg c137] at H
                 have c137b0 : decide (t228 < 0) = false := decide_eq_false c137
                 clear c137
                 by_cases c138 : t228 = t207
                 ·rw [if_pos c138] at H
                  have c138b0 : (t228 == t207) = true := beq_iff_eq.mpr c138
                  have c138b1 : (t228 != t207) = false := bne_eq_false_iff_eq.mpr c138
                  clear c138
                  clear H
                  have hnb139 := NB189_153.out
                  have hnc139 := NB153_189.out
                  have hnb140 := NB189_171.out
                  have hnc140 := NB171_189.out
                  have hnb141 := NB189_181.out
                  have hnc141 := NB181_189.out
                  have hnb142 := NB189_226.out
                  have hnc142 := NB226_189.out
                  have hcz143_0 : wc.cell? ⟨gb189, 0, none⟩ = some (.int .i64 t182) := (blk_cell BK189.out 0).trans rfl
                  have hcz143_1 : wc.cell? ⟨gb189, 1, none⟩ = some (.int .i64 t183) := (blk_cell BK189.out 1).trans rfl
                  have hcz143_2 : wc.cell? ⟨gb189, 2, none⟩ = some (.int .i64 t184) := (blk_cell BK189.out 2).trans rfl
                  have hcz143_3 : wc.cell? ⟨gb189, 3, none⟩ = some (.slice Ao50 t208.length co50) := (blk_cell BK189.out 3).trans rfl
                  have hfz143_0 := blk_frozen BK189.out 0
                  have hfz143_1 := blk_frozen BK189.out 1
                  have hfz143_2 := blk_frozen BK189.out 2
                  have hfz143_3 := blk_frozen BK189.out 3
                  go_wp2_with (first | ((with_reducible refine gate_callee (f := 59) rfl ?_); refine goesL_ (some 116) rfl rfl Try.func59 (by kernel_rfl) rfl #[.agg #[.int .i64 t182, .int .i64 t183, .int .i64 t184, .slice Ao50 t208.length co50], .int .i64 1] rfl (by (try simp only [List.map_toArray, List.map_cons, List.map_nil]); first | done | rfl | (simp only [List.length_drop, List.length_take]; rfl)) ?_; (with_reducible refine (laws_heldFrame.calls kj101 t182 t183 t184 _ _ t208 1 t228 _ ?side1 ?side2 A136.out).mono ?_); (case side1 => repeat (first | exact (Kd.R_reads' HO_190003.out).2.2 | (with_reducible refine Kd.C_alloc ?_ _) | (with_reducible refine Kd.C_drewN ?_ _) | (with_reducible refine Kd.C_drew ?_))); (case side2 => exact (Kd.R_reads' HO_190003.out).2.1); rintro e w144 ⟨rfl, hb⟩; refine ⟨_, rfl, ?_⟩; have n0_ := am (shR HO_172003.out hb); have n1_ := am (shR HO_182003.out hb); have n2_ := am (shR HO_190003.out hb); have n3_ := am (shR HO_227003.out hb); have n4_ := am (shBK BK153.out hb); have n5_ := am (shBK BK171.out hb); have n6_ := am (shBK BK181.out hb); have n7_ := am (shBK BK189.out hb); have n8_ := am (shBK BK226.out hb); have n9_ := am (shHB HB.out hb); clear HO_172003; clear HO_182003; clear HO_190003; clear HO_227003; clear BK153; clear BK171; clear BK181; clear BK189; clear BK226; clear HB; have HO_172003 := n0_; have HO_182003 := n1_; have HO_190003 := n2_; have HO_227003 := n3_; have BK153 := n4_; have BK171 := n5_; have BK181 := n6_; have BK189 := n7_; have BK226 := n8_; have HB := n9_; clear n0_ n1_ n2_ n3_ n4_ n5_ n6_ n7_ n8_ n9_; (try clear hb); (try clear hb2); (try clear hk); (try clear hi)))
                  go_ret
                  exact ⟨by first | rfl | (simp [errW_none, errW_some] <;> rfl) | (simp [*, errW_none, errW_some] <;> rfl), by repeat (first | (with_reducible first | exact HB.out | apply below_alloc | apply pw_below_drewN | apply below_drew1 | refine below_set ?_ GE153.out | refine below_set ?_ GE171.out | refine below_set ?_ GE181.out | refine below_set ?_ GE189.out | refine below_set ?_ GE226.out) | exact HB.out)⟩
                 ·rw [if_neg c138] at H
                  have c138b0 : (t228 == t207) = false := beq_eq_false_iff_ne.mpr c138
                  have c138b1 : (t228 != t207) = true := bne_iff_ne.mpr c138
                  exact absurd H (by simp)
            ·rw [if_neg c98] at H
             have c98b0 : (t209 == t207) = false := beq_eq_false_iff_ne.mpr c98
             have c98b1 : (t209 != t207) = true := bne_iff_ne.mpr c98
             exact absurd H (by simp)
       ·replace c67 := Bool.eq_false_iff.mpr c67
        subst c67
        have H1 : (some false) = some true := by first | (rw [if_neg (show ¬ (false = true) by decide)] at H; exact H) | with_reducible rfl
        clear H
        have H := H1
        clear H1
        exact absurd H (by simp)
      ·replace c64 := Bool.eq_false_iff.mpr c64
       subst c64
       have H1 : (some false) = some true := by first | (rw [if_neg (show ¬ (false = true) by decide)] at H; exact H) | with_reducible rfl
       clear H
       have H := H1
       clear H1
       exact absurd H (by simp)

end Go.Proofs.Ytnnjhhoibhpbhaa.PFnExactReply
