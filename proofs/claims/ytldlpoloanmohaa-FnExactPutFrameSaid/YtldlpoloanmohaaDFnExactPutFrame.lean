/- What the parameters of the law FnExactPutFrame read as, and the law's pure statement (no memory in it). -/
import Derived.Test.YtldlpoloanmohaaPFnExactPutFramex5
import Derived.Test.YtldlpoloanmohaaOpens
set_option linter.unusedVariables false
namespace Go.Proofs.Ytldlpoloanmohaa.PFnExactPutFrame
open Go.ChangeShapes Go.WideShapes Go.RowKit
open Go.Proofs.YtldlpoloanmohaaW.PrintWords Go.Proofs.Ytldlpoloanmohaa.Op
theorem op_3 : Opens Try.prog 3 (Kd.int .i64) (fun z_ => (-9223372036854775808 ≤ z_ ∧ z_ ≤ 9223372036854775807)) := Opens.i64 Try.underlying3 (by kernel_rfl)
theorem op_5 : Opens Try.prog 5 (Kd.int .u8) (fun z_ => (0 ≤ z_ ∧ z_ ≤ 255)) := Opens.u8 Try.underlying5 (by kernel_rfl)
theorem op_22 : Opens Try.prog 22 (Kd.slice 5 (Kd.int .u8)) (fun z_ => (z_.length ≤ 9223372036854775807 ∧ ∀ x1 ∈ z_, (0 ≤ x1 ∧ x1 ≤ 255))) := Opens.slice Try.underlying22 (by kernel_rfl) op_5
theorem opv_44 : Opens Try.prog 44 (Kd.pair (Kd.int .i64) (Kd.pair (Kd.int .i64) (Kd.pair (Kd.int .i64) (Kd.slice 5 (Kd.int .u8))))) (fun z_ => ((-9223372036854775808 ≤ z_.1 ∧ z_.1 ≤ 9223372036854775807) ∧ (-9223372036854775808 ≤ z_.2.1 ∧ z_.2.1 ≤ 9223372036854775807) ∧ (-9223372036854775808 ≤ z_.2.2.1 ∧ z_.2.2.1 ≤ 9223372036854775807) ∧ (z_.2.2.2.length ≤ 9223372036854775807 ∧ ∀ x1 ∈ z_.2.2.2, (0 ≤ x1 ∧ x1 ≤ 255)))) := by
  refine ⟨by kernel_rfl, ?_⟩
  intro H enc w fuel cs x h
  obtain ⟨xs, n, rfl, rfl, hl, hxs, hf⟩ := DataW.trod_struct Try.underlying44 h
  have hcells : Try.prog.cellsOf 44 = 4 := by kernel_rfl
  rw [hcells] at hl
  have hc0 : Try.prog.cellsOf 3 = 1 := by kernel_rfl
  have t0 : DataW.trod enc Try.prog w 0 (fun _ => true) true n 3 ((cs.drop 0).take (Try.prog.cellsOf 3)) = xs[0]? := hf 0 _ rfl
  rw [hc0, List.getElem?_eq_getElem (by simp [hxs])] at t0
  obtain ⟨y0, K0, g0⟩ := op_3.op t0
  have hc1 : Try.prog.cellsOf 3 = 1 := by kernel_rfl
  have t1 : DataW.trod enc Try.prog w 0 (fun _ => true) true n 3 ((cs.drop 1).take (Try.prog.cellsOf 3)) = xs[1]? := hf 1 _ rfl
  rw [hc1, List.getElem?_eq_getElem (by simp [hxs])] at t1
  obtain ⟨y1, K1, g1⟩ := op_3.op t1
  have hc2 : Try.prog.cellsOf 3 = 1 := by kernel_rfl
  have t2 : DataW.trod enc Try.prog w 0 (fun _ => true) true n 3 ((cs.drop 2).take (Try.prog.cellsOf 3)) = xs[2]? := hf 2 _ rfl
  rw [hc2, List.getElem?_eq_getElem (by simp [hxs])] at t2
  obtain ⟨y2, K2, g2⟩ := op_3.op t2
  have hc3 : Try.prog.cellsOf 22 = 1 := by kernel_rfl
  have t3 : DataW.trod enc Try.prog w 0 (fun _ => true) true n 22 ((cs.drop 3).take (Try.prog.cellsOf 22)) = xs[3]? := hf 3 _ rfl
  rw [hc3, List.getElem?_eq_getElem (by simp [hxs])] at t3
  obtain ⟨y3, K3, g3⟩ := op_22.op t3
  rw [take_end cs 3 1 hl] at K3
  exact ⟨⟨y0, y1, y2, y3⟩, ⟨_, _, split_at cs 0 1, K0, ⟨_, _, split_at cs 1 1, K1, ⟨_, _, split_at cs 2 1, K2, K3⟩⟩⟩, ⟨g0, g1, g2, g3⟩⟩
/-- The pure statement of the law. -/
def laws_FnExactPutFrame.PureR : Prop := ∀ (a0_0 : Int) (a0_1 : Int) (a0_2 : Int) (l0_3 : (List Int)), (-9223372036854775808 ≤ a0_0 ∧ a0_0 ≤ 9223372036854775807) → (-9223372036854775808 ≤ a0_1 ∧ a0_1 ≤ 9223372036854775807) → (-9223372036854775808 ≤ a0_2 ∧ a0_2 ≤ 9223372036854775807) → (l0_3.length ≤ 9223372036854775807 ∧ ∀ x1 ∈ l0_3, (0 ≤ x1 ∧ x1 ≤ 255)) → ∃ k, laws_FnExactPutFrame.f k a0_0 a0_1 a0_2 l0_3 = some true
end Go.Proofs.Ytldlpoloanmohaa.PFnExactPutFrame
