/- What the parameters of the law FnExactPatchesOk read as, and the law's pure statement (no memory in it). -/
import Derived.Test.YtnnjhhoibhpbhaaPFnExactPatchesOkx4
import Derived.Test.YtnnjhhoibhpbhaaOpens
set_option linter.unusedVariables false
namespace Go.Proofs.Ytnnjhhoibhpbhaa.PFnExactPatchesOk
open Go.ChangeShapes Go.WideShapes Go.RowKit
open Go.Proofs.YtnnjhhoibhpbhaaW.PrintWords Go.Proofs.Ytnnjhhoibhpbhaa.Op
theorem op_3 : Opens Try.prog 3 (Kd.int .i64) (fun z_ => (-9223372036854775808 ≤ z_ ∧ z_ ≤ 9223372036854775807)) := Opens.i64 Try.underlying3 (by kernel_rfl)
theorem ops_92 : Opens Try.prog 92 k92 (fun z_ => ((-9223372036854775808 ≤ z_.f0 ∧ z_.f0 ≤ 9223372036854775807) ∧ (-9223372036854775808 ≤ z_.f1 ∧ z_.f1 ≤ 9223372036854775807) ∧ (-9223372036854775808 ≤ z_.f2 ∧ z_.f2 ≤ 9223372036854775807))) := by
  refine ⟨by kernel_rfl, ?_⟩
  intro H enc w fuel cs x h
  obtain ⟨xs, n, rfl, rfl, hl, hxs, hf⟩ := DataW.trod_struct Try.underlying92 h
  have hcells : Try.prog.cellsOf 92 = 3 := by kernel_rfl
  rw [hcells] at hl
  have hc0 : Try.prog.cellsOf 3 = 1 := by kernel_rfl
  have t0 : DataW.trod enc Try.prog w 0 (fun _ => true) true n 3 ((cs.drop 0).take (Try.prog.cellsOf 3)) = xs[0]? := hf 0 _ rfl
  rw [hc0, List.getElem?_eq_getElem (by simp [hxs])] at t0
  obtain ⟨y0, K0, g0⟩ := op_3.op t0
  have hc1 : Try.prog.cellsOf 3 = 1 := by kernel_rfl
  have t1 : DataW.trod enc Try.prog w 0 (fun _ => true) true n 3 ((cs.drop 1).take (Try.prog.cellsOf 3)) = xs[1]? := hf 1 _ rfl
  rw [hc1, List.getElem?_eq_getElem (by simp [hxs])] at t1
  obtain ⟨y1, K1, g1⟩ := op_3.op t1
  have hc2 : Try.prog.cellsOf 3 = 1 := by kernel_rfl
  have t2 : DataW.trod enc Try.prog w 0 (fun _ => true) true n 3 ((cs.drop 2).take (Try.prog.cellsOf 3)) = xs[2]? := hf 2 _ rfl
  rw [hc2, List.getElem?_eq_getElem (by simp [hxs])] at t2
  obtain ⟨y2, K2, g2⟩ := op_3.op t2
  rw [take_end cs 2 1 hl] at K2
  exact ⟨⟨y0, y1, y2⟩, ⟨_, _, split_at cs 0 1, K0, ⟨_, _, split_at cs 1 1, K1, K2⟩⟩, ⟨g0, g1, g2⟩⟩
instance : Inhabited S92 := ⟨z92⟩
theorem op_45 : Opens Try.prog 45 (Kd.slice 92 k92) (fun z_ => (z_.length ≤ 9223372036854775807 ∧ ∀ x1 ∈ z_, ((-9223372036854775808 ≤ x1.f0 ∧ x1.f0 ≤ 9223372036854775807) ∧ (-9223372036854775808 ≤ x1.f1 ∧ x1.f1 ≤ 9223372036854775807) ∧ (-9223372036854775808 ≤ x1.f2 ∧ x1.f2 ≤ 9223372036854775807)))) := Opens.slice Try.underlying45 (by kernel_rfl) ops_92
/-- The pure statement of the law. -/
def laws_FnExactPatchesOk.PureR : Prop := ∀ (l0 : (List S92)), (l0.length ≤ 9223372036854775807 ∧ ∀ x1 ∈ l0, ((-9223372036854775808 ≤ x1.f0 ∧ x1.f0 ≤ 9223372036854775807) ∧ (-9223372036854775808 ≤ x1.f1 ∧ x1.f1 ≤ 9223372036854775807) ∧ (-9223372036854775808 ≤ x1.f2 ∧ x1.f2 ≤ 9223372036854775807))) → ∃ k, laws_FnExactPatchesOk.f k l0 = some true
end Go.Proofs.Ytnnjhhoibhpbhaa.PFnExactPatchesOk
