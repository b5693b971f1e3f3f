/- What the parameters of the law FnExactSlotBytes read as, and the law's pure statement (no memory in it). -/
import Derived.Test.YtldlpoloanmohaaPFnExactSlotBytesx4
import Derived.Test.YtldlpoloanmohaaOpens
set_option linter.unusedVariables false
namespace Go.Proofs.Ytldlpoloanmohaa.PFnExactSlotBytes
open Go.ChangeShapes Go.WideShapes Go.RowKit
open Go.Proofs.YtldlpoloanmohaaW.PrintWords Go.Proofs.Ytldlpoloanmohaa.Op
theorem op_5 : Opens Try.prog 5 (Kd.int .u8) (fun z_ => (0 ≤ z_ ∧ z_ ≤ 255)) := Opens.u8 Try.underlying5 (by kernel_rfl)
theorem op_22 : Opens Try.prog 22 (Kd.slice 5 (Kd.int .u8)) (fun z_ => (z_.length ≤ 9223372036854775807 ∧ ∀ x1 ∈ z_, (0 ≤ x1 ∧ x1 ≤ 255))) := Opens.slice Try.underlying22 (by kernel_rfl) op_5
theorem op_3 : Opens Try.prog 3 (Kd.int .i64) (fun z_ => (-9223372036854775808 ≤ z_ ∧ z_ ≤ 9223372036854775807)) := Opens.i64 Try.underlying3 (by kernel_rfl)
theorem op_31 : Opens Try.prog 31 (Kd.slice 3 (Kd.int .i64)) (fun z_ => (z_.length ≤ 9223372036854775807 ∧ ∀ x1 ∈ z_, (-9223372036854775808 ≤ x1 ∧ x1 ≤ 9223372036854775807))) := Opens.slice Try.underlying31 (by kernel_rfl) op_3
theorem opv_33 : Opens Try.prog 33 (Kd.pair (Kd.slice 5 (Kd.int .u8)) (Kd.slice 3 (Kd.int .i64))) (fun z_ => ((z_.1.length ≤ 9223372036854775807 ∧ ∀ x1 ∈ z_.1, (0 ≤ x1 ∧ x1 ≤ 255)) ∧ (z_.2.length ≤ 9223372036854775807 ∧ ∀ x2 ∈ z_.2, (-9223372036854775808 ≤ x2 ∧ x2 ≤ 9223372036854775807)))) := by
  refine ⟨by kernel_rfl, ?_⟩
  intro H enc w fuel cs x h
  obtain ⟨xs, n, rfl, rfl, hl, hxs, hf⟩ := DataW.trod_struct Try.underlying33 h
  have hcells : Try.prog.cellsOf 33 = 2 := by kernel_rfl
  rw [hcells] at hl
  have hc0 : Try.prog.cellsOf 22 = 1 := by kernel_rfl
  have t0 : DataW.trod enc Try.prog w 0 (fun _ => true) true n 22 ((cs.drop 0).take (Try.prog.cellsOf 22)) = xs[0]? := hf 0 _ rfl
  rw [hc0, List.getElem?_eq_getElem (by simp [hxs])] at t0
  obtain ⟨y0, K0, g0⟩ := op_22.op t0
  have hc1 : Try.prog.cellsOf 31 = 1 := by kernel_rfl
  have t1 : DataW.trod enc Try.prog w 0 (fun _ => true) true n 31 ((cs.drop 1).take (Try.prog.cellsOf 31)) = xs[1]? := hf 1 _ rfl
  rw [hc1, List.getElem?_eq_getElem (by simp [hxs])] at t1
  obtain ⟨y1, K1, g1⟩ := op_31.op t1
  rw [take_end cs 1 1 hl] at K1
  exact ⟨⟨y0, y1⟩, ⟨_, _, split_at cs 0 1, K0, K1⟩, ⟨g0, g1⟩⟩
/-- The pure statement of the law. -/
def laws_FnExactSlotBytes.PureR : Prop := ∀ (l0_0 : (List Int)) (l0_1 : (List Int)) (a1 : Int) (a2 : Int), (l0_0.length ≤ 9223372036854775807 ∧ ∀ x1 ∈ l0_0, (0 ≤ x1 ∧ x1 ≤ 255)) → (l0_1.length ≤ 9223372036854775807 ∧ ∀ x1 ∈ l0_1, (-9223372036854775808 ≤ x1 ∧ x1 ≤ 9223372036854775807)) → (-9223372036854775808 ≤ a1 ∧ a1 ≤ 9223372036854775807) → (-9223372036854775808 ≤ a2 ∧ a2 ≤ 9223372036854775807) → ∃ k, laws_FnExactSlotBytes.f k l0_0 l0_1 a1 a2 = some true
end Go.Proofs.Ytldlpoloanmohaa.PFnExactSlotBytes
