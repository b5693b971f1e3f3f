/- What the parameters of the law FnExactRowOk read as, and the law's pure statement (no memory in it). -/
import Derived.Test.YtnnjhhoibhpbhaaPFnExactRowOkx2
import Derived.Test.YtnnjhhoibhpbhaaOpens
set_option linter.unusedVariables false
namespace Go.Proofs.Ytnnjhhoibhpbhaa.PFnExactRowOk
open Go.ChangeShapes Go.WideShapes Go.RowKit
open Go.Proofs.YtnnjhhoibhpbhaaW.PrintWords Go.Proofs.Ytnnjhhoibhpbhaa.Op
theorem op_5 : Opens Try.prog 5 (Kd.int .u8) (fun z_ => (0 ≤ z_ ∧ z_ ≤ 255)) := Opens.u8 Try.underlying5 (by kernel_rfl)
theorem op_28 : Opens Try.prog 28 (Kd.slice 5 (Kd.int .u8)) (fun z_ => (z_.length ≤ 9223372036854775807 ∧ ∀ x1 ∈ z_, (0 ≤ x1 ∧ x1 ≤ 255))) := Opens.slice Try.underlying28 (by kernel_rfl) op_5
theorem op_52 : Opens Try.prog 52 (Kd.slice 28 (Kd.slice 5 (Kd.int .u8))) (fun z_ => (z_.length ≤ 9223372036854775807 ∧ ∀ x1 ∈ z_, (x1.length ≤ 9223372036854775807 ∧ ∀ x2 ∈ x1, (0 ≤ x2 ∧ x2 ≤ 255)))) := Opens.slice Try.underlying52 (by kernel_rfl) op_28
/-- The pure statement of the law. -/
def laws_FnExactRowOk.PureR : Prop := ∀ (l0 : (List (List Int))), (l0.length ≤ 9223372036854775807 ∧ ∀ x1 ∈ l0, (x1.length ≤ 9223372036854775807 ∧ ∀ x2 ∈ x1, (0 ≤ x2 ∧ x2 ≤ 255))) → ∃ k, laws_FnExactRowOk.f k l0 = some true
end Go.Proofs.Ytnnjhhoibhpbhaa.PFnExactRowOk
