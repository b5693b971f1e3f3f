/- What the parameters of the law FnExactCompareVersions read as, and the law's pure statement (no memory in it). -/
import Derived.Test.YtnnjhhoibhpbhaaPFnExactCompareVersionsx2
import Derived.Test.YtnnjhhoibhpbhaaOpens
set_option linter.unusedVariables false
namespace Go.Proofs.Ytnnjhhoibhpbhaa.PFnExactCompareVersions
open Go.ChangeShapes Go.WideShapes Go.RowKit
open Go.Proofs.YtnnjhhoibhpbhaaW.PrintWords Go.Proofs.Ytnnjhhoibhpbhaa.Op
theorem op_3 : Opens Try.prog 3 (Kd.int .i64) (fun z_ => (-9223372036854775808 ≤ z_ ∧ z_ ≤ 9223372036854775807)) := Opens.i64 Try.underlying3 (by kernel_rfl)
theorem op_60 : Opens Try.prog 60 (Kd.slice 3 (Kd.int .i64)) (fun z_ => (z_.length ≤ 9223372036854775807 ∧ ∀ x1 ∈ z_, (-9223372036854775808 ≤ x1 ∧ x1 ≤ 9223372036854775807))) := Opens.slice Try.underlying60 (by kernel_rfl) op_3
/-- The pure statement of the law. -/
def laws_FnExactCompareVersions.PureR : Prop := ∀ (l0 : (List Int)) (l1 : (List Int)), (l0.length ≤ 9223372036854775807 ∧ ∀ x1 ∈ l0, (-9223372036854775808 ≤ x1 ∧ x1 ≤ 9223372036854775807)) → (l1.length ≤ 9223372036854775807 ∧ ∀ x1 ∈ l1, (-9223372036854775808 ≤ x1 ∧ x1 ≤ 9223372036854775807)) → ∃ k, laws_FnExactCompareVersions.f k l0 l1 = some true
end Go.Proofs.Ytnnjhhoibhpbhaa.PFnExactCompareVersions
