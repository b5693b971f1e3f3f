/- What the parameters of the law FnFrame read as, and the law's pure statement (no memory in it). -/
import Derived.Test.YtldlpoloanmohaaPFnFramex6
import Derived.Test.YtldlpoloanmohaaOpens
set_option linter.unusedVariables false
namespace Go.Proofs.Ytldlpoloanmohaa.PFnFrame
open Go.ChangeShapes Go.WideShapes Go.RowKit
open Go.Proofs.YtldlpoloanmohaaW.PrintWords Go.Proofs.Ytldlpoloanmohaa.Op
theorem op_5 : Opens Try.prog 5 (Kd.int .u8) (fun z_ => (0 ≤ z_ ∧ z_ ≤ 255)) := Opens.u8 Try.underlying5 (by kernel_rfl)
theorem op_22 : Opens Try.prog 22 (Kd.slice 5 (Kd.int .u8)) (fun z_ => (z_.length ≤ 9223372036854775807 ∧ ∀ x1 ∈ z_, (0 ≤ x1 ∧ x1 ≤ 255))) := Opens.slice Try.underlying22 (by kernel_rfl) op_5
/-- The pure statement of the law. -/
def laws_FnFrame.PureR : Prop := ∀ (l0 : (List Int)), (l0.length ≤ 9223372036854775807 ∧ ∀ x1 ∈ l0, (0 ≤ x1 ∧ x1 ≤ 255)) → ∃ k, laws_FnFrame.f k l0 = some true
end Go.Proofs.Ytldlpoloanmohaa.PFnFrame
