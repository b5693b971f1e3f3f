/- What the parameters of the law FnExactVersionText read as, and the law's pure statement (no memory in it). -/
import Derived.Test.YtekjcdcmiingmaaDoorPFnExactVersionTextx3
import Derived.Test.YtekjcdcmiingmaaDoorOpens
set_option linter.unusedVariables false
namespace Go.Proofs.YtekjcdcmiingmaaDoor.PFnExactVersionText
open Go.ChangeShapes Go.WideShapes Go.RowKit
open Go.Proofs.YtekjcdcmiingmaaDoorW.PrintWords Go.Proofs.YtekjcdcmiingmaaDoor.Op
theorem op_3 : Opens Tryd.prog 3 (Kd.int .i64) (fun z_ => (-9223372036854775808 ≤ z_ ∧ z_ ≤ 9223372036854775807)) := Opens.i64 Tryd.underlying3 (by kernel_rfl)
theorem op_23 : Opens Tryd.prog 23 (Kd.slice 3 (Kd.int .i64)) (fun z_ => (z_.length ≤ 9223372036854775807 ∧ ∀ x1 ∈ z_, (-9223372036854775808 ≤ x1 ∧ x1 ≤ 9223372036854775807))) := Opens.slice Tryd.underlying23 (by kernel_rfl) op_3
/-- The pure statement of the law. -/
def laws_FnExactVersionText.PureR : Prop := ∀ (l0 : (List Int)), (l0.length ≤ 9223372036854775807 ∧ ∀ x1 ∈ l0, (-9223372036854775808 ≤ x1 ∧ x1 ≤ 9223372036854775807)) → ∃ k, laws_FnExactVersionText.f k l0 = some true
end Go.Proofs.YtekjcdcmiingmaaDoor.PFnExactVersionText
