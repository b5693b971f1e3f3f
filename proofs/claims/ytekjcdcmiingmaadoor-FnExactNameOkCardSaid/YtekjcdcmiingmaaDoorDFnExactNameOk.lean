/- What the parameters of the law FnExactNameOk read as, and the law's pure statement (no memory in it). -/
import Derived.Test.YtekjcdcmiingmaaDoorPFnExactNameOkx2
import Derived.Test.YtekjcdcmiingmaaDoorOpens
set_option linter.unusedVariables false
namespace Go.Proofs.YtekjcdcmiingmaaDoor.PFnExactNameOk
open Go.ChangeShapes Go.WideShapes Go.RowKit
open Go.Proofs.YtekjcdcmiingmaaDoorW.PrintWords Go.Proofs.YtekjcdcmiingmaaDoor.Op
theorem op_9 : Opens Tryd.prog 9 Kd.string (fun z_ => z_.size ≤ 9223372036854775807) := Opens.string Tryd.underlying9 (by kernel_rfl)
/-- The pure statement of the law. -/
def laws_FnExactNameOk.PureR : Prop := ∀ (a0 : ByteArray), a0.size ≤ 9223372036854775807 → ∃ k, laws_FnExactNameOk.f k a0 = some true
end Go.Proofs.YtekjcdcmiingmaaDoor.PFnExactNameOk
