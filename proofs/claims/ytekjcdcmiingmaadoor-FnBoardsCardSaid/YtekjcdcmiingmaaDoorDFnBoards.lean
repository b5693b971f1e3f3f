/- What the parameters of the law FnBoards read as, and the law's pure statement (no memory in it). -/
import Derived.Test.YtekjcdcmiingmaaDoorPFnBoardsx3
import Derived.Test.YtekjcdcmiingmaaDoorOpens
set_option linter.unusedVariables false
namespace Go.Proofs.YtekjcdcmiingmaaDoor.PFnBoards
open Go.ChangeShapes Go.WideShapes Go.RowKit
open Go.Proofs.YtekjcdcmiingmaaDoorW.PrintWords Go.Proofs.YtekjcdcmiingmaaDoor.Op
theorem op_5 : Opens Tryd.prog 5 (Kd.int .u8) (fun z_ => (0 ≤ z_ ∧ z_ ≤ 255)) := Opens.u8 Tryd.underlying5 (by kernel_rfl)
theorem op_29 : Opens Tryd.prog 29 (Kd.slice 5 (Kd.int .u8)) (fun z_ => (z_.length ≤ 9223372036854775807 ∧ ∀ x1 ∈ z_, (0 ≤ x1 ∧ x1 ≤ 255))) := Opens.slice Tryd.underlying29 (by kernel_rfl) op_5
/-- The pure statement of the law. -/
def laws_FnBoards.PureR : Prop := ∀ (l0 : (List Int)), (l0.length ≤ 9223372036854775807 ∧ ∀ x1 ∈ l0, (0 ≤ x1 ∧ x1 ≤ 255)) → ∃ k, laws_FnBoards.f k l0 = some true
end Go.Proofs.YtekjcdcmiingmaaDoor.PFnBoards
