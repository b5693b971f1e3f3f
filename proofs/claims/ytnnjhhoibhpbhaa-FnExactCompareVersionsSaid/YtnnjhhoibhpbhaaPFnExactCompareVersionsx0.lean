-- Made by a program of this repository (xp.py over the kit's print) out of the translation. Lean checks it.
import Derived.Test.YtnnjhhoibhpbhaaProg
import Derived.Below
import Derived.Deep.Draws
import Derived.Deep.AppendLies
import Derived.Maps.AppendAt
import Derived.OwnWalk
import Derived.Laws.BytesArg
import Derived.Laws.MakeOwn
import Derived.Laws.OwnMore
import Derived.Deep.OwnRows
import Derived.Tactics
import Derived.Lib.ConvBytes
import Derived.Laws.Slices
import Derived.WalkKit
import Derived.KernelRfl
import Derived.RowKit3
import Derived.Deep.LoopGhost
import Derived.Deep.QuietTactic
import Derived.BigQuiet
import Derived.WideLaws
import Derived.Deep.DeepCutAuto
import Derived.Deep.CutBlock
import Derived.Deep.RegionHeld3
import Derived.Laws.Rows
import Derived.Lib.AppendStr
import Derived.ArgAppend
import Derived.Laws.IdiomCopy
import Derived.OrdersHeld
import Derived.Laws.BitsLemmas
import Derived.RowKit
import Derived.Test.YtnnjhhoibhpbhaaWWords
import Derived.Test.YtnnjhhoibhpbhaaWLast
import Derived.Test.YtnnjhhoibhpbhaaWTab
import Derived.Test.YtnnjhhoibhpbhaaWFour
import Derived.Test.YtnnjhhoibhpbhaaWQPut
import Derived.Test.YtnnjhhoibhpbhaaWApart
import Derived.Test.YtnnjhhoibhpbhaaWArr
import Derived.Test.YtnnjhhoibhpbhaaWZeros
import Derived.Test.YtnnjhhoibhpbhaaWFoot
import Derived.Test.YtnnjhhoibhpbhaaWKept
import Derived.Test.YtnnjhhoibhpbhaaWShare
import Derived.Test.YtnnjhhoibhpbhaaWN
import Derived.Test.YtnnjhhoibhpbhaaWFootNe
import Derived.Test.YtnnjhhoibhpbhaaWAt
import Derived.Test.YtnnjhhoibhpbhaaWEqStruct
import Derived.Test.YtnnjhhoibhpbhaaWRepsOne
import Derived.Test.YtnnjhhoibhpbhaaWInv
import Derived.Test.YtnnjhhoibhpbhaaWInvWords
import Derived.Test.YtnnjhhoibhpbhaaWGuard
import Derived.Test.YtnnjhhoibhpbhaaWNEv
import Derived.Test.YtnnjhhoibhpbhaaWMore
namespace Go.Proofs.Ytnnjhhoibhpbhaa.PFnExactCompareVersions
open Go.RowKit Go.Proofs.YtnnjhhoibhpbhaaW.PrintWords Go.Proofs.YtnnjhhoibhpbhaaW.PrintLast Go.Proofs.YtnnjhhoibhpbhaaW.PrintMore
attribute [local go_sem] max2_int min2_int max_two min_two max_three min_three max_four min_four   -- for this text's walks alone
set_option linter.unusedVariables false
set_option linter.unusedSimpArgs false



def errW : Option Int → Value
  | none => .nilIface
  | some c => .iface 0 (.int .i64 c)
theorem errW_none : errW none = .nilIface := rfl
theorem errW_some (c : Int) : errW (some c) = .iface 0 (.int .i64 c) := rfl

theorem info3 : (Try.prog.info? 3).map (fun i => (i.zero, i.size, i.bytes)) = some (some (.int .i64 0), 1, 8) := by kernel_rfl
-- the values' own types

end Go.Proofs.Ytnnjhhoibhpbhaa.PFnExactCompareVersions
