/-
  No cell of these rows narrows 'for every input' (looked for: loops, veiled, ifaces, maps, wideKeys, modest, calm, conditions, laid).
  DERIVED. THE GIVEN ROWS OF THIS SEAT. 10 by the template 'for every input the law returns true; each argument reads behind the call as it read before'; 0 by the template 'total and deterministic' (their statements: YtldlpoloanmohaaTotals.lean).
  GIVEN WITH THE SEED: the statements are not yours to turn. If you find one false, say at which input.
  Laid BY PROGRAM, IN A SANDBOX (cutbox-rows.mjs): the forced cells as the released guide's own fill.sh prints them over the translation 28b3b63ddb3a8902… (all of the seat's roots in one cut). By AI agents, Wed Nov 11 2026. No macro, syntax, notation, axiom, sorry.
-/
import Derived.Test.YtldlpoloanmohaaChecked
import GoSem.Claim
import GoSem.ClaimJoined
import GoSem.ClaimMapViews
import Derived.JoinedTies
import Derived.KernelRfl
namespace Go.Proofs.Ytldlpoloanmohaa
/- THE CELL 'sum', in the pinned program and in every row, IS THE sha256 OF THE DUMP (.gsa) THAT YtldlpoloanmohaaProg.lean LOADS. Nothing in Lean hashes anything: it is a label: what it is worth is what the hold of that sum in a sandbox is worth. -/
noncomputable def Try.pinned : Pinned := { name := "ytldlpoloanmohaa", sum := "28b3b63ddb3a890200bffe00a4223f953fd91474ca261a7c1347103dbc8b2b45", checked := Try.checked }
namespace Rows
def none {H : Type} : Left H := { results := [], args := [] }

/-- 'laws.FnExactGetRecord': WHATEVER THE INPUT: true; the input reads as it did. -/
def fnExactGetRecordSpec : ChangeSpec := { name := "fnExactGetRecord", fn := fun _ => fun
  | [d] => { results := [.lit (.bool true)], args := [d] }
  | _ => none }
def fnExactGetRecordRow : OpenClaim := { program := "ytldlpoloanmohaa", sum := "28b3b63ddb3a890200bffe00a4223f953fd91474ca261a7c1347103dbc8b2b45", func := "loop.example/g00071/laws.FnExactGetRecord", spec := "fnExactGetRecord", apart := false }
def FnExactGetRecordSaid : Prop := fnExactGetRecordRow.holds Try.pinned (OpenSpec.ofChange fnExactGetRecordSpec)

/-- ITS FALSE NEIGHBOUR: 'it returns false'. Refute it at one input. -/
def fnExactGetRecordWrong : ChangeSpec := { name := "fnExactGetRecord", fn := fun _ => fun
  | [d] => { results := [.lit (.bool false)], args := [d] }
  | _ => none }
def FnExactGetRecordWrongFalsely : Prop := fnExactGetRecordRow.holds Try.pinned (OpenSpec.ofChange fnExactGetRecordWrong)

/-- 'laws.FnExactSlotBytes': WHATEVER THE INPUT: true; the input reads as it did. -/
def fnExactSlotBytesSpec : ChangeSpec := { name := "fnExactSlotBytes", fn := fun _ => fun
  | [d1, d2, d3] => { results := [.lit (.bool true)], args := [d1, d2, d3] }
  | _ => none }
def fnExactSlotBytesRow : OpenClaim := { program := "ytldlpoloanmohaa", sum := "28b3b63ddb3a890200bffe00a4223f953fd91474ca261a7c1347103dbc8b2b45", func := "loop.example/g00071/laws.FnExactSlotBytes", spec := "fnExactSlotBytes", unfollowed := true, recurses := true, apart := false }
def FnExactSlotBytesSaid : Prop := fnExactSlotBytesRow.holds Try.pinned (OpenSpec.ofChange fnExactSlotBytesSpec)

/-- ITS FALSE NEIGHBOUR: 'it returns false'. Refute it at one input. -/
def fnExactSlotBytesWrong : ChangeSpec := { name := "fnExactSlotBytes", fn := fun _ => fun
  | [d1, d2, d3] => { results := [.lit (.bool false)], args := [d1, d2, d3] }
  | _ => none }
def FnExactSlotBytesWrongFalsely : Prop := fnExactSlotBytesRow.holds Try.pinned (OpenSpec.ofChange fnExactSlotBytesWrong)

/-- 'laws.FnExactPutFrame': WHATEVER THE INPUT: true; the input reads as it did. -/
def fnExactPutFrameSpec : ChangeSpec := { name := "fnExactPutFrame", fn := fun _ => fun
  | [d] => { results := [.lit (.bool true)], args := [d] }
  | _ => none }
def fnExactPutFrameRow : OpenClaim := { program := "ytldlpoloanmohaa", sum := "28b3b63ddb3a890200bffe00a4223f953fd91474ca261a7c1347103dbc8b2b45", func := "loop.example/g00071/laws.FnExactPutFrame", spec := "fnExactPutFrame", recurses := true, apart := false }
def FnExactPutFrameSaid : Prop := fnExactPutFrameRow.holds Try.pinned (OpenSpec.ofChange fnExactPutFrameSpec)

/-- ITS FALSE NEIGHBOUR: 'it returns false'. Refute it at one input. -/
def fnExactPutFrameWrong : ChangeSpec := { name := "fnExactPutFrame", fn := fun _ => fun
  | [d] => { results := [.lit (.bool false)], args := [d] }
  | _ => none }
def FnExactPutFrameWrongFalsely : Prop := fnExactPutFrameRow.holds Try.pinned (OpenSpec.ofChange fnExactPutFrameWrong)

/-- 'laws.FnFrame': WHATEVER THE INPUT: true; the input reads as it did. -/
def fnFrameSpec : ChangeSpec := { name := "fnFrame", fn := fun _ => fun
  | [d] => { results := [.lit (.bool true)], args := [d] }
  | _ => none }
def fnFrameRow : OpenClaim := { program := "ytldlpoloanmohaa", sum := "28b3b63ddb3a890200bffe00a4223f953fd91474ca261a7c1347103dbc8b2b45", func := "loop.example/g00071/laws.FnFrame", spec := "fnFrame", apart := false }
def FnFrameSaid : Prop := fnFrameRow.holds Try.pinned (OpenSpec.ofChange fnFrameSpec)

/-- ITS FALSE NEIGHBOUR: 'it returns false'. Refute it at one input. -/
def fnFrameWrong : ChangeSpec := { name := "fnFrame", fn := fun _ => fun
  | [d] => { results := [.lit (.bool false)], args := [d] }
  | _ => none }
def FnFrameWrongFalsely : Prop := fnFrameRow.holds Try.pinned (OpenSpec.ofChange fnFrameWrong)

/-- 'laws.FnExactReach': WHATEVER THE INPUT: true; the input reads as it did. -/
def fnExactReachSpec : ChangeSpec := { name := "fnExactReach", fn := fun _ => fun
  | [d1, d2] => { results := [.lit (.bool true)], args := [d1, d2] }
  | _ => none }
def fnExactReachRow : OpenClaim := { program := "ytldlpoloanmohaa", sum := "28b3b63ddb3a890200bffe00a4223f953fd91474ca261a7c1347103dbc8b2b45", func := "loop.example/g00071/laws.FnExactReach", spec := "fnExactReach", unfollowed := true, recurses := true, apart := false }
def FnExactReachSaid : Prop := fnExactReachRow.holds Try.pinned (OpenSpec.ofChange fnExactReachSpec)

/-- ITS FALSE NEIGHBOUR: 'it returns false'. Refute it at one input. -/
def fnExactReachWrong : ChangeSpec := { name := "fnExactReach", fn := fun _ => fun
  | [d1, d2] => { results := [.lit (.bool false)], args := [d1, d2] }
  | _ => none }
def FnExactReachWrongFalsely : Prop := fnExactReachRow.holds Try.pinned (OpenSpec.ofChange fnExactReachWrong)

/-- 'laws.FnPlan': WHATEVER THE INPUT: true; the input reads as it did. -/
def fnPlanSpec : ChangeSpec := { name := "fnPlan", fn := fun _ => fun
  | [d] => { results := [.lit (.bool true)], args := [d] }
  | _ => none }
def fnPlanRow : OpenClaim := { program := "ytldlpoloanmohaa", sum := "28b3b63ddb3a890200bffe00a4223f953fd91474ca261a7c1347103dbc8b2b45", func := "loop.example/g00071/laws.FnPlan", spec := "fnPlan", unfollowed := true, recurses := true, apart := false }
def FnPlanSaid : Prop := fnPlanRow.holds Try.pinned (OpenSpec.ofChange fnPlanSpec)

/-- ITS FALSE NEIGHBOUR: 'it returns false'. Refute it at one input. -/
def fnPlanWrong : ChangeSpec := { name := "fnPlan", fn := fun _ => fun
  | [d] => { results := [.lit (.bool false)], args := [d] }
  | _ => none }
def FnPlanWrongFalsely : Prop := fnPlanRow.holds Try.pinned (OpenSpec.ofChange fnPlanWrong)

/-- 'laws.FnExactLogFormat': WHATEVER THE INPUT: true; the input reads as it did. -/
def fnExactLogFormatSpec : ChangeSpec := { name := "fnExactLogFormat", fn := fun _ => fun
  | [d] => { results := [.lit (.bool true)], args := [d] }
  | _ => none }
def fnExactLogFormatRow : OpenClaim := { program := "ytldlpoloanmohaa", sum := "28b3b63ddb3a890200bffe00a4223f953fd91474ca261a7c1347103dbc8b2b45", func := "loop.example/g00071/laws.FnExactLogFormat", spec := "fnExactLogFormat", inPlace := ["internal/bytealg.MakeNoZero"], unfollowed := true, recurses := true, apart := false }
def FnExactLogFormatSaid : Prop := fnExactLogFormatRow.holds Try.pinned (OpenSpec.ofChange fnExactLogFormatSpec)

/-- ITS FALSE NEIGHBOUR: 'it returns false'. Refute it at one input. -/
def fnExactLogFormatWrong : ChangeSpec := { name := "fnExactLogFormat", fn := fun _ => fun
  | [d] => { results := [.lit (.bool false)], args := [d] }
  | _ => none }
def FnExactLogFormatWrongFalsely : Prop := fnExactLogFormatRow.holds Try.pinned (OpenSpec.ofChange fnExactLogFormatWrong)

/-- 'laws.FnExactCheapest': WHATEVER THE INPUT: true; the input reads as it did. -/
def fnExactCheapestSpec : ChangeSpec := { name := "fnExactCheapest", fn := fun _ => fun
  | [d1, d2, d3] => { results := [.lit (.bool true)], args := [d1, d2, d3] }
  | _ => none }
def fnExactCheapestRow : OpenClaim := { program := "ytldlpoloanmohaa", sum := "28b3b63ddb3a890200bffe00a4223f953fd91474ca261a7c1347103dbc8b2b45", func := "loop.example/g00071/laws.FnExactCheapest", spec := "fnExactCheapest", unfollowed := true, recurses := true, apart := false }
def FnExactCheapestSaid : Prop := fnExactCheapestRow.holds Try.pinned (OpenSpec.ofChange fnExactCheapestSpec)

/-- ITS FALSE NEIGHBOUR: 'it returns false'. Refute it at one input. -/
def fnExactCheapestWrong : ChangeSpec := { name := "fnExactCheapest", fn := fun _ => fun
  | [d1, d2, d3] => { results := [.lit (.bool false)], args := [d1, d2, d3] }
  | _ => none }
def FnExactCheapestWrongFalsely : Prop := fnExactCheapestRow.holds Try.pinned (OpenSpec.ofChange fnExactCheapestWrong)

/-- 'laws.FnExactAdvise': WHATEVER THE INPUT: true; the input reads as it did. -/
def fnExactAdviseSpec : ChangeSpec := { name := "fnExactAdvise", fn := fun _ => fun
  | [d1, d2, d3, d4] => { results := [.lit (.bool true)], args := [d1, d2, d3, d4] }
  | _ => none }
def fnExactAdviseRow : OpenClaim := { program := "ytldlpoloanmohaa", sum := "28b3b63ddb3a890200bffe00a4223f953fd91474ca261a7c1347103dbc8b2b45", func := "loop.example/g00071/laws.FnExactAdvise", spec := "fnExactAdvise", unfollowed := true, recurses := true, apart := false }
def FnExactAdviseSaid : Prop := fnExactAdviseRow.holds Try.pinned (OpenSpec.ofChange fnExactAdviseSpec)

/-- ITS FALSE NEIGHBOUR: 'it returns false'. Refute it at one input. -/
def fnExactAdviseWrong : ChangeSpec := { name := "fnExactAdvise", fn := fun _ => fun
  | [d1, d2, d3, d4] => { results := [.lit (.bool false)], args := [d1, d2, d3, d4] }
  | _ => none }
def FnExactAdviseWrongFalsely : Prop := fnExactAdviseRow.holds Try.pinned (OpenSpec.ofChange fnExactAdviseWrong)

/-- 'laws.FnExactGetFrame': WHATEVER THE INPUT: true; the input reads as it did. -/
def fnExactGetFrameSpec : ChangeSpec := { name := "fnExactGetFrame", fn := fun _ => fun
  | [d] => { results := [.lit (.bool true)], args := [d] }
  | _ => none }
def fnExactGetFrameRow : OpenClaim := { program := "ytldlpoloanmohaa", sum := "28b3b63ddb3a890200bffe00a4223f953fd91474ca261a7c1347103dbc8b2b45", func := "loop.example/g00071/laws.FnExactGetFrame", spec := "fnExactGetFrame", recurses := true, apart := false }
def FnExactGetFrameSaid : Prop := fnExactGetFrameRow.holds Try.pinned (OpenSpec.ofChange fnExactGetFrameSpec)

/-- ITS FALSE NEIGHBOUR: 'it returns false'. Refute it at one input. -/
def fnExactGetFrameWrong : ChangeSpec := { name := "fnExactGetFrame", fn := fun _ => fun
  | [d] => { results := [.lit (.bool false)], args := [d] }
  | _ => none }
def FnExactGetFrameWrongFalsely : Prop := fnExactGetFrameRow.holds Try.pinned (OpenSpec.ofChange fnExactGetFrameWrong)

/- THE SECOND FORM. 'bulk': how many values and letters a reading holds, each counted each time it is reached (what is shared counts as often as it is met; a slice's spare places count too). A statement '..UptoSaid' is the law's where the arguments, and the package variables that the reading takes, are together of bulk at most 1048576: NARROWER than '..Said'. Prove '..Said' where nothing that the law and all that it calls make is longer than what came in: it says more and counts as full. Else prove '..UptoSaid'. A law counts once. -/
mutual
def uptoBulk {H : Type} : DataW H → Nat
  | .lit (.string bytes) => bytes.length + 1
  | .lit _ => 1
  | .nil => 1
  | .ptr d => uptoBulk d + 1
  | .slice elems spare => uptoBulkAll elems + uptoBulkAll spare + 1
  | .agg parts => uptoBulkAll parts + 1
  | .iface _ d => uptoBulk d + 1
  | .map entries => uptoBulkEntries entries + 1
  | .held _ => 1
def uptoBulkAll {H : Type} : List (DataW H) → Nat
  | [] => 0
  | d :: r => uptoBulk d + uptoBulkAll r
def uptoBulkEntries {H : Type} : List (Lit × DataW H) → Nat
  | [] => 0
  | x :: r => uptoBulkEntry x + uptoBulkEntries r
def uptoBulkEntry {H : Type} : Lit × DataW H → Nat
  | (.string bytes, d) => bytes.length + uptoBulk d + 1
  | (_, d) => uptoBulk d + 1
 end
def uptoSmall : (H : Type) → List (DataW H) → Bool := fun _ ds => decide (uptoBulkAll ds ≤ 1048576)
def OpenSpec.upto (s : _root_.Go.ChangeSpec) : _root_.Go.OpenSpec := { _root_.Go.OpenSpec.ofChange s with cond := some uptoSmall }

/-- 'laws.FnExactGetRecord', WHERE WHAT IT READS IS OF BULK AT MOST 1048576: true; the input reads as it did. -/
def fnExactGetRecordUptoRow : OpenClaim := { program := "ytldlpoloanmohaa", sum := "28b3b63ddb3a890200bffe00a4223f953fd91474ca261a7c1347103dbc8b2b45", func := "loop.example/g00071/laws.FnExactGetRecord", spec := "fnExactGetRecord", apart := false, narrowed := true }
def FnExactGetRecordUptoSaid : Prop := fnExactGetRecordUptoRow.holds Try.pinned (OpenSpec.upto fnExactGetRecordSpec)

/-- 'laws.FnExactSlotBytes', WHERE WHAT IT READS IS OF BULK AT MOST 1048576: true; the input reads as it did. -/
def fnExactSlotBytesUptoRow : OpenClaim := { program := "ytldlpoloanmohaa", sum := "28b3b63ddb3a890200bffe00a4223f953fd91474ca261a7c1347103dbc8b2b45", func := "loop.example/g00071/laws.FnExactSlotBytes", spec := "fnExactSlotBytes", unfollowed := true, recurses := true, apart := false, narrowed := true }
def FnExactSlotBytesUptoSaid : Prop := fnExactSlotBytesUptoRow.holds Try.pinned (OpenSpec.upto fnExactSlotBytesSpec)

/-- 'laws.FnExactPutFrame', WHERE WHAT IT READS IS OF BULK AT MOST 1048576: true; the input reads as it did. -/
def fnExactPutFrameUptoRow : OpenClaim := { program := "ytldlpoloanmohaa", sum := "28b3b63ddb3a890200bffe00a4223f953fd91474ca261a7c1347103dbc8b2b45", func := "loop.example/g00071/laws.FnExactPutFrame", spec := "fnExactPutFrame", recurses := true, apart := false, narrowed := true }
def FnExactPutFrameUptoSaid : Prop := fnExactPutFrameUptoRow.holds Try.pinned (OpenSpec.upto fnExactPutFrameSpec)

/-- 'laws.FnFrame', WHERE WHAT IT READS IS OF BULK AT MOST 1048576: true; the input reads as it did. -/
def fnFrameUptoRow : OpenClaim := { program := "ytldlpoloanmohaa", sum := "28b3b63ddb3a890200bffe00a4223f953fd91474ca261a7c1347103dbc8b2b45", func := "loop.example/g00071/laws.FnFrame", spec := "fnFrame", apart := false, narrowed := true }
def FnFrameUptoSaid : Prop := fnFrameUptoRow.holds Try.pinned (OpenSpec.upto fnFrameSpec)

/-- 'laws.FnExactReach', WHERE WHAT IT READS IS OF BULK AT MOST 1048576: true; the input reads as it did. -/
def fnExactReachUptoRow : OpenClaim := { program := "ytldlpoloanmohaa", sum := "28b3b63ddb3a890200bffe00a4223f953fd91474ca261a7c1347103dbc8b2b45", func := "loop.example/g00071/laws.FnExactReach", spec := "fnExactReach", unfollowed := true, recurses := true, apart := false, narrowed := true }
def FnExactReachUptoSaid : Prop := fnExactReachUptoRow.holds Try.pinned (OpenSpec.upto fnExactReachSpec)

/-- 'laws.FnPlan', WHERE WHAT IT READS IS OF BULK AT MOST 1048576: true; the input reads as it did. -/
def fnPlanUptoRow : OpenClaim := { program := "ytldlpoloanmohaa", sum := "28b3b63ddb3a890200bffe00a4223f953fd91474ca261a7c1347103dbc8b2b45", func := "loop.example/g00071/laws.FnPlan", spec := "fnPlan", unfollowed := true, recurses := true, apart := false, narrowed := true }
def FnPlanUptoSaid : Prop := fnPlanUptoRow.holds Try.pinned (OpenSpec.upto fnPlanSpec)

/-- 'laws.FnExactLogFormat', WHERE WHAT IT READS IS OF BULK AT MOST 1048576: true; the input reads as it did. -/
def fnExactLogFormatUptoRow : OpenClaim := { program := "ytldlpoloanmohaa", sum := "28b3b63ddb3a890200bffe00a4223f953fd91474ca261a7c1347103dbc8b2b45", func := "loop.example/g00071/laws.FnExactLogFormat", spec := "fnExactLogFormat", inPlace := ["internal/bytealg.MakeNoZero"], unfollowed := true, recurses := true, apart := false, narrowed := true }
def FnExactLogFormatUptoSaid : Prop := fnExactLogFormatUptoRow.holds Try.pinned (OpenSpec.upto fnExactLogFormatSpec)

/-- 'laws.FnExactCheapest', WHERE WHAT IT READS IS OF BULK AT MOST 1048576: true; the input reads as it did. -/
def fnExactCheapestUptoRow : OpenClaim := { program := "ytldlpoloanmohaa", sum := "28b3b63ddb3a890200bffe00a4223f953fd91474ca261a7c1347103dbc8b2b45", func := "loop.example/g00071/laws.FnExactCheapest", spec := "fnExactCheapest", unfollowed := true, recurses := true, apart := false, narrowed := true }
def FnExactCheapestUptoSaid : Prop := fnExactCheapestUptoRow.holds Try.pinned (OpenSpec.upto fnExactCheapestSpec)

/-- 'laws.FnExactAdvise', WHERE WHAT IT READS IS OF BULK AT MOST 1048576: true; the input reads as it did. -/
def fnExactAdviseUptoRow : OpenClaim := { program := "ytldlpoloanmohaa", sum := "28b3b63ddb3a890200bffe00a4223f953fd91474ca261a7c1347103dbc8b2b45", func := "loop.example/g00071/laws.FnExactAdvise", spec := "fnExactAdvise", unfollowed := true, recurses := true, apart := false, narrowed := true }
def FnExactAdviseUptoSaid : Prop := fnExactAdviseUptoRow.holds Try.pinned (OpenSpec.upto fnExactAdviseSpec)

/-- 'laws.FnExactGetFrame', WHERE WHAT IT READS IS OF BULK AT MOST 1048576: true; the input reads as it did. -/
def fnExactGetFrameUptoRow : OpenClaim := { program := "ytldlpoloanmohaa", sum := "28b3b63ddb3a890200bffe00a4223f953fd91474ca261a7c1347103dbc8b2b45", func := "loop.example/g00071/laws.FnExactGetFrame", spec := "fnExactGetFrame", recurses := true, apart := false, narrowed := true }
def FnExactGetFrameUptoSaid : Prop := fnExactGetFrameUptoRow.holds Try.pinned (OpenSpec.upto fnExactGetFrameSpec)

end Rows
end Go.Proofs.Ytldlpoloanmohaa
