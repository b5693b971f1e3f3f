/-
  No cell of these rows narrows 'for every input' (looked for: loops, veiled, ifaces, maps, wideKeys, modest, calm, conditions, laid).
  DERIVED. THE GIVEN ROWS OF THIS SEAT. 11 by the template 'for every input the law returns true; each argument reads behind the call as it read before'; 0 by the template 'total and deterministic' (their statements: YtnnjhhoibhpbhaaTotals.lean).
  GIVEN WITH THE SEED: the statements are not yours to turn. If you find one false, say at which input.
  Laid BY PROGRAM, IN A SANDBOX (cutbox-rows.mjs): the forced cells as the released guide's own fill.sh prints them over the translation f80717f24ba39a0e… (all of the seat's roots in one cut). By AI agents, Wed Nov 11 2026. No macro, syntax, notation, axiom, sorry.
-/
import Derived.Test.YtnnjhhoibhpbhaaChecked
import GoSem.Claim
import GoSem.ClaimJoined
import GoSem.ClaimMapViews
import Derived.JoinedTies
import Derived.KernelRfl
namespace Go.Proofs.Ytnnjhhoibhpbhaa
/- THE CELL 'sum', in the pinned program and in every row, IS THE sha256 OF THE DUMP (.gsa) THAT YtnnjhhoibhpbhaaProg.lean LOADS. Nothing in Lean hashes anything: it is a label: what it is worth is what the hold of that sum in a sandbox is worth. -/
noncomputable def Try.pinned : Pinned := { name := "ytnnjhhoibhpbhaa", sum := "f80717f24ba39a0e68c52471dcd60e83b5c7d8532f0f6657055b084e3aca4526", checked := Try.checked }
namespace Rows
def none {H : Type} : Left H := { results := [], args := [] }

/-- 'laws.FnExactRecordOk': WHATEVER THE INPUT: true; the input reads as it did. -/
def fnExactRecordOkSpec : ChangeSpec := { name := "fnExactRecordOk", fn := fun _ => fun
  | [d] => { results := [.lit (.bool true)], args := [d] }
  | _ => none }
def fnExactRecordOkRow : OpenClaim := { program := "ytnnjhhoibhpbhaa", sum := "f80717f24ba39a0e68c52471dcd60e83b5c7d8532f0f6657055b084e3aca4526", func := "loop.example/g00071/laws.FnExactRecordOk", spec := "fnExactRecordOk", apart := false }
def FnExactRecordOkSaid : Prop := fnExactRecordOkRow.holds Try.pinned (OpenSpec.ofChange fnExactRecordOkSpec)

/-- ITS FALSE NEIGHBOUR: 'it returns false'. Refute it at one input. -/
def fnExactRecordOkWrong : ChangeSpec := { name := "fnExactRecordOk", fn := fun _ => fun
  | [d] => { results := [.lit (.bool false)], args := [d] }
  | _ => none }
def FnExactRecordOkWrongFalsely : Prop := fnExactRecordOkRow.holds Try.pinned (OpenSpec.ofChange fnExactRecordOkWrong)

/-- 'laws.FnExactSinkOk': WHATEVER THE INPUT: true; the input reads as it did. -/
def fnExactSinkOkSpec : ChangeSpec := { name := "fnExactSinkOk", fn := fun _ => fun
  | [d] => { results := [.lit (.bool true)], args := [d] }
  | _ => none }
def fnExactSinkOkRow : OpenClaim := { program := "ytnnjhhoibhpbhaa", sum := "f80717f24ba39a0e68c52471dcd60e83b5c7d8532f0f6657055b084e3aca4526", func := "loop.example/g00071/laws.FnExactSinkOk", spec := "fnExactSinkOk", apart := false }
def FnExactSinkOkSaid : Prop := fnExactSinkOkRow.holds Try.pinned (OpenSpec.ofChange fnExactSinkOkSpec)

/-- ITS FALSE NEIGHBOUR: 'it returns false'. Refute it at one input. -/
def fnExactSinkOkWrong : ChangeSpec := { name := "fnExactSinkOk", fn := fun _ => fun
  | [d] => { results := [.lit (.bool false)], args := [d] }
  | _ => none }
def FnExactSinkOkWrongFalsely : Prop := fnExactSinkOkRow.holds Try.pinned (OpenSpec.ofChange fnExactSinkOkWrong)

/-- 'laws.FnExactFrameOk': WHATEVER THE INPUT: true; the input reads as it did. -/
def fnExactFrameOkSpec : ChangeSpec := { name := "fnExactFrameOk", fn := fun _ => fun
  | [d] => { results := [.lit (.bool true)], args := [d] }
  | _ => none }
def fnExactFrameOkRow : OpenClaim := { program := "ytnnjhhoibhpbhaa", sum := "f80717f24ba39a0e68c52471dcd60e83b5c7d8532f0f6657055b084e3aca4526", func := "loop.example/g00071/laws.FnExactFrameOk", spec := "fnExactFrameOk", apart := false }
def FnExactFrameOkSaid : Prop := fnExactFrameOkRow.holds Try.pinned (OpenSpec.ofChange fnExactFrameOkSpec)

/-- ITS FALSE NEIGHBOUR: 'it returns false'. Refute it at one input. -/
def fnExactFrameOkWrong : ChangeSpec := { name := "fnExactFrameOk", fn := fun _ => fun
  | [d] => { results := [.lit (.bool false)], args := [d] }
  | _ => none }
def FnExactFrameOkWrongFalsely : Prop := fnExactFrameOkRow.holds Try.pinned (OpenSpec.ofChange fnExactFrameOkWrong)

/-- 'laws.FnExactPatchesOk': WHATEVER THE INPUT: true; the input reads as it did. -/
def fnExactPatchesOkSpec : ChangeSpec := { name := "fnExactPatchesOk", fn := fun _ => fun
  | [d] => { results := [.lit (.bool true)], args := [d] }
  | _ => none }
def fnExactPatchesOkRow : OpenClaim := { program := "ytnnjhhoibhpbhaa", sum := "f80717f24ba39a0e68c52471dcd60e83b5c7d8532f0f6657055b084e3aca4526", func := "loop.example/g00071/laws.FnExactPatchesOk", spec := "fnExactPatchesOk", unfollowed := true, recurses := true, apart := false }
def FnExactPatchesOkSaid : Prop := fnExactPatchesOkRow.holds Try.pinned (OpenSpec.ofChange fnExactPatchesOkSpec)

/-- ITS FALSE NEIGHBOUR: 'it returns false'. Refute it at one input. -/
def fnExactPatchesOkWrong : ChangeSpec := { name := "fnExactPatchesOk", fn := fun _ => fun
  | [d] => { results := [.lit (.bool false)], args := [d] }
  | _ => none }
def FnExactPatchesOkWrongFalsely : Prop := fnExactPatchesOkRow.holds Try.pinned (OpenSpec.ofChange fnExactPatchesOkWrong)

/-- 'laws.FnExactRowOk': WHATEVER THE INPUT: true; the input reads as it did. -/
def fnExactRowOkSpec : ChangeSpec := { name := "fnExactRowOk", fn := fun _ => fun
  | [d] => { results := [.lit (.bool true)], args := [d] }
  | _ => none }
def fnExactRowOkRow : OpenClaim := { program := "ytnnjhhoibhpbhaa", sum := "f80717f24ba39a0e68c52471dcd60e83b5c7d8532f0f6657055b084e3aca4526", func := "loop.example/g00071/laws.FnExactRowOk", spec := "fnExactRowOk", unfollowed := true, recurses := true, apart := false }
def FnExactRowOkSaid : Prop := fnExactRowOkRow.holds Try.pinned (OpenSpec.ofChange fnExactRowOkSpec)

/-- ITS FALSE NEIGHBOUR: 'it returns false'. Refute it at one input. -/
def fnExactRowOkWrong : ChangeSpec := { name := "fnExactRowOk", fn := fun _ => fun
  | [d] => { results := [.lit (.bool false)], args := [d] }
  | _ => none }
def FnExactRowOkWrongFalsely : Prop := fnExactRowOkRow.holds Try.pinned (OpenSpec.ofChange fnExactRowOkWrong)

/-- 'laws.FnExactPutRecord': WHATEVER THE INPUT: true; the input reads as it did. -/
def fnExactPutRecordSpec : ChangeSpec := { name := "fnExactPutRecord", fn := fun _ => fun
  | [d] => { results := [.lit (.bool true)], args := [d] }
  | _ => none }
def fnExactPutRecordRow : OpenClaim := { program := "ytnnjhhoibhpbhaa", sum := "f80717f24ba39a0e68c52471dcd60e83b5c7d8532f0f6657055b084e3aca4526", func := "loop.example/g00071/laws.FnExactPutRecord", spec := "fnExactPutRecord", apart := false }
def FnExactPutRecordSaid : Prop := fnExactPutRecordRow.holds Try.pinned (OpenSpec.ofChange fnExactPutRecordSpec)

/-- ITS FALSE NEIGHBOUR: 'it returns false'. Refute it at one input. -/
def fnExactPutRecordWrong : ChangeSpec := { name := "fnExactPutRecord", fn := fun _ => fun
  | [d] => { results := [.lit (.bool false)], args := [d] }
  | _ => none }
def FnExactPutRecordWrongFalsely : Prop := fnExactPutRecordRow.holds Try.pinned (OpenSpec.ofChange fnExactPutRecordWrong)

/-- 'laws.FnExactCompareVersions': WHATEVER THE INPUT: true; the input reads as it did. -/
def fnExactCompareVersionsSpec : ChangeSpec := { name := "fnExactCompareVersions", fn := fun _ => fun
  | [d1, d2] => { results := [.lit (.bool true)], args := [d1, d2] }
  | _ => none }
def fnExactCompareVersionsRow : OpenClaim := { program := "ytnnjhhoibhpbhaa", sum := "f80717f24ba39a0e68c52471dcd60e83b5c7d8532f0f6657055b084e3aca4526", func := "loop.example/g00071/laws.FnExactCompareVersions", spec := "fnExactCompareVersions", unfollowed := true, recurses := true, apart := false }
def FnExactCompareVersionsSaid : Prop := fnExactCompareVersionsRow.holds Try.pinned (OpenSpec.ofChange fnExactCompareVersionsSpec)

/-- ITS FALSE NEIGHBOUR: 'it returns false'. Refute it at one input. -/
def fnExactCompareVersionsWrong : ChangeSpec := { name := "fnExactCompareVersions", fn := fun _ => fun
  | [d1, d2] => { results := [.lit (.bool false)], args := [d1, d2] }
  | _ => none }
def FnExactCompareVersionsWrongFalsely : Prop := fnExactCompareVersionsRow.holds Try.pinned (OpenSpec.ofChange fnExactCompareVersionsWrong)

/-- 'laws.FnExactKillRaws': WHATEVER THE INPUT: true; the input reads as it did. -/
def fnExactKillRawsSpec : ChangeSpec := { name := "fnExactKillRaws", fn := fun _ => fun
  | [] => { results := [.lit (.bool true)], args := [] }
  | _ => none }
def fnExactKillRawsRow : OpenClaim := { program := "ytnnjhhoibhpbhaa", sum := "f80717f24ba39a0e68c52471dcd60e83b5c7d8532f0f6657055b084e3aca4526", func := "loop.example/g00071/laws.FnExactKillRaws", spec := "fnExactKillRaws", apart := false }
def FnExactKillRawsSaid : Prop := fnExactKillRawsRow.holds Try.pinned (OpenSpec.ofChange fnExactKillRawsSpec)

/-- ITS FALSE NEIGHBOUR: 'it returns false'. Refute it at one input. -/
def fnExactKillRawsWrong : ChangeSpec := { name := "fnExactKillRaws", fn := fun _ => fun
  | [] => { results := [.lit (.bool false)], args := [] }
  | _ => none }
def FnExactKillRawsWrongFalsely : Prop := fnExactKillRawsRow.holds Try.pinned (OpenSpec.ofChange fnExactKillRawsWrong)

/-- 'laws.FnExactFollows': WHATEVER THE INPUT: true; the input reads as it did. -/
def fnExactFollowsSpec : ChangeSpec := { name := "fnExactFollows", fn := fun _ => fun
  | [d1, d2] => { results := [.lit (.bool true)], args := [d1, d2] }
  | _ => none }
def fnExactFollowsRow : OpenClaim := { program := "ytnnjhhoibhpbhaa", sum := "f80717f24ba39a0e68c52471dcd60e83b5c7d8532f0f6657055b084e3aca4526", func := "loop.example/g00071/laws.FnExactFollows", spec := "fnExactFollows", apart := false }
def FnExactFollowsSaid : Prop := fnExactFollowsRow.holds Try.pinned (OpenSpec.ofChange fnExactFollowsSpec)

/-- ITS FALSE NEIGHBOUR: 'it returns false'. Refute it at one input. -/
def fnExactFollowsWrong : ChangeSpec := { name := "fnExactFollows", fn := fun _ => fun
  | [d1, d2] => { results := [.lit (.bool false)], args := [d1, d2] }
  | _ => none }
def FnExactFollowsWrongFalsely : Prop := fnExactFollowsRow.holds Try.pinned (OpenSpec.ofChange fnExactFollowsWrong)

/-- 'laws.FnExactReply': WHATEVER THE INPUT: true; the input reads as it did. -/
def fnExactReplySpec : ChangeSpec := { name := "fnExactReply", fn := fun _ => fun
  | [d1, d2, d3] => { results := [.lit (.bool true)], args := [d1, d2, d3] }
  | _ => none }
def fnExactReplyRow : OpenClaim := { program := "ytnnjhhoibhpbhaa", sum := "f80717f24ba39a0e68c52471dcd60e83b5c7d8532f0f6657055b084e3aca4526", func := "loop.example/g00071/laws.FnExactReply", spec := "fnExactReply", apart := false }
def FnExactReplySaid : Prop := fnExactReplyRow.holds Try.pinned (OpenSpec.ofChange fnExactReplySpec)

/-- ITS FALSE NEIGHBOUR: 'it returns false'. Refute it at one input. -/
def fnExactReplyWrong : ChangeSpec := { name := "fnExactReply", fn := fun _ => fun
  | [d1, d2, d3] => { results := [.lit (.bool false)], args := [d1, d2, d3] }
  | _ => none }
def FnExactReplyWrongFalsely : Prop := fnExactReplyRow.holds Try.pinned (OpenSpec.ofChange fnExactReplyWrong)

/-- 'laws.FnExactInside': WHATEVER THE INPUT: true; the input reads as it did. -/
def fnExactInsideSpec : ChangeSpec := { name := "fnExactInside", fn := fun _ => fun
  | [d1, d2] => { results := [.lit (.bool true)], args := [d1, d2] }
  | _ => none }
def fnExactInsideRow : OpenClaim := { program := "ytnnjhhoibhpbhaa", sum := "f80717f24ba39a0e68c52471dcd60e83b5c7d8532f0f6657055b084e3aca4526", func := "loop.example/g00071/laws.FnExactInside", spec := "fnExactInside", unfollowed := true, recurses := true, apart := false }
def FnExactInsideSaid : Prop := fnExactInsideRow.holds Try.pinned (OpenSpec.ofChange fnExactInsideSpec)

/-- ITS FALSE NEIGHBOUR: 'it returns false'. Refute it at one input. -/
def fnExactInsideWrong : ChangeSpec := { name := "fnExactInside", fn := fun _ => fun
  | [d1, d2] => { results := [.lit (.bool false)], args := [d1, d2] }
  | _ => none }
def FnExactInsideWrongFalsely : Prop := fnExactInsideRow.holds Try.pinned (OpenSpec.ofChange fnExactInsideWrong)

/- THE SECOND FORM. 'bulk': how many values and letters a reading holds, each counted each time it is reached (what is shared counts as often as it is met; a slice's spare places count too). A statement '..UptoSaid' is the law's where the arguments, and the package variables that the reading takes, are together of bulk at most 1048576: NARROWER than '..Said'. Prove '..Said' where nothing that the law and all that it calls make is longer than what came in: it says more and counts as full. Else prove '..UptoSaid'. A law counts once. -/
mutual
def uptoBulk {H : Type} : DataW H → Nat
  | .lit (.string bytes) => bytes.length + 1
  | .lit _ => 1
  | .nil => 1
  | .ptr d => uptoBulk d + 1
  | .slice elems spare => uptoBulkAll elems + uptoBulkAll spare + 1
  | .agg parts => uptoBulkAll parts + 1
  | .iface _ d => uptoBulk d + 1
  | .map entries => uptoBulkEntries entries + 1
  | .held _ => 1
def uptoBulkAll {H : Type} : List (DataW H) → Nat
  | [] => 0
  | d :: r => uptoBulk d + uptoBulkAll r
def uptoBulkEntries {H : Type} : List (Lit × DataW H) → Nat
  | [] => 0
  | x :: r => uptoBulkEntry x + uptoBulkEntries r
def uptoBulkEntry {H : Type} : Lit × DataW H → Nat
  | (.string bytes, d) => bytes.length + uptoBulk d + 1
  | (_, d) => uptoBulk d + 1
 end
def uptoSmall : (H : Type) → List (DataW H) → Bool := fun _ ds => decide (uptoBulkAll ds ≤ 1048576)
def OpenSpec.upto (s : _root_.Go.ChangeSpec) : _root_.Go.OpenSpec := { _root_.Go.OpenSpec.ofChange s with cond := some uptoSmall }

/-- 'laws.FnExactRecordOk', WHERE WHAT IT READS IS OF BULK AT MOST 1048576: true; the input reads as it did. -/
def fnExactRecordOkUptoRow : OpenClaim := { program := "ytnnjhhoibhpbhaa", sum := "f80717f24ba39a0e68c52471dcd60e83b5c7d8532f0f6657055b084e3aca4526", func := "loop.example/g00071/laws.FnExactRecordOk", spec := "fnExactRecordOk", apart := false, narrowed := true }
def FnExactRecordOkUptoSaid : Prop := fnExactRecordOkUptoRow.holds Try.pinned (OpenSpec.upto fnExactRecordOkSpec)

/-- 'laws.FnExactSinkOk', WHERE WHAT IT READS IS OF BULK AT MOST 1048576: true; the input reads as it did. -/
def fnExactSinkOkUptoRow : OpenClaim := { program := "ytnnjhhoibhpbhaa", sum := "f80717f24ba39a0e68c52471dcd60e83b5c7d8532f0f6657055b084e3aca4526", func := "loop.example/g00071/laws.FnExactSinkOk", spec := "fnExactSinkOk", apart := false, narrowed := true }
def FnExactSinkOkUptoSaid : Prop := fnExactSinkOkUptoRow.holds Try.pinned (OpenSpec.upto fnExactSinkOkSpec)

/-- 'laws.FnExactFrameOk', WHERE WHAT IT READS IS OF BULK AT MOST 1048576: true; the input reads as it did. -/
def fnExactFrameOkUptoRow : OpenClaim := { program := "ytnnjhhoibhpbhaa", sum := "f80717f24ba39a0e68c52471dcd60e83b5c7d8532f0f6657055b084e3aca4526", func := "loop.example/g00071/laws.FnExactFrameOk", spec := "fnExactFrameOk", apart := false, narrowed := true }
def FnExactFrameOkUptoSaid : Prop := fnExactFrameOkUptoRow.holds Try.pinned (OpenSpec.upto fnExactFrameOkSpec)

/-- 'laws.FnExactPatchesOk', WHERE WHAT IT READS IS OF BULK AT MOST 1048576: true; the input reads as it did. -/
def fnExactPatchesOkUptoRow : OpenClaim := { program := "ytnnjhhoibhpbhaa", sum := "f80717f24ba39a0e68c52471dcd60e83b5c7d8532f0f6657055b084e3aca4526", func := "loop.example/g00071/laws.FnExactPatchesOk", spec := "fnExactPatchesOk", unfollowed := true, recurses := true, apart := false, narrowed := true }
def FnExactPatchesOkUptoSaid : Prop := fnExactPatchesOkUptoRow.holds Try.pinned (OpenSpec.upto fnExactPatchesOkSpec)

/-- 'laws.FnExactRowOk', WHERE WHAT IT READS IS OF BULK AT MOST 1048576: true; the input reads as it did. -/
def fnExactRowOkUptoRow : OpenClaim := { program := "ytnnjhhoibhpbhaa", sum := "f80717f24ba39a0e68c52471dcd60e83b5c7d8532f0f6657055b084e3aca4526", func := "loop.example/g00071/laws.FnExactRowOk", spec := "fnExactRowOk", unfollowed := true, recurses := true, apart := false, narrowed := true }
def FnExactRowOkUptoSaid : Prop := fnExactRowOkUptoRow.holds Try.pinned (OpenSpec.upto fnExactRowOkSpec)

/-- 'laws.FnExactPutRecord', WHERE WHAT IT READS IS OF BULK AT MOST 1048576: true; the input reads as it did. -/
def fnExactPutRecordUptoRow : OpenClaim := { program := "ytnnjhhoibhpbhaa", sum := "f80717f24ba39a0e68c52471dcd60e83b5c7d8532f0f6657055b084e3aca4526", func := "loop.example/g00071/laws.FnExactPutRecord", spec := "fnExactPutRecord", apart := false, narrowed := true }
def FnExactPutRecordUptoSaid : Prop := fnExactPutRecordUptoRow.holds Try.pinned (OpenSpec.upto fnExactPutRecordSpec)

/-- 'laws.FnExactCompareVersions', WHERE WHAT IT READS IS OF BULK AT MOST 1048576: true; the input reads as it did. -/
def fnExactCompareVersionsUptoRow : OpenClaim := { program := "ytnnjhhoibhpbhaa", sum := "f80717f24ba39a0e68c52471dcd60e83b5c7d8532f0f6657055b084e3aca4526", func := "loop.example/g00071/laws.FnExactCompareVersions", spec := "fnExactCompareVersions", unfollowed := true, recurses := true, apart := false, narrowed := true }
def FnExactCompareVersionsUptoSaid : Prop := fnExactCompareVersionsUptoRow.holds Try.pinned (OpenSpec.upto fnExactCompareVersionsSpec)

/-- 'laws.FnExactKillRaws', WHERE WHAT IT READS IS OF BULK AT MOST 1048576: true; the input reads as it did. -/
def fnExactKillRawsUptoRow : OpenClaim := { program := "ytnnjhhoibhpbhaa", sum := "f80717f24ba39a0e68c52471dcd60e83b5c7d8532f0f6657055b084e3aca4526", func := "loop.example/g00071/laws.FnExactKillRaws", spec := "fnExactKillRaws", apart := false, narrowed := true }
def FnExactKillRawsUptoSaid : Prop := fnExactKillRawsUptoRow.holds Try.pinned (OpenSpec.upto fnExactKillRawsSpec)

/-- 'laws.FnExactFollows', WHERE WHAT IT READS IS OF BULK AT MOST 1048576: true; the input reads as it did. -/
def fnExactFollowsUptoRow : OpenClaim := { program := "ytnnjhhoibhpbhaa", sum := "f80717f24ba39a0e68c52471dcd60e83b5c7d8532f0f6657055b084e3aca4526", func := "loop.example/g00071/laws.FnExactFollows", spec := "fnExactFollows", apart := false, narrowed := true }
def FnExactFollowsUptoSaid : Prop := fnExactFollowsUptoRow.holds Try.pinned (OpenSpec.upto fnExactFollowsSpec)

/-- 'laws.FnExactReply', WHERE WHAT IT READS IS OF BULK AT MOST 1048576: true; the input reads as it did. -/
def fnExactReplyUptoRow : OpenClaim := { program := "ytnnjhhoibhpbhaa", sum := "f80717f24ba39a0e68c52471dcd60e83b5c7d8532f0f6657055b084e3aca4526", func := "loop.example/g00071/laws.FnExactReply", spec := "fnExactReply", apart := false, narrowed := true }
def FnExactReplyUptoSaid : Prop := fnExactReplyUptoRow.holds Try.pinned (OpenSpec.upto fnExactReplySpec)

/-- 'laws.FnExactInside', WHERE WHAT IT READS IS OF BULK AT MOST 1048576: true; the input reads as it did. -/
def fnExactInsideUptoRow : OpenClaim := { program := "ytnnjhhoibhpbhaa", sum := "f80717f24ba39a0e68c52471dcd60e83b5c7d8532f0f6657055b084e3aca4526", func := "loop.example/g00071/laws.FnExactInside", spec := "fnExactInside", unfollowed := true, recurses := true, apart := false, narrowed := true }
def FnExactInsideUptoSaid : Prop := fnExactInsideUptoRow.holds Try.pinned (OpenSpec.upto fnExactInsideSpec)

end Rows
end Go.Proofs.Ytnnjhhoibhpbhaa
