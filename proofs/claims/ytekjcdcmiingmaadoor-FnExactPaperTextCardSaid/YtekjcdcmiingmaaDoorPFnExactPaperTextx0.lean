-- Made by a program of this repository (xp.py over the kit's print) out of the translation. Lean checks it.
import Derived.Test.YtekjcdcmiingmaaDoorProg
import Derived.Below
import Derived.Deep.Draws
import Derived.Deep.AppendLies
import Derived.Maps.AppendAt
import Derived.OwnWalk
import Derived.Laws.BytesArg
import Derived.Laws.MakeOwn
import Derived.Laws.OwnMore
import Derived.Deep.OwnRows
import Derived.Tactics
import Derived.Lib.ConvBytes
import Derived.Laws.Slices
import Derived.WalkKit
import Derived.KernelRfl
import Derived.RowKit3
import Derived.Deep.LoopGhost
import Derived.Deep.QuietTactic
import Derived.BigQuiet
import Derived.WideLaws
import Derived.Deep.DeepCutAuto
import Derived.Deep.CutBlock
import Derived.Deep.RegionHeld3
import Derived.Laws.Rows
import Derived.Lib.AppendStr
import Derived.ArgAppend
import Derived.Laws.IdiomCopy
import Derived.OrdersHeld
import Derived.Laws.BitsLemmas
import Derived.RowKit
import Derived.WalkSpells
import Derived.Test.YtekjcdcmiingmaaDoorBuild
import Derived.BigCall
import Derived.WalkKit
import Derived.Deep.DeepMust
import Derived.Shelf.Strings.SlTrimAscii
import Derived.Test.YtekjcdcmiingmaaDoorShelf
import Derived.Lib.SmallJoins
import Derived.Lib.AppendIntMem
import Derived.Shelf.Unicode.ValidAny
import Derived.Lib.TrimU
import Derived.Lib.RuneCount
import Derived.Laws.RangeString
import Derived.Laws.RangeAny
import Derived.Test.YtekjcdcmiingmaaDoorWWords
import Derived.Test.YtekjcdcmiingmaaDoorWLast
import Derived.Test.YtekjcdcmiingmaaDoorWTab
import Derived.Test.YtekjcdcmiingmaaDoorWFour
import Derived.Test.YtekjcdcmiingmaaDoorWQPut
import Derived.Test.YtekjcdcmiingmaaDoorWApart
import Derived.Test.YtekjcdcmiingmaaDoorWArr
import Derived.Test.YtekjcdcmiingmaaDoorWZeros
import Derived.Test.YtekjcdcmiingmaaDoorWFoot
import Derived.Test.YtekjcdcmiingmaaDoorWKept
import Derived.Test.YtekjcdcmiingmaaDoorWShare
import Derived.Test.YtekjcdcmiingmaaDoorWN
import Derived.Test.YtekjcdcmiingmaaDoorWFootNe
import Derived.Test.YtekjcdcmiingmaaDoorWAt
import Derived.Test.YtekjcdcmiingmaaDoorWEqStruct
import Derived.Test.YtekjcdcmiingmaaDoorWRepsOne
import Derived.Test.YtekjcdcmiingmaaDoorWInv
import Derived.Test.YtekjcdcmiingmaaDoorWInvWords
import Derived.Test.YtekjcdcmiingmaaDoorWGuard
import Derived.Test.YtekjcdcmiingmaaDoorWNEv
import Derived.Test.YtekjcdcmiingmaaDoorWMore
namespace Go.Proofs.YtekjcdcmiingmaaDoor.PFnExactPaperText
open Go.RowKit Go.Proofs.YtekjcdcmiingmaaDoorW.PrintWords Go.Proofs.YtekjcdcmiingmaaDoorW.PrintLast Go.Proofs.YtekjcdcmiingmaaDoorW.PrintMore
attribute [local go_sem] max2_int min2_int max_two min_two max_three min_three max_four min_four   -- for this text's walks alone
set_option linter.unusedVariables false
set_option linter.unusedSimpArgs false



def errW : Option Int → Value
  | none => .nilIface
  | some c => .iface 0 (.int .i64 c)
theorem errW_none : errW none = .nilIface := rfl
theorem errW_some (c : Int) : errW (some c) = .iface 0 (.int .i64 c) := rfl

theorem info3 : (Tryd.prog.info? 3).map (fun i => (i.zero, i.size, i.bytes)) = some (some (.int .i64 0), 1, 8) := by kernel_rfl
theorem info5 : (Tryd.prog.info? 5).map (fun i => (i.zero, i.size, i.bytes)) = some (some (.int .u8 0), 1, 1) := by kernel_rfl
theorem info9 : (Tryd.prog.info? 9).map (fun i => (i.zero, i.size, i.bytes)) = some (some (.string ⟨#[]⟩), 1, 16) := by kernel_rfl
-- the values' own types

/-! ### what is carried over an event (short forms) -/
theorem shBK {W W1 W2 : World} {g : Nat} {o : Obj} (hk : W.heap[g]? = some o) (hb : Below W1.heap.size W1 W2) (hv : Below W.heap.size W W1 := by repeat (first | (with_reducible exact Below.refl _ _) | (with_reducible apply below_alloc) | (with_reducible apply pw_below_drewN) | (with_reducible apply below_drew1))) : W2.heap[g]? = some o := blk_below (blk_below hk hv) hb
theorem shR {α : Type} {d : Kd α} {e base : Nat} {ok : Nat → Prop} {v : Value} {xs : List α} {W W1 W2 : World} (h : d.R e W base ok v xs) (hb : Below W1.heap.size W1 W2) (hv : Below W.heap.size W W1 := by repeat (first | (with_reducible exact Below.refl _ _) | (with_reducible apply below_alloc) | (with_reducible apply pw_below_drewN) | (with_reducible apply below_drew1))) : d.R e W2 base ok v xs := Kd.R_below (Kd.R_below h hv) hb
theorem shS {α : Type} {d : Kd α} {e base : Nat} {ok : Nat → Prop} {v : Value} {xs : List α} {W W1 W2 : World} (h : Kd.S d e W base ok v xs) (hb : Below W1.heap.size W1 W2) (hv : Below W.heap.size W W1 := by repeat (first | (with_reducible exact Below.refl _ _) | (with_reducible apply below_alloc) | (with_reducible apply pw_below_drewN) | (with_reducible apply below_drew1))) : Kd.S d e W2 base ok v xs := Kd.S_below (Kd.S_below h hv) hb
theorem shHB {w W W1 W2 : World} (hB : Below w.heap.size w W) (hb : Below W1.heap.size W1 W2) (hv : Below W.heap.size W W1 := by repeat (first | (with_reducible exact Below.refl _ _) | (with_reducible apply below_alloc) | (with_reducible apply pw_below_drewN) | (with_reducible apply below_drew1))) : Below w.heap.size w W2 := below_step (below_step hB hv) hb
theorem shGE {w W W1 : World} {g : Nat} (hB : Below w.heap.size w W) (hg : g = W1.heap.size) (hv : Below W.heap.size W W1 := by repeat (first | (with_reducible exact Below.refl _ _) | (with_reducible apply below_alloc) | (with_reducible apply pw_below_drewN) | (with_reducible apply below_drew1))) : w.heap.size ≤ g := by rw [hg]; exact below_size (below_step hB hv)
theorem shNB {W W1 : World} {a b : Nat} {o : Obj} (hk : W.heap[a]? = some o) (hg : b = W1.heap.size) (hv : Below W.heap.size W W1 := by repeat (first | (with_reducible exact Below.refl _ _) | (with_reducible apply below_alloc) | (with_reducible apply pw_below_drewN) | (with_reducible apply below_drew1))) : a ≠ b := by rw [hg]; exact Nat.ne_of_lt (blk_lt (blk_below hk hv))
theorem shNC {W W1 : World} {a b : Nat} {o : Obj} (hk : W.heap[a]? = some o) (hg : b = W1.heap.size) (hv : Below W.heap.size W W1 := by repeat (first | (with_reducible exact Below.refl _ _) | (with_reducible apply below_alloc) | (with_reducible apply pw_below_drewN) | (with_reducible apply below_drew1))) : b ≠ a := (shNB hk hg hv).symm
theorem shRE {α : Type} {d : Kd α} {e base : Nat} {ok : Nat → Prop} {u v : Value} {xs : List α} {W W1 W2 : World} (h : d.R e W base ok u xs) (hbase : ∀ k, v.ownBlock = some k → W1.heap.size ≤ k) (hb : Below W1.heap.size W1 W2) (hv : Below W.heap.size W W1 := by repeat (first | (with_reducible exact Below.refl _ _) | (with_reducible apply below_alloc) | (with_reducible apply pw_below_drewN) | (with_reducible apply below_drew1))) : d.R e W2 base (fun k => ok k ∧ some k ≠ v.ownBlock) u xs := Kd.R_elder' (Kd.R_below h hv) hbase hb
theorem shSE {α : Type} {d : Kd α} {e base : Nat} {ok : Nat → Prop} {u v : Value} {xs : List α} {W W1 W2 : World} (h : Kd.S d e W base ok u xs) (hbase : ∀ k, v.ownBlock = some k → W1.heap.size ≤ k) (hb : Below W1.heap.size W1 W2) (hv : Below W.heap.size W W1 := by repeat (first | (with_reducible exact Below.refl _ _) | (with_reducible apply below_alloc) | (with_reducible apply pw_below_drewN) | (with_reducible apply below_drew1))) : Kd.S d e W2 base (fun k => ok k ∧ some k ≠ v.ownBlock) u xs := Kd.S_elder' (Kd.S_below h hv) hbase hb
theorem shLT {α : Type} {d : Kd α} {e base : Nat} {ok : Nat → Prop} {u : Value} {xs : List α} {W W1 : World} (h : d.R e W base ok u xs) (hv : Below W.heap.size W W1 := by repeat (first | (with_reducible exact Below.refl _ _) | (with_reducible apply below_alloc) | (with_reducible apply pw_below_drewN) | (with_reducible apply below_drew1))) : ∀ k, u.ownBlock = some k → k < W1.heap.size := Kd.R_lt (Kd.R_below h hv)
theorem am {p : Prop} (h : p) : Aside0 p := ⟨h⟩

/-- What the library's tables hold. -/
def Tabs (w : World) : Prop := Lib.TabIs Tryd.prog w "internal/strconv.uint64pow10" .u64 Lib.pow10Tab ∧ Lib.Utf8Tabs (Tryd.lays197_ren.g 3) (Tryd.lays197_ren.g 4) w
theorem Tabs.below {w W : World} (h : Tabs w) (hb : Below w.heap.size w W) : Tabs W := by
  unfold Tabs at *
  exact ⟨Go.Joins.var_stays (Exists.choose_spec (Option.isSome_iff_exists.1 (show (Tryd.prog.globalNamed "internal/strconv.uint64pow10").isSome = true from by kernel_rfl))) h.1 hb (Nat.le_refl _), (⟨fun c hc => pw_cell_below hb (h.2.1 c hc), fun i hi => ⟨pw_cell_below hb (h.2.2 i hi).1, pw_cell_below hb (h.2.2 i hi).2⟩⟩)⟩

end Go.Proofs.YtekjcdcmiingmaaDoor.PFnExactPaperText
