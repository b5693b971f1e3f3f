/- Helper lemmas: what an argument of a type reads as (no statement of the seat is proved here). -/
import Derived.Test.YtekjcdcmiingmaaDoorProg
import Derived.Test.YtekjcdcmiingmaaDoorWWords
import Derived.Deep.Slices
import Derived.ChangeArms
import Derived.OpenShut
import Derived.Lib.LaidTab
import Derived.Lib.LaidU8
set_option linter.unusedVariables false
namespace Go.Proofs.YtekjcdcmiingmaaDoor.Op
open Go.ChangeShapes Go.WideShapes
open Go.Proofs.YtekjcdcmiingmaaDoorW.PrintWords

/-- What a type's cells read as. -/
structure Opens (P : Program) (T : TypeId) {α : Type} (d : Kd α) (good : α → Prop) : Prop where
  cells : P.cellsOf T = d.sz
  op : ∀ {H : Type} {enc : TypeId × Value → H} {w : World} {fuel : Nat} {cs : List Value} {x : DataW H × List MemPlace}, DataW.trod enc P w 0 (fun _ => true) true fuel T cs = some x → ∃ y, d.K w y cs ∧ good y

theorem Opens.i64 {P : Program} {T : TypeId} (hu : P.underlying T = some (.int .i64)) (hc : P.cellsOf T = 1) : Opens P T (Kd.int .i64) (fun n => -9223372036854775808 ≤ n ∧ n ≤ 9223372036854775807) := by
  refine ⟨hc, ?_⟩
  intro H enc w fuel cs x h
  obtain ⟨n, rfl, _, hw⟩ := DataW.trod_int hu h
  exact ⟨n, rfl, bounds_i64 hw⟩
theorem Opens.u8 {P : Program} {T : TypeId} (hu : P.underlying T = some (.int .u8)) (hc : P.cellsOf T = 1) : Opens P T (Kd.int .u8) (fun n => 0 ≤ n ∧ n ≤ 255) := by
  refine ⟨hc, ?_⟩
  intro H enc w fuel cs x h
  obtain ⟨n, rfl, _, hw⟩ := DataW.trod_int hu h
  exact ⟨n, rfl, bounds_u8 hw⟩
theorem Opens.bool {P : Program} {T : TypeId} (hu : P.underlying T = some .bool) (hc : P.cellsOf T = 1) : Opens P T Kd.bool (fun _ => True) := by
  refine ⟨hc, ?_⟩
  intro H enc w fuel cs x h
  obtain ⟨n, rfl, _⟩ := DataW.trod_bool hu h
  exact ⟨n, rfl, trivial⟩
theorem Opens.string {P : Program} {T : TypeId} (hu : P.underlying T = some .string) (hc : P.cellsOf T = 1) : Opens P T Kd.string (fun s => s.size ≤ 9223372036854775807) := by
  refine ⟨hc, ?_⟩
  intro H enc w fuel cs x h
  obtain ⟨n, rfl, _, hs⟩ := DataW.trod_string hu h
  exact ⟨n, rfl, by unfold maxLen at hs; exact hs⟩
theorem Opens.slice {P : Program} {T e : TypeId} {α : Type} [Inhabited α] {d : Kd α} {good : α → Prop} (hu : P.underlying T = some (.slice e)) (hc : P.cellsOf T = 1) (ho : Opens P e d good) :
    Opens P T (Kd.slice e d) (fun xs => xs.length ≤ 9223372036854775807 ∧ ∀ x ∈ xs, good x) := by
  refine ⟨hc, ?_⟩
  intro H enc w fuel cs x h
  rcases Go.Deep.open_slice hu h with ⟨rfl, _⟩ | ⟨a, len, cap, m, n, D, Pl, rfl, hb, hl, hm, hmm, _, hx⟩
  · exact ⟨[], ⟨none, 0, rfl, Nat.le_refl _, rfl, Nat.zero_le _, fun h => absurd h (by simp)⟩, by simp, by simp⟩
  unfold maxLen at hm
  have hx' : ∀ i, i < m → ∃ y, good y ∧ ∃ cs', w.cells? 0 (a.add (i * d.sz)) d.sz = some cs' ∧ d.K w y cs' := fun i hi => by
    obtain ⟨cs', h1, h2⟩ := hx i hi
    obtain ⟨y, hy, hg⟩ := ho.op h2
    rw [ho.cells] at h1
    exact ⟨y, hg, cs', h1, hy⟩
  obtain ⟨f, hf⟩ := Go.Deep.choose_lt hx'
  have hle : len ≤ m := by rw [hmm]; simpa using hl
  refine ⟨(List.range len).map f, ⟨some a, cap, by simp, by simpa using hl, by simp, by simp; omega, fun _ => ⟨a, rfl, ?_⟩⟩, by simp; omega, ?_⟩
  · intro j p hj
    have hjl : j < len := by
      by_cases hjl : j < len
      · exact hjl
      · rw [List.getElem?_eq_none (by simpa using hjl)] at hj; cases hj
    obtain rfl : f j = p := by
      rw [List.getElem?_map, List.getElem?_range hjl] at hj
      exact Option.some.inj hj
    obtain ⟨_, cs', h1, h2⟩ := hf j (by omega)
    obtain ⟨_, h3, h4⟩ := World.cells?_some h1
    refine ⟨cs', h3, h2, fun i u hu => ?_⟩
    have hi : i < d.sz := by
      by_cases hi : i < d.sz
      · exact hi
      · rw [List.getElem?_eq_none (by omega)] at hu; cases hu
    have := h4 i hi
    rw [Go.Deep.add_add] at this
    rw [this, hu]
  · intro x hx
    obtain ⟨i, hi, rfl⟩ := List.mem_map.1 hx
    exact (hf i (by have := List.mem_range.1 hi; omega)).1
theorem split_at (cs : List Value) (off k : Nat) : cs.drop off = (cs.drop off).take k ++ cs.drop (off + k) := by
  rw [← List.drop_drop]
  exact (List.take_append_drop _ _).symm
theorem take_end (cs : List Value) (off k : Nat) (h : cs.length = off + k) : (cs.drop off).take k = cs.drop off := List.take_of_length_le (by simp; omega)
/-- A table of the library that reads as the row lists it holds these numbers. -/
theorem tabIs_of_reads {P : Program} {W : World} {name : String} {k : IntKind} {zs : List Int} {g : Nat} {t e : TypeId} {n : Nat}
    (hg : P.globalNamed name = some g) (hty : (P.globals[g]?).map (·.type) = some t) (ht : P.underlying t = some (.array n e)) (he : P.underlying e = some (.int k)) (hce : P.cellsOf e = 1) (hct : P.cellsOf t = n)
    (h : Lib.VarReads P W name (Lib.tabData k zs)) : Lib.TabIs P W name k zs := by
  obtain ⟨g', t', cs, fuel, p, hg', ht', hvar, hd⟩ := h
  obtain rfl := Option.some.inj (hg.symm.trans hg')
  obtain rfl := Option.some.inj (hty.symm.trans ht')
  unfold Lib.TabIs
  rw [hvar, ← Lib.cells_of_tab ht he hce hct hd]
end Go.Proofs.YtekjcdcmiingmaaDoor.Op
