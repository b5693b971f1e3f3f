/- Plain lemmas on numbers, lists and loops with a bound on their rounds; no statement of the seat is proved here. -/
import Derived.Test.YtekjcdcmiingmaaDoorWWords
import Derived.Laws.BitsLemmas
import Derived.Laws.Strings
set_option linter.unusedVariables false
set_option linter.unusedSimpArgs false
namespace Go.Proofs.YtekjcdcmiingmaaDoor.Plain
open Go.RowKit Go.Proofs.YtekjcdcmiingmaaDoorW.PrintWords
theorem w64 {x : Int} (h0 : -9223372036854775808 ≤ x) (h1 : x ≤ 9223372036854775807) : wrap64 x = x := by
  unfold wrap64
  omega
theorem w64n {i n : Nat} (h : i < n) (hn : n ≤ 9223372036854775807) : wrap64 ((i : Int) + 1) = ((i + 1 : Nat) : Int) := by
  rw [w64 (by omega) (by omega)]
  omega
theorem rd_nat (l : List Int) (i : Nat) : rd l (i : Int) = l.getD i 0 := by simp [rd]
theorem rd_lt (l : List Int) (i : Nat) (h : i < l.length) : rd l (i : Int) = l[i] := by
  rw [rd_nat, List.getD_eq_getElem?_getD, List.getElem?_eq_getElem h]
  rfl
theorem getD_lt {α : Type} (l : List α) (z : α) (i : Nat) (h : i < l.length) : l.getD ((i : Int).toNat) z = l[i] := by
  rw [Int.toNat_natCast, List.getD_eq_getElem?_getD, List.getElem?_eq_getElem h]
  rfl
theorem succ_of {d k : Nat} (h : d < k) : ∃ m, k = m + 1 := ⟨k - 1, by omega⟩

/-- A loop that fills a list, element by element. -/
theorem loop_fill {β : Type} {ρ : Type} (n : Nat) (L : Nat → List β → Int → Option ρ) (c : Nat → β) (g : List β → ρ)
    (hs : ∀ (k : Nat) (x : List β) (i : Nat), i < n → n ≤ k + i → x.length = n → L (k + 1) x (i : Int) = L k (x.set i (c i)) ((i + 1 : Nat) : Int))
    (he : ∀ (k : Nat) (x : List β), x.length = n → L (k + 1) x (n : Int) = some (g x)) (k : Nat) (hk : n < k) (x0 : List β) (hx0 : x0.length = n) :
    L k x0 0 = some (g ((List.range n).map c)) := by
  have main : ∀ (d k : Nat) (x : List β) (i : Nat), i + d = n → d < k → x.length = n → (∀ j, j < i → x[j]? = some (c j)) → L k x (i : Int) = some (g ((List.range n).map c)) := by
    intro d
    induction d with
    | zero =>
      intro k x i hd hk hx hj
      obtain ⟨k, rfl⟩ := succ_of hk
      obtain rfl : i = n := by omega
      rw [he k x hx]
      congr 2
      apply List.ext_getElem?
      intro j
      by_cases h : j < i
      · rw [hj j h, List.getElem?_map, List.getElem?_range h]; rfl
      · rw [List.getElem?_eq_none (by omega), List.getElem?_eq_none (by simp; omega)]
    | succ d ih =>
      intro k x i hd hk hx hj
      obtain ⟨k, rfl⟩ := succ_of hk
      rw [hs k x i (by omega) (by omega) hx]
      apply ih k _ (i + 1) (by omega) (by omega) (by simpa using hx)
      intro j hji
      rw [List.getElem?_set]
      by_cases h : i = j
      · subst h
        rw [if_pos rfl, if_pos (by omega)]
      · rw [if_neg h]
        exact hj j (by omega)
  exact main n k x0 0 (by omega) hk hx0 (by omega)
theorem map_range_get {α β : Type} (l : List α) (f : α → β) (c : Nat → β) (h : ∀ i (hi : i < l.length), c i = f l[i]) : (List.range l.length).map c = l.map f := by
  apply List.ext_getElem?
  intro j
  by_cases hj : j < l.length
  · simp [List.getElem?_range hj, h j hj, List.getElem?_eq_getElem hj]
  · simp [hj]

/-- A loop that goes on as long as a test holds: the end's value, or that of the first round where it doesn't. -/
theorem loop_all {ρ : Type} (n : Nat) (L : Nat → Int → Option ρ) (p : Nat → Bool) (e f : ρ)
    (hs : ∀ (k i : Nat), i < n → n ≤ k + i → L (k + 1) (i : Int) = if p i = true then L k ((i + 1 : Nat) : Int) else some f)
    (he : ∀ k : Nat, L (k + 1) (n : Int) = some e) (k : Nat) (hk : n < k) :
    L k 0 = some (if (List.range n).all p = true then e else f) := by
  have main : ∀ (d k i : Nat), i + d = n → d < k → (∀ j, j < i → p j = true) → L k (i : Int) = some (if (List.range n).all p = true then e else f) := by
    intro d
    induction d with
    | zero =>
      intro k i hd hk hj
      obtain ⟨k, rfl⟩ := succ_of hk
      obtain rfl : i = n := by omega
      rw [he k, if_pos (by rw [List.all_eq_true]; intro j hj'; exact hj j (List.mem_range.1 hj'))]
    | succ d ih =>
      intro k i hd hk hj
      obtain ⟨k, rfl⟩ := succ_of hk
      rw [hs k i (by omega) (by omega)]
      by_cases hp : p i = true
      · rw [if_pos hp]
        apply ih k (i + 1) (by omega) (by omega)
        intro j hji
        by_cases h : j = i
        · rw [h]; exact hp
        · exact hj j (by omega)
      · rw [if_neg hp, if_neg]
        intro h
        exact hp (List.all_eq_true.1 h i (List.mem_range.2 (by omega)))
  exact main n k 0 (by omega) hk (by omega)
theorem all_range_get {α : Type} (l : List α) (q : α → Bool) (p : Nat → Bool) (h : ∀ i (hi : i < l.length), p i = q l[i]) : (List.range l.length).all p = l.all q := by
  rw [Bool.eq_iff_iff, List.all_eq_true, List.all_eq_true]
  constructor
  · intro hp x hx
    obtain ⟨i, hi, rfl⟩ := List.mem_iff_getElem.1 hx
    rw [← h i hi]
    exact hp i (List.mem_range.2 hi)
  · intro hq i hi
    have hi := List.mem_range.1 hi
    rw [h i hi]
    exact hq _ (List.getElem_mem hi)

/-- A loop that looks for the first place where a test holds (-1: none). -/
theorem loop_find (n : Nat) (L : Nat → Int → Option Int) (p : Nat → Bool)
    (hs : ∀ (k i : Nat), i < n → n ≤ k + i → L (k + 1) (i : Int) = if p i = true then some (i : Int) else L k ((i + 1 : Nat) : Int))
    (he : ∀ k : Nat, L (k + 1) (n : Int) = some (-1)) (k : Nat) (hk : n < k) :
    ∃ r, L k 0 = some r ∧ -1 ≤ r ∧ r < n ∧ decide (r ≥ 0) = (List.range n).any p ∧ (0 ≤ r → p r.toNat = true ∧ ∀ j : Nat, (j : Int) < r → p j = false) := by
  have main : ∀ (d k i : Nat), i + d = n → d < k → (∀ j, j < i → p j = false) → ∃ r, L k (i : Int) = some r ∧ -1 ≤ r ∧ r < n ∧ decide (r ≥ 0) = (List.range n).any p ∧ (0 ≤ r → p r.toNat = true ∧ ∀ j : Nat, (j : Int) < r → p j = false) := by
    intro d
    induction d with
    | zero =>
      intro k i hd hk hj
      obtain ⟨k, rfl⟩ := succ_of hk
      obtain rfl : i = n := by omega
      refine ⟨-1, he k, by omega, by omega, ?_, by omega⟩
      rw [Bool.eq_iff_iff]
      simp only [decide_eq_true_eq, List.any_eq_true]
      constructor
      · intro h; omega
      · rintro ⟨j, hj1, hj2⟩
        rw [hj j (List.mem_range.1 hj1)] at hj2
        cases hj2
    | succ d ih =>
      intro k i hd hk hj
      obtain ⟨k, rfl⟩ := succ_of hk
      rw [hs k i (by omega) (by omega)]
      by_cases hp : p i = true
      · rw [if_pos hp]
        refine ⟨(i : Int), rfl, by omega, by omega, ?_, fun _ => ⟨by rw [Int.toNat_natCast]; exact hp, fun j hji => hj j (by omega)⟩⟩
        rw [Bool.eq_iff_iff]
        simp only [decide_eq_true_eq, List.any_eq_true]
        exact ⟨fun _ => ⟨i, List.mem_range.2 (by omega), hp⟩, fun _ => by omega⟩
      · rw [if_neg hp]
        apply ih k (i + 1) (by omega) (by omega)
        intro j hji
        by_cases h : j = i
        · rw [h]; simpa using hp
        · exact hj j (by omega)
  exact main n k 0 (by omega) hk (by omega)
theorem any_range_get {α : Type} (l : List α) (q : α → Bool) (p : Nat → Bool) (h : ∀ i (hi : i < l.length), p i = q l[i]) : (List.range l.length).any p = l.any q := by
  rw [Bool.eq_iff_iff, List.any_eq_true, List.any_eq_true]
  constructor
  · rintro ⟨i, hi, hp⟩
    have hi := List.mem_range.1 hi
    exact ⟨_, List.getElem_mem hi, by rw [← h i hi]; exact hp⟩
  · rintro ⟨x, hx, hq⟩
    obtain ⟨i, hi, rfl⟩ := List.mem_iff_getElem.1 hx
    exact ⟨i, List.mem_range.2 hi, by rw [h i hi]; exact hq⟩

/-- A loop that hands a state on. -/
theorem loop_fold {σ ρ : Type} (n : Nat) (L : Nat → σ → Int → Option ρ) (f : σ → Nat → σ) (g : σ → ρ) (inv : σ → Nat → Prop)
    (hs : ∀ (k : Nat) (s : σ) (i : Nat), i < n → n ≤ k + i → inv s i → L (k + 1) s (i : Int) = L k (f s i) ((i + 1 : Nat) : Int))
    (hi : ∀ (s : σ) (i : Nat), i < n → inv s i → inv (f s i) (i + 1))
    (he : ∀ (k : Nat) (s : σ), inv s n → L (k + 1) s (n : Int) = some (g s)) (k : Nat) (hk : n < k) (s0 : σ) (h0 : inv s0 0) :
    L k s0 0 = some (g ((List.range n).foldl f s0)) ∧ inv ((List.range n).foldl f s0) n := by
  have main : ∀ (d k : Nat) (s : σ) (i : Nat), i + d = n → d < k → inv s i → s = (List.range i).foldl f s0 → L k s (i : Int) = some (g ((List.range n).foldl f s0)) ∧ inv ((List.range n).foldl f s0) n := by
    intro d
    induction d with
    | zero =>
      intro k s i hd hk hv hss
      obtain ⟨k, rfl⟩ := succ_of hk
      obtain rfl : i = n := by omega
      rw [he k s hv, hss]
      exact ⟨rfl, hss ▸ hv⟩
    | succ d ih =>
      intro k s i hd hk hv hss
      obtain ⟨k, rfl⟩ := succ_of hk
      rw [hs k s i (by omega) (by omega) hv]
      refine ih k _ (i + 1) (by omega) (by omega) (hi s i (by omega) hv) ?_
      rw [List.range_succ, List.foldl_append, ← hss]
      rfl
  exact main n k s0 0 (by omega) hk h0 rfl

/-- The bytes that a mark writes: from a on, one more each time. -/
def marks (n : Nat) (a : Int) : List Int := (List.range n).map fun i => (a + (i : Nat)) % 256
theorem marks_length (n : Nat) (a : Int) : (marks n a).length = n := by simp [marks]
theorem marks_get (n : Nat) (a : Int) (i : Nat) (h : i < n) : (marks n a)[i]? = some ((a + (i : Nat)) % 256) := by
  simp [marks, List.getElem?_range h]
/-- The whole numbers that a mark writes. -/
def marksI (n : Nat) (a : Int) : List Int := (List.range n).map fun i => a + (i : Nat)
theorem marksI_length (n : Nat) (a : Int) : (marksI n a).length = n := by simp [marksI]
theorem marksI_get (n : Nat) (a : Int) (i : Nat) (h : i < n) : (marksI n a)[i]? = some (a + (i : Nat)) := by
  simp [marksI, List.getElem?_range h]
/-- The four bytes of a number's lowest bits. -/
def word4 (a : Int) : List Int := [a % 256, a / 256 % 256, a / 65536 % 256, a / 16777216 % 256]
theorem word4_length (a : Int) : (word4 a).length = 4 := rfl
theorem and_mask (a : Int) : Go.bits .and .i64 a 4294967295 = a % 4294967296 := by
  have h1 : (BitVec.ofInt 64 a &&& BitVec.ofInt 64 4294967295).toNat = (a % 4294967296).toNat := by
    rw [BitVec.toNat_and, BitVec.toNat_ofInt, show (BitVec.ofInt 64 4294967295).toNat = 2^32 - 1 from by decide, Nat.and_two_pow_sub_one_eq_mod]
    simp only [Nat.reducePow]
    omega
  show IntKind.i64.wrap (((BitVec.ofInt 64 a &&& BitVec.ofInt 64 4294967295).toNat : Nat) : Int) = _
  rw [h1, IntKind.wrap_i64]
  omega
/-- All are bytes. -/
def Byt (l : List Int) : Prop := ∀ x ∈ l, 0 ≤ x ∧ x ≤ 255
theorem Byt.get {l : List Int} (h : Byt l) (i : Nat) (hi : i < l.length) : 0 ≤ l[i] ∧ l[i] ≤ 255 := h _ (List.getElem_mem hi)
theorem Byt.append {a b : List Int} (ha : Byt a) (hb : Byt b) : Byt (a ++ b) := fun x hx => by
  rcases List.mem_append.1 hx with h | h
  · exact ha x h
  · exact hb x h
theorem Byt.word4 (a : Int) : Byt (word4 a) := by
  intro x hx
  simp [Plain.word4] at hx
  omega
theorem Byt.take {l : List Int} (h : Byt l) (n : Nat) : Byt (l.take n) := fun x hx => h x (List.mem_of_mem_take hx)
theorem Byt.drop {l : List Int} (h : Byt l) (n : Nat) : Byt (l.drop n) := fun x hx => h x (List.mem_of_mem_drop hx)
theorem strs_eq (a b : List Int) (ha : Byt a) (hb : Byt b) : ((strOfNums a).toList == (strOfNums b).toList) = decide (a = b) := by
  rw [ByteArray.toList_eq, ByteArray.toList_eq, Bool.eq_iff_iff, beq_iff_eq, decide_eq_true_eq]
  simp only [strOfNums]
  constructor
  · intro h
    have key : ∀ (a b : List Int), Byt a → Byt b → a.map (fun n => UInt8.ofNat n.toNat) = b.map (fun n => UInt8.ofNat n.toNat) → a = b := by
      intro a
      induction a with
      | nil => intro b _ _ h; cases b with | nil => rfl | cons _ _ => simp at h
      | cons x xs ih =>
        intro b ha hb h
        cases b with
        | nil => simp at h
        | cons y ys =>
          simp only [List.map_cons, List.cons.injEq] at h
          have hx := ha x (by simp)
          have hy := hb y (by simp)
          have e : x = y := by
            have := congrArg UInt8.toNat h.1
            simp at this
            omega
          rw [e, ih ys (fun z hz => ha z (by simp [hz])) (fun z hz => hb z (by simp [hz])) h.2]
    exact key a b ha hb (by simpa using h)
  · intro h; rw [h]
theorem or_i64 (x y : Int) (i : Nat) (hx0 : 0 ≤ x) (hx : x % 2 ^ i = 0) (hx1 : x < 2 ^ 62) (hy0 : 0 ≤ y) (hy : y < 2 ^ i) (hi : y < 2 ^ 62) : Go.bits .or .i64 x y = x + y :=
  bits_join .i64 62 (by decide) (fun n h0 h1 => by rw [IntKind.wrap_i64]; omega) i x y hx0 hx hx1 hy0 hy hi
theorem or_comm (x y : Int) : Go.bits .or .i64 x y = Go.bits .or .i64 y x := by
  unfold Go.bits
  simp only [BitVec.or_comm]
theorem or_low (x y : Int) (i : Nat) (hx0 : 0 ≤ x) (hx : x < 2 ^ i) (hx1 : x < 2 ^ 62) (hy0 : 0 ≤ y) (hy : y % 2 ^ i = 0) (hi : y < 2 ^ 62) : Go.bits .or .i64 x y = x + y := by
  rw [or_comm, or_i64 y x i hy0 hy hi hx0 hx hx1]; omega
theorem four_or (a b c d : Int) (ha : 0 ≤ a ∧ a ≤ 255) (hb : 0 ≤ b ∧ b ≤ 255) (hc : 0 ≤ c ∧ c ≤ 255) (hd : 0 ≤ d ∧ d ≤ 255) :
    Go.bits .or .i64 (Go.bits .or .i64 (Go.bits .or .i64 (wrap64 a) (wrap64 ((wrap64 b) * 256))) (wrap64 ((wrap64 c) * 65536))) (wrap64 ((wrap64 d) * 16777216)) = a + 256 * b + 65536 * c + 16777216 * d := by
  rw [w64 (x := a) (by omega) (by omega), w64 (x := b) (by omega) (by omega), w64 (x := c) (by omega) (by omega), w64 (x := d) (by omega) (by omega)]
  rw [w64 (x := b * 256) (by omega) (by omega), w64 (x := c * 65536) (by omega) (by omega), w64 (x := d * 16777216) (by omega) (by omega)]
  rw [or_low a (b * 256) 8 (by omega) (by omega) (by omega) (by omega) (by omega) (by omega)]
  rw [or_low (a + b * 256) (c * 65536) 16 (by omega) (by omega) (by omega) (by omega) (by omega) (by omega)]
  rw [or_low (a + b * 256 + c * 65536) (d * 16777216) 24 (by omega) (by omega) (by omega) (by omega) (by omega) (by omega)]
  omega
theorem and_pow (x : Int) (i : Nat) (hi : i ≤ 62) (h0 : 0 ≤ x) (h1 : x < 2 ^ 62) : Go.bits .and .i64 x (2 ^ i - 1) = x % 2 ^ i :=
  bits_mask .i64 62 (by decide) (fun n h0 h1 => by rw [IntKind.wrap_i64]; omega) i hi x h0 h1
/-- The number of four bytes, the lowest first. -/
def le4 (l : List Int) (a : Nat) : Int := l.getD a 0 + 256 * l.getD (a + 1) 0 + 65536 * l.getD (a + 2) 0 + 16777216 * l.getD (a + 3) 0
theorem le4_range (l : List Int) (a : Nat) (hb : Byt l) (h : a + 4 ≤ l.length) : 0 ≤ le4 l a ∧ le4 l a < 4294967296 := by
  have g : ∀ i, i < l.length → 0 ≤ l.getD i 0 ∧ l.getD i 0 ≤ 255 := fun i hi => by
    rw [List.getD_eq_getElem?_getD, List.getElem?_eq_getElem hi]; exact hb.get i hi
  have := g a (by omega); have := g (a + 1) (by omega); have := g (a + 2) (by omega); have := g (a + 3) (by omega)
  unfold le4; omega
end Go.Proofs.YtekjcdcmiingmaaDoor.Plain
