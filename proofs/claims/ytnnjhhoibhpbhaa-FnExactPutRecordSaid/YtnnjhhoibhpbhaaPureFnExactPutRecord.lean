/- The pure statement of the law FnExactPutRecord, proved: numbers and lists alone, no memory. It holds for all arguments that can be read. -/
import Derived.Test.YtnnjhhoibhpbhaaDFnExactPutRecord
namespace Go.Proofs.Ytnnjhhoibhpbhaa.Pure.FnExactPutRecord
open Go.RowKit Go.Proofs.Ytnnjhhoibhpbhaa.PFnExactPutRecord Go.Proofs.YtnnjhhoibhpbhaaW.PrintWords Go.Proofs.YtnnjhhoibhpbhaaW.PrintLast
theorem w64 {x : Int} (h0 : -9223372036854775808 ≤ x) (h1 : x ≤ 9223372036854775807) : wrap64 x = x := by
  unfold wrap64
  omega
theorem w64n {i n : Nat} (h : i < n) (hn : n ≤ 9223372036854775807) : wrap64 ((i : Int) + 1) = ((i + 1 : Nat) : Int) := by
  rw [w64 (by omega) (by omega)]
  omega
theorem rd_nat (l : List Int) (i : Nat) : rd l (i : Int) = l.getD i 0 := by simp [rd]
theorem succ_of {d k : Nat} (h : d < k) : ∃ m, k = m + 1 := ⟨k - 1, by omega⟩
theorem eqByteS_l0 (x y : List Int) (hxy : x.length = y.length) (hl : x.length ≤ 9223372036854775807) : ∀ (d k : Nat) (i : Nat), i + d = x.length → d < k → (∀ j, j < i → x[j]? = y[j]?) → laws_eqByteS.l0 k x y (i : Int) = some (decide (x = y)) := by
  intro d
  induction d with
  | zero =>
    intro k i hd hk hj
    obtain ⟨k, rfl⟩ := succ_of hk
    simp only [laws_eqByteS.l0]
    rw [if_neg (by omega)]
    have : x = y := by
      apply List.ext_getElem?
      intro j
      by_cases h : j < i
      · exact hj j h
      · rw [List.getElem?_eq_none (by omega), List.getElem?_eq_none (by omega)]
    simp [this]
  | succ d ih =>
    intro k i hd hk hj
    obtain ⟨k, rfl⟩ := succ_of hk
    simp only [laws_eqByteS.l0]
    rw [if_pos (by omega), if_pos (by omega), if_pos (by omega), w64n (n := x.length) (by omega) hl]
    simp only [rd_nat]
    have hx : x[i]? = some (x.getD i 0) := by simp [List.getElem?_eq_getElem (show i < x.length by omega)]
    have hy : y[i]? = some (y.getD i 0) := by simp [List.getElem?_eq_getElem (show i < y.length by omega)]
    by_cases h : x.getD i 0 = y.getD i 0
    · rw [if_pos h]
      apply ih k (i + 1) (by omega) (by omega)
      intro j hji
      by_cases e : j = i
      · subst e
        rw [hx, hy, h]
      · exact hj j (by omega)
    · rw [if_neg h]
      have : x ≠ y := fun e => h (by rw [e])
      simp [this]
theorem eqByteS_eq (x y : List Int) (k : Nat) (hl : x.length ≤ 9223372036854775807) (hk : x.length < k) : laws_eqByteS.f k x y = some (decide (x = y)) := by
  unfold laws_eqByteS.f
  by_cases h : x.length = y.length
  · rw [if_pos (by omega)]
    exact eqByteS_l0 x y h hl x.length k 0 (by omega) hk (by omega)
  · rw [if_neg (by omega)]
    have : x ≠ y := fun e => h (by rw [e])
    simp [this]
/-- The bytes that a mark writes: from a on, one more each time. -/
def marks (n : Nat) (a : Int) : List Int := (List.range n).map fun i => (a + (i : Nat)) % 256
theorem marks_length (n : Nat) (a : Int) : (marks n a).length = n := by simp [marks]
theorem marks_get (n : Nat) (a : Int) (i : Nat) (h : i < n) : (marks n a)[i]? = some ((a + (i : Nat)) % 256) := by
  simp [marks, List.getElem?_range h]
theorem markByteS_l0 (n : Nat) (a : Int) (h0 : 0 ≤ a) (hn : a + n ≤ 9223372036854775807) : ∀ (d k : Nat) (x : List Int) (i : Nat), i + d = n → d < k → x.length = n → (∀ j, j < i → x[j]? = some ((a + (j : Nat)) % 256)) → laws_markByteS.l0 k x (a + (i : Nat)) (i : Int) = some (a + (n : Nat), marks n a) := by
  intro d
  induction d with
  | zero =>
    intro k x i hd hk hx hj
    obtain ⟨k, rfl⟩ := succ_of hk
    simp only [laws_markByteS.l0]
    rw [if_neg (by omega)]
    have e : x = marks n a := by
      apply List.ext_getElem?
      intro j
      by_cases h : j < n
      · rw [hj j (by omega), marks_get n a j h]
      · rw [List.getElem?_eq_none (by omega), List.getElem?_eq_none (by rw [marks_length]; omega)]
    obtain rfl : i = n := by omega
    rw [e]
  | succ d ih =>
    intro k x i hd hk hx hj
    obtain ⟨k, rfl⟩ := succ_of hk
    simp only [laws_markByteS.l0]
    rw [if_pos (by omega), if_pos (by omega), w64n (n := n) (by omega) (by omega), w64 (x := a + (i : Nat) + 1) (by omega) (by omega)]
    have e : a + (i : Nat) + 1 = a + ((i + 1 : Nat) : Int) := by omega
    rw [e]
    apply ih k _ (i + 1) (by omega) (by omega) (by simpa using hx)
    intro j hji
    rw [Int.toNat_natCast, List.getElem?_set]
    by_cases h : i = j
    · subst h
      rw [if_pos rfl, if_pos (by omega)]
    · rw [if_neg h]
      exact hj j (by omega)
theorem markByteS_eq (l : List Int) (a : Int) (k : Nat) (h0 : 0 ≤ a) (hn : a + l.length ≤ 9223372036854775807) (hk : l.length < k) : laws_markByteS.f k l a = some (a + (l.length : Nat), marks l.length a) := by
  unfold laws_markByteS.f
  have := markByteS_l0 l.length a h0 hn l.length k l 0 (by omega) hk rfl (by omega)
  rw [show a + ((0 : Nat) : Int) = a by omega] at this
  exact this
theorem heldByteS_l0 (n : Nat) (a : Int) (h0 : 0 ≤ a) (hn : a + n ≤ 9223372036854775807) : ∀ (d k : Nat) (i : Nat), i + d = n → d < k → laws_heldByteS.l0 k (marks n a) (a + (i : Nat)) (i : Int) = some (a + (n : Nat)) := by
  intro d
  induction d with
  | zero =>
    intro k i hd hk
    obtain ⟨k, rfl⟩ := succ_of hk
    simp only [laws_heldByteS.l0]
    rw [if_neg (by rw [marks_length]; omega)]
    obtain rfl : i = n := by omega
    rfl
  | succ d ih =>
    intro k i hd hk
    obtain ⟨k, rfl⟩ := succ_of hk
    simp only [laws_heldByteS.l0]
    have hr : rd (marks n a) (i : Int) = (a + (i : Nat)) % 256 := by
      rw [rd_nat, List.getD_eq_getElem?_getD, marks_get n a i (by omega)]
      rfl
    rw [if_pos (by rw [marks_length]; omega), if_pos (by omega), if_pos hr, w64n (n := n) (by omega) (by omega), w64 (x := a + (i : Nat) + 1) (by omega) (by omega)]
    have e : a + (i : Nat) + 1 = a + ((i + 1 : Nat) : Int) := by omega
    rw [e]
    exact ih k (i + 1) (by omega) (by omega)
theorem heldByteS_eq (n : Nat) (a : Int) (k : Nat) (h0 : 0 ≤ a) (hn : a + n ≤ 9223372036854775807) (hk : n < k) : laws_heldByteS.f k (marks n a) a = some (a + (n : Nat)) := by
  unfold laws_heldByteS.f
  have := heldByteS_l0 n a h0 hn n k 0 (by omega) hk
  rw [show a + ((0 : Nat) : Int) = a by omega] at this
  exact this
/-- The four bytes of a number's lowest bits. -/
def word4 (a : Int) : List Int := [a % 256, a / 256 % 256, a / 65536 % 256, a / 16777216 % 256]
theorem word4_length (a : Int) : (word4 a).length = 4 := rfl
theorem and_mask (a : Int) : Go.bits .and .i64 a 4294967295 = a % 4294967296 := by
  have h1 : (BitVec.ofInt 64 a &&& BitVec.ofInt 64 4294967295).toNat = (a % 4294967296).toNat := by
    rw [BitVec.toNat_and, BitVec.toNat_ofInt, show (BitVec.ofInt 64 4294967295).toNat = 2^32 - 1 from by decide, Nat.and_two_pow_sub_one_eq_mod]
    simp only [Nat.reducePow]
    omega
  show IntKind.i64.wrap (((BitVec.ofInt 64 a &&& BitVec.ofInt 64 4294967295).toNat : Nat) : Int) = _
  rw [h1, IntKind.wrap_i64]
  omega
theorem putWord_round (k : Nat) (x : Int) (l : List Int) (i : Nat) (h0 : 0 ≤ x) (h1 : x < 4294967296) (hl : l.length < 5) (hi : i < 4) : spec_PutWord.l0 (k + 1) x l (i : Int) = spec_PutWord.l0 k (x / 256) (l ++ [x % 256]) ((i + 1 : Nat) : Int) := by
  simp only [spec_PutWord.l0]
  rw [if_pos (by omega), if_pos (by omega), Int.tdiv_eq_ediv_of_nonneg h0, Int.tmod_eq_emod_of_nonneg h0, w64 (x := x / 256) (by omega) (by omega), w64 (x := (i : Int) + 1) (by omega) (by omega), Int.emod_emod_of_dvd _ (by decide)]
  rfl
theorem putWord_spec (a : Int) (k : Nat) (hk : 4 < k) : spec_PutWord.f k a = some (word4 a) := by
  obtain ⟨k, rfl⟩ : ∃ m, k = m + 5 := ⟨k - 5, by omega⟩
  unfold spec_PutWord.f
  rw [and_mask]
  have h0 : 0 ≤ a % 4294967296 := Int.emod_nonneg _ (by omega)
  have h1 : a % 4294967296 < 4294967296 := Int.emod_lt_of_pos _ (by omega)
  rw [show (0 : Int) = ((0 : Nat) : Int) from rfl, putWord_round (k + 4) _ _ 0 h0 h1 (by simp) (by omega), putWord_round (k + 3) _ _ 1 (by omega) (by omega) (by simp) (by omega), putWord_round (k + 2) _ _ 2 (by omega) (by omega) (by simp) (by omega), putWord_round (k + 1) _ _ 3 (by omega) (by omega) (by simp) (by omega)]
  simp only [spec_PutWord.l0]
  rw [if_neg (by omega)]
  simp [word4]
  omega
theorem putWord_impl (a : Int) : impl_PutWord.f a = some (word4 a) := rfl
theorem putWords_l0 (l : List Int) (hl : l.length ≤ 1073741824) : ∀ (d k : Nat) (x : List Int) (i : Nat), i + d = l.length → d < k → x.length = 4 * i → impl_putWords.l0 k x l (l.length : Int) (i : Int) = some (x ++ (l.drop i).flatMap word4) := by
  intro d
  induction d with
  | zero =>
    intro k x i hd hk hx
    obtain ⟨k, rfl⟩ := succ_of hk
    simp only [impl_putWords.l0]
    rw [if_neg (by omega), List.drop_eq_nil_of_le (by omega)]
    simp
  | succ d ih =>
    intro k x i hd hk hx
    obtain ⟨k, rfl⟩ := succ_of hk
    simp only [impl_putWords.l0]
    rw [if_pos (by omega), if_pos (by omega), if_pos (by omega), putWord_impl]
    simp only [Option.bind_some]
    rw [if_pos (by rw [word4_length]; omega), w64n (n := l.length) (by omega) (by omega)]
    rw [ih k _ (i + 1) (by omega) (by omega) (by rw [List.length_append, word4_length]; omega)]
    have hg : l.getD i 0 = l[i] := by simp [List.getElem?_eq_getElem (show i < l.length by omega)]
    rw [rd_nat, hg, List.append_assoc, List.drop_eq_getElem_cons (show i < l.length by omega), List.flatMap_cons]
theorem putWords_eq (l : List Int) (k : Nat) (hl : l.length ≤ 1073741824) (hk : l.length < k) : impl_putWords.f k l = some (l.flatMap word4) := by
  unfold impl_putWords.f
  have := putWords_l0 l hl l.length k [] 0 (by omega) hk rfl
  simpa using this
theorem in_some (a b c : Int) : ∃ r, spec_l1In.f a b c = some r := by
  unfold spec_l1In.f
  split <;> exact ⟨_, rfl⟩
theorem same_record (k : Nat) (a b c : Int) : impl_isRecord.f k a b c = spec_RecordOk.f k a b c := by cases k <;> rfl
theorem j0_some (k : Nat) (x : Int) (y : Bool) (a b c : Int) : ∃ r, spec_RecordOk.j0 (k + 1) x y a b c = some r := by
  obtain ⟨r1, h1⟩ := in_some b 0 1
  obtain ⟨r2, h2⟩ := in_some c 0 1024
  simp only [spec_RecordOk.j0, h1, h2, Option.bind_some]
  repeat' split
  all_goals exact ⟨_, rfl⟩
theorem record_some (k : Nat) (a b c : Int) : ∃ r, spec_RecordOk.f (k + 1) a b c = some r := by
  obtain ⟨r1, h1⟩ := in_some c 1 1000000
  unfold spec_RecordOk.f
  simp only [h1, Option.bind_some]
  repeat' split
  all_goals first | exact ⟨_, rfl⟩ | exact j0_some _ _ _ _ _ _
theorem putRecord_both (a b c : Int) : ∃ l, spec_PutRecord.f 16 a b c = some l ∧ impl_PutRecord.f 16 a b c = some l ∧ l.length ≤ 8 := by
  obtain ⟨r, h⟩ := record_some 15 a b c
  have h' := (same_record 16 a b c).trans h
  unfold spec_PutRecord.f impl_PutRecord.f impl_putRecord.f
  rw [h, h', putWord_spec _ 16 (by omega), putWord_spec _ 16 (by omega), putWords_eq _ 16 (by simp) (by simp)]
  simp only [Option.bind_some]
  cases r with
  | false => exact ⟨[], by simp⟩
  | true =>
    rw [if_pos rfl, if_pos rfl, if_pos (by simp [word4_length])]
    exact ⟨_, rfl, by simp, by simp [word4_length]⟩
theorem holds : laws_FnExactPutRecord.Pure := by
  intro a b c _ _ _
  refine ⟨16, ?_⟩
  obtain ⟨l, h, h', hl⟩ := putRecord_both a b c
  unfold laws_FnExactPutRecord.f laws_toRecord.f
  simp only [Option.bind_some, h, h']
  rw [eqByteS_eq l l 16 (by omega) (by omega)]
  simp only [Option.bind_some, decide_true, eq_self, if_true]
  rw [markByteS_eq l 1 16 (by omega) (by omega) (by omega)]
  simp only [Option.bind_some]
  rw [heldByteS_eq l.length 1 16 (by omega) (by omega) (by omega)]
  have hn : ¬ (1 + ((l.length : Nat) : Int) < 0) := by omega
  simp [hn]
end Go.Proofs.Ytnnjhhoibhpbhaa.Pure.FnExactPutRecord
namespace Go.Proofs.Ytnnjhhoibhpbhaa.Pure
theorem FnExactPutRecord : Go.Proofs.Ytnnjhhoibhpbhaa.PFnExactPutRecord.laws_FnExactPutRecord.Pure := FnExactPutRecord.holds
end Go.Proofs.Ytnnjhhoibhpbhaa.Pure
