/- The pure statement of the law FnExactGetRecord, proved: numbers and lists alone, no memory. It holds for all arguments that can be read. -/
import Derived.Test.YtldlpoloanmohaaDFnExactGetRecord
import Derived.Test.YtldlpoloanmohaaPlain
set_option linter.unusedVariables false
set_option linter.unusedSimpArgs false
namespace Go.Proofs.Ytldlpoloanmohaa.Pure.FnExactGetRecord
open Go.RowKit Go.Proofs.Ytldlpoloanmohaa.PFnExactGetRecord Go.Proofs.YtldlpoloanmohaaW.PrintWords Go.Proofs.YtldlpoloanmohaaW.PrintLast Go.Proofs.Ytldlpoloanmohaa.Plain
theorem toByteS_l0 (l : List Int) (hl : l.length ≤ 9223372036854775807) : ∀ (d k : Nat) (x : List Int) (i : Nat), i + d = l.length → d < k → x.length = l.length → (∀ j, j < i → x[j]? = l[j]?) → laws_toByteS.l0 k l x (i : Int) = some l := by
  intro d
  induction d with
  | zero =>
    intro k x i hd hk hx hj
    obtain ⟨k, rfl⟩ := succ_of hk
    simp only [laws_toByteS.l0]
    rw [if_neg (by omega)]
    congr 1
    apply List.ext_getElem?
    intro j
    by_cases h : j < i
    · exact hj j h
    · rw [List.getElem?_eq_none (by omega), List.getElem?_eq_none (by omega)]
  | succ d ih =>
    intro k x i hd hk hx hj
    obtain ⟨k, rfl⟩ := succ_of hk
    simp only [laws_toByteS.l0]
    rw [if_pos (by omega), if_pos (by omega), if_pos (by omega), w64n (n := l.length) (by omega) hl]
    apply ih k _ (i + 1) (by omega) (by omega) (by simpa using hx)
    intro j hji
    simp only [Int.toNat_natCast, rd_nat]
    rw [List.getElem?_set]
    by_cases h : i = j
    · subst h
      rw [if_pos rfl, if_pos (by omega), List.getElem?_eq_getElem (by omega)]
      simp [List.getElem?_eq_getElem (show i < l.length by omega)]
    · rw [if_neg h]
      exact hj j (by omega)
theorem toByteS_eq (l : List Int) (k : Nat) (hl : l.length ≤ 281474976710656) (hk : l.length < k) : laws_toByteS.f k l = some l := by
  unfold laws_toByteS.f
  rw [if_pos (by omega), if_pos (by simpa using hl)]
  exact toByteS_l0 l (by omega) l.length k _ 0 (by omega) hk (by simp) (by omega)
theorem eqByteS_l0 (x y : List Int) (hxy : x.length = y.length) (hl : x.length ≤ 9223372036854775807) : ∀ (d k : Nat) (i : Nat), i + d = x.length → d < k → (∀ j, j < i → x[j]? = y[j]?) → laws_eqByteS.l0 k x y (i : Int) = some (decide (x = y)) := by
  intro d
  induction d with
  | zero =>
    intro k i hd hk hj
    obtain ⟨k, rfl⟩ := succ_of hk
    simp only [laws_eqByteS.l0]
    rw [if_neg (by omega)]
    have : x = y := by
      apply List.ext_getElem?
      intro j
      by_cases h : j < i
      · exact hj j h
      · rw [List.getElem?_eq_none (by omega), List.getElem?_eq_none (by omega)]
    simp [this]
  | succ d ih =>
    intro k i hd hk hj
    obtain ⟨k, rfl⟩ := succ_of hk
    simp only [laws_eqByteS.l0]
    rw [if_pos (by omega), if_pos (by omega), if_pos (by omega), w64n (n := x.length) (by omega) hl]
    simp only [rd_nat]
    have hx : x[i]? = some (x.getD i 0) := by simp [List.getElem?_eq_getElem (show i < x.length by omega)]
    have hy : y[i]? = some (y.getD i 0) := by simp [List.getElem?_eq_getElem (show i < y.length by omega)]
    by_cases h : x.getD i 0 = y.getD i 0
    · rw [if_pos h]
      apply ih k (i + 1) (by omega) (by omega)
      intro j hji
      by_cases e : j = i
      · subst e
        rw [hx, hy, h]
      · exact hj j (by omega)
    · rw [if_neg h]
      have : x ≠ y := fun e => h (by rw [e])
      simp [this]
theorem eqByteS_eq (x y : List Int) (k : Nat) (hl : x.length ≤ 9223372036854775807) (hk : x.length < k) : laws_eqByteS.f k x y = some (decide (x = y)) := by
  unfold laws_eqByteS.f
  by_cases h : x.length = y.length
  · rw [if_pos (by omega)]
    exact eqByteS_l0 x y h hl x.length k 0 (by omega) hk (by omega)
  · rw [if_neg (by omega)]
    have : x ≠ y := fun e => h (by rw [e])
    simp [this]
theorem word_impl (l : List Int) (hb : Byt l) (h : 4 ≤ l.length) : impl_word.f l = some (le4 l 0) := by
  unfold impl_word.f
  have g : ∀ i : Nat, i < l.length → rd l (i : Int) = l.getD i 0 ∧ 0 ≤ l.getD i 0 ∧ l.getD i 0 ≤ 255 := fun i hi => by
    refine ⟨rd_nat l i, ?_⟩
    rw [List.getD_eq_getElem?_getD, List.getElem?_eq_getElem hi]; exact hb.get i hi
  have g0 := g 0 (by omega)
  have g1 := g 1 (by omega)
  have g2 := g 2 (by omega)
  have g3 := g 3 (by omega)
  rw [if_pos (by omega), if_pos (by omega), if_pos (by omega), if_pos (by omega)]
  have e0 : rd l 0 = l.getD 0 0 := g0.1
  have e1 : rd l 1 = l.getD 1 0 := g1.1
  have e2 : rd l 2 = l.getD 2 0 := g2.1
  have e3 : rd l 3 = l.getD 3 0 := g3.1
  rw [e0, e1, e2, e3, four_or _ _ _ _ g0.2 g1.2 g2.2 g3.2]
  rfl
theorem sum4 (b0 b1 b2 b3 : Int) (h0 : 0 ≤ b0 ∧ b0 ≤ 255) (h1 : 0 ≤ b1 ∧ b1 ≤ 255) (h2 : 0 ≤ b2 ∧ b2 ≤ 255) (h3 : 0 ≤ b3 ∧ b3 ≤ 255) :
    wrap64 ((wrap64 ((wrap64 ((wrap64 b0) + (wrap64 (256 * (wrap64 b1))))) + (wrap64 (65536 * (wrap64 b2))))) + (wrap64 (16777216 * (wrap64 b3)))) = b0 + 256 * b1 + 65536 * b2 + 16777216 * b3 := by
  rw [w64 (x := b0) (by omega) (by omega), w64 (x := b1) (by omega) (by omega), w64 (x := b2) (by omega) (by omega), w64 (x := b3) (by omega) (by omega)]
  rw [w64 (x := 256 * b1) (by omega) (by omega), w64 (x := 65536 * b2) (by omega) (by omega), w64 (x := 16777216 * b3) (by omega) (by omega)]
  rw [w64 (x := b0 + 256 * b1) (by omega) (by omega), w64 (x := b0 + 256 * b1 + 65536 * b2) (by omega) (by omega), w64 (by omega) (by omega)]
theorem getD_byte (l : List Int) (hb : Byt l) (i : Nat) (hi : i < l.length) : 0 ≤ l.getD i 0 ∧ l.getD i 0 ≤ 255 := by
  rw [List.getD_eq_getElem?_getD, List.getElem?_eq_getElem hi]; exact hb.get i hi
theorem word_spec (l : List Int) (a : Nat) (hb : Byt l) (hl : l.length ≤ 9223372036854775807) (h : a + 4 ≤ l.length) : spec_Word.f l (a : Int) = some (le4 l a, true) := by
  have w0 : wrap64 ((l.length : Int) - 4) = (l.length : Int) - 4 := w64 (by omega) (by omega)
  have w1 : wrap64 ((a : Int) + 1) = ((a + 1 : Nat) : Int) := by rw [w64 (by omega) (by omega)]; omega
  have w2 : wrap64 ((a : Int) + 2) = ((a + 2 : Nat) : Int) := by rw [w64 (by omega) (by omega)]; omega
  have w3 : wrap64 ((a : Int) + 3) = ((a + 3 : Nat) : Int) := by rw [w64 (by omega) (by omega)]; omega
  have c0 : ¬ ((a : Int) < 0) := by omega
  have c1 : ¬ ((a : Int) > (l.length : Int) - 4) := by omega
  have d0 : (0 : Int) ≤ (a : Int) := by omega
  have d1 : (0 : Int) ≤ ((a + 1 : Nat) : Int) := by omega
  have d2 : (0 : Int) ≤ ((a + 2 : Nat) : Int) := by omega
  have d3 : (0 : Int) ≤ ((a + 3 : Nat) : Int) := by omega
  have f0 : (a : Int) < (l.length : Int) := by omega
  have f1 : ((a + 1 : Nat) : Int) < (l.length : Int) := by omega
  have f2 : ((a + 2 : Nat) : Int) < (l.length : Int) := by omega
  have f3 : ((a + 3 : Nat) : Int) < (l.length : Int) := by omega
  have r0 : rd l (a : Int) = l.getD a 0 := rd_nat l a
  have r1 : rd l ((a + 1 : Nat) : Int) = l.getD (a + 1) 0 := rd_nat l (a + 1)
  have r2 : rd l ((a + 2 : Nat) : Int) = l.getD (a + 2) 0 := rd_nat l (a + 2)
  have r3 : rd l ((a + 3 : Nat) : Int) = l.getD (a + 3) 0 := rd_nat l (a + 3)
  have s := sum4 _ _ _ _ (getD_byte l hb a (by omega)) (getD_byte l hb (a + 1) (by omega)) (getD_byte l hb (a + 2) (by omega)) (getD_byte l hb (a + 3) (by omega))
  unfold spec_Word.f
  rw [if_neg c0, w0, if_neg c1, w1, w2, w3, if_pos d0, if_pos f0, if_pos d1, if_pos f1, if_pos d2, if_pos f2, if_pos d3, if_pos f3, r0, r1, r2, r3, s]
  rfl
theorem word_spec_some (l : List Int) (a : Nat) (hb : Byt l) (hl : l.length ≤ 9223372036854775807) : ∃ v, spec_Word.f l (a : Int) = some v ∧ (v.2 = true → a + 4 ≤ l.length) := by
  by_cases h : a + 4 ≤ l.length
  · exact ⟨_, word_spec l a hb hl h, fun _ => h⟩
  · unfold spec_Word.f
    rw [if_neg (show ¬ ((a : Int) < 0) by omega), w64 (x := (l.length : Int) - 4) (by omega) (by omega), if_pos (show (a : Int) > (l.length : Int) - 4 by omega)]
    exact ⟨_, rfl, fun h => by simp at h⟩
theorem same_l0 (x y : List Int) (hxy : x.length = y.length) (hl : x.length ≤ 9223372036854775807) : ∀ (d k : Nat) (i : Nat), i + d = x.length → d < k → (∀ j, j < i → x[j]? = y[j]?) → spec_Same.l0 k x y (i : Int) = some (decide (x = y)) := by
  intro d
  induction d with
  | zero =>
    intro k i hd hk hj
    obtain ⟨k, rfl⟩ := succ_of hk
    simp only [spec_Same.l0]
    rw [if_neg (by omega)]
    have : x = y := by
      apply List.ext_getElem?
      intro j
      by_cases h : j < i
      · exact hj j h
      · rw [List.getElem?_eq_none (by omega), List.getElem?_eq_none (by omega)]
    simp [this]
  | succ d ih =>
    intro k i hd hk hj
    obtain ⟨k, rfl⟩ := succ_of hk
    simp only [spec_Same.l0]
    rw [if_pos (by omega), if_pos (by omega), if_pos (by omega), w64n (n := x.length) (by omega) hl]
    simp only [rd_nat]
    have hx : x[i]? = some (x.getD i 0) := by simp [List.getElem?_eq_getElem (show i < x.length by omega)]
    have hy : y[i]? = some (y.getD i 0) := by simp [List.getElem?_eq_getElem (show i < y.length by omega)]
    by_cases h : x.getD i 0 = y.getD i 0
    · rw [if_pos h]
      apply ih k (i + 1) (by omega) (by omega)
      intro j hji
      by_cases e : j = i
      · subst e
        rw [hx, hy, h]
      · exact hj j (by omega)
    · rw [if_neg h]
      have : x ≠ y := fun e => h (by rw [e])
      simp [this]
theorem same_eq (x y : List Int) (k : Nat) (hl : x.length ≤ 9223372036854775807) (hk : x.length < k) : spec_Same.f k x y = some (decide (x = y)) := by
  unfold spec_Same.f
  by_cases h : x.length = y.length
  · rw [if_pos (by omega)]
    exact same_l0 x y h hl x.length k 0 (by omega) hk (by omega)
  · rw [if_neg (by omega)]
    have : x ≠ y := fun e => h (by rw [e])
    simp [this]



theorem putWord_round (k : Nat) (x : Int) (l : List Int) (i : Nat) (h0 : 0 ≤ x) (h1 : x < 4294967296) (hl : l.length < 5) (hi : i < 4) : spec_PutWord.l0 (k + 1) x l (i : Int) = spec_PutWord.l0 k (x / 256) (l ++ [x % 256]) ((i + 1 : Nat) : Int) := by
  simp only [spec_PutWord.l0]
  rw [if_pos (by omega), if_pos (by omega), Int.tdiv_eq_ediv_of_nonneg h0, Int.tmod_eq_emod_of_nonneg h0, w64 (x := x / 256) (by omega) (by omega), w64 (x := (i : Int) + 1) (by omega) (by omega), Int.emod_emod_of_dvd _ (by decide)]
  rfl
theorem putWord_spec (a : Int) (k : Nat) (hk : 4 < k) : spec_PutWord.f k a = some (word4 a) := by
  obtain ⟨k, rfl⟩ : ∃ m, k = m + 5 := ⟨k - 5, by omega⟩
  unfold spec_PutWord.f
  rw [and_mask]
  have h0 : 0 ≤ a % 4294967296 := Int.emod_nonneg _ (by omega)
  have h1 : a % 4294967296 < 4294967296 := Int.emod_lt_of_pos _ (by omega)
  rw [show (0 : Int) = ((0 : Nat) : Int) from rfl, putWord_round (k + 4) _ _ 0 h0 h1 (by simp) (by omega), putWord_round (k + 3) _ _ 1 (by omega) (by omega) (by simp) (by omega), putWord_round (k + 2) _ _ 2 (by omega) (by omega) (by simp) (by omega), putWord_round (k + 1) _ _ 3 (by omega) (by omega) (by simp) (by omega)]
  simp only [spec_PutWord.l0]
  rw [if_neg (by omega)]
  simp [word4]
  omega
theorem putWord_impl (a : Int) : impl_PutWord.f a = some (word4 a) := rfl
theorem putWords_l0 (l : List Int) (hl : l.length ≤ 1073741824) : ∀ (d k : Nat) (x : List Int) (i : Nat), i + d = l.length → d < k → x.length = 4 * i → impl_putWords.l0 k x l (l.length : Int) (i : Int) = some (x ++ (l.drop i).flatMap word4) := by
  intro d
  induction d with
  | zero =>
    intro k x i hd hk hx
    obtain ⟨k, rfl⟩ := succ_of hk
    simp only [impl_putWords.l0]
    rw [if_neg (by omega), List.drop_eq_nil_of_le (by omega)]
    simp
  | succ d ih =>
    intro k x i hd hk hx
    obtain ⟨k, rfl⟩ := succ_of hk
    simp only [impl_putWords.l0]
    rw [if_pos (by omega), if_pos (by omega), if_pos (by omega), putWord_impl]
    simp only [Option.bind_some]
    rw [if_pos (by rw [word4_length]; omega), w64n (n := l.length) (by omega) (by omega)]
    rw [ih k _ (i + 1) (by omega) (by omega) (by rw [List.length_append, word4_length]; omega)]
    have hg : l.getD i 0 = l[i] := by simp [List.getElem?_eq_getElem (show i < l.length by omega)]
    rw [rd_nat, hg, List.append_assoc, List.drop_eq_getElem_cons (show i < l.length by omega), List.flatMap_cons]
theorem putWords_eq (l : List Int) (k : Nat) (hl : l.length ≤ 1073741824) (hk : l.length < k) : impl_putWords.f k l = some (l.flatMap word4) := by
  unfold impl_putWords.f
  have := putWords_l0 l hl l.length k [] 0 (by omega) hk rfl
  simpa using this
theorem in_some (a b c : Int) : ∃ r, spec_l1In.f a b c = some r := by
  unfold spec_l1In.f
  split <;> exact ⟨_, rfl⟩
theorem same_record (k : Nat) (a b c : Int) : impl_isRecord.f k a b c = spec_RecordOk.f k a b c := by cases k <;> rfl
theorem j0_some (k : Nat) (x : Int) (y : Bool) (a b c : Int) : ∃ r, spec_RecordOk.j0 (k + 1) x y a b c = some r := by
  obtain ⟨r1, h1⟩ := in_some b 0 1
  obtain ⟨r2, h2⟩ := in_some c 0 1024
  simp only [spec_RecordOk.j0, h1, h2, Option.bind_some]
  repeat' split
  all_goals exact ⟨_, rfl⟩
theorem record_some (k : Nat) (a b c : Int) : ∃ r, spec_RecordOk.f (k + 1) a b c = some r := by
  obtain ⟨r1, h1⟩ := in_some c 1 1000000
  unfold spec_RecordOk.f
  simp only [h1, Option.bind_some]
  repeat' split
  all_goals first | exact ⟨_, rfl⟩ | exact j0_some _ _ _ _ _ _
theorem putRecord_parts (k : Nat) (hk : 16 ≤ k) (a b c : Int) : ∃ r l, spec_RecordOk.f k a b c = some r ∧ impl_isRecord.f k a b c = some r ∧ impl_putRecord.f k a b c = some l ∧ Byt l ∧ l.length = 8 ∧ spec_PutRecord.f k a b c = some (if r = true then l else []) := by
  obtain ⟨m, rfl⟩ : ∃ m, k = m + 1 := ⟨k - 1, by omega⟩
  obtain ⟨r, h⟩ := record_some m a b c
  have h' := (same_record (m + 1) a b c).trans h
  refine ⟨r, word4 (wrap64 ((wrap64 (a + (wrap64 (16 * b)))) + (wrap64 (32 * c)))) ++ word4 (wrap64 (4294967295 - (wrap64 ((wrap64 (a + (wrap64 (16 * b)))) + (wrap64 (32 * c)))))), h, h', ?_, ?_, ?_, ?_⟩
  · unfold impl_putRecord.f
    rw [putWords_eq _ (m + 1) (by simp) (by simp; omega)]
    simp
  · exact (Byt.word4 _).append (Byt.word4 _)
  · simp [word4_length]
  · unfold spec_PutRecord.f
    rw [h, putWord_spec _ (m + 1) (by omega), putWord_spec _ (m + 1) (by omega)]
    simp only [Option.bind_some]
    cases r with
    | true => rw [if_pos rfl, if_pos (by simp [word4_length]), if_pos rfl]
    | false => rw [if_neg (by simp), if_neg (by simp)]
theorem getRecord_both (l : List Int) (hb : Byt l) (hl : l.length ≤ 9223372036854775807) (k : Nat) (hk : 32 ≤ k) : ∃ a b c o, spec_GetRecord.f k l = some (a, b, c, o) ∧ impl_GetRecord.f k l = some (a, b, c, o) := by
  obtain ⟨m, rfl⟩ : ∃ m, k = m + 1 := ⟨k - 1, by omega⟩
  unfold spec_GetRecord.f impl_GetRecord.f
  by_cases h8 : l.length = 8
  · have hw := word_spec l 0 hb hl (by omega)
    have hr := le4_range l 0 hb (by omega)
    rw [show ((0 : Nat) : Int) = 0 from rfl] at hw
    rw [hw, word_impl l hb (by omega), if_pos (by omega)]
    simp only [Option.bind_some]
    rw [if_pos (by omega)]
    generalize le4 l 0 = x at hr ⊢
    have e1 : Go.bits .and .i64 x 15 = x % 16 := and_pow x 4 (by omega) hr.1 (by omega)
    have e2 : Go.bits .and .i64 (x / 16) 1 = x / 16 % 2 := and_pow (x / 16) 1 (by omega) (by omega) (by omega)
    have t1 : Int.tmod x 16 = x % 16 := Int.tmod_eq_emod_of_nonneg hr.1
    have t2 : Int.tmod (wrap64 (Int.tdiv x 16)) 2 = x / 16 % 2 := by
      rw [Int.tdiv_eq_ediv_of_nonneg hr.1, w64 (by omega) (by omega), Int.tmod_eq_emod_of_nonneg (by omega)]
    have t3 : wrap64 (Int.tdiv x 32) = x / 32 := by
      rw [Int.tdiv_eq_ediv_of_nonneg hr.1, w64 (by omega) (by omega)]
    simp only [spec_GetRecord.j0, e1, e2, t1, t2, t3]
    obtain ⟨r, p, h1, h2, h3, h4, h5, h6⟩ := putRecord_parts m (by omega) (x % 16) (x / 16 % 2) (x / 32)
    obtain ⟨r', p', h1', h2', h3', h4', h5', h6'⟩ := putRecord_parts (m + 1) (by omega) (x % 16) (x / 16 % 2) (x / 32)
    have er : r' = r := by
      have := at_rounds (fun k => spec_RecordOk.mono _ _ _ k) (Nat.le_succ m) h1
      exact Option.some.inj (h1'.symm.trans this)
    have ep : p' = p := by
      have := at_rounds (fun k => impl_putRecord.mono _ _ _ k) (Nat.le_succ m) h3
      exact Option.some.inj (h3'.symm.trans this)
    subst er ep
    rw [h6, h2', h3']
    simp only [Option.bind_some, Bool.not_true]
    rw [if_neg (by simp)]
    unfold bytes_Equal.f
    rw [strs_eq _ _ h4 hb]
    simp only [Option.bind_some]
    cases r' with
    | true =>
      rw [if_pos rfl, if_pos rfl, same_eq p' l m (by omega) (by omega)]
      simp only [Option.bind_some]
      by_cases e : p' = l
      · simp [e]
      · simp [e]
    | false =>
      rw [if_neg (by simp), if_neg (by simp), same_eq [] l m (by simp) (by simp; omega)]
      have : ([] : List Int) ≠ l := fun e => by rw [← e] at h8; simp at h8
      simp [this]
  · rw [if_neg (by omega)]
    obtain ⟨v, hv, _⟩ := word_spec_some l 0 hb hl
    rw [show ((0 : Nat) : Int) = 0 from rfl] at hv
    rw [hv]
    simp only [Option.bind_some]
    rw [if_neg (by omega)]
    simp only [spec_GetRecord.j0, if_true]
    exact ⟨0, 0, 0, false, rfl, rfl⟩
theorem holds : laws_FnExactGetRecord.PureR := by
  intro l hl
  obtain ⟨K, hK⟩ : ∃ K : Nat, 4000000 ≤ K := ⟨_, Nat.le_refl _⟩
  obtain ⟨m, rfl⟩ : ∃ m, K = m + 1 := ⟨K - 1, by omega⟩
  refine ⟨m + 1, ?_⟩
  unfold laws_FnExactGetRecord.f
  by_cases h : (l.length : Int) > 1048576
  · rw [if_pos h]
  · obtain ⟨a, b, c, o, h1, h2⟩ := getRecord_both l hl.2 hl.1 (m + 1) (by omega)
    rw [if_neg h, toByteS_eq l (m + 1) (by omega) (by omega)]
    simp only [Option.bind_some, h1, h2]
    unfold laws_eqRecord.f
    simp only [if_true, Option.bind_some, bne_self_eq_false, laws_FnExactGetRecord.j0]
    rw [toByteS_eq l m (by omega) (by omega)]
    simp only [Option.bind_some]
    rw [eqByteS_eq l l m (by omega) (by omega)]
    simp
end Go.Proofs.Ytldlpoloanmohaa.Pure.FnExactGetRecord
namespace Go.Proofs.Ytldlpoloanmohaa.Pure
theorem FnExactGetRecord : Go.Proofs.Ytldlpoloanmohaa.PFnExactGetRecord.laws_FnExactGetRecord.PureR := FnExactGetRecord.holds
end Go.Proofs.Ytldlpoloanmohaa.Pure
