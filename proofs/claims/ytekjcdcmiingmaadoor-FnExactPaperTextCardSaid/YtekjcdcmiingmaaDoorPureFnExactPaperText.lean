/- The pure statement of the law FnExactPaperText, proved: numbers and lists alone, no memory. It holds for all arguments that can be read. -/
import Derived.Test.YtekjcdcmiingmaaDoorDFnExactPaperText
import Derived.Test.YtekjcdcmiingmaaDoorPlain
import Derived.Lib.TrimUEq
set_option linter.unusedVariables false
set_option linter.unusedSimpArgs false
namespace Go.Proofs.YtekjcdcmiingmaaDoor.Pure.FnExactPaperText
open Go.RowKit Go.Proofs.YtekjcdcmiingmaaDoor.PFnExactPaperText Go.Proofs.YtekjcdcmiingmaaDoorW.PrintWords Go.Proofs.YtekjcdcmiingmaaDoorW.PrintLast Go.Proofs.YtekjcdcmiingmaaDoor.Plain

theorem szIntS_eq (l : List Int) (a : Int) (hl : l.length ≤ 9223372036854775807) (h0 : 0 ≤ a) (h1 : a ≤ 9223372036854775807) : laws_szIntS.f l a = some (if a < l.length then -1 else a - l.length) := by
  unfold laws_szIntS.f
  rw [w64 (by omega) (by omega)]
  by_cases h : a < l.length
  · rw [if_pos (by omega), if_pos h]
  · rw [if_neg (by omega), if_neg h]
theorem szByteS_eq (l : List Int) (a : Int) (hl : l.length ≤ 9223372036854775807) (h0 : 0 ≤ a) (h1 : a ≤ 9223372036854775807) : laws_szByteS.f l a = some (if a < l.length then -1 else a - l.length) := by
  unfold laws_szByteS.f
  rw [w64 (by omega) (by omega)]
  by_cases h : a < l.length
  · rw [if_pos (by omega), if_pos h]
  · rw [if_neg (by omega), if_neg h]
theorem toIntS_l0 (l : List Int) (hl : l.length ≤ 9223372036854775807) : ∀ (d k : Nat) (x : List Int) (i : Nat), i + d = l.length → d < k → x.length = l.length → (∀ j, j < i → x[j]? = l[j]?) → laws_toIntS.l0 k l x (i : Int) = some l := by
  intro d
  induction d with
  | zero =>
    intro k x i hd hk hx hj
    obtain ⟨k, rfl⟩ := succ_of hk
    simp only [laws_toIntS.l0]
    rw [if_neg (by omega)]
    congr 1
    apply List.ext_getElem?
    intro j
    by_cases h : j < i
    · exact hj j h
    · rw [List.getElem?_eq_none (by omega), List.getElem?_eq_none (by omega)]
  | succ d ih =>
    intro k x i hd hk hx hj
    obtain ⟨k, rfl⟩ := succ_of hk
    simp only [laws_toIntS.l0]
    rw [if_pos (by omega), if_pos (by omega), if_pos (by omega), w64n (n := l.length) (by omega) hl]
    apply ih k _ (i + 1) (by omega) (by omega) (by simpa using hx)
    intro j hji
    simp only [Int.toNat_natCast, rd_nat]
    rw [List.getElem?_set]
    by_cases h : i = j
    · subst h
      rw [if_pos rfl, if_pos (by omega), List.getElem?_eq_getElem (by omega)]
      simp [List.getElem?_eq_getElem (show i < l.length by omega)]
    · rw [if_neg h]
      exact hj j (by omega)
theorem toIntS_eq (l : List Int) (k : Nat) (hl : l.length ≤ 35184372088832) (hk : l.length < k) : laws_toIntS.f k l = some l := by
  unfold laws_toIntS.f
  rw [if_pos (by omega), if_pos (by simpa using hl)]
  exact toIntS_l0 l (by omega) l.length k _ 0 (by omega) hk (by simp) (by omega)
theorem toByteS_l0 (l : List Int) (hl : l.length ≤ 9223372036854775807) : ∀ (d k : Nat) (x : List Int) (i : Nat), i + d = l.length → d < k → x.length = l.length → (∀ j, j < i → x[j]? = l[j]?) → laws_toByteS.l0 k l x (i : Int) = some l := by
  intro d
  induction d with
  | zero =>
    intro k x i hd hk hx hj
    obtain ⟨k, rfl⟩ := succ_of hk
    simp only [laws_toByteS.l0]
    rw [if_neg (by omega)]
    congr 1
    apply List.ext_getElem?
    intro j
    by_cases h : j < i
    · exact hj j h
    · rw [List.getElem?_eq_none (by omega), List.getElem?_eq_none (by omega)]
  | succ d ih =>
    intro k x i hd hk hx hj
    obtain ⟨k, rfl⟩ := succ_of hk
    simp only [laws_toByteS.l0]
    rw [if_pos (by omega), if_pos (by omega), if_pos (by omega), w64n (n := l.length) (by omega) hl]
    apply ih k _ (i + 1) (by omega) (by omega) (by simpa using hx)
    intro j hji
    simp only [Int.toNat_natCast, rd_nat]
    rw [List.getElem?_set]
    by_cases h : i = j
    · subst h
      rw [if_pos rfl, if_pos (by omega), List.getElem?_eq_getElem (by omega)]
      simp [List.getElem?_eq_getElem (show i < l.length by omega)]
    · rw [if_neg h]
      exact hj j (by omega)
theorem toByteS_eq (l : List Int) (k : Nat) (hl : l.length ≤ 281474976710656) (hk : l.length < k) : laws_toByteS.f k l = some l := by
  unfold laws_toByteS.f
  rw [if_pos (by omega), if_pos (by simpa using hl)]
  exact toByteS_l0 l (by omega) l.length k _ 0 (by omega) hk (by simp) (by omega)
theorem eqIntS_l0 (x y : List Int) (hxy : x.length = y.length) (hl : x.length ≤ 9223372036854775807) : ∀ (d k : Nat) (i : Nat), i + d = x.length → d < k → (∀ j, j < i → x[j]? = y[j]?) → laws_eqIntS.l0 k x y (i : Int) = some (decide (x = y)) := by
  intro d
  induction d with
  | zero =>
    intro k i hd hk hj
    obtain ⟨k, rfl⟩ := succ_of hk
    simp only [laws_eqIntS.l0]
    rw [if_neg (by omega)]
    have : x = y := by
      apply List.ext_getElem?
      intro j
      by_cases h : j < i
      · exact hj j h
      · rw [List.getElem?_eq_none (by omega), List.getElem?_eq_none (by omega)]
    simp [this]
  | succ d ih =>
    intro k i hd hk hj
    obtain ⟨k, rfl⟩ := succ_of hk
    simp only [laws_eqIntS.l0]
    rw [if_pos (by omega), if_pos (by omega), if_pos (by omega), w64n (n := x.length) (by omega) hl]
    simp only [rd_nat]
    have hx : x[i]? = some (x.getD i 0) := by simp [List.getElem?_eq_getElem (show i < x.length by omega)]
    have hy : y[i]? = some (y.getD i 0) := by simp [List.getElem?_eq_getElem (show i < y.length by omega)]
    by_cases h : x.getD i 0 = y.getD i 0
    · rw [if_pos h]
      apply ih k (i + 1) (by omega) (by omega)
      intro j hji
      by_cases e : j = i
      · subst e
        rw [hx, hy, h]
      · exact hj j (by omega)
    · rw [if_neg h]
      have : x ≠ y := fun e => h (by rw [e])
      simp [this]
theorem eqIntS_eq (x y : List Int) (k : Nat) (hl : x.length ≤ 9223372036854775807) (hk : x.length < k) : laws_eqIntS.f k x y = some (decide (x = y)) := by
  unfold laws_eqIntS.f
  by_cases h : x.length = y.length
  · rw [if_pos (by omega)]
    exact eqIntS_l0 x y h hl x.length k 0 (by omega) hk (by omega)
  · rw [if_neg (by omega)]
    have : x ≠ y := fun e => h (by rw [e])
    simp [this]
theorem eqByteS_l0 (x y : List Int) (hxy : x.length = y.length) (hl : x.length ≤ 9223372036854775807) : ∀ (d k : Nat) (i : Nat), i + d = x.length → d < k → (∀ j, j < i → x[j]? = y[j]?) → laws_eqByteS.l0 k x y (i : Int) = some (decide (x = y)) := by
  intro d
  induction d with
  | zero =>
    intro k i hd hk hj
    obtain ⟨k, rfl⟩ := succ_of hk
    simp only [laws_eqByteS.l0]
    rw [if_neg (by omega)]
    have : x = y := by
      apply List.ext_getElem?
      intro j
      by_cases h : j < i
      · exact hj j h
      · rw [List.getElem?_eq_none (by omega), List.getElem?_eq_none (by omega)]
    simp [this]
  | succ d ih =>
    intro k i hd hk hj
    obtain ⟨k, rfl⟩ := succ_of hk
    simp only [laws_eqByteS.l0]
    rw [if_pos (by omega), if_pos (by omega), if_pos (by omega), w64n (n := x.length) (by omega) hl]
    simp only [rd_nat]
    have hx : x[i]? = some (x.getD i 0) := by simp [List.getElem?_eq_getElem (show i < x.length by omega)]
    have hy : y[i]? = some (y.getD i 0) := by simp [List.getElem?_eq_getElem (show i < y.length by omega)]
    by_cases h : x.getD i 0 = y.getD i 0
    · rw [if_pos h]
      apply ih k (i + 1) (by omega) (by omega)
      intro j hji
      by_cases e : j = i
      · subst e
        rw [hx, hy, h]
      · exact hj j (by omega)
    · rw [if_neg h]
      have : x ≠ y := fun e => h (by rw [e])
      simp [this]
theorem eqByteS_eq (x y : List Int) (k : Nat) (hl : x.length ≤ 9223372036854775807) (hk : x.length < k) : laws_eqByteS.f k x y = some (decide (x = y)) := by
  unfold laws_eqByteS.f
  by_cases h : x.length = y.length
  · rw [if_pos (by omega)]
    exact eqByteS_l0 x y h hl x.length k 0 (by omega) hk (by omega)
  · rw [if_neg (by omega)]
    have : x ≠ y := fun e => h (by rw [e])
    simp [this]
theorem in_spec (a b c : Int) : spec_l1In.f a b c = some (decide (b ≤ a ∧ a ≤ c)) := by
  unfold spec_l1In.f
  split <;> simp <;> omega
theorem in_impl (a b c : Int) : impl_in.f a b c = some (decide (b ≤ a ∧ a ≤ c)) := by
  unfold impl_in.f
  split <;> simp <;> omega
def versionGood (l : List Int) : Bool := decide (l.length = 3) && l.all fun n => decide (0 ≤ n ∧ n ≤ 999)
theorem version_spec (xs : List Int) : spec_l16Version.f xs = some (versionGood xs) := by
  unfold spec_l16Version.f
  by_cases h3 : xs.length = 3
  · obtain ⟨a, b, c, rfl⟩ : ∃ a b c, xs = [a, b, c] := by
      match xs, h3 with
      | [a, b, c], _ => exact ⟨a, b, c, rfl⟩
    rw [if_pos (by simp), if_pos (by simp), if_pos (by simp), if_pos (by simp)]
    simp only [in_spec, Option.bind_some, decide_eq_true_eq]
    have e0 : rd [a, b, c] 0 = a := rfl
    have e1 : rd [a, b, c] 1 = b := rfl
    have e2 : rd [a, b, c] 2 = c := rfl
    rw [e0, e1, e2]
    simp only [versionGood]
    by_cases ha : 0 ≤ a ∧ a ≤ 999
    · rw [if_pos ha]
      by_cases hb : 0 ≤ b ∧ b ≤ 999
      · rw [if_pos hb]
        simp [ha, hb]
      · rw [if_neg hb]
        simp [hb]
    · rw [if_neg ha]
      simp [ha]
  · rw [if_neg (by omega)]
    simp [versionGood, h3]
theorem version_impl (xs : List Int) (k : Nat) (hl : xs.length ≤ 9223372036854775807) (hk : xs.length < k) : impl_isVersion.f k xs = some (versionGood xs) := by
  unfold impl_isVersion.f versionGood
  by_cases h3 : xs.length = 3
  · rw [if_pos (by omega)]
    unfold slices_ContainsFunc_F78.f slices_IndexFunc_F78.f
    obtain ⟨r, h1, _, _, h2, _⟩ := loop_find xs.length (fun k i => slices_IndexFunc_F78.l0 k xs (xs.length : Int) i) (fun i => !decide (0 ≤ xs.getD i 0 ∧ xs.getD i 0 ≤ 999)) (by
      intro k i hi hki
      simp only [slices_IndexFunc_F78.l0, impl_isVersion_1.f, in_impl, rd_nat]
      rw [if_pos (by omega), if_pos (by omega), if_pos (by omega), w64n (n := xs.length) hi hl]
      rfl) (by
      intro k
      simp only [slices_IndexFunc_F78.l0]
      rw [if_neg (by omega)]) k hk
    try dsimp only at h1
    rw [h1]
    simp only [Option.bind_some]
    rw [h2, any_range_get xs (fun n => !decide (0 ≤ n ∧ n ≤ 999)) _ (fun i hi => by simp [List.getElem?_eq_getElem hi])]
    rw [List.all_eq_not_any_not, decide_eq_true h3, Bool.true_and]
  · rw [if_neg (by omega)]
    simp [h3]
theorem get_bt (s : ByteArray) (i : Nat) : ((s.get! i).toNat : Int) = bt s (i : Int) := by
  unfold bt
  by_cases h : i < s.size
  · rw [dif_pos (by simpa using h)]
    have : s.get! i = s[i]'h := by
      cases s; exact getElem!_pos _ i h
    rw [this]; rfl
  · rw [dif_neg (by simpa using h)]
    have : s.get! i = 0 := by
      cases s; exact getElem!_neg _ i h
    rw [this]; rfl
set_option maxHeartbeats 4000000 in
theorem dec_err (n b0 b1 b2 b3 : Nat) (hn : 1 ≤ n) (h0 : b0 < 256) (h1 : b1 < 256) (h2 : b2 < 256) (h : (Lib.decodeN n b0 b1 b2 b3).1 = 65533) :
    (Lib.decodeN n b0 b1 b2 b3).2 = 1 ↔ (n ≤ 2 ∨ b0 ≠ 239 ∨ b1 ≠ 191 ∨ b2 ≠ 189) := by
  unfold Lib.decodeN at h ⊢
  by_cases c1 : b0 < 128
  · rw [if_pos c1] at h ⊢; simp only at h; omega
  rw [if_neg c1] at h ⊢
  by_cases c2 : b0 / 32 = 6 ∧ (1 < n ∧ b1 / 64 = 2)
  · rw [if_pos c2] at h ⊢
    by_cases d : b0 % 32 * 64 + b1 % 64 ≥ 128
    · rw [if_pos d] at h; simp only at h; omega
    · rw [if_neg d] at h ⊢; simp only [true_iff]; omega
  rw [if_neg c2] at h ⊢
  by_cases c3 : b0 / 16 = 14 ∧ (1 < n ∧ b1 / 64 = 2) ∧ (2 < n ∧ b2 / 64 = 2)
  · rw [if_pos c3] at h ⊢
    by_cases d : b0 % 16 * 4096 + b1 % 64 * 64 + b2 % 64 ≥ 2048 ∧ (b0 % 16 * 4096 + b1 % 64 * 64 + b2 % 64 < 55296 ∨ (57344 ≤ b0 % 16 * 4096 + b1 % 64 * 64 + b2 % 64 ∧ b0 % 16 * 4096 + b1 % 64 * 64 + b2 % 64 ≤ 1114111))
    · rw [if_pos d] at h ⊢; simp only at h ⊢; omega
    · rw [if_neg d] at h ⊢; simp only [true_iff]; omega
  rw [if_neg c3] at h ⊢
  by_cases c4 : b0 / 8 = 30 ∧ (1 < n ∧ b1 / 64 = 2) ∧ (2 < n ∧ b2 / 64 = 2) ∧ (3 < n ∧ b3 / 64 = 2)
  · rw [if_pos c4] at h ⊢
    by_cases d : b0 % 8 * 262144 + b1 % 64 * 4096 + b2 % 64 * 64 + b3 % 64 ≥ 65536 ∧ (b0 % 8 * 262144 + b1 % 64 * 4096 + b2 % 64 * 64 + b3 % 64 < 55296 ∨ (57344 ≤ b0 % 8 * 262144 + b1 % 64 * 4096 + b2 % 64 * 64 + b3 % 64 ∧ b0 % 8 * 262144 + b1 % 64 * 4096 + b2 % 64 * 64 + b3 % 64 ≤ 1114111))
    · rw [if_pos d] at h; simp only at h; omega
    · rw [if_neg d] at h ⊢; simp only [true_iff]; omega
  rw [if_neg c4] at h ⊢
  simp only [true_iff]
  omega
theorem broken_dec (s : ByteArray) (pos : Nat) (hp : pos < s.size) : brokenAt s pos ((Utf8.decode s pos).1 : Int) = decide ((Utf8.decode s pos).1 = 65533 ∧ (Utf8.decode s pos).2 = 1) := by
  by_cases h : (Utf8.decode s pos).1 = 65533
  · have e := h
    rw [Lib.decode_at] at e
    have z := dec_err _ _ _ _ _ (by omega) (UInt8.toNat_lt _) (UInt8.toNat_lt _) (UInt8.toNat_lt _) e
    rw [← Lib.decode_at] at z
    rw [h, Bool.eq_iff_iff, decide_eq_true_iff, and_iff_right rfl, z]
    unfold brokenAt
    rw [← get_bt, ← get_bt, ← get_bt]
    simp only [Bool.and_eq_true, Bool.or_eq_true, beq_iff_eq, bne_iff_ne, decide_eq_true_eq, ne_eq]
    constructor
    · rintro ⟨_, ((a | a) | a) | a⟩ <;> omega
    · intro a; refine ⟨by decide, ?_⟩; omega
  · rw [decide_eq_false (fun x => h x.1)]
    unfold brokenAt
    have : (((Utf8.decode s pos).1 : Int) == 65533) = false := by simp; omega
    rw [this]; rfl
theorem p_eq (x : Nat) : strings_ContainsFunc_F46.p x = !nameRune (x : Int) := by
  unfold strings_ContainsFunc_F46.p
  have : impl_isNameRune.f (x : Int) = some (nameRune (x : Int)) := by
    unfold impl_isNameRune.f nameRune
    repeat' split
    all_goals (congr 1; symm; first | (simp only [Bool.or_eq_true, Bool.and_eq_true, decide_eq_true_eq, beq_iff_eq]; omega) | (rw [Bool.eq_iff_iff]; simp only [Bool.or_eq_true, Bool.and_eq_true, decide_eq_true_eq, beq_iff_eq]; omega))
  rw [impl_NameOk_1.f, this]; rfl
def rest (s : ByteArray) (f pos : Nat) (n : Int) : Bool := Lib.validGoD f (s.data.toList.drop pos) && (!(decide (0 ≤ Lib.idxFuncFrom strings_ContainsFunc_F46.p true s f pos)) && (decide (1 ≤ n + Lib.runeCountFrom s f pos ∧ n + Lib.runeCountFrom s f pos ≤ 24) && (bt s 0 != 32 && bt s ((s.size : Int) - 1) != 32)))
theorem len_data (s : ByteArray) : s.data.toList.length = s.size := rfl
theorem valid_end (f : Nat) : Lib.validGoD f [] = true := by cases f <;> simp [Lib.validGoD]
theorem main (s : ByteArray) (h0 : 0 < s.size) : ∀ (f pos : Nat) (n : Int) (K : Nat), s.size ≤ pos + f → f < K → 0 ≤ n → n + f < 9000000000000000000 → spec_NameOk.l0 K s n pos = some (rest s f pos n) := by
  intro f
  have fin : ∀ (f pos : Nat) (n : Int) (K : Nat), ¬ pos < s.size → f < K → 0 ≤ n → spec_NameOk.l0 K s n pos = some (rest s f pos n) := by
    intro f pos n K hp hK hn
    obtain ⟨K, rfl⟩ : ∃ K', K = K' + 1 := ⟨K - 1, by omega⟩
    have e : s.data.toList.drop pos = [] := List.drop_eq_nil_of_le (by rw [len_data]; omega)
    unfold spec_NameOk.l0 rest
    rw [if_neg hp, e, valid_end, Lib.idxFuncFrom_end _ _ _ _ _ hp, Lib.runeCountFrom_end _ _ _ hp, if_pos h0]
    by_cases a : 1 ≤ n
    · rw [if_pos a]
      by_cases b : n ≤ 24
      · rw [if_pos b, decide_eq_true (show 1 ≤ n + ((0 : Nat) : Int) ∧ n + ((0 : Nat) : Int) ≤ 24 by omega)]; simp
      · rw [if_neg b, decide_eq_false (show ¬ (1 ≤ n + ((0 : Nat) : Int) ∧ n + ((0 : Nat) : Int) ≤ 24) by omega)]; simp
    · rw [if_neg a, decide_eq_false (show ¬ (1 ≤ n + ((0 : Nat) : Int) ∧ n + ((0 : Nat) : Int) ≤ 24) by omega)]; simp
  induction f with
  | zero => intro pos n K hs hK hn _; exact fin 0 pos n K (by omega) hK hn
  | succ f ih =>
    intro pos n K hs hK hn hb
    by_cases hp : pos < s.size
    case neg => exact fin _ pos n K hp hK hn
    obtain ⟨K, rfl⟩ : ∃ K', K = K' + 1 := ⟨K - 1, by omega⟩
    have ne : s.data.toList.drop pos ≠ [] := by
      intro e
      have := congrArg List.length e
      rw [List.length_drop, len_data] at this
      simp only [List.length_nil] at this; omega
    have hw := Lib.width_pos s pos
    unfold spec_NameOk.l0 rest Lib.validGoD Lib.idxFuncFrom Lib.runeCountFrom
    rw [if_pos hp, if_neg ne, if_pos hp, if_pos hp, Lib.decodeL_drop, broken_dec s pos hp, p_eq]
    by_cases hb1 : (Utf8.decode s pos).1 = 65533 ∧ (Utf8.decode s pos).2 = 1
    · rw [if_pos (by rw [decide_eq_true hb1]), if_pos hb1]; rfl
    · rw [if_neg (by rw [decide_eq_false hb1]; decide), if_neg hb1, List.drop_drop]
      cases hN : nameRune ((Utf8.decode s pos).1 : Int) with
      | false =>
        rw [if_neg (by decide), if_pos (by decide), decide_eq_true (show (0 : Int) ≤ ((pos : Nat) : Int) by omega)]
        simp
      | true =>
        rw [if_pos rfl, if_neg (by decide), w64 (by omega) (by omega), ih _ _ K (by omega) (by omega) (by omega) (by omega)]
        unfold rest
        have e : n + 1 + ((Lib.runeCountFrom s f (pos + (Utf8.decode s pos).2) : Nat) : Int) = n + ((1 + Lib.runeCountFrom s f (pos + (Utf8.decode s pos).2) : Nat) : Int) := by omega
        rw [e]
theorem prefix_bt (s : ByteArray) (h0 : 0 < s.size) : Lib.hasPrefix s.data.toList (#[32] : Array UInt8).toList = (bt s 0 == 32) := by
  have hl : 0 < s.data.toList.length := h0
  have e : bt s 0 = ((s.data.toList[0]'hl).toNat : Int) := by
    unfold bt; rw [dif_pos (show (0 : Int).toNat < s.size from h0)]; rfl
  rw [e]
  unfold Lib.hasPrefix
  revert hl
  generalize s.data.toList = L
  intro hl _
  cases L with
  | nil => exact absurd hl (by decide)
  | cons b t =>
    simp only [List.getElem_cons_zero, List.isPrefixOf, Bool.and_true]
    rw [Bool.eq_iff_iff, beq_iff_eq, beq_iff_eq]
    constructor
    · rintro rfl; rfl
    · intro h; exact UInt8.toNat_inj.mp (by have : (32 : UInt8).toNat = 32 := rfl; omega)
theorem suffix_bt (s : ByteArray) (h0 : 0 < s.size) : Lib.hasSuffix s.data.toList (#[32] : Array UInt8).toList = (bt s ((s.size : Int) - 1) == 32) := by
  have hl : 0 < s.data.toList.length := h0
  have hs : s.data.toList.length = s.size := rfl
  have e : bt s ((s.size : Int) - 1) = ((s.data.toList[s.size - 1]'(by omega)).toNat : Int) := by
    have h1 : ((s.size : Int) - 1).toNat = s.size - 1 := by omega
    unfold bt; rw [dif_pos (by omega)]
    simp only [h1]; rfl
  rw [e]
  unfold Lib.hasSuffix List.isSuffixOf
  have hr : s.data.toList.reverse ≠ [] := by intro x; rw [List.reverse_eq_nil_iff] at x; rw [x] at hl; exact absurd hl (by decide)
  have hx : ∀ (h : 0 < s.data.toList.reverse.length), s.data.toList.reverse[0]'h = s.data.toList[s.size - 1]'(by omega) := by
    intro h; rw [List.getElem_reverse]; congr 1
  cases hd : s.data.toList.reverse with
  | nil => exact absurd hd hr
  | cons b t =>
    have hb : b = s.data.toList[s.size - 1]'(by omega) := by
      have := hx (by rw [hd]; exact Nat.succ_pos _)
      rw [← this]; simp only [hd, List.getElem_cons_zero]
    rw [← hb]
    simp only [List.reverse_cons, List.reverse_nil, List.nil_append, List.isPrefixOf, Bool.and_true]
    rw [Bool.eq_iff_iff, beq_iff_eq, beq_iff_eq]
    constructor
    · rintro rfl; rfl
    · intro h; exact UInt8.toNat_inj.mp (by have : (32 : UInt8).toNat = 32 := rfl; omega)
theorem spec_eq (s : ByteArray) (hs : s.size ≤ 1048576) (K : Nat) (hK : 1048577 ≤ K) : spec_NameOk.f K s = some (decide (0 < s.size) && rest s s.size 0 0) := by
  unfold spec_NameOk.f
  rw [if_pos hs]
  by_cases h0 : 0 < s.size
  · rw [main s h0 s.size 0 0 K (by omega) (by omega) (by omega) (by omega), decide_eq_true h0]; rfl
  · obtain ⟨K, rfl⟩ : ∃ K', K = K' + 1 := ⟨K - 1, by omega⟩
    rw [decide_eq_false h0, spec_NameOk.l0, if_neg h0, if_neg (by decide)]; rfl
theorem impl_eq (s : ByteArray) (hs : s.size ≤ 1048576) : impl_NameOk.f s = some (decide (0 < s.size) && rest s s.size 0 0) := by
  unfold impl_NameOk.f utf8_ValidString.f utf8_RuneCountInString.f strings_HasPrefix.f strings_HasSuffix.f strings_ContainsFunc_F46.f impl_in.f
  rw [if_pos (by omega), if_pos (by omega)]
  simp only [Option.bind_some]
  have hv : Lib.validD s.data.toList = Lib.validGoD s.size (s.data.toList.drop 0) := rfl
  by_cases h0 : 0 < s.size
  · rw [decide_eq_true h0, Bool.true_and]
    unfold rest
    rw [hv]
    cases Lib.validGoD s.size (s.data.toList.drop 0) with
    | false => rw [if_neg (by decide)]; rfl
    | true =>
      rw [if_pos rfl, Bool.true_and]
      have hc : (0 : Int) + (Lib.runeCountFrom s s.size 0 : Int) = (Lib.runeCount s : Int) := by unfold Lib.runeCount; omega
      rw [hc]
      by_cases c1 : (Lib.runeCount s : Int) ≥ 1
      · rw [if_pos c1]
        simp only [Option.bind_some]
        by_cases c2 : (Lib.runeCount s : Int) ≤ 24
        · rw [decide_eq_true c2, if_pos rfl, if_pos (by omega), if_pos (by omega), decide_eq_true (show 1 ≤ (Lib.runeCount s : Int) ∧ (Lib.runeCount s : Int) ≤ 24 from ⟨c1, c2⟩)]
          simp only [Option.bind_some]
          rw [prefix_bt s h0, suffix_bt s h0]
          unfold Lib.idxFunc
          generalize decide (0 ≤ Lib.idxFuncFrom strings_ContainsFunc_F46.p true s s.size 0) = d
          simp only [bne]
          generalize (bt s 0 == 32) = x
          generalize (bt s ((s.size : Int) - 1) == 32) = y
          cases x <;> cases y <;> cases d <;> rfl
        · rw [decide_eq_false c2, if_neg (by decide), decide_eq_false (show ¬ (1 ≤ (Lib.runeCount s : Int) ∧ (Lib.runeCount s : Int) ≤ 24) from fun h => c2 h.2)]; simp
      · rw [if_neg c1, decide_eq_false (show ¬ (1 ≤ (Lib.runeCount s : Int) ∧ (Lib.runeCount s : Int) ≤ 24) from fun h => c1 h.1)]; simp
  · have hz : s.size = 0 := by omega
    rw [decide_eq_false h0, Bool.false_and]
    have hc : Lib.runeCount s = 0 := by unfold Lib.runeCount; exact Lib.runeCountFrom_end _ _ _ h0
    rw [hc]
    cases Lib.validD s.data.toList with
    | false => rfl
    | true => rw [if_pos rfl, if_neg (by decide)]; rfl
theorem tl_data (s : ByteArray) : s.toList = s.data.toList := Lib.toList_data s
theorem size_l (s : ByteArray) : s.size = s.data.toList.length := (data_length s).symm
theorem bt_get (s : ByteArray) (i : Nat) (h : i < s.data.toList.length) : bt s (i : Int) = ((s.data.toList[i].toNat : Nat) : Int) := by
  have hs : i < s.size := by rw [size_l]; exact h
  have := bt_at s (i : Int) (by simpa using hs)
  rw [← this]
  rfl
/-- Which bytes stand in a board (or in a pattern). -/
def okN (star : Bool) (n : Nat) : Bool := (decide (97 ≤ n) && decide (n ≤ 122)) || (decide (48 ≤ n) && decide (n ≤ 57)) || n == 45 || (star && n == 42)
theorem byte_cases {p : UInt8 → Bool} (h : (List.range 256).all (fun n => p (UInt8.ofNat n)) = true) (b : UInt8) : p b = true := by
  have h1 := List.all_eq_true.1 h b.toNat (List.mem_range.2 b.toNat_lt)
  simpa using h1
theorem in_some (a b c : Int) : spec_l1In.f a b c = some (decide (b ≤ a ∧ a ≤ c)) := by
  unfold spec_l1In.f
  by_cases h : b ≤ a <;> simp [h]
theorem in_some' (a b c : Int) : impl_in.f a b c = some (decide (b ≤ a ∧ a ≤ c)) := in_some a b c
theorem board_l0 (s : ByteArray) (star : Bool) (hs : s.data.toList.length ≤ 1048576) : ∀ (d k i : Nat), i + d = s.data.toList.length → d < k → spec_l16Board.l0 k s star (i : Int) = some ((s.data.toList.drop i).all (fun b => okN star b.toNat) && decide (1 ≤ s.data.toList.length ∧ s.data.toList.length ≤ 12)) := by
  intro d
  induction d with
  | zero =>
    intro k i hi hk
    obtain ⟨k, rfl⟩ := succ_of hk
    simp only [spec_l16Board.l0]
    rw [if_neg (by rw [size_l]; omega), in_some, Option.bind_some, List.drop_eq_nil_of_le (by omega), size_l]
    show some _ = some (true && _)
    rw [Bool.true_and]
    exact congrArg some (decide_eq_decide.2 (by omega))
  | succ d ih =>
    intro k i hi hk
    obtain ⟨k, rfl⟩ := succ_of hk
    have hlt : i < s.data.toList.length := by omega
    have p1 : (i : Int) < (s.size : Int) := by rw [size_l]; omega
    have p2 : (0 : Int) ≤ (i : Int) := by omega
    obtain ⟨b, hb⟩ : ∃ b, s.data.toList[i] = b := ⟨_, rfl⟩
    have hbl := b.toNat_lt
    have e1 : wrap64 (bt s (i : Int)) = (b.toNat : Int) := by rw [bt_get s i hlt, hb, w64 (by omega) (by omega)]
    have hih := ih k (i + 1) (by omega) (by omega)
    simp only [spec_l16Board.l0]
    rw [if_pos p1, if_pos p2, e1, w64n hlt (by omega), List.drop_eq_getElem_cons hlt, hb, List.all_cons, hih, in_some, in_some, Option.bind_some, Option.bind_some]
    clear e1 hih p1 p2 ih
    obtain ⟨R, hR⟩ : ∃ R, ((s.data.toList.drop (i + 1)).all (fun b => okN star b.toNat) && decide (1 ≤ s.data.toList.length ∧ s.data.toList.length ≤ 12)) = R := ⟨_, rfl⟩
    rw [Bool.and_assoc, hR]
    obtain ⟨n, hn⟩ : ∃ n : Nat, b.toNat = n := ⟨_, rfl⟩
    rw [hn] at hbl ⊢
    clear hR hb hn
    unfold okN
    by_cases h1 : (97 : Int) ≤ (n : Int) ∧ (n : Int) ≤ 122
    · rw [if_pos (decide_eq_true h1)]
      have a1 : decide (97 ≤ n) = true := decide_eq_true (by omega)
      have a2 : decide (n ≤ 122) = true := decide_eq_true (by omega)
      simp [a1, a2]
    · rw [if_neg (by simpa using h1)]
      have a0 : (decide (97 ≤ n) && decide (n ≤ 122)) = false := by simp; omega
      by_cases h2 : (48 : Int) ≤ (n : Int) ∧ (n : Int) ≤ 57
      · rw [if_pos (decide_eq_true h2)]
        have a1 : decide (48 ≤ n) = true := decide_eq_true (by omega)
        have a2 : decide (n ≤ 57) = true := decide_eq_true (by omega)
        simp [a1, a2]
      · rw [if_neg (by simpa using h2)]
        have b0 : (decide (48 ≤ n) && decide (n ≤ 57)) = false := by simp; omega
        rw [a0, b0]
        by_cases h3 : (n : Int) = 45
        · have : n = 45 := by omega
          subst this
          rw [if_pos h3]
          simp
        · have c0 : (n == 45) = false := by simp; omega
          rw [if_neg h3, c0]
          cases star with
          | false => simp
          | true =>
            rw [if_pos rfl]
            by_cases h4 : (n : Int) = 42
            · have : n = 42 := by omega
              subst this
              rw [if_pos h4]
              simp
            · have d0 : (n == 42) = false := by simp; omega
              rw [if_neg h4, d0]
              simp
theorem board_spec (s : ByteArray) (star : Bool) (hs : s.data.toList.length ≤ 1048576) (k : Nat) (hk : s.data.toList.length < k) : spec_l16Board.f k s star = some (s.data.toList.all (fun b => okN star b.toNat) && decide (1 ≤ s.data.toList.length ∧ s.data.toList.length ≤ 12)) := by
  have := board_l0 s star hs s.data.toList.length k 0 (by omega) hk
  rw [List.drop_zero] at this
  exact this
theorem dropWhile_all {p : UInt8 → Bool} : ∀ (l : List UInt8), (∀ b ∈ l.dropWhile p, p b = true) → ∀ b ∈ l, p b = true
  | [], _ => fun _ h => by cases h
  | a :: l, h => by
    by_cases ha : p a = true
    · rw [List.dropWhile_cons_of_pos ha] at h
      intro b hb
      rcases List.mem_cons.1 hb with rfl | hb
      · exact ha
      · exact dropWhile_all l h b hb
    · rw [List.dropWhile_cons_of_neg ha] at h
      exact absurd (h a (by simp)) ha
theorem all_dropWhile {p : UInt8 → Bool} : ∀ (l : List UInt8), (∀ b ∈ l, p b = true) → l.dropWhile p = []
  | [], _ => rfl
  | a :: l, h => by
    rw [List.dropWhile_cons_of_pos (h a (by simp))]
    exact all_dropWhile l (fun b hb => h b (by simp [hb]))
theorem trimS_nil (l cs : List UInt8) : (Lib.trimS l cs == ([] : List UInt8)) = l.all (cs.contains ·) := by
  rw [Bool.eq_iff_iff, beq_iff_eq, List.all_eq_true]
  unfold Lib.trimS Lib.trimLeftS Lib.trimRightS
  constructor
  · intro h
    have h1 : ∀ b ∈ (l.reverse.dropWhile (cs.contains ·)).reverse, cs.contains b = true := by
      intro b hb
      by_cases hc : cs.contains b = true
      · exact hc
      · have h2 : ∀ (m : List UInt8), b ∈ m → m.dropWhile (cs.contains ·) ≠ [] := by
          intro m
          induction m with
          | nil => intro h; cases h
          | cons a m ih =>
            intro hm
            by_cases ha : cs.contains a = true
            · rw [List.dropWhile_cons_of_pos ha]
              rcases List.mem_cons.1 hm with rfl | hm
              · exact absurd ha hc
              · exact ih hm
            · rw [List.dropWhile_cons_of_neg ha]
              simp
        exact absurd h (h2 _ hb)
    have h3 := dropWhile_all l.reverse (fun b hb => h1 b (List.mem_reverse.2 hb))
    exact fun b hb => h3 b (List.mem_reverse.2 hb)
  · intro h
    rw [all_dropWhile l.reverse (fun b hb => h b (List.mem_reverse.1 hb))]
    rfl
theorem all_same {p q : UInt8 → Bool} (h : ∀ b, p b = q b) (l : List UInt8) : l.all p = l.all q := by
  have : p = q := funext h
  rw [this]
theorem boardSet (b : UInt8) : ([97, 98, 99, 100, 101, 102, 103, 104, 105, 106, 107, 108, 109, 110, 111, 112, 113, 114, 115, 116, 117, 118, 119, 120, 121, 122, 48, 49, 50, 51, 52, 53, 54, 55, 56, 57, 45] : List UInt8).contains b = okN false b.toNat :=
  eq_of_beq (byte_cases (p := fun b => ([97, 98, 99, 100, 101, 102, 103, 104, 105, 106, 107, 108, 109, 110, 111, 112, 113, 114, 115, 116, 117, 118, 119, 120, 121, 122, 48, 49, 50, 51, 52, 53, 54, 55, 56, 57, 45] : List UInt8).contains b == okN false b.toNat) (by decide +kernel) b)
theorem trim_board (s : ByteArray) (cs : List UInt8) (star : Bool) (hc : ∀ b : UInt8, cs.contains b = okN star b.toNat) (h1 : cs.length < 4294967281) (h2 : cs.all (fun b => decide (b.toNat < 128)) = true) (hs : s.data.toList.length ≤ 1048576) :
    ∃ t, strings_Trim.f s ⟨cs.toArray⟩ = some t ∧ (t.toList == ([] : List UInt8)) = s.data.toList.all (fun b => okN star b.toNat) := by
  unfold strings_Trim.f
  have e : (⟨cs.toArray⟩ : ByteArray).data.toList = cs := rfl
  rw [if_pos (by rw [size_l]; omega), if_pos (by rw [size_l, e]; exact h1), e, if_pos h2]
  refine ⟨_, rfl, ?_⟩
  rw [tl_data]
  show (Lib.trimS s.data.toList cs == []) = _
  rw [trimS_nil]
  exact all_same hc _
theorem patSet (b : UInt8) : ([97, 98, 99, 100, 101, 102, 103, 104, 105, 106, 107, 108, 109, 110, 111, 112, 113, 114, 115, 116, 117, 118, 119, 120, 121, 122, 48, 49, 50, 51, 52, 53, 54, 55, 56, 57, 45, 42] : List UInt8).contains b = okN true b.toNat :=
  eq_of_beq (byte_cases (p := fun b => ([97, 98, 99, 100, 101, 102, 103, 104, 105, 106, 107, 108, 109, 110, 111, 112, 113, 114, 115, 116, 117, 118, 119, 120, 121, 122, 48, 49, 50, 51, 52, 53, 54, 55, 56, 57, 45, 42] : List UInt8).contains b == okN true b.toNat) (by decide +kernel) b)
theorem pat_impl (s : ByteArray) (hs : s.data.toList.length ≤ 1048576) : impl_isPattern.f s = some (s.data.toList.all (fun b => okN true b.toNat) && decide (1 ≤ s.data.toList.length ∧ s.data.toList.length ≤ 12)) := by
  unfold impl_isPattern.f
  rw [in_some', Option.bind_some, size_l]
  by_cases h : 1 ≤ s.data.toList.length ∧ s.data.toList.length ≤ 12
  · have p : (1 : Int) ≤ (s.data.toList.length : Int) ∧ (s.data.toList.length : Int) ≤ 12 := by omega
    rw [if_pos (decide_eq_true p), decide_eq_true h, Bool.and_true]
    obtain ⟨t, h1, h2⟩ := trim_board s _ true patSet (by decide) (by decide) hs
    rw [h1, Option.bind_some, h2]
  · have p : ¬ ((1 : Int) ≤ (s.data.toList.length : Int) ∧ (s.data.toList.length : Int) ≤ 12) := by omega
    rw [decide_eq_false p, if_neg (by decide), decide_eq_false h, Bool.and_false]
def paperGood (s : ByteArray) (v : List Int) (b : ByteArray) (l : List Int) (n : Int) (d : List Int) (y : Int) (m : List Int) : Bool := (decide (0 < s.size) && rest s s.size 0 0) && (versionGood v && ((b.data.toList.all (fun b => okN true b.toNat) && decide (1 ≤ b.data.toList.length ∧ b.data.toList.length ≤ 12)) && (versionGood l && (decide (0 ≤ n ∧ n ≤ 1024) && (decide (d.length = 32) && (decide (1 ≤ y ∧ y ≤ 255) && decide (m.length = 32)))))))
theorem paper_spec (s : ByteArray) (v : List Int) (b : ByteArray) (l : List Int) (n : Int) (d : List Int) (y : Int) (m : List Int) (k : Nat) (hs : s.size ≤ 1048576) (hb : b.size ≤ 1048576) (hk : 2000000 ≤ k) : spec_PaperOk.f k s v b l n d y m = some (paperGood s v b l n d y m) := by
  unfold spec_PaperOk.f paperGood
  rw [spec_eq s hs k (by omega), version_spec, board_spec b true (by rw [← size_l]; exact hb) k (by rw [← size_l]; omega), version_spec, in_spec, in_spec]
  simp only [Option.bind_some]
  generalize (decide (0 < s.size) && rest s s.size 0 0) = c1
  generalize versionGood v = c2
  generalize (b.data.toList.all (fun b => okN true b.toNat) && decide (1 ≤ b.data.toList.length ∧ b.data.toList.length ≤ 12)) = c3
  generalize versionGood l = c4
  generalize decide (0 ≤ n ∧ n ≤ 1024) = c5
  generalize decide (1 ≤ y ∧ y ≤ 255) = c6
  have e : ((m.length : Int) == 32) = decide (m.length = 32) := by rw [Bool.eq_iff_iff, beq_iff_eq, decide_eq_true_iff]; omega
  rw [e]
  generalize decide (m.length = 32) = c7
  by_cases h : d.length = 32
  · have h' : (d.length : Int) = 32 := by omega
    rw [if_pos h', decide_eq_true h]
    cases c1 <;> cases c2 <;> cases c3 <;> cases c4 <;> cases c5 <;> cases c6 <;> rfl
  · have h' : ¬ (d.length : Int) = 32 := by omega
    rw [if_neg h', decide_eq_false h]
    cases c1 <;> cases c2 <;> cases c3 <;> cases c4 <;> cases c5 <;> rfl
theorem paper_impl (s : ByteArray) (v : List Int) (b : ByteArray) (l : List Int) (n : Int) (d : List Int) (y : Int) (m : List Int) (k : Nat) (hs : s.size ≤ 1048576) (hb : b.size ≤ 1048576) (hv : v.length ≤ 1048576) (hl : l.length ≤ 1048576) (hk : 2000000 ≤ k) : impl_isPaper.f k s v b l n d y m = some (paperGood s v b l n d y m) := by
  unfold impl_isPaper.f paperGood
  rw [impl_eq s hs, version_impl v k (by omega) (by omega), pat_impl b (by rw [← size_l]; exact hb), version_impl l k (by omega) (by omega), in_impl, in_impl]
  simp only [Option.bind_some]
  generalize (decide (0 < s.size) && rest s s.size 0 0) = c1
  generalize versionGood v = c2
  generalize (b.data.toList.all (fun b => okN true b.toNat) && decide (1 ≤ b.data.toList.length ∧ b.data.toList.length ≤ 12)) = c3
  generalize versionGood l = c4
  generalize decide (0 ≤ n ∧ n ≤ 1024) = c5
  generalize decide (1 ≤ y ∧ y ≤ 255) = c6
  have e5 : ((d.length : Int) = 32) = (d.length = 32) := propext ⟨fun h => by omega, fun h => by omega⟩
  have e7 : ((m.length : Int) = 32) = (m.length = 32) := propext ⟨fun h => by omega, fun h => by omega⟩
  simp only [e5, e7]
  by_cases h5 : d.length = 32 <;> by_cases h7 : m.length = 32 <;> simp only [h5, h7, if_true, if_false, decide_true, decide_false] <;>
    (cases c1 <;> cases c2 <;> cases c3 <;> cases c4 <;> cases c5 <;> cases c6 <;> rfl)
theorem szPaper_eq (s : ByteArray) (v : List Int) (b : ByteArray) (l : List Int) (n : Int) (d : List Int) (y : Int) (m : List Int) (hs : s.size ≤ 9223372036854775807) (hv : v.length ≤ 9223372036854775807) (hb : b.size ≤ 9223372036854775807) (hl : l.length ≤ 9223372036854775807) (hd : d.length ≤ 9223372036854775807) (hm : m.length ≤ 9223372036854775807) :
    ∃ t, laws_szPaper.f s v b l n d y m 1048576 = some t ∧ (¬ t < 0 → s.size + v.length + b.size + l.length + d.length + m.length ≤ 1048576) := by
  have key : ∀ t : Int, (¬ t < 0 → t = 1048576 - (s.size : Int) - v.length - b.size - l.length - d.length - m.length) → (¬ t < 0 → s.size + v.length + b.size + l.length + d.length + m.length ≤ 1048576) := by
    intro t h h2; have := h h2; omega
  unfold laws_szPaper.f
  rw [w64 (by omega) (by omega)]
  by_cases h1 : (1048576 : Int) - (s.size : Int) < 0
  · rw [if_pos h1]; exact ⟨_, rfl, fun h => absurd (by decide) h⟩
  rw [if_neg h1, szIntS_eq v _ hv (by omega) (by omega), Option.bind_some]
  by_cases h2 : (1048576 : Int) - (s.size : Int) < v.length
  · rw [if_pos h2, if_pos (by decide)]; exact ⟨_, rfl, fun h => absurd (by decide) h⟩
  rw [if_neg h2, if_neg (by omega), w64 (by omega) (by omega)]
  by_cases h3 : (1048576 : Int) - (s.size : Int) - v.length - b.size < 0
  · rw [if_pos h3]; exact ⟨_, rfl, fun h => absurd (by decide) h⟩
  rw [if_neg h3, szIntS_eq l _ hl (by omega) (by omega), Option.bind_some]
  by_cases h4 : (1048576 : Int) - (s.size : Int) - v.length - b.size < l.length
  · rw [if_pos h4, if_pos (by decide)]; exact ⟨_, rfl, fun h => absurd (by decide) h⟩
  rw [if_neg h4, if_neg (by omega), szByteS_eq d _ hd (by omega) (by omega), Option.bind_some]
  by_cases h5 : (1048576 : Int) - (s.size : Int) - v.length - b.size - l.length < d.length
  · rw [if_pos h5, if_pos (by decide)]; exact ⟨_, rfl, fun h => absurd (by decide) h⟩
  rw [if_neg h5, if_neg (by omega), szByteS_eq m _ hm (by omega) (by omega), Option.bind_some]
  by_cases h6 : (1048576 : Int) - (s.size : Int) - v.length - b.size - l.length - d.length < m.length
  · rw [if_pos h6, if_pos (by decide)]; exact ⟨_, rfl, fun h => absurd (by decide) h⟩
  rw [if_neg h6, if_neg (by omega)]
  exact ⟨_, rfl, key _ (fun _ => rfl)⟩
theorem toPaper_eq (s : ByteArray) (v : List Int) (b : ByteArray) (l : List Int) (n : Int) (d : List Int) (y : Int) (m : List Int) (k : Nat) (hz : s.size + v.length + b.size + l.length + d.length + m.length ≤ 1048576) (hk : 2000000 ≤ k) : laws_toPaper.f k s v b l n d y m = some (s, v, b, l, n, d, y, m) := by
  unfold laws_toPaper.f
  rw [toIntS_eq v k (by omega) (by omega), toIntS_eq l k (by omega) (by omega), toByteS_eq d k (by omega) (by omega), toByteS_eq m k (by omega) (by omega)]
  rfl
theorem eqPaper_eq (s : ByteArray) (v : List Int) (b : ByteArray) (l : List Int) (n : Int) (d : List Int) (y : Int) (m : List Int) (k : Nat) (hz : s.size + v.length + b.size + l.length + d.length + m.length ≤ 1048576) (hk : 2000000 ≤ k) : laws_eqPaper.f k s v b l n d y m s v b l n d y m = some true := by
  unfold laws_eqPaper.f
  rw [eqIntS_eq v v k (by omega) (by omega), eqIntS_eq l l k (by omega) (by omega), eqByteS_eq d d k (by omega) (by omega), eqByteS_eq m m k (by omega) (by omega)]
  simp
theorem strOne (n : Nat) (h : n < 10) : strOfNums [(wrap64 (48 + (n : Int))) % 256] = ⟨[UInt8.ofNat (48 + n)].toArray⟩ := by
  have e : (wrap64 (48 + (n : Int))) % 256 = ((48 + n : Nat) : Int) := by rw [w64 (by omega) (by omega)]; omega
  rw [e]
  unfold strOfNums
  simp only [List.map_cons, List.map_nil, Int.toNat_natCast]
theorem app_l (a b : List UInt8) : (⟨a.toArray⟩ : ByteArray) ++ (⟨b.toArray⟩ : ByteArray) = ⟨(a ++ b).toArray⟩ := by
  apply ByteArray.ext
  rw [ByteArray.data_append]
  simp
theorem digits_spec : ∀ (d k : Nat) (n : Nat), n < 10 ^ (d + 1) → d ≤ 17 → d < k → spec_l16Digits.f k (n : Int) = some ⟨(Lib.decDigits n).toArray⟩ ∧ (Lib.decDigits n).length ≤ d + 1 := by
  intro d
  induction d with
  | zero =>
    intro k n h0 h1 hk
    obtain ⟨k, rfl⟩ := succ_of hk
    have hn : n < 10 := by simpa using h0
    have p1 : (n : Int) < 10 := by omega
    simp only [spec_l16Digits.f]
    rw [if_pos p1, strOne n hn, Lib.decDigits, dif_pos hn]
    exact ⟨rfl, by simp⟩
  | succ d ih =>
    intro k n h0 h1 hk
    obtain ⟨k, rfl⟩ : ∃ m, k = m + 1 := ⟨k - 1, by omega⟩
    simp only [spec_l16Digits.f]
    by_cases hn : n < 10
    · have p1 : (n : Int) < 10 := by omega
      rw [if_pos p1, strOne n hn, Lib.decDigits, dif_pos hn]
      exact ⟨rfl, by simp⟩
    · have p1 : ¬ (n : Int) < 10 := by omega
      have hd : n / 10 < 10 ^ (d + 1) := by
        rw [Nat.pow_succ] at h0
        omega
      have hmax : n < 10 ^ 19 := Nat.lt_of_lt_of_le h0 (Nat.pow_le_pow_right (by omega) (by omega))
      have hmax : n < 10000000000000000000 := hmax
      obtain ⟨i1, i2⟩ := ih k (n / 10) hd (by omega) (by omega)
      have e1 : wrap64 (Int.tdiv (n : Int) 10) = ((n / 10 : Nat) : Int) := by
        rw [Int.tdiv_eq_ediv_of_nonneg (by omega), w64 (by omega) (by omega)]; omega
      have e2 : Int.tmod (n : Int) 10 = ((n % 10 : Nat) : Int) := by
        rw [Int.tmod_eq_emod_of_nonneg (by omega)]; omega
      have e3 := strOne (n % 10) (by clear e1; omega)
      have q : (⟨(Lib.decDigits (n / 10)).toArray⟩ : ByteArray).size + (⟨[UInt8.ofNat (48 + n % 10)].toArray⟩ : ByteArray).size ≤ 9223372036854775807 := by
        show (Lib.decDigits (n / 10)).toArray.size + 1 ≤ _
        rw [List.size_toArray]
        clear e1
        omega
      rw [if_neg p1, e1, i1, e2, Option.bind_some, Option.bind_some, e3, if_pos q, app_l]
      rw [show Lib.decDigits n = Lib.decDigits (n / 10) ++ [UInt8.ofNat (48 + n % 10)] from by rw [Lib.decDigits, dif_neg hn]]
      exact ⟨rfl, by rw [List.length_append]; simp; omega⟩
theorem itoa_impl (n : Nat) (h : n ≤ 9223372036854775807) : strconv_Itoa_51.f (n : Int) = some ⟨(Lib.decDigits n).toArray⟩ := by
  unfold strconv_Itoa_51.f
  rw [if_pos (by omega), if_pos (by omega), Lib.itoa_nonneg]
/-- A number up to a thousand million: its digits, by both. -/
theorem digits_both (n : Int) (h0 : 0 ≤ n) (h1 : n < 1000000000) (k : Nat) (hk : 20 ≤ k) : ∃ t : ByteArray, t.size ≤ 9 ∧ spec_l16Digits.f k n = some t ∧ strconv_Itoa_51.f n = some t ∧ t = ⟨(Lib.decDigits n.toNat).toArray⟩ := by
  obtain ⟨m, rfl⟩ : ∃ m : Nat, n = m := ⟨n.toNat, by omega⟩
  obtain ⟨a, b⟩ := digits_spec 8 k m (by omega) (by omega) (by omega)
  exact ⟨_, by show (Lib.decDigits m).toArray.size ≤ 9; rw [List.size_toArray]; omega, a, itoa_impl m (by omega), by rw [Int.toNat_natCast]⟩
theorem versionText_both (l : List Int) (hl : l.length ≤ 1048576) (k : Nat) (hk : 2000000 ≤ k) : ∃ t : ByteArray, t.size ≤ 40 ∧ spec_VersionText.f k l = some t ∧ impl_VersionText.f k l = some t := by
  unfold spec_VersionText.f impl_VersionText.f
  rw [version_spec, version_impl l k (by omega) (by omega), Option.bind_some, Option.bind_some]
  by_cases h : versionGood l = true
  · rw [if_pos h, if_pos h]
    unfold versionGood at h
    obtain ⟨h3, ha⟩ := Bool.and_eq_true_iff.1 h
    have h3 := of_decide_eq_true h3
    obtain ⟨a, b, c, rfl⟩ : ∃ a b c, l = [a, b, c] := by
      match l, h3 with
      | [a, b, c], _ => exact ⟨a, b, c, rfl⟩
    have ha := List.all_eq_true.1 ha
    have a0 := of_decide_eq_true (ha a (by simp))
    have b0 := of_decide_eq_true (ha b (by simp))
    have c0 := of_decide_eq_true (ha c (by simp))
    have e0 : rd [a, b, c] 0 = a := rfl
    have e1 : rd [a, b, c] 1 = b := rfl
    have e2 : rd [a, b, c] 2 = c := rfl
    obtain ⟨x, sx, s1, i1, _⟩ := digits_both a a0.1 (by omega) k (by omega)
    obtain ⟨y, sy, s2, i2, _⟩ := digits_both b b0.1 (by omega) k (by omega)
    obtain ⟨z, sz, s3, i3, _⟩ := digits_both c c0.1 (by omega) k (by omega)
    have d1 : (⟨#[46]⟩ : ByteArray).size = 1 := rfl
    have q0 : (0 : Int) < (([a, b, c] : List Int).length : Int) := by simp
    have q1 : (1 : Int) < (([a, b, c] : List Int).length : Int) := by simp
    have q2 : (2 : Int) < (([a, b, c] : List Int).length : Int) := by simp
    have r1 : x.size + 1 ≤ 9223372036854775807 := by omega
    have r2 : (x ++ (⟨#[46]⟩ : ByteArray)).size + y.size ≤ 9223372036854775807 := by rw [ByteArray.size_append]; omega
    have r3 : ((x ++ (⟨#[46]⟩ : ByteArray)) ++ y).size + 1 ≤ 9223372036854775807 := by rw [ByteArray.size_append, ByteArray.size_append]; omega
    have r4 : (((x ++ (⟨#[46]⟩ : ByteArray)) ++ y) ++ (⟨#[46]⟩ : ByteArray)).size + z.size ≤ 9223372036854775807 := by rw [ByteArray.size_append, ByteArray.size_append, ByteArray.size_append]; omega
    refine ⟨(((x ++ (⟨#[46]⟩ : ByteArray)) ++ y) ++ (⟨#[46]⟩ : ByteArray)) ++ z, ?_, ?_, ?_⟩
    · rw [ByteArray.size_append, ByteArray.size_append, ByteArray.size_append, ByteArray.size_append]; omega
    · rw [if_pos q0, e0, s1, Option.bind_some, if_pos r1, if_pos q1, e1, s2, Option.bind_some, if_pos r2, if_pos r3, if_pos q2, e2, s3, Option.bind_some, if_pos r4]
    · rw [if_pos q0, e0, i1, Option.bind_some, if_pos r1, if_pos q1, e1, i2, Option.bind_some, if_pos r2, if_pos r3, if_pos q2, e2, i3, Option.bind_some, if_pos r4]
  · rw [if_neg h, if_neg h]
    exact ⟨_, by decide, rfl, rfl⟩
theorem dig_eq : ∀ m : Fin 16, spec_l1Digit.f (m.val : Int) = some ((impl_Hex.dig (m.val : Int)).toNat : Int) := by decide +kernel
theorem dig_i (n : Int) (h0 : 0 ≤ n) (h1 : n < 16) : spec_l1Digit.f n = some ((impl_Hex.dig n).toNat : Int) := by
  obtain ⟨m, rfl⟩ : ∃ m : Nat, n = m := ⟨n.toNat, by omega⟩
  exact dig_eq ⟨m, by omega⟩
def hexN (c : Int) : List Int := [((impl_Hex.dig (c / 16)).toNat : Int), ((impl_Hex.dig (c % 16)).toNat : Int)]
theorem hexN_two (l : List Int) : strOfNums (l.flatMap hexN) = ⟨(l.flatMap impl_Hex.two).toArray⟩ := by
  unfold strOfNums
  congr 2
  induction l with
  | nil => rfl
  | cons c l ih =>
    rw [List.flatMap_cons, List.flatMap_cons, List.map_append, ih]
    congr 1
    unfold hexN impl_Hex.two
    simp
theorem hex_l0 (l : List Int) (hl : l.length ≤ 1048576) (hall : ∀ c ∈ l, 0 ≤ c ∧ c ≤ 255) : ∀ (d k : Nat) (x : List Int) (i : Nat), i + d = l.length → d < k → x.length = 2 * i → spec_Hex.l0 k l x (i : Int) = some (strOfNums (x ++ (l.drop i).flatMap hexN)) := by
  intro d
  induction d with
  | zero =>
    intro k x i hi hk hx
    obtain ⟨k, rfl⟩ : ∃ m, k = m + 1 := ⟨k - 1, by omega⟩
    unfold spec_Hex.l0
    rw [if_neg (by omega), List.drop_eq_nil_of_le (by omega)]
    simp
  | succ d ih =>
    intro k x i hi hk hx
    obtain ⟨k, rfl⟩ : ∃ m, k = m + 1 := ⟨k - 1, by omega⟩
    have hp : i < l.length := by omega
    have e : rd l (i : Int) = l[i] := by unfold rd; simp [hp]
    have hc := hall l[i] (List.getElem_mem hp)
    have ed : l.drop i = l[i] :: l.drop (i + 1) := List.drop_eq_getElem_cons hp
    unfold spec_Hex.l0
    rw [if_pos (by omega), if_pos (by omega), e, ed, List.flatMap_cons]
    generalize l[i] = c at hc ⊢
    have e1 : wrap64 c = c := w64 (by omega) (by omega)
    have e2 : wrap64 (Int.tdiv c 16) = c / 16 := by rw [Int.tdiv_eq_ediv_of_nonneg hc.1, w64 (by omega) (by omega)]
    have e3 : Int.tmod c 16 = c % 16 := Int.tmod_eq_emod_of_nonneg hc.1
    have e4 : wrap64 ((i : Int) + 1) = ((i + 1 : Nat) : Int) := by rw [w64 (by omega) (by omega)]; omega
    rw [e1, e2, e3, e4]
    clear e1 e2 e3 e4
    rw [dig_i (c / 16) (by omega) (by omega), Option.bind_some, dig_i (c % 16) (by omega) (by omega), Option.bind_some, Option.bind_some]
    rw [if_pos (by simp only [List.length_cons, List.length_nil]; omega)]
    rw [show ([((impl_Hex.dig (c / 16)).toNat : Int), ((impl_Hex.dig (c % 16)).toNat : Int)] : List Int) = hexN c from rfl]
    rw [ih k (x ++ hexN c) (i + 1) (by omega) (by omega) (by rw [List.length_append, hx]; show _ + 2 = _; omega), List.append_assoc]
theorem hex_both (l : List Int) (hl : l.length ≤ 1048576) (hall : ∀ c ∈ l, 0 ≤ c ∧ c ≤ 255) (k : Nat) (hk : l.length < k) : ∃ t : ByteArray, t.size = 2 * l.length ∧ spec_Hex.f k l = some t ∧ impl_Hex.f l = some t := by
  refine ⟨⟨(l.flatMap impl_Hex.two).toArray⟩, ?_, ?_, ?_⟩
  · show (l.flatMap impl_Hex.two).toArray.size = _
    rw [List.size_toArray, impl_Hex.two_len]
  · unfold spec_Hex.f
    have := hex_l0 l hl hall l.length k [] 0 (by omega) hk rfl
    rw [show ((0 : Nat) : Int) = 0 from rfl] at this
    rw [this, List.nil_append, List.drop_zero, hexN_two]
  · unfold impl_Hex.f
    rw [if_pos (by omega), if_pos (List.all_eq_true.2 (fun c hc => decide_eq_true (hall c hc)))]
theorem z0 : (⟨#[110, 97, 109, 101, 58, 32]⟩ : ByteArray).size = 6 := rfl
theorem z1 : (⟨#[118, 101, 114, 115, 105, 111, 110, 58, 32]⟩ : ByteArray).size = 9 := rfl
theorem z2 : (⟨#[98, 111, 97, 114, 100, 58, 32]⟩ : ByteArray).size = 7 := rfl
theorem z3 : (⟨#[108, 101, 97, 115, 116, 58, 32]⟩ : ByteArray).size = 7 := rfl
theorem z4 : (⟨#[115, 105, 122, 101, 58, 32]⟩ : ByteArray).size = 6 := rfl
theorem z5 : (⟨#[100, 105, 103, 101, 115, 116, 58, 32]⟩ : ByteArray).size = 8 := rfl
theorem z6 : (⟨#[107, 101, 121, 58, 32]⟩ : ByteArray).size = 5 := rfl
theorem z7 : (⟨#[109, 97, 99, 58, 32]⟩ : ByteArray).size = 5 := rfl
theorem z8 : (⟨#[10, 118, 101, 114, 115, 105, 111, 110, 58, 32]⟩ : ByteArray).size = 10 := rfl
theorem z9 : (⟨#[10, 98, 111, 97, 114, 100, 58, 32]⟩ : ByteArray).size = 8 := rfl
theorem z10 : (⟨#[10, 108, 101, 97, 115, 116, 58, 32]⟩ : ByteArray).size = 8 := rfl
theorem z11 : (⟨#[10, 115, 105, 122, 101, 58, 32]⟩ : ByteArray).size = 7 := rfl
theorem z12 : (⟨#[10, 100, 105, 103, 101, 115, 116, 58, 32]⟩ : ByteArray).size = 9 := rfl
theorem z13 : (⟨#[10, 107, 101, 121, 58, 32]⟩ : ByteArray).size = 6 := rfl
theorem z14 : (⟨#[10]⟩ : ByteArray).size = 1 := rfl
theorem zE : (⟨#[]⟩ : ByteArray).size = 0 := rfl
theorem lines_step (k : Nat) (x6 : Int) (x5 lab fld : ByteArray) (s : ByteArray) (v : List Int) (b : ByteArray) (l : List Int) (n : Int) (d : List Int) (y : Int) (m : List Int) (h0 : 0 ≤ x6) (h6 : x6 < 8) (hl : spec_l16Label.f x6 = some lab) (hf : spec_l16Field.f k s v b l n d y m x6 = some fld) (hs : x5.size + lab.size + fld.size + 1 ≤ 9223372036854775807) :
    spec_l16Lines.l0 (k + 1) 8 x5 x6 s v b l n d y m = spec_l16Lines.l0 k 8 (((x5 ++ lab) ++ fld) ++ (⟨#[10]⟩ : ByteArray)) (x6 + 1) s v b l n d y m := by
  rw [spec_l16Lines.l0, if_pos h6, hl, Option.bind_some, if_pos (by omega), hf, Option.bind_some, if_pos (by rw [ByteArray.size_append]; omega), if_pos (by rw [ByteArray.size_append, ByteArray.size_append]; omega), w64 (by omega) (by omega)]
theorem lab0 : spec_l16Label.f 0 = some (⟨#[110, 97, 109, 101, 58, 32]⟩ : ByteArray) := rfl
theorem lab1 : spec_l16Label.f 1 = some (⟨#[118, 101, 114, 115, 105, 111, 110, 58, 32]⟩ : ByteArray) := rfl
theorem lab2 : spec_l16Label.f 2 = some (⟨#[98, 111, 97, 114, 100, 58, 32]⟩ : ByteArray) := rfl
theorem lab3 : spec_l16Label.f 3 = some (⟨#[108, 101, 97, 115, 116, 58, 32]⟩ : ByteArray) := rfl
theorem lab4 : spec_l16Label.f 4 = some (⟨#[115, 105, 122, 101, 58, 32]⟩ : ByteArray) := rfl
theorem lab5 : spec_l16Label.f 5 = some (⟨#[100, 105, 103, 101, 115, 116, 58, 32]⟩ : ByteArray) := rfl
theorem lab6 : spec_l16Label.f 6 = some (⟨#[107, 101, 121, 58, 32]⟩ : ByteArray) := rfl
theorem lab7 : spec_l16Label.f 7 = some (⟨#[109, 97, 99, 58, 32]⟩ : ByteArray) := rfl
theorem paperText_both (s : ByteArray) (v : List Int) (b : ByteArray) (l : List Int) (n : Int) (d : List Int) (y : Int) (m : List Int) (k : Nat) (hz : s.size + v.length + b.size + l.length + d.length + m.length ≤ 1048576) (hn : 0 ≤ n ∧ n ≤ 1024) (hy : 1 ≤ y ∧ y ≤ 255) (hd : ∀ c ∈ d, 0 ≤ c ∧ c ≤ 255) (hm : ∀ c ∈ m, 0 ≤ c ∧ c ≤ 255) (hk : 4000000 ≤ k) :
    ∃ t u tm : ByteArray, spec_l16Lines.f (k + 9) s v b l n d y m 8 = some t ∧ impl_signedText.f (k + 9) s v b l n d y m = some u ∧ impl_Hex.f m = some tm ∧ u.size ≤ 4000000 ∧ tm.size ≤ 4000000 ∧ t = ((u ++ (⟨#[109, 97, 99, 58, 32]⟩ : ByteArray)) ++ tm) ++ (⟨#[10]⟩ : ByteArray) := by
  obtain ⟨tv, zv, sv, iv⟩ := versionText_both v (by omega) (k + 9) (by omega)
  obtain ⟨tl, zl, sl, il⟩ := versionText_both l (by omega) (k + 9) (by omega)
  obtain ⟨tn, zn, sn, i_n, _⟩ := digits_both n hn.1 (by omega) (k + 9) (by omega)
  obtain ⟨ty, zy, sy, iy, _⟩ := digits_both y (by omega) (by omega) (k + 9) (by omega)
  obtain ⟨td, zd, sd, id_⟩ := hex_both d (by omega) hd (k + 9) (by omega)
  obtain ⟨tm, zm, sm, im⟩ := hex_both m (by omega) hm (k + 9) (by omega)
  have sv' : spec_VersionText.f (k + 7) v = some tv := by
    obtain ⟨t2, _, s2, i2⟩ := versionText_both v (by omega) (k + 7) (by omega)
    have := spec_VersionText.mono v (k + 7) t2 s2
    have := spec_VersionText.mono v (k + 8) t2 this
    rw [sv] at this; rw [s2, Option.some.inj this]
  have sl' : spec_VersionText.f (k + 5) l = some tl := by
    obtain ⟨t2, _, s2, i2⟩ := versionText_both l (by omega) (k + 5) (by omega)
    have := spec_VersionText.mono l (k + 8) t2 (spec_VersionText.mono l (k + 7) t2 (spec_VersionText.mono l (k + 6) t2 (spec_VersionText.mono l (k + 5) t2 s2)))
    rw [sl] at this; rw [s2, Option.some.inj this]
  have sn' : spec_l16Digits.f (k + 4) n = some tn := by
    obtain ⟨t2, _, s2, i2, _⟩ := digits_both n hn.1 (by omega) (k + 4) (by omega)
    rw [i2] at i_n; rw [s2, i_n]
  have sd' : spec_Hex.f (k + 3) d = some td := by
    obtain ⟨t2, _, s2, i2⟩ := hex_both d (by omega) hd (k + 3) (by omega)
    rw [i2] at id_; rw [s2, id_]
  have sy' : spec_l16Digits.f (k + 2) y = some ty := by
    obtain ⟨t2, _, s2, i2, _⟩ := digits_both y (by omega) (by omega) (k + 2) (by omega)
    rw [i2] at iy; rw [s2, iy]
  have sm' : spec_Hex.f (k + 1) m = some tm := by
    obtain ⟨t2, _, s2, i2⟩ := hex_both m (by omega) hm (k + 1) (by omega)
    rw [i2] at im; rw [s2, im]
  have f0 : spec_l16Field.f (k + 8) s v b l n d y m 0 = some s := by
    unfold spec_l16Field.f
    rw [if_pos rfl]
  have f1 : spec_l16Field.f (k + 7) s v b l n d y m 1 = some tv := by
    unfold spec_l16Field.f
    rw [if_neg (by decide), if_pos rfl, sv', Option.bind_some]
  have f2 : spec_l16Field.f (k + 6) s v b l n d y m 2 = some b := by
    unfold spec_l16Field.f
    rw [if_neg (by decide), if_neg (by decide), if_pos rfl]
  have f3 : spec_l16Field.f (k + 5) s v b l n d y m 3 = some tl := by
    unfold spec_l16Field.f
    rw [if_neg (by decide), if_neg (by decide), if_neg (by decide), if_pos rfl, sl', Option.bind_some]
  have f4 : spec_l16Field.f (k + 4) s v b l n d y m 4 = some tn := by
    unfold spec_l16Field.f
    rw [if_neg (by decide), if_neg (by decide), if_neg (by decide), if_neg (by decide), if_pos rfl, sn', Option.bind_some]
  have f5 : spec_l16Field.f (k + 3) s v b l n d y m 5 = some td := by
    unfold spec_l16Field.f
    rw [if_neg (by decide), if_neg (by decide), if_neg (by decide), if_neg (by decide), if_neg (by decide), if_pos rfl, sd', Option.bind_some]
  have f6 : spec_l16Field.f (k + 2) s v b l n d y m 6 = some ty := by
    unfold spec_l16Field.f
    rw [if_neg (by decide), if_neg (by decide), if_neg (by decide), if_neg (by decide), if_neg (by decide), if_neg (by decide), if_pos rfl, sy', Option.bind_some]
  have f7 : spec_l16Field.f (k + 1) s v b l n d y m 7 = some tm := by
    unfold spec_l16Field.f
    rw [if_neg (by decide), if_neg (by decide), if_neg (by decide), if_neg (by decide), if_neg (by decide), if_neg (by decide), if_neg (by decide), sm', Option.bind_some]
  clear sv sl sn sy sd sm sv' sl' sn' sd' sy' sm'
  apply Exists.intro
  apply Exists.intro
  refine Exists.intro tm (And.intro ?caseA (And.intro ?caseB (And.intro im (And.intro ?caseC (And.intro (by omega) ?caseE)))))
  case caseA =>
    unfold spec_l16Lines.f
    rw [lines_step (k + 8) 0 _ _ _ s v b l n d y m (by decide) (by decide) lab0 f0 (by simp only [ByteArray.size_append, z0, z1, z2, z3, z4, z5, z6, z7, z8, z9, z10, z11, z12, z13, z14, zE]; omega), show (0 : Int) + 1 = 1 from rfl]
    rw [lines_step (k + 7) 1 _ _ _ s v b l n d y m (by decide) (by decide) lab1 f1 (by simp only [ByteArray.size_append, z0, z1, z2, z3, z4, z5, z6, z7, z8, z9, z10, z11, z12, z13, z14, zE]; omega), show (1 : Int) + 1 = 2 from rfl]
    rw [lines_step (k + 6) 2 _ _ _ s v b l n d y m (by decide) (by decide) lab2 f2 (by simp only [ByteArray.size_append, z0, z1, z2, z3, z4, z5, z6, z7, z8, z9, z10, z11, z12, z13, z14, zE]; omega), show (2 : Int) + 1 = 3 from rfl]
    rw [lines_step (k + 5) 3 _ _ _ s v b l n d y m (by decide) (by decide) lab3 f3 (by simp only [ByteArray.size_append, z0, z1, z2, z3, z4, z5, z6, z7, z8, z9, z10, z11, z12, z13, z14, zE]; omega), show (3 : Int) + 1 = 4 from rfl]
    rw [lines_step (k + 4) 4 _ _ _ s v b l n d y m (by decide) (by decide) lab4 f4 (by simp only [ByteArray.size_append, z0, z1, z2, z3, z4, z5, z6, z7, z8, z9, z10, z11, z12, z13, z14, zE]; omega), show (4 : Int) + 1 = 5 from rfl]
    rw [lines_step (k + 3) 5 _ _ _ s v b l n d y m (by decide) (by decide) lab5 f5 (by simp only [ByteArray.size_append, z0, z1, z2, z3, z4, z5, z6, z7, z8, z9, z10, z11, z12, z13, z14, zE]; omega), show (5 : Int) + 1 = 6 from rfl]
    rw [lines_step (k + 2) 6 _ _ _ s v b l n d y m (by decide) (by decide) lab6 f6 (by simp only [ByteArray.size_append, z0, z1, z2, z3, z4, z5, z6, z7, z8, z9, z10, z11, z12, z13, z14, zE]; omega), show (6 : Int) + 1 = 7 from rfl]
    rw [lines_step (k + 1) 7 _ _ _ s v b l n d y m (by decide) (by decide) lab7 f7 (by simp only [ByteArray.size_append, z0, z1, z2, z3, z4, z5, z6, z7, z8, z9, z10, z11, z12, z13, z14, zE]; omega), show (7 : Int) + 1 = 8 from rfl]
    rw [spec_l16Lines.l0, if_neg (by decide)]
  case caseB =>
    unfold impl_signedText.f
    repeat (first | rw [if_pos (by (try simp only [ByteArray.size_append, z0, z1, z2, z3, z4, z5, z6, z7, z8, z9, z10, z11, z12, z13, z14]); omega)] | rw [iv, Option.bind_some] | rw [il, Option.bind_some] | rw [i_n, Option.bind_some] | rw [iy, Option.bind_some] | rw [id_, Option.bind_some])
    try rfl
  case caseC =>
    simp only [ByteArray.size_append, z0, z1, z2, z3, z4, z5, z6, z7, z8, z9, z10, z11, z12, z13, z14]; omega
  case caseE =>
    apply ByteArray.ext
    apply Array.toList_inj.1
    simp only [ByteArray.data_append, Array.toList_append, List.append_assoc, List.nil_append, List.cons_append]
theorem holds : laws_FnExactPaperText.PureR := by
  intro s v b l n d y m hs hv hb hl hn hd hy hm
  obtain ⟨k, hk⟩ : ∃ k : Nat, 4000000 ≤ k := ⟨_, Nat.le_refl _⟩
  refine ⟨k + 9, ?_⟩
  unfold laws_FnExactPaperText.f
  obtain ⟨t, e, ht⟩ := szPaper_eq s v b l n d y m hs hv.1 hb hl.1 hd.1 hm.1
  rw [e, Option.bind_some]
  by_cases h : t < 0
  · rw [if_pos h]
  · have hz := ht h
    rw [if_neg h, toPaper_eq s v b l n d y m (k + 9) hz (by omega)]
    simp only [Option.bind_some]
    unfold spec_PaperText.f impl_PaperText.f
    rw [paper_spec s v b l n d y m (k + 9) (by omega) (by omega) (by omega), paper_impl s v b l n d y m (k + 9) (by omega) (by omega) (by omega) (by omega) (by omega), Option.bind_some, Option.bind_some]
    by_cases hg : paperGood s v b l n d y m = true
    · rw [if_pos hg, if_pos hg]
      have hg2 := hg
      unfold paperGood at hg2
      simp only [Bool.and_eq_true, decide_eq_true_eq] at hg2
      obtain ⟨_, _, _, _, hn2, _, hy2, _⟩ := hg2
      obtain ⟨t, u, tm, e1, e2, e3, h1, h2, e4⟩ := paperText_both s v b l n d y m k hz hn2 hy2 hd.2 hm.2 hk
      rw [e1, e2, e3, Option.bind_some, Option.bind_some, Option.bind_some, Option.bind_some, if_pos (by omega), if_pos (by rw [ByteArray.size_append, z7]; omega), if_pos (by rw [ByteArray.size_append, ByteArray.size_append, z7]; omega), Option.bind_some, if_pos (by rw [e4]), eqPaper_eq s v b l n d y m (k + 9) hz (by omega), Option.bind_some, if_pos rfl]
    · rw [if_neg hg, if_neg hg, Option.bind_some, Option.bind_some, if_pos rfl, eqPaper_eq s v b l n d y m (k + 9) hz (by omega), Option.bind_some, if_pos rfl]
end Go.Proofs.YtekjcdcmiingmaaDoor.Pure.FnExactPaperText
namespace Go.Proofs.YtekjcdcmiingmaaDoor.Pure
theorem FnExactPaperText : Go.Proofs.YtekjcdcmiingmaaDoor.PFnExactPaperText.laws_FnExactPaperText.PureR := FnExactPaperText.holds
end Go.Proofs.YtekjcdcmiingmaaDoor.Pure
