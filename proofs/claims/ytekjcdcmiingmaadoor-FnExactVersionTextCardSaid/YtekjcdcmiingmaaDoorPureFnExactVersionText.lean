/- The pure statement of the law FnExactVersionText, proved: numbers and lists alone, no memory. It holds for all arguments that can be read. -/
import Derived.Test.YtekjcdcmiingmaaDoorDFnExactVersionText
import Derived.Test.YtekjcdcmiingmaaDoorPlain
set_option linter.unusedVariables false
set_option linter.unusedSimpArgs false
namespace Go.Proofs.YtekjcdcmiingmaaDoor.Pure.FnExactVersionText
open Go.RowKit Go.Proofs.YtekjcdcmiingmaaDoor.PFnExactVersionText Go.Proofs.YtekjcdcmiingmaaDoorW.PrintWords Go.Proofs.YtekjcdcmiingmaaDoorW.PrintLast Go.Proofs.YtekjcdcmiingmaaDoor.Plain

theorem toIntS_l0 (l : List Int) (hl : l.length ≤ 9223372036854775807) : ∀ (d k : Nat) (x : List Int) (i : Nat), i + d = l.length → d < k → x.length = l.length → (∀ j, j < i → x[j]? = l[j]?) → laws_toIntS.l0 k l x (i : Int) = some l := by
  intro d
  induction d with
  | zero =>
    intro k x i hd hk hx hj
    obtain ⟨k, rfl⟩ := succ_of hk
    simp only [laws_toIntS.l0]
    rw [if_neg (by omega)]
    congr 1
    apply List.ext_getElem?
    intro j
    by_cases h : j < i
    · exact hj j h
    · rw [List.getElem?_eq_none (by omega), List.getElem?_eq_none (by omega)]
  | succ d ih =>
    intro k x i hd hk hx hj
    obtain ⟨k, rfl⟩ := succ_of hk
    simp only [laws_toIntS.l0]
    rw [if_pos (by omega), if_pos (by omega), if_pos (by omega), w64n (n := l.length) (by omega) hl]
    apply ih k _ (i + 1) (by omega) (by omega) (by simpa using hx)
    intro j hji
    simp only [Int.toNat_natCast, rd_nat]
    rw [List.getElem?_set]
    by_cases h : i = j
    · subst h
      rw [if_pos rfl, if_pos (by omega), List.getElem?_eq_getElem (by omega)]
      simp [List.getElem?_eq_getElem (show i < l.length by omega)]
    · rw [if_neg h]
      exact hj j (by omega)
theorem toIntS_eq (l : List Int) (k : Nat) (hl : l.length ≤ 35184372088832) (hk : l.length < k) : laws_toIntS.f k l = some l := by
  unfold laws_toIntS.f
  rw [if_pos (by omega), if_pos (by simpa using hl)]
  exact toIntS_l0 l (by omega) l.length k _ 0 (by omega) hk (by simp) (by omega)
theorem eqIntS_l0 (x y : List Int) (hxy : x.length = y.length) (hl : x.length ≤ 9223372036854775807) : ∀ (d k : Nat) (i : Nat), i + d = x.length → d < k → (∀ j, j < i → x[j]? = y[j]?) → laws_eqIntS.l0 k x y (i : Int) = some (decide (x = y)) := by
  intro d
  induction d with
  | zero =>
    intro k i hd hk hj
    obtain ⟨k, rfl⟩ := succ_of hk
    simp only [laws_eqIntS.l0]
    rw [if_neg (by omega)]
    have : x = y := by
      apply List.ext_getElem?
      intro j
      by_cases h : j < i
      · exact hj j h
      · rw [List.getElem?_eq_none (by omega), List.getElem?_eq_none (by omega)]
    simp [this]
  | succ d ih =>
    intro k i hd hk hj
    obtain ⟨k, rfl⟩ := succ_of hk
    simp only [laws_eqIntS.l0]
    rw [if_pos (by omega), if_pos (by omega), if_pos (by omega), w64n (n := x.length) (by omega) hl]
    simp only [rd_nat]
    have hx : x[i]? = some (x.getD i 0) := by simp [List.getElem?_eq_getElem (show i < x.length by omega)]
    have hy : y[i]? = some (y.getD i 0) := by simp [List.getElem?_eq_getElem (show i < y.length by omega)]
    by_cases h : x.getD i 0 = y.getD i 0
    · rw [if_pos h]
      apply ih k (i + 1) (by omega) (by omega)
      intro j hji
      by_cases e : j = i
      · subst e
        rw [hx, hy, h]
      · exact hj j (by omega)
    · rw [if_neg h]
      have : x ≠ y := fun e => h (by rw [e])
      simp [this]
theorem eqIntS_eq (x y : List Int) (k : Nat) (hl : x.length ≤ 9223372036854775807) (hk : x.length < k) : laws_eqIntS.f k x y = some (decide (x = y)) := by
  unfold laws_eqIntS.f
  by_cases h : x.length = y.length
  · rw [if_pos (by omega)]
    exact eqIntS_l0 x y h hl x.length k 0 (by omega) hk (by omega)
  · rw [if_neg (by omega)]
    have : x ≠ y := fun e => h (by rw [e])
    simp [this]
theorem in_spec (a b c : Int) : spec_l1In.f a b c = some (decide (b ≤ a ∧ a ≤ c)) := by
  unfold spec_l1In.f
  split <;> simp <;> omega
theorem in_impl (a b c : Int) : impl_in.f a b c = some (decide (b ≤ a ∧ a ≤ c)) := by
  unfold impl_in.f
  split <;> simp <;> omega
def versionGood (l : List Int) : Bool := decide (l.length = 3) && l.all fun n => decide (0 ≤ n ∧ n ≤ 999)
theorem version_spec (xs : List Int) : spec_l16Version.f xs = some (versionGood xs) := by
  unfold spec_l16Version.f
  by_cases h3 : xs.length = 3
  · obtain ⟨a, b, c, rfl⟩ : ∃ a b c, xs = [a, b, c] := by
      match xs, h3 with
      | [a, b, c], _ => exact ⟨a, b, c, rfl⟩
    rw [if_pos (by simp), if_pos (by simp), if_pos (by simp), if_pos (by simp)]
    simp only [in_spec, Option.bind_some, decide_eq_true_eq]
    have e0 : rd [a, b, c] 0 = a := rfl
    have e1 : rd [a, b, c] 1 = b := rfl
    have e2 : rd [a, b, c] 2 = c := rfl
    rw [e0, e1, e2]
    simp only [versionGood]
    by_cases ha : 0 ≤ a ∧ a ≤ 999
    · rw [if_pos ha]
      by_cases hb : 0 ≤ b ∧ b ≤ 999
      · rw [if_pos hb]
        simp [ha, hb]
      · rw [if_neg hb]
        simp [hb]
    · rw [if_neg ha]
      simp [ha]
  · rw [if_neg (by omega)]
    simp [versionGood, h3]
theorem version_impl (xs : List Int) (k : Nat) (hl : xs.length ≤ 9223372036854775807) (hk : xs.length < k) : impl_isVersion.f k xs = some (versionGood xs) := by
  unfold impl_isVersion.f versionGood
  by_cases h3 : xs.length = 3
  · rw [if_pos (by omega)]
    unfold slices_ContainsFunc_F78.f slices_IndexFunc_F78.f
    obtain ⟨r, h1, _, _, h2, _⟩ := loop_find xs.length (fun k i => slices_IndexFunc_F78.l0 k xs (xs.length : Int) i) (fun i => !decide (0 ≤ xs.getD i 0 ∧ xs.getD i 0 ≤ 999)) (by
      intro k i hi hki
      simp only [slices_IndexFunc_F78.l0, impl_isVersion_1.f, in_impl, rd_nat]
      rw [if_pos (by omega), if_pos (by omega), if_pos (by omega), w64n (n := xs.length) hi hl]
      rfl) (by
      intro k
      simp only [slices_IndexFunc_F78.l0]
      rw [if_neg (by omega)]) k hk
    try dsimp only at h1
    rw [h1]
    simp only [Option.bind_some]
    rw [h2, any_range_get xs (fun n => !decide (0 ≤ n ∧ n ≤ 999)) _ (fun i hi => by simp [List.getElem?_eq_getElem hi])]
    rw [List.all_eq_not_any_not, decide_eq_true h3, Bool.true_and]
  · rw [if_neg (by omega)]
    simp [h3]
theorem strOne (n : Nat) (h : n < 10) : strOfNums [(wrap64 (48 + (n : Int))) % 256] = ⟨[UInt8.ofNat (48 + n)].toArray⟩ := by
  have e : (wrap64 (48 + (n : Int))) % 256 = ((48 + n : Nat) : Int) := by rw [w64 (by omega) (by omega)]; omega
  rw [e]
  unfold strOfNums
  simp only [List.map_cons, List.map_nil, Int.toNat_natCast]
theorem app_l (a b : List UInt8) : (⟨a.toArray⟩ : ByteArray) ++ (⟨b.toArray⟩ : ByteArray) = ⟨(a ++ b).toArray⟩ := by
  apply ByteArray.ext
  rw [ByteArray.data_append]
  simp
theorem digits_spec : ∀ (d k : Nat) (n : Nat), n < 10 ^ (d + 1) → d ≤ 17 → d < k → spec_l16Digits.f k (n : Int) = some ⟨(Lib.decDigits n).toArray⟩ ∧ (Lib.decDigits n).length ≤ d + 1 := by
  intro d
  induction d with
  | zero =>
    intro k n h0 h1 hk
    obtain ⟨k, rfl⟩ := succ_of hk
    have hn : n < 10 := by simpa using h0
    have p1 : (n : Int) < 10 := by omega
    simp only [spec_l16Digits.f]
    rw [if_pos p1, strOne n hn, Lib.decDigits, dif_pos hn]
    exact ⟨rfl, by simp⟩
  | succ d ih =>
    intro k n h0 h1 hk
    obtain ⟨k, rfl⟩ : ∃ m, k = m + 1 := ⟨k - 1, by omega⟩
    simp only [spec_l16Digits.f]
    by_cases hn : n < 10
    · have p1 : (n : Int) < 10 := by omega
      rw [if_pos p1, strOne n hn, Lib.decDigits, dif_pos hn]
      exact ⟨rfl, by simp⟩
    · have p1 : ¬ (n : Int) < 10 := by omega
      have hd : n / 10 < 10 ^ (d + 1) := by
        rw [Nat.pow_succ] at h0
        omega
      have hmax : n < 10 ^ 19 := Nat.lt_of_lt_of_le h0 (Nat.pow_le_pow_right (by omega) (by omega))
      have hmax : n < 10000000000000000000 := hmax
      obtain ⟨i1, i2⟩ := ih k (n / 10) hd (by omega) (by omega)
      have e1 : wrap64 (Int.tdiv (n : Int) 10) = ((n / 10 : Nat) : Int) := by
        rw [Int.tdiv_eq_ediv_of_nonneg (by omega), w64 (by omega) (by omega)]; omega
      have e2 : Int.tmod (n : Int) 10 = ((n % 10 : Nat) : Int) := by
        rw [Int.tmod_eq_emod_of_nonneg (by omega)]; omega
      have e3 := strOne (n % 10) (by clear e1; omega)
      have q : (⟨(Lib.decDigits (n / 10)).toArray⟩ : ByteArray).size + (⟨[UInt8.ofNat (48 + n % 10)].toArray⟩ : ByteArray).size ≤ 9223372036854775807 := by
        show (Lib.decDigits (n / 10)).toArray.size + 1 ≤ _
        rw [List.size_toArray]
        clear e1
        omega
      rw [if_neg p1, e1, i1, e2, Option.bind_some, Option.bind_some, e3, if_pos q, app_l]
      rw [show Lib.decDigits n = Lib.decDigits (n / 10) ++ [UInt8.ofNat (48 + n % 10)] from by rw [Lib.decDigits, dif_neg hn]]
      exact ⟨rfl, by rw [List.length_append]; simp; omega⟩
theorem itoa_impl (n : Nat) (h : n ≤ 9223372036854775807) : strconv_Itoa_51.f (n : Int) = some ⟨(Lib.decDigits n).toArray⟩ := by
  unfold strconv_Itoa_51.f
  rw [if_pos (by omega), if_pos (by omega), Lib.itoa_nonneg]
/-- A number up to a thousand million: its digits, by both. -/
theorem digits_both (n : Int) (h0 : 0 ≤ n) (h1 : n < 1000000000) (k : Nat) (hk : 20 ≤ k) : ∃ t : ByteArray, t.size ≤ 9 ∧ spec_l16Digits.f k n = some t ∧ strconv_Itoa_51.f n = some t ∧ t = ⟨(Lib.decDigits n.toNat).toArray⟩ := by
  obtain ⟨m, rfl⟩ : ∃ m : Nat, n = m := ⟨n.toNat, by omega⟩
  obtain ⟨a, b⟩ := digits_spec 8 k m (by omega) (by omega) (by omega)
  exact ⟨_, by show (Lib.decDigits m).toArray.size ≤ 9; rw [List.size_toArray]; omega, a, itoa_impl m (by omega), by rw [Int.toNat_natCast]⟩
theorem versionText_both (l : List Int) (hl : l.length ≤ 1048576) (k : Nat) (hk : 2000000 ≤ k) : ∃ t : ByteArray, t.size ≤ 40 ∧ spec_VersionText.f k l = some t ∧ impl_VersionText.f k l = some t := by
  unfold spec_VersionText.f impl_VersionText.f
  rw [version_spec, version_impl l k (by omega) (by omega), Option.bind_some, Option.bind_some]
  by_cases h : versionGood l = true
  · rw [if_pos h, if_pos h]
    unfold versionGood at h
    obtain ⟨h3, ha⟩ := Bool.and_eq_true_iff.1 h
    have h3 := of_decide_eq_true h3
    obtain ⟨a, b, c, rfl⟩ : ∃ a b c, l = [a, b, c] := by
      match l, h3 with
      | [a, b, c], _ => exact ⟨a, b, c, rfl⟩
    have ha := List.all_eq_true.1 ha
    have a0 := of_decide_eq_true (ha a (by simp))
    have b0 := of_decide_eq_true (ha b (by simp))
    have c0 := of_decide_eq_true (ha c (by simp))
    have e0 : rd [a, b, c] 0 = a := rfl
    have e1 : rd [a, b, c] 1 = b := rfl
    have e2 : rd [a, b, c] 2 = c := rfl
    obtain ⟨x, sx, s1, i1, _⟩ := digits_both a a0.1 (by omega) k (by omega)
    obtain ⟨y, sy, s2, i2, _⟩ := digits_both b b0.1 (by omega) k (by omega)
    obtain ⟨z, sz, s3, i3, _⟩ := digits_both c c0.1 (by omega) k (by omega)
    have d1 : (⟨#[46]⟩ : ByteArray).size = 1 := rfl
    have q0 : (0 : Int) < (([a, b, c] : List Int).length : Int) := by simp
    have q1 : (1 : Int) < (([a, b, c] : List Int).length : Int) := by simp
    have q2 : (2 : Int) < (([a, b, c] : List Int).length : Int) := by simp
    have r1 : x.size + 1 ≤ 9223372036854775807 := by omega
    have r2 : (x ++ (⟨#[46]⟩ : ByteArray)).size + y.size ≤ 9223372036854775807 := by rw [ByteArray.size_append]; omega
    have r3 : ((x ++ (⟨#[46]⟩ : ByteArray)) ++ y).size + 1 ≤ 9223372036854775807 := by rw [ByteArray.size_append, ByteArray.size_append]; omega
    have r4 : (((x ++ (⟨#[46]⟩ : ByteArray)) ++ y) ++ (⟨#[46]⟩ : ByteArray)).size + z.size ≤ 9223372036854775807 := by rw [ByteArray.size_append, ByteArray.size_append, ByteArray.size_append]; omega
    refine ⟨(((x ++ (⟨#[46]⟩ : ByteArray)) ++ y) ++ (⟨#[46]⟩ : ByteArray)) ++ z, ?_, ?_, ?_⟩
    · rw [ByteArray.size_append, ByteArray.size_append, ByteArray.size_append, ByteArray.size_append]; omega
    · rw [if_pos q0, e0, s1, Option.bind_some, if_pos r1, if_pos q1, e1, s2, Option.bind_some, if_pos r2, if_pos r3, if_pos q2, e2, s3, Option.bind_some, if_pos r4]
    · rw [if_pos q0, e0, i1, Option.bind_some, if_pos r1, if_pos q1, e1, i2, Option.bind_some, if_pos r2, if_pos r3, if_pos q2, e2, i3, Option.bind_some, if_pos r4]
  · rw [if_neg h, if_neg h]
    exact ⟨_, by decide, rfl, rfl⟩
theorem holds : laws_FnExactVersionText.PureR := by
  intro l hl
  obtain ⟨K, hK⟩ : ∃ K : Nat, 4000000 ≤ K := ⟨_, Nat.le_refl _⟩
  refine ⟨K, ?_⟩
  unfold laws_FnExactVersionText.f
  by_cases h : (l.length : Int) > 1048576
  · rw [if_pos h]
  · rw [if_neg h, toIntS_eq l K (by omega) (by omega)]
    obtain ⟨t, _, e1, e2⟩ := versionText_both l (by omega) K (by omega)
    simp only [Option.bind_some, e1, e2]
    rw [if_pos trivial, eqIntS_eq l l K (by omega) (by omega)]
    simp
end Go.Proofs.YtekjcdcmiingmaaDoor.Pure.FnExactVersionText
namespace Go.Proofs.YtekjcdcmiingmaaDoor.Pure
theorem FnExactVersionText : Go.Proofs.YtekjcdcmiingmaaDoor.PFnExactVersionText.laws_FnExactVersionText.PureR := FnExactVersionText.holds
end Go.Proofs.YtekjcdcmiingmaaDoor.Pure
