/- The pure statement of the law FnExactCompareVersions, proved: numbers and lists alone, no memory. It holds for all arguments that can be read. -/
import Derived.Test.YtnnjhhoibhpbhaaDFnExactCompareVersions
import Derived.Test.YtnnjhhoibhpbhaaPlain
set_option linter.unusedVariables false
set_option linter.unusedSimpArgs false
namespace Go.Proofs.Ytnnjhhoibhpbhaa.Pure.FnExactCompareVersions
open Go.RowKit Go.Proofs.Ytnnjhhoibhpbhaa.PFnExactCompareVersions Go.Proofs.YtnnjhhoibhpbhaaW.PrintWords Go.Proofs.YtnnjhhoibhpbhaaW.PrintLast Go.Proofs.Ytnnjhhoibhpbhaa.Plain
theorem in_spec (a b c : Int) : spec_l1In.f a b c = some (decide (b ≤ a ∧ a ≤ c)) := by
  unfold spec_l1In.f
  split <;> simp <;> omega
theorem in_impl (a b c : Int) : impl_in.f a b c = some (decide (b ≤ a ∧ a ≤ c)) := by
  unfold impl_in.f
  split <;> simp <;> omega
def versionGood (l : List Int) : Bool := decide (l.length = 3) && l.all fun n => decide (0 ≤ n ∧ n ≤ 999)
theorem version_spec (xs : List Int) : spec_l16Version.f xs = some (versionGood xs) := by
  unfold spec_l16Version.f
  by_cases h3 : xs.length = 3
  · obtain ⟨a, b, c, rfl⟩ : ∃ a b c, xs = [a, b, c] := by
      match xs, h3 with
      | [a, b, c], _ => exact ⟨a, b, c, rfl⟩
    rw [if_pos (by simp), if_pos (by simp), if_pos (by simp), if_pos (by simp)]
    simp only [in_spec, Option.bind_some, decide_eq_true_eq]
    have e0 : rd [a, b, c] 0 = a := rfl
    have e1 : rd [a, b, c] 1 = b := rfl
    have e2 : rd [a, b, c] 2 = c := rfl
    rw [e0, e1, e2]
    simp only [versionGood]
    by_cases ha : 0 ≤ a ∧ a ≤ 999
    · rw [if_pos ha]
      by_cases hb : 0 ≤ b ∧ b ≤ 999
      · rw [if_pos hb]
        simp [ha, hb]
      · rw [if_neg hb]
        simp [hb]
    · rw [if_neg ha]
      simp [ha]
  · rw [if_neg (by omega)]
    simp [versionGood, h3]
theorem version_impl (xs : List Int) (k : Nat) (hl : xs.length ≤ 9223372036854775807) (hk : xs.length < k) : impl_isVersion.f k xs = some (versionGood xs) := by
  unfold impl_isVersion.f versionGood
  by_cases h3 : xs.length = 3
  · rw [if_pos (by omega)]
    unfold slices_ContainsFunc_F101.f slices_IndexFunc_F101.f
    obtain ⟨r, h1, _, _, h2, _⟩ := loop_find xs.length (fun k i => slices_IndexFunc_F101.l0 k xs (xs.length : Int) i) (fun i => !decide (0 ≤ xs.getD i 0 ∧ xs.getD i 0 ≤ 999)) (by
      intro k i hi hki
      simp only [slices_IndexFunc_F101.l0, impl_isVersion_1.f, in_impl, rd_nat]
      rw [if_pos (by omega), if_pos (by omega), if_pos (by omega), w64n (n := xs.length) hi hl]
      rfl) (by
      intro k
      simp only [slices_IndexFunc_F101.l0]
      rw [if_neg (by omega)]) k hk
    try dsimp only at h1
    rw [h1]
    simp only [Option.bind_some]
    rw [h2, any_range_get xs (fun n => !decide (0 ≤ n ∧ n ≤ 999)) _ (fun i hi => by simp [List.getElem?_eq_getElem hi])]
    rw [List.all_eq_not_any_not, decide_eq_true h3, Bool.true_and]
  · rw [if_neg (by omega)]
    simp [h3]
theorem toIntS_l0 (l : List Int) (hl : l.length ≤ 9223372036854775807) : ∀ (d k : Nat) (x : List Int) (i : Nat), i + d = l.length → d < k → x.length = l.length → (∀ j, j < i → x[j]? = l[j]?) → laws_toIntS.l0 k l x (i : Int) = some l := by
  intro d
  induction d with
  | zero =>
    intro k x i hd hk hx hj
    obtain ⟨k, rfl⟩ := succ_of hk
    simp only [laws_toIntS.l0]
    rw [if_neg (by omega)]
    congr 1
    apply List.ext_getElem?
    intro j
    by_cases h : j < i
    · exact hj j h
    · rw [List.getElem?_eq_none (by omega), List.getElem?_eq_none (by omega)]
  | succ d ih =>
    intro k x i hd hk hx hj
    obtain ⟨k, rfl⟩ := succ_of hk
    simp only [laws_toIntS.l0]
    rw [if_pos (by omega), if_pos (by omega), if_pos (by omega), w64n (n := l.length) (by omega) hl]
    apply ih k _ (i + 1) (by omega) (by omega) (by simpa using hx)
    intro j hji
    simp only [Int.toNat_natCast, rd_nat]
    rw [List.getElem?_set]
    by_cases h : i = j
    · subst h
      rw [if_pos rfl, if_pos (by omega), List.getElem?_eq_getElem (by omega)]
      simp [List.getElem?_eq_getElem (show i < l.length by omega)]
    · rw [if_neg h]
      exact hj j (by omega)
theorem toIntS_eq (l : List Int) (k : Nat) (hl : l.length ≤ 35184372088832) (hk : l.length < k) : laws_toIntS.f k l = some l := by
  unfold laws_toIntS.f
  rw [if_pos (by omega), if_pos (by simpa using hl)]
  exact toIntS_l0 l (by omega) l.length k _ 0 (by omega) hk (by simp) (by omega)
theorem eqIntS_l0 (x y : List Int) (hxy : x.length = y.length) (hl : x.length ≤ 9223372036854775807) : ∀ (d k : Nat) (i : Nat), i + d = x.length → d < k → (∀ j, j < i → x[j]? = y[j]?) → laws_eqIntS.l0 k x y (i : Int) = some (decide (x = y)) := by
  intro d
  induction d with
  | zero =>
    intro k i hd hk hj
    obtain ⟨k, rfl⟩ := succ_of hk
    simp only [laws_eqIntS.l0]
    rw [if_neg (by omega)]
    have : x = y := by
      apply List.ext_getElem?
      intro j
      by_cases h : j < i
      · exact hj j h
      · rw [List.getElem?_eq_none (by omega), List.getElem?_eq_none (by omega)]
    simp [this]
  | succ d ih =>
    intro k i hd hk hj
    obtain ⟨k, rfl⟩ := succ_of hk
    simp only [laws_eqIntS.l0]
    rw [if_pos (by omega), if_pos (by omega), if_pos (by omega), w64n (n := x.length) (by omega) hl]
    simp only [rd_nat]
    have hx : x[i]? = some (x.getD i 0) := by simp [List.getElem?_eq_getElem (show i < x.length by omega)]
    have hy : y[i]? = some (y.getD i 0) := by simp [List.getElem?_eq_getElem (show i < y.length by omega)]
    by_cases h : x.getD i 0 = y.getD i 0
    · rw [if_pos h]
      apply ih k (i + 1) (by omega) (by omega)
      intro j hji
      by_cases e : j = i
      · subst e
        rw [hx, hy, h]
      · exact hj j (by omega)
    · rw [if_neg h]
      have : x ≠ y := fun e => h (by rw [e])
      simp [this]
theorem eqIntS_eq (x y : List Int) (k : Nat) (hl : x.length ≤ 9223372036854775807) (hk : x.length < k) : laws_eqIntS.f k x y = some (decide (x = y)) := by
  unfold laws_eqIntS.f
  by_cases h : x.length = y.length
  · rw [if_pos (by omega)]
    exact eqIntS_l0 x y h hl x.length k 0 (by omega) hk (by omega)
  · rw [if_neg (by omega)]
    have : x ≠ y := fun e => h (by rw [e])
    simp [this]
theorem compare_eq (a b : Int) : cmp_Compare_int.f a b = some (if a < b then -1 else if a > b then 1 else 0) := by
  unfold cmp_Compare_int.f cmp_isNaN_int.f
  simp only [Option.bind_some, bne_self_eq_false]
  rw [if_neg (by simp), if_neg (by simp)]
  split
  · rfl
  · split <;> rfl
theorem compare_three (a b c d e f : Int) : ∃ r, (∀ k, spec_CompareVersions.l0 (k + 4) [a, b, c] [d, e, f] 0 = some r) ∧ (∀ k, slices_Compare_int_int.l0 (k + 4) [a, b, c] [d, e, f] [a, b, c] 3 0 = some r) := by
  have e0 : rd [a, b, c] 0 = a := rfl
  have e1 : rd [a, b, c] 1 = b := rfl
  have e2 : rd [a, b, c] 2 = c := rfl
  have g0 : rd [d, e, f] 0 = d := rfl
  have g1 : rd [d, e, f] 1 = e := rfl
  have g2 : rd [d, e, f] 2 = f := rfl
  have w0 : wrap64 (0 + 1) = 1 := by rw [w64 (by omega) (by omega)]; rfl
  have w1 : wrap64 (1 + 1) = 2 := by rw [w64 (by omega) (by omega)]; rfl
  have w2 : wrap64 (2 + 1) = 3 := by rw [w64 (by omega) (by omega)]; rfl
  have l1 : (([a, b, c] : List Int).length : Int) = 3 := rfl
  have l2 : (([d, e, f] : List Int).length : Int) = 3 := rfl
  simp only [show ∀ k : Nat, k + 4 = ((k + 1) + 1 + 1) + 1 from fun _ => rfl, spec_CompareVersions.l0, slices_Compare_int_int.l0, compare_eq, e0, e1, e2, g0, g1, g2, w0, w1, w2, l1, l2, Option.bind_some]
  by_cases h0 : a < d
  · exact ⟨-1, by simp [h0], by simp [h0]⟩
  · by_cases h0' : a > d
    · exact ⟨1, by simp [h0, h0'], by simp [h0, h0']⟩
    · by_cases h1 : b < e
      · exact ⟨-1, by simp [h0, h0', h1], by simp [h0, h0', h1]⟩
      · by_cases h1' : b > e
        · exact ⟨1, by simp [h0, h0', h1, h1'], by simp [h0, h0', h1, h1']⟩
        · by_cases h2 : c < f
          · exact ⟨-1, by simp [h0, h0', h1, h1', h2], by simp [h0, h0', h1, h1', h2]⟩
          · by_cases h2' : c > f
            · exact ⟨1, by simp [h0, h0', h1, h1', h2, h2'], by simp [h0, h0', h1, h1', h2, h2']⟩
            · exact ⟨0, by simp [h0, h0', h1, h1', h2, h2'], by simp [h0, h0', h1, h1', h2, h2']⟩
theorem three_of {l : List Int} (h : versionGood l = true) : ∃ a b c, l = [a, b, c] := by
  unfold versionGood at h
  rw [Bool.and_eq_true, decide_eq_true_eq] at h
  match l, h.1 with
  | [a, b, c], _ => exact ⟨a, b, c, rfl⟩
theorem compare_both (l0 l1 : List Int) (k : Nat) (h0 : l0.length ≤ 1048576) (h1 : l1.length ≤ 1048576) (hk : 1048600 ≤ k) : ∃ r, spec_CompareVersions.f k l0 l1 = some r ∧ impl_CompareVersions.f k l0 l1 = some r := by
  unfold spec_CompareVersions.f impl_CompareVersions.f
  rw [version_spec, version_spec, version_impl l0 _ (by omega) (by omega), version_impl l1 _ (by omega) (by omega)]
  simp only [Option.bind_some]
  obtain ⟨m, rfl⟩ : ∃ m, k = (m + 4) + 1 := ⟨k - 5, by omega⟩
  cases g0 : versionGood l0 with
  | false =>
    rw [if_neg (by simp), if_neg (by simp)]
    exact ⟨0, rfl, rfl⟩
  | true =>
    rw [if_pos rfl, if_pos rfl]
    cases g1 : versionGood l1 with
    | false =>
      rw [if_neg (by simp)]
      exact ⟨0, rfl, rfl⟩
    | true =>
      rw [if_pos rfl]
      obtain ⟨a, b, c, rfl⟩ := three_of g0
      obtain ⟨d, e, f, rfl⟩ := three_of g1
      obtain ⟨r, h2, h3⟩ := compare_three a b c d e f
      refine ⟨r, h2 m, ?_⟩
      unfold slices_Compare_int_int.f
      rw [show (([a, b, c] : List Int).length : Int) = 3 from rfl, show m + 4 + 1 = (m + 1) + 4 from rfl, h3]
      rfl
theorem holds : laws_FnExactCompareVersions.PureR := by
  intro l0 l1 h0 h1
  obtain ⟨K, hK⟩ : ∃ K : Nat, 4000000 ≤ K := ⟨_, Nat.le_refl _⟩
  refine ⟨K, ?_⟩
  unfold laws_FnExactCompareVersions.f
  by_cases g0 : (l0.length : Int) > 1048576
  · rw [if_pos g0]
  · rw [if_neg g0]
    by_cases g1 : (l1.length : Int) > 1048576
    · rw [if_pos g1]
    · rw [if_neg g1, toIntS_eq l0 K (by omega) (by omega), toIntS_eq l1 K (by omega) (by omega)]
      simp only [Option.bind_some]
      obtain ⟨r, h2, h3⟩ := compare_both l0 l1 K (by omega) (by omega) (by omega)
      rw [h2, h3]
      simp only [Option.bind_some, if_true]
      rw [eqIntS_eq l0 l0 K (by omega) (by omega), eqIntS_eq l1 l1 K (by omega) (by omega)]
      simp
end Go.Proofs.Ytnnjhhoibhpbhaa.Pure.FnExactCompareVersions
namespace Go.Proofs.Ytnnjhhoibhpbhaa.Pure
theorem FnExactCompareVersions : Go.Proofs.Ytnnjhhoibhpbhaa.PFnExactCompareVersions.laws_FnExactCompareVersions.PureR := FnExactCompareVersions.holds
end Go.Proofs.Ytnnjhhoibhpbhaa.Pure
