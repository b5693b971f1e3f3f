/- The pure statement of the law FnExactRowOk, proved: numbers and lists alone, no memory. It holds for all arguments that can be read. -/
import Derived.Test.YtnnjhhoibhpbhaaDFnExactRowOk
import Derived.Test.YtnnjhhoibhpbhaaPlain
set_option linter.unusedVariables false
set_option linter.unusedSimpArgs false
namespace Go.Proofs.Ytnnjhhoibhpbhaa.Pure.FnExactRowOk
open Go.RowKit Go.Proofs.Ytnnjhhoibhpbhaa.PFnExactRowOk Go.Proofs.YtnnjhhoibhpbhaaW.PrintWords Go.Proofs.YtnnjhhoibhpbhaaW.PrintLast Go.Proofs.Ytnnjhhoibhpbhaa.Plain
theorem szByteS_eq (l : List Int) (a : Int) (hl : l.length ≤ 9223372036854775807) (h0 : 0 ≤ a) (h1 : a ≤ 9223372036854775807) : laws_szByteS.f l a = some (if a < l.length then -1 else a - l.length) := by
  unfold laws_szByteS.f
  rw [w64 (by omega) (by omega)]
  by_cases h : a < l.length
  · rw [if_pos (by omega), if_pos h]
  · rw [if_neg (by omega), if_neg h]
theorem szByteSS_l0 (xs : List (List Int)) (hx : ∀ x ∈ xs, x.length ≤ 9223372036854775807) (hl : xs.length ≤ 9223372036854775807) : ∀ (d k : Nat) (a : Int) (i : Nat), i + d = xs.length → d < k → 0 ≤ a → a ≤ 1048576 → ∃ r, laws_szByteSS.l0 k xs a (i : Int) = some r ∧ (0 ≤ r → ∀ j (hj : j < xs.length), i ≤ j → (xs[j].length : Int) ≤ a) := by
  intro d
  induction d with
  | zero =>
    intro k a i hd hk h0 h1
    obtain ⟨k, rfl⟩ := succ_of hk
    simp only [laws_szByteSS.l0]
    rw [if_neg (by omega)]
    exact ⟨a, rfl, fun _ j hj hij => by omega⟩
  | succ d ih =>
    intro k a i hd hk h0 h1
    obtain ⟨k, rfl⟩ := succ_of hk
    have hi : i < xs.length := by omega
    have hr : rd_L1 xs (i : Int) = xs[i] := getD_lt xs [] i hi
    have hxi : xs[i].length ≤ 9223372036854775807 := hx _ (List.getElem_mem hi)
    simp only [laws_szByteSS.l0]
    rw [if_pos (by omega), if_pos (by omega), hr, szByteS_eq _ a hxi h0 (by omega)]
    simp only [Option.bind_some]
    by_cases hs : a < xs[i].length
    · rw [if_pos hs, if_pos (by omega)]
      exact ⟨-1, rfl, by omega⟩
    · rw [if_neg hs, if_neg (by omega), w64n (n := xs.length) hi hl]
      obtain ⟨r, h, hr⟩ := ih k (a - xs[i].length) (i + 1) (by omega) (by omega) (by omega) (by omega)
      refine ⟨r, h, fun h0r j hj hij => ?_⟩
      by_cases e : j = i
      · subst e; omega
      · have := hr h0r j hj (by omega); omega
theorem szByteSS_eq (xs : List (List Int)) (a : Int) (k : Nat) (hx : ∀ x ∈ xs, x.length ≤ 9223372036854775807) (hl : xs.length ≤ 9223372036854775807) (hk : xs.length < k) (h0 : 0 ≤ a) (h1 : a ≤ 1048576) :
    ∃ r, laws_szByteSS.f k xs a = some r ∧ (0 ≤ r → (xs.length : Int) ≤ a ∧ ∀ x ∈ xs, (x.length : Int) ≤ a) := by
  unfold laws_szByteSS.f
  rw [w64 (by omega) (by omega)]
  by_cases h : a - (xs.length : Int) < 0
  · rw [if_pos h]; exact ⟨-1, rfl, by omega⟩
  · rw [if_neg h]
    obtain ⟨r, h2, h3⟩ := szByteSS_l0 xs hx hl xs.length k (a - xs.length) 0 (by omega) hk (by omega) (by omega)
    refine ⟨r, h2, fun h0r => ⟨by omega, fun x hx => ?_⟩⟩
    obtain ⟨j, hj, rfl⟩ := List.mem_iff_getElem.1 hx
    have := h3 h0r j hj (by omega)
    omega
theorem toByteS_l0 (l : List Int) (hl : l.length ≤ 9223372036854775807) : ∀ (d k : Nat) (x : List Int) (i : Nat), i + d = l.length → d < k → x.length = l.length → (∀ j, j < i → x[j]? = l[j]?) → laws_toByteS.l0 k l x (i : Int) = some l := by
  intro d
  induction d with
  | zero =>
    intro k x i hd hk hx hj
    obtain ⟨k, rfl⟩ := succ_of hk
    simp only [laws_toByteS.l0]
    rw [if_neg (by omega)]
    congr 1
    apply List.ext_getElem?
    intro j
    by_cases h : j < i
    · exact hj j h
    · rw [List.getElem?_eq_none (by omega), List.getElem?_eq_none (by omega)]
  | succ d ih =>
    intro k x i hd hk hx hj
    obtain ⟨k, rfl⟩ := succ_of hk
    simp only [laws_toByteS.l0]
    rw [if_pos (by omega), if_pos (by omega), if_pos (by omega), w64n (n := l.length) (by omega) hl]
    apply ih k _ (i + 1) (by omega) (by omega) (by simpa using hx)
    intro j hji
    simp only [Int.toNat_natCast, rd_nat]
    rw [List.getElem?_set]
    by_cases h : i = j
    · subst h
      rw [if_pos rfl, if_pos (by omega), List.getElem?_eq_getElem (by omega)]
      simp [List.getElem?_eq_getElem (show i < l.length by omega)]
    · rw [if_neg h]
      exact hj j (by omega)
theorem toByteS_eq (l : List Int) (k : Nat) (hl : l.length ≤ 281474976710656) (hk : l.length < k) : laws_toByteS.f k l = some l := by
  unfold laws_toByteS.f
  rw [if_pos (by omega), if_pos (by simpa using hl)]
  exact toByteS_l0 l (by omega) l.length k _ 0 (by omega) hk (by simp) (by omega)
theorem toByteSS_eq (xs : List (List Int)) (k : Nat) (hl : xs.length ≤ 1048576) (hx : ∀ x ∈ xs, x.length ≤ 1048576) (hk : 2097154 ≤ k) : laws_toByteSS.f k xs = some xs := by
  obtain ⟨M, hM⟩ : ∃ M : Nat, M = 1048577 := ⟨_, rfl⟩
  obtain ⟨m, rfl⟩ : ∃ m, k = m + M := ⟨k - M, by omega⟩
  unfold laws_toByteSS.f
  rw [if_pos (by omega), if_pos (by rw [Int.toNat_natCast]; omega)]
  have h := loop_fill xs.length (fun k x i => laws_toByteSS.l0 (k + M) xs x i) (fun i => xs.getD i []) id (by
    intro k x i hi hki hx'
    have hr : rd_L1 xs (i : Int) = xs[i] := getD_lt xs [] i hi
    have hg : xs.getD i [] = xs[i] := by simp [List.getElem?_eq_getElem hi]
    try dsimp only
    rw [show k + 1 + M = (k + M) + 1 by omega]
    simp only [laws_toByteSS.l0]
    have hxi := hx _ (List.getElem_mem hi)
    rw [if_pos (by omega), if_pos (by omega), hr, toByteS_eq _ _ (by omega) (by omega)]
    simp only [Option.bind_some]
    rw [if_pos (by omega), w64n (n := xs.length) hi (by omega), Int.toNat_natCast, hg]) (by
    intro k x hx'
    try dsimp only
    rw [show k + 1 + M = (k + M) + 1 by omega]
    simp only [laws_toByteSS.l0]
    rw [if_neg (by omega)]; rfl) m (by omega) (List.replicate xs.length []) (by simp)
  try dsimp only at h
  rw [Int.toNat_natCast, h]
  rw [map_range_get xs id _ (fun i hi => by simp [List.getElem?_eq_getElem hi])]
  simp
theorem eqByteS_l0 (x y : List Int) (hxy : x.length = y.length) (hl : x.length ≤ 9223372036854775807) : ∀ (d k : Nat) (i : Nat), i + d = x.length → d < k → (∀ j, j < i → x[j]? = y[j]?) → laws_eqByteS.l0 k x y (i : Int) = some (decide (x = y)) := by
  intro d
  induction d with
  | zero =>
    intro k i hd hk hj
    obtain ⟨k, rfl⟩ := succ_of hk
    simp only [laws_eqByteS.l0]
    rw [if_neg (by omega)]
    have : x = y := by
      apply List.ext_getElem?
      intro j
      by_cases h : j < i
      · exact hj j h
      · rw [List.getElem?_eq_none (by omega), List.getElem?_eq_none (by omega)]
    simp [this]
  | succ d ih =>
    intro k i hd hk hj
    obtain ⟨k, rfl⟩ := succ_of hk
    simp only [laws_eqByteS.l0]
    rw [if_pos (by omega), if_pos (by omega), if_pos (by omega), w64n (n := x.length) (by omega) hl]
    simp only [rd_nat]
    have hx : x[i]? = some (x.getD i 0) := by simp [List.getElem?_eq_getElem (show i < x.length by omega)]
    have hy : y[i]? = some (y.getD i 0) := by simp [List.getElem?_eq_getElem (show i < y.length by omega)]
    by_cases h : x.getD i 0 = y.getD i 0
    · rw [if_pos h]
      apply ih k (i + 1) (by omega) (by omega)
      intro j hji
      by_cases e : j = i
      · subst e
        rw [hx, hy, h]
      · exact hj j (by omega)
    · rw [if_neg h]
      have : x ≠ y := fun e => h (by rw [e])
      simp [this]
theorem eqByteS_eq (x y : List Int) (k : Nat) (hl : x.length ≤ 9223372036854775807) (hk : x.length < k) : laws_eqByteS.f k x y = some (decide (x = y)) := by
  unfold laws_eqByteS.f
  by_cases h : x.length = y.length
  · rw [if_pos (by omega)]
    exact eqByteS_l0 x y h hl x.length k 0 (by omega) hk (by omega)
  · rw [if_neg (by omega)]
    have : x ≠ y := fun e => h (by rw [e])
    simp [this]
theorem eqByteSS_self (xs : List (List Int)) (k : Nat) (hl : xs.length ≤ 1048576) (hx : ∀ x ∈ xs, x.length ≤ 1048576) (hk : 2097154 ≤ k) : laws_eqByteSS.f k xs xs = some true := by
  obtain ⟨M, hM⟩ : ∃ M : Nat, M = 1048577 := ⟨_, rfl⟩
  obtain ⟨m, rfl⟩ : ∃ m, k = m + M := ⟨k - M, by omega⟩
  unfold laws_eqByteSS.f
  rw [if_pos rfl]
  have h := loop_all xs.length (fun k i => laws_eqByteSS.l0 (k + M) xs xs i) (fun _ => true) true false (by
    intro k i hi hki
    have hr : rd_L1 xs (i : Int) = xs[i] := getD_lt xs [] i hi
    try dsimp only
    rw [show k + 1 + M = (k + M) + 1 by omega]
    simp only [laws_eqByteSS.l0]
    have hxi := hx _ (List.getElem_mem hi)
    rw [if_pos (by omega), if_pos (by omega), if_pos (by omega), hr, eqByteS_eq _ _ _ (by omega) (by omega)]
    simp only [Option.bind_some, decide_true, if_true]
    rw [w64n (n := xs.length) hi (by omega)]) (by
    intro k
    try dsimp only
    rw [show k + 1 + M = (k + M) + 1 by omega]
    simp only [laws_eqByteSS.l0]
    rw [if_neg (by omega)]) m (by omega)
  try dsimp only at h
  rw [h]
  simp
theorem rowOk_spec (xs : List (List Int)) (k : Nat) (hl : xs.length ≤ 9223372036854775807) (hk : xs.length < k) : spec_RowOk.f k xs = some (decide (xs.length ≤ 16) && xs.all fun x => decide (x.length = 32)) := by
  unfold spec_RowOk.f
  have h := loop_all xs.length (fun k i => spec_RowOk.l0 k xs i) (fun i => decide ((xs.getD i []).length = 32)) (decide (xs.length ≤ 16)) false (by
    intro k i hi hki
    have hr : rd_L1 xs (i : Int) = xs.getD i [] := by simp [rd_L1]
    simp only [spec_RowOk.l0]
    rw [if_pos (by omega), if_pos (by omega), hr, w64n (n := xs.length) hi hl]
    by_cases e : (xs.getD i []).length = 32
    · rw [if_pos (by omega), if_pos (decide_eq_true e)]
    · rw [if_neg (by omega), if_neg (fun h => e (of_decide_eq_true h))]) (by
    intro k
    simp only [spec_RowOk.l0]
    rw [if_neg (by omega)]
    congr 1
    rw [Bool.eq_iff_iff]; simp only [decide_eq_true_eq]; omega) k hk
  rw [h, all_range_get xs (fun x => decide (x.length = 32)) _ (fun i hi => by simp [List.getElem?_eq_getElem hi])]
  cases xs.all fun x => decide (x.length = 32) <;> simp
theorem rowOk_impl (xs : List (List Int)) (k : Nat) (hl : xs.length ≤ 9223372036854775807) (hk : xs.length < k) : impl_isRow.f k xs = some (decide (xs.length ≤ 16) && xs.all fun x => decide (x.length = 32)) := by
  unfold impl_isRow.f
  by_cases h16 : xs.length ≤ 16
  · rw [if_pos (by omega)]
    unfold slices_ContainsFunc_F97.f slices_IndexFunc_F97.f
    obtain ⟨r, h1, _, _, h2, _⟩ := loop_find xs.length (fun k i => slices_IndexFunc_F97.l0 k xs (xs.length : Int) i) (fun i => decide (¬ (xs.getD i []).length = 32)) (by
      intro k i hi hki
      have hr : rd_L1 xs (i : Int) = xs.getD i [] := by simp [rd_L1]
      simp only [slices_IndexFunc_F97.l0, impl_isRow_1.f, impl_isDigest.f]
      rw [if_pos (by omega), if_pos (by omega), if_pos (by omega), hr, w64n (n := xs.length) hi hl]
      simp only [Option.bind_some]
      by_cases e : (xs.getD i []).length = 32
      · rw [if_neg (by rw [e]; decide), if_neg (fun h => absurd e (of_decide_eq_true h))]
      · rw [if_pos (by rw [show (((xs.getD i []).length : Int) == 32) = false from by rw [beq_eq_false_iff_ne]; omega]; rfl), if_pos (decide_eq_true e)]) (by
      intro k
      simp only [slices_IndexFunc_F97.l0]
      rw [if_neg (by omega)]) k hk
    try dsimp only at h1
    rw [h1]
    simp only [Option.bind_some]
    rw [h2, any_range_get xs (fun x => decide (¬ x.length = 32)) _ (fun i hi => by simp [List.getElem?_eq_getElem hi])]
    simp [h16, List.all_eq_not_any_not]
  · rw [if_neg (by omega)]
    simp [h16]
theorem holds : laws_FnExactRowOk.PureR := by
  intro xs hx
  obtain ⟨K, hK⟩ : ∃ K : Nat, xs.length + 4000000 ≤ K := ⟨_, Nat.le_refl _⟩
  refine ⟨K, ?_⟩
  unfold laws_FnExactRowOk.f
  obtain ⟨r, h, hr⟩ := szByteSS_eq xs 1048576 K (fun x h => (hx.2 x h).1) hx.1 (by omega) (by omega) (by omega)
  rw [h]
  simp only [Option.bind_some]
  by_cases h0 : r < 0
  · rw [if_pos h0]
  · rw [if_neg h0]
    obtain ⟨h1, h2⟩ := hr (by omega)
    have h2' : ∀ x ∈ xs, x.length ≤ 1048576 := fun x hx => by have := h2 x hx; omega
    rw [toByteSS_eq xs K (by omega) h2' (by omega)]
    simp only [Option.bind_some]
    unfold impl_RowOk.f
    rw [rowOk_spec xs K hx.1 (by omega), rowOk_impl xs K hx.1 (by omega)]
    simp only [Option.bind_some]
    rw [eqByteSS_self xs K (by omega) h2' (by omega)]
    simp
end Go.Proofs.Ytnnjhhoibhpbhaa.Pure.FnExactRowOk
namespace Go.Proofs.Ytnnjhhoibhpbhaa.Pure
theorem FnExactRowOk : Go.Proofs.Ytnnjhhoibhpbhaa.PFnExactRowOk.laws_FnExactRowOk.PureR := FnExactRowOk.holds
end Go.Proofs.Ytnnjhhoibhpbhaa.Pure
