/- The pure statement of the law FnExactSlotBytes, proved: numbers and lists alone, no memory. It holds for all arguments that can be read. -/
import Derived.Test.YtldlpoloanmohaaDFnExactSlotBytes
import Derived.Test.YtldlpoloanmohaaPlain
set_option linter.unusedVariables false
set_option linter.unusedSimpArgs false
namespace Go.Proofs.Ytldlpoloanmohaa.Pure.FnExactSlotBytes
open Go.RowKit Go.Proofs.Ytldlpoloanmohaa.PFnExactSlotBytes Go.Proofs.YtldlpoloanmohaaW.PrintWords Go.Proofs.YtldlpoloanmohaaW.PrintLast Go.Proofs.Ytldlpoloanmohaa.Plain
theorem toByteS_l0 (l : List Int) (hl : l.length ≤ 9223372036854775807) : ∀ (d k : Nat) (x : List Int) (i : Nat), i + d = l.length → d < k → x.length = l.length → (∀ j, j < i → x[j]? = l[j]?) → laws_toByteS.l0 k l x (i : Int) = some l := by
  intro d
  induction d with
  | zero =>
    intro k x i hd hk hx hj
    obtain ⟨k, rfl⟩ := succ_of hk
    simp only [laws_toByteS.l0]
    rw [if_neg (by omega)]
    congr 1
    apply List.ext_getElem?
    intro j
    by_cases h : j < i
    · exact hj j h
    · rw [List.getElem?_eq_none (by omega), List.getElem?_eq_none (by omega)]
  | succ d ih =>
    intro k x i hd hk hx hj
    obtain ⟨k, rfl⟩ := succ_of hk
    simp only [laws_toByteS.l0]
    rw [if_pos (by omega), if_pos (by omega), if_pos (by omega), w64n (n := l.length) (by omega) hl]
    apply ih k _ (i + 1) (by omega) (by omega) (by simpa using hx)
    intro j hji
    simp only [Int.toNat_natCast, rd_nat]
    rw [List.getElem?_set]
    by_cases h : i = j
    · subst h
      rw [if_pos rfl, if_pos (by omega), List.getElem?_eq_getElem (by omega)]
      simp [List.getElem?_eq_getElem (show i < l.length by omega)]
    · rw [if_neg h]
      exact hj j (by omega)
theorem toByteS_eq (l : List Int) (k : Nat) (hl : l.length ≤ 281474976710656) (hk : l.length < k) : laws_toByteS.f k l = some l := by
  unfold laws_toByteS.f
  rw [if_pos (by omega), if_pos (by simpa using hl)]
  exact toByteS_l0 l (by omega) l.length k _ 0 (by omega) hk (by simp) (by omega)
theorem toIntS_l0 (l : List Int) (hl : l.length ≤ 9223372036854775807) : ∀ (d k : Nat) (x : List Int) (i : Nat), i + d = l.length → d < k → x.length = l.length → (∀ j, j < i → x[j]? = l[j]?) → laws_toIntS.l0 k l x (i : Int) = some l := by
  intro d
  induction d with
  | zero =>
    intro k x i hd hk hx hj
    obtain ⟨k, rfl⟩ := succ_of hk
    simp only [laws_toIntS.l0]
    rw [if_neg (by omega)]
    congr 1
    apply List.ext_getElem?
    intro j
    by_cases h : j < i
    · exact hj j h
    · rw [List.getElem?_eq_none (by omega), List.getElem?_eq_none (by omega)]
  | succ d ih =>
    intro k x i hd hk hx hj
    obtain ⟨k, rfl⟩ := succ_of hk
    simp only [laws_toIntS.l0]
    rw [if_pos (by omega), if_pos (by omega), if_pos (by omega), w64n (n := l.length) (by omega) hl]
    apply ih k _ (i + 1) (by omega) (by omega) (by simpa using hx)
    intro j hji
    simp only [Int.toNat_natCast, rd_nat]
    rw [List.getElem?_set]
    by_cases h : i = j
    · subst h
      rw [if_pos rfl, if_pos (by omega), List.getElem?_eq_getElem (by omega)]
      simp [List.getElem?_eq_getElem (show i < l.length by omega)]
    · rw [if_neg h]
      exact hj j (by omega)
theorem toIntS_eq (l : List Int) (k : Nat) (hl : l.length ≤ 35184372088832) (hk : l.length < k) : laws_toIntS.f k l = some l := by
  unfold laws_toIntS.f
  rw [if_pos (by omega), if_pos (by simpa using hl)]
  exact toIntS_l0 l (by omega) l.length k _ 0 (by omega) hk (by simp) (by omega)
theorem eqByteS_l0 (x y : List Int) (hxy : x.length = y.length) (hl : x.length ≤ 9223372036854775807) : ∀ (d k : Nat) (i : Nat), i + d = x.length → d < k → (∀ j, j < i → x[j]? = y[j]?) → laws_eqByteS.l0 k x y (i : Int) = some (decide (x = y)) := by
  intro d
  induction d with
  | zero =>
    intro k i hd hk hj
    obtain ⟨k, rfl⟩ := succ_of hk
    simp only [laws_eqByteS.l0]
    rw [if_neg (by omega)]
    have : x = y := by
      apply List.ext_getElem?
      intro j
      by_cases h : j < i
      · exact hj j h
      · rw [List.getElem?_eq_none (by omega), List.getElem?_eq_none (by omega)]
    simp [this]
  | succ d ih =>
    intro k i hd hk hj
    obtain ⟨k, rfl⟩ := succ_of hk
    simp only [laws_eqByteS.l0]
    rw [if_pos (by omega), if_pos (by omega), if_pos (by omega), w64n (n := x.length) (by omega) hl]
    simp only [rd_nat]
    have hx : x[i]? = some (x.getD i 0) := by simp [List.getElem?_eq_getElem (show i < x.length by omega)]
    have hy : y[i]? = some (y.getD i 0) := by simp [List.getElem?_eq_getElem (show i < y.length by omega)]
    by_cases h : x.getD i 0 = y.getD i 0
    · rw [if_pos h]
      apply ih k (i + 1) (by omega) (by omega)
      intro j hji
      by_cases e : j = i
      · subst e
        rw [hx, hy, h]
      · exact hj j (by omega)
    · rw [if_neg h]
      have : x ≠ y := fun e => h (by rw [e])
      simp [this]
theorem eqByteS_eq (x y : List Int) (k : Nat) (hl : x.length ≤ 9223372036854775807) (hk : x.length < k) : laws_eqByteS.f k x y = some (decide (x = y)) := by
  unfold laws_eqByteS.f
  by_cases h : x.length = y.length
  · rw [if_pos (by omega)]
    exact eqByteS_l0 x y h hl x.length k 0 (by omega) hk (by omega)
  · rw [if_neg (by omega)]
    have : x ≠ y := fun e => h (by rw [e])
    simp [this]
theorem eqIntS_l0 (x y : List Int) (hxy : x.length = y.length) (hl : x.length ≤ 9223372036854775807) : ∀ (d k : Nat) (i : Nat), i + d = x.length → d < k → (∀ j, j < i → x[j]? = y[j]?) → laws_eqIntS.l0 k x y (i : Int) = some (decide (x = y)) := by
  intro d
  induction d with
  | zero =>
    intro k i hd hk hj
    obtain ⟨k, rfl⟩ := succ_of hk
    simp only [laws_eqIntS.l0]
    rw [if_neg (by omega)]
    have : x = y := by
      apply List.ext_getElem?
      intro j
      by_cases h : j < i
      · exact hj j h
      · rw [List.getElem?_eq_none (by omega), List.getElem?_eq_none (by omega)]
    simp [this]
  | succ d ih =>
    intro k i hd hk hj
    obtain ⟨k, rfl⟩ := succ_of hk
    simp only [laws_eqIntS.l0]
    rw [if_pos (by omega), if_pos (by omega), if_pos (by omega), w64n (n := x.length) (by omega) hl]
    simp only [rd_nat]
    have hx : x[i]? = some (x.getD i 0) := by simp [List.getElem?_eq_getElem (show i < x.length by omega)]
    have hy : y[i]? = some (y.getD i 0) := by simp [List.getElem?_eq_getElem (show i < y.length by omega)]
    by_cases h : x.getD i 0 = y.getD i 0
    · rw [if_pos h]
      apply ih k (i + 1) (by omega) (by omega)
      intro j hji
      by_cases e : j = i
      · subst e
        rw [hx, hy, h]
      · exact hj j (by omega)
    · rw [if_neg h]
      have : x ≠ y := fun e => h (by rw [e])
      simp [this]
theorem eqIntS_eq (x y : List Int) (k : Nat) (hl : x.length ≤ 9223372036854775807) (hk : x.length < k) : laws_eqIntS.f k x y = some (decide (x = y)) := by
  unfold laws_eqIntS.f
  by_cases h : x.length = y.length
  · rw [if_pos (by omega)]
    exact eqIntS_l0 x y h hl x.length k 0 (by omega) hk (by omega)
  · rw [if_neg (by omega)]
    have : x ≠ y := fun e => h (by rw [e])
    simp [this]
theorem szByteS_eq (l : List Int) (a : Int) (hl : l.length ≤ 9223372036854775807) (h0 : 0 ≤ a) (h1 : a ≤ 9223372036854775807) : laws_szByteS.f l a = some (if a < l.length then -1 else a - l.length) := by
  unfold laws_szByteS.f
  rw [w64 (by omega) (by omega)]
  by_cases h : a < l.length
  · rw [if_pos (by omega), if_pos h]
  · rw [if_neg (by omega), if_neg h]
theorem szIntS_eq (l : List Int) (a : Int) (hl : l.length ≤ 9223372036854775807) (h0 : 0 ≤ a) (h1 : a ≤ 9223372036854775807) : laws_szIntS.f l a = some (if a < l.length then -1 else a - l.length) := by
  unfold laws_szIntS.f
  rw [w64 (by omega) (by omega)]
  by_cases h : a < l.length
  · rw [if_pos (by omega), if_pos h]
  · rw [if_neg (by omega), if_neg h]
theorem toNor_eq (c w : List Int) (k : Nat) (hc : c.length ≤ 1048576) (hw : w.length ≤ 1048576) (hk : 1048577 ≤ k) : laws_toNor.f k c w = some (c, w) := by
  unfold laws_toNor.f
  rw [toByteS_eq c k (by omega) (by omega), toIntS_eq w k (by omega) (by omega)]
  rfl
theorem eqNor_self (c w : List Int) (k : Nat) (hc : c.length ≤ 1048576) (hw : w.length ≤ 1048576) (hk : 1048577 ≤ k) : laws_eqNor.f k c w c w = some true := by
  unfold laws_eqNor.f
  rw [eqByteS_eq c c k (by omega) (by omega), eqIntS_eq w w k (by omega) (by omega)]
  simp
theorem szNor_eq (c w : List Int) (hc : c.length ≤ 9223372036854775807) (hw : w.length ≤ 9223372036854775807) : ∃ r, laws_szNor.f c w 1048576 = some r ∧ (0 ≤ r → c.length ≤ 1048576 ∧ w.length ≤ 1048576) := by
  unfold laws_szNor.f
  rw [szByteS_eq c 1048576 hc (by omega) (by omega)]
  simp only [Option.bind_some]
  by_cases h : (1048576 : Int) < c.length
  · rw [if_pos h, if_pos (by omega)]
    exact ⟨-1, rfl, by omega⟩
  · rw [if_neg h, if_neg (by omega), szIntS_eq w _ hw (by omega) (by omega)]
    simp only [Option.bind_some]
    by_cases h2 : (1048576 : Int) - c.length < w.length
    · rw [if_pos h2, if_pos (by omega)]
      exact ⟨-1, rfl, by omega⟩
    · rw [if_neg h2, if_neg (by omega)]
      exact ⟨_, rfl, fun _ => by omega⟩
theorem markByteS_l0 (n : Nat) (a : Int) (h0 : 0 ≤ a) (hn : a + n ≤ 9223372036854775807) : ∀ (d k : Nat) (x : List Int) (i : Nat), i + d = n → d < k → x.length = n → (∀ j, j < i → x[j]? = some ((a + (j : Nat)) % 256)) → laws_markByteS.l0 k x (a + (i : Nat)) (i : Int) = some (a + (n : Nat), marks n a) := by
  intro d
  induction d with
  | zero =>
    intro k x i hd hk hx hj
    obtain ⟨k, rfl⟩ := succ_of hk
    simp only [laws_markByteS.l0]
    rw [if_neg (by omega)]
    have e : x = marks n a := by
      apply List.ext_getElem?
      intro j
      by_cases h : j < n
      · rw [hj j (by omega), marks_get n a j h]
      · rw [List.getElem?_eq_none (by omega), List.getElem?_eq_none (by rw [marks_length]; omega)]
    obtain rfl : i = n := by omega
    rw [e]
  | succ d ih =>
    intro k x i hd hk hx hj
    obtain ⟨k, rfl⟩ := succ_of hk
    simp only [laws_markByteS.l0]
    rw [if_pos (by omega), if_pos (by omega), w64n (n := n) (by omega) (by omega), w64 (x := a + (i : Nat) + 1) (by omega) (by omega)]
    have e : a + (i : Nat) + 1 = a + ((i + 1 : Nat) : Int) := by omega
    rw [e]
    apply ih k _ (i + 1) (by omega) (by omega) (by simpa using hx)
    intro j hji
    rw [Int.toNat_natCast, List.getElem?_set]
    by_cases h : i = j
    · subst h
      rw [if_pos rfl, if_pos (by omega)]
    · rw [if_neg h]
      exact hj j (by omega)
theorem markByteS_eq (l : List Int) (a : Int) (k : Nat) (h0 : 0 ≤ a) (hn : a + l.length ≤ 9223372036854775807) (hk : l.length < k) : laws_markByteS.f k l a = some (a + (l.length : Nat), marks l.length a) := by
  unfold laws_markByteS.f
  have := markByteS_l0 l.length a h0 hn l.length k l 0 (by omega) hk rfl (by omega)
  rw [show a + ((0 : Nat) : Int) = a by omega] at this
  exact this
theorem markIntS_l0 (n : Nat) (a : Int) (h0 : 0 ≤ a) (hn : a + n ≤ 9223372036854775807) : ∀ (d k : Nat) (x : List Int) (i : Nat), i + d = n → d < k → x.length = n → (∀ j, j < i → x[j]? = some (a + (j : Nat))) → laws_markIntS.l0 k x (a + (i : Nat)) (i : Int) = some (a + (n : Nat), marksI n a) := by
  intro d
  induction d with
  | zero =>
    intro k x i hd hk hx hj
    obtain ⟨k, rfl⟩ := succ_of hk
    simp only [laws_markIntS.l0]
    rw [if_neg (by omega)]
    have e : x = marksI n a := by
      apply List.ext_getElem?
      intro j
      by_cases h : j < n
      · rw [hj j (by omega), marksI_get n a j h]
      · rw [List.getElem?_eq_none (by omega), List.getElem?_eq_none (by rw [marksI_length]; omega)]
    obtain rfl : i = n := by omega
    rw [e]
  | succ d ih =>
    intro k x i hd hk hx hj
    obtain ⟨k, rfl⟩ := succ_of hk
    simp only [laws_markIntS.l0]
    rw [if_pos (by omega), if_pos (by omega), w64n (n := n) (by omega) (by omega), w64 (x := a + (i : Nat) + 1) (by omega) (by omega)]
    have e : a + (i : Nat) + 1 = a + ((i + 1 : Nat) : Int) := by omega
    rw [e]
    apply ih k _ (i + 1) (by omega) (by omega) (by simpa using hx)
    intro j hji
    rw [Int.toNat_natCast, List.getElem?_set]
    by_cases h : i = j
    · subst h
      rw [if_pos rfl, if_pos (by omega)]
    · rw [if_neg h]
      exact hj j (by omega)
theorem markIntS_eq (l : List Int) (a : Int) (k : Nat) (h0 : 0 ≤ a) (hn : a + l.length ≤ 9223372036854775807) (hk : l.length < k) : laws_markIntS.f k l a = some (a + (l.length : Nat), marksI l.length a) := by
  unfold laws_markIntS.f
  have := markIntS_l0 l.length a h0 hn l.length k l 0 (by omega) hk rfl (by omega)
  rw [show a + ((0 : Nat) : Int) = a by omega] at this
  exact this
theorem markNor_some (c w : List Int) (k : Nat) (hc : c.length ≤ 1048576) (hw : w.length ≤ 1048576) (hk : 1048577 ≤ k) : ∃ v, laws_markNor.f k c w 1 = some v ∧ ¬ v.1 < 0 := by
  unfold laws_markNor.f
  rw [markByteS_eq c 1 k (by omega) (by omega) (by omega)]
  simp only [Option.bind_some]
  rw [markIntS_eq w _ k (by omega) (by omega) (by omega)]
  exact ⟨_, rfl, by dsimp only; omega⟩
theorem in_spec (a b c : Int) : spec_l1In.f a b c = some (decide (b ≤ a ∧ a ≤ c)) := by
  unfold spec_l1In.f
  split <;> simp <;> omega
theorem in_impl (a b c : Int) : impl_in.f a b c = some (decide (b ≤ a ∧ a ≤ c)) := by
  unfold impl_in.f
  split <;> simp <;> omega
def norGood (c w : List Int) : Bool := decide (1 ≤ w.length ∧ w.length ≤ 64 ∧ c.length = 64 * w.length) && w.all fun x => decide (0 ≤ x ∧ x ≤ 100000)
theorem norOk_spec (c w : List Int) (k : Nat) (hc : c.length ≤ 9223372036854775807) (hk : 100 ≤ k) : spec_NorOk.f k c w = some (norGood c w) := by
  obtain ⟨m, rfl⟩ : ∃ m, k = m + 1 := ⟨k - 1, by omega⟩
  unfold spec_NorOk.f norGood
  simp only [in_spec, Option.bind_some, decide_eq_true_eq, spec_NorOk.j0]
  by_cases h1 : 1 ≤ (w.length : Int) ∧ (w.length : Int) ≤ 64
  · rw [if_pos h1, w64 (x := 64 * (w.length : Int)) (by omega) (by omega)]
    by_cases h2 : c.length = 64 * w.length
    · have e : ((c.length : Int) != 64 * (w.length : Int)) = false := by rw [bne_eq_false_iff_eq]; omega
      rw [e, if_neg (by simp)]
      have h := loop_all w.length (fun k i => spec_NorOk.l0 k i c w) (fun i => decide (0 ≤ w.getD i 0 ∧ w.getD i 0 ≤ 100000)) true false (by
        intro k i hi hki
        simp only [spec_NorOk.l0, in_spec, rd_nat, Option.bind_some]
        rw [if_pos (by omega), if_pos (by omega), w64n (n := w.length) hi (by omega)]) (by
        intro k
        simp only [spec_NorOk.l0]
        rw [if_neg (by omega)]) m (by omega)
      try dsimp only at h
      rw [h, all_range_get w (fun x => decide (0 ≤ x ∧ x ≤ 100000)) _ (fun i hi => by simp [List.getElem?_eq_getElem hi]), decide_eq_true (show 1 ≤ w.length ∧ w.length ≤ 64 ∧ c.length = 64 * w.length by omega)]
      cases w.all fun x => decide (0 ≤ x ∧ x ≤ 100000) <;> rfl
    · have e : ((c.length : Int) != 64 * (w.length : Int)) = true := by rw [bne_iff_ne]; omega
      rw [e, if_pos rfl, decide_eq_false (show ¬ (1 ≤ w.length ∧ w.length ≤ 64 ∧ c.length = 64 * w.length) by omega)]
      rfl
  · rw [if_neg h1, if_pos (by simp), decide_eq_false (show ¬ (1 ≤ w.length ∧ w.length ≤ 64 ∧ c.length = 64 * w.length) by omega)]
    rfl
theorem norOk_impl (c w : List Int) (k : Nat) (hc : c.length ≤ 9223372036854775807) (hk : 100 ≤ k) : impl_isNor.f k c w = some (norGood c w) := by
  unfold impl_isNor.f norGood
  simp only [in_impl, Option.bind_some, decide_eq_true_eq]
  by_cases h1 : 1 ≤ (w.length : Int) ∧ (w.length : Int) ≤ 64
  · rw [if_pos h1, w64 (x := 64 * (w.length : Int)) (by omega) (by omega)]
    by_cases h2 : c.length = 64 * w.length
    · rw [if_pos (by omega), decide_eq_true (show 1 ≤ w.length ∧ w.length ≤ 64 ∧ c.length = 64 * w.length by omega)]
      unfold slices_ContainsFunc_F124.f slices_IndexFunc_F124.f
      obtain ⟨r, g1, _, _, g2, _⟩ := loop_find w.length (fun k i => slices_IndexFunc_F124.l0 k w (w.length : Int) i) (fun i => !decide (0 ≤ w.getD i 0 ∧ w.getD i 0 ≤ 100000)) (by
        intro k i hi hki
        simp only [slices_IndexFunc_F124.l0, impl_isNor_1.f, in_impl, rd_nat]
        rw [if_pos (by omega), if_pos (by omega), if_pos (by omega), w64n (n := w.length) hi (by omega)]
        rfl) (by
        intro k
        simp only [slices_IndexFunc_F124.l0]
        rw [if_neg (by omega)]) k (by omega)
      try dsimp only at g1
      rw [g1]
      simp only [Option.bind_some]
      rw [g2, any_range_get w (fun x => !decide (0 ≤ x ∧ x ≤ 100000)) _ (fun i hi => by simp [List.getElem?_eq_getElem hi])]
      rw [List.all_eq_not_any_not, Bool.true_and]
    · rw [if_neg (by omega), decide_eq_false (show ¬ (1 ≤ w.length ∧ w.length ≤ 64 ∧ c.length = 64 * w.length) by omega)]
      rfl
  · rw [if_neg h1, decide_eq_false (show ¬ (1 ≤ w.length ∧ w.length ≤ 64 ∧ c.length = 64 * w.length) by omega)]
    rfl
def devGood (c w : List Int) : Bool := norGood c w && decide (w.length = 46)
theorem dev_spec (c w : List Int) (k : Nat) (hc : c.length ≤ 9223372036854775807) (hk : 100 ≤ k) : spec_l11Device.f k c w = some (devGood c w) := by
  unfold spec_l11Device.f devGood
  rw [norOk_spec c w k hc hk]
  simp only [Option.bind_some]
  cases norGood c w with
  | true =>
    rw [if_pos rfl]
    congr 1
    rw [Bool.true_and, Bool.eq_iff_iff, beq_iff_eq, decide_eq_true_eq]
    omega
  | false => rfl
theorem dev_impl (c w : List Int) (k : Nat) (hc : c.length ≤ 9223372036854775807) (hk : 100 ≤ k) : impl_isDevice.f k c w = some (devGood c w) := by
  unfold impl_isDevice.f devGood
  rw [norOk_impl c w k hc hk]
  simp only [Option.bind_some]
  cases norGood c w with
  | true =>
    rw [if_pos rfl]
    congr 1
    rw [Bool.true_and, Bool.eq_iff_iff, beq_iff_eq, decide_eq_true_eq]
    omega
  | false => rfl
theorem dev_len {c w : List Int} (h : devGood c w = true) : c.length = 2944 ∧ w.length = 46 := by
  simp only [devGood, norGood, Bool.and_eq_true, decide_eq_true_eq] at h
  omega
/-- The first bytes of a slot. -/
def slotB (c : List Int) (s n : Int) : List Int := (c.take (s * 1024 + n).toNat).drop (s * 1024).toNat
theorem slotBytes_impl (c w : List Int) (s n : Int) (hc : c.length = 2944) (hs : 0 ≤ s ∧ s ≤ 1) (hn : 0 ≤ n ∧ n ≤ 1024) : impl_slotBytes.f c w s n = some (slotB c s n) := by
  unfold impl_slotBytes.f
  have e1 : wrap64 ((wrap64 (s * 16)) * 64) = s * 1024 := by
    rw [w64 (x := s * 16) (by omega) (by omega), w64 (by omega) (by omega)]; omega
  have e2 : wrap64 (s * 1024 + n) = s * 1024 + n := w64 (by omega) (by omega)
  rw [e1, e2, if_pos (by omega), if_pos (by omega), if_pos (by omega)]
  unfold slices_Clone_byte_byte.f
  rw [if_pos (by simp; omega)]
  rfl
theorem slotBytes_both (c w : List Int) (s n : Int) (k : Nat) (hc : c.length ≤ 9223372036854775807) (hk : 100 ≤ k) : ∃ l b, spec_SlotBytes.f k c w s n = some (l, b) ∧ impl_SlotBytes.f k c w s n = some (l, b) ∧ l.length ≤ 1024 := by
  unfold spec_SlotBytes.f impl_SlotBytes.f
  rw [dev_spec c w k hc hk, dev_impl c w k hc hk]
  simp only [Option.bind_some, in_spec, in_impl, decide_eq_true_eq]
  cases hd : devGood c w with
  | false => exact ⟨[], false, rfl, rfl, by simp⟩
  | true =>
    have hl := dev_len hd
    rw [if_pos rfl, if_pos rfl]
    by_cases hs : 0 ≤ s ∧ s ≤ 1
    · rw [if_pos hs, if_pos hs]
      by_cases hn : 0 ≤ n ∧ n ≤ 1024
      · rw [if_pos hn, if_pos hn, slotBytes_impl c w s n hl.1 hs hn]
        have e1 : wrap64 (s * 1024) = s * 1024 := w64 (by omega) (by omega)
        have e2 : wrap64 (s * 1024 + n) = s * 1024 + n := w64 (by omega) (by omega)
        rw [e1, e2, if_pos (by omega), if_pos (by omega), if_pos (by omega), if_pos (by simp; omega)]
        exact ⟨_, _, rfl, rfl, by simp [slotB]; omega⟩
      · rw [if_neg hn, if_neg hn]
        exact ⟨[], false, rfl, rfl, by simp⟩
    · rw [if_neg hs, if_neg hs]
      exact ⟨[], false, rfl, rfl, by simp⟩
theorem heldByteS_l0 (n : Nat) (a : Int) (h0 : 0 ≤ a) (hn : a + n ≤ 9223372036854775807) : ∀ (d k : Nat) (i : Nat), i + d = n → d < k → laws_heldByteS.l0 k (marks n a) (a + (i : Nat)) (i : Int) = some (a + (n : Nat)) := by
  intro d
  induction d with
  | zero =>
    intro k i hd hk
    obtain ⟨k, rfl⟩ := succ_of hk
    simp only [laws_heldByteS.l0]
    rw [if_neg (by rw [marks_length]; omega)]
    obtain rfl : i = n := by omega
    rfl
  | succ d ih =>
    intro k i hd hk
    obtain ⟨k, rfl⟩ := succ_of hk
    simp only [laws_heldByteS.l0]
    have hr : rd (marks n a) (i : Int) = (a + (i : Nat)) % 256 := by
      rw [rd_nat, List.getD_eq_getElem?_getD, marks_get n a i (by omega)]
      rfl
    rw [if_pos (by rw [marks_length]; omega), if_pos (by omega), if_pos hr, w64n (n := n) (by omega) (by omega), w64 (x := a + (i : Nat) + 1) (by omega) (by omega)]
    have e : a + (i : Nat) + 1 = a + ((i + 1 : Nat) : Int) := by omega
    rw [e]
    exact ih k (i + 1) (by omega) (by omega)
theorem heldByteS_eq (n : Nat) (a : Int) (k : Nat) (h0 : 0 ≤ a) (hn : a + n ≤ 9223372036854775807) (hk : n < k) : laws_heldByteS.f k (marks n a) a = some (a + (n : Nat)) := by
  unfold laws_heldByteS.f
  have := heldByteS_l0 n a h0 hn n k 0 (by omega) hk
  rw [show a + ((0 : Nat) : Int) = a by omega] at this
  exact this
theorem holds : laws_FnExactSlotBytes.PureR := by
  intro c w s n hc hw hs hn
  obtain ⟨K, hK⟩ : ∃ K : Nat, 4000000 ≤ K := ⟨_, Nat.le_refl _⟩
  obtain ⟨m, rfl⟩ : ∃ m, K = m + 3 := ⟨K - 3, by omega⟩
  refine ⟨m + 3, ?_⟩
  unfold laws_FnExactSlotBytes.f
  obtain ⟨r, h, hr⟩ := szNor_eq c w hc.1 hw.1
  rw [h]
  simp only [Option.bind_some]
  by_cases h0 : r < 0
  · rw [if_pos h0]
  · rw [if_neg h0]
    obtain ⟨h1, h2⟩ := hr (by omega)
    obtain ⟨l, b, g1, g2, g3⟩ := slotBytes_both c w s n (m + 3) hc.1 (by omega)
    have g2' : impl_SlotBytes.f (m + 1) c w s n = some (l, b) := by
      obtain ⟨l', b', g1', g2', _⟩ := slotBytes_both c w s n (m + 1) hc.1 (by omega)
      have := at_rounds (fun k => impl_SlotBytes.mono _ _ _ _ k) (show m + 1 ≤ m + 3 by omega) g2'
      rw [g2'] ; exact this.symm.trans g2
    obtain ⟨v, g4, g5⟩ := markNor_some c w (m + 2) h1 h2 (by omega)
    rw [toNor_eq c w (m + 3) h1 h2 (by omega)]
    simp only [Option.bind_some, g1, g2]
    rw [eqByteS_eq l l (m + 3) (by omega) (by omega)]
    simp only [Option.bind_some, decide_true, if_true, bne_self_eq_false]
    rw [show m + 3 = (m + 2) + 1 from rfl]
    simp only [laws_FnExactSlotBytes.j0]
    rw [if_neg (by simp), toNor_eq c w (m + 2) h1 h2 (by omega)]
    simp only [Option.bind_some]
    rw [eqNor_self c w (m + 2) h1 h2 (by omega)]
    simp only [Option.bind_some, if_true]
    rw [g4]
    simp only [Option.bind_some]
    rw [if_neg g5, eqByteS_eq l l (m + 2) (by omega) (by omega)]
    simp only [Option.bind_some, decide_true, if_true]
    rw [show m + 2 = (m + 1) + 1 from rfl]
    simp only [laws_FnExactSlotBytes.j1]
    rw [if_neg (by simp), markByteS_eq l 1 (m + 1) (by omega) (by omega) (by omega)]
    simp only [Option.bind_some]
    rw [heldByteS_eq l.length 1 (m + 1) (by omega) (by omega) (by omega)]
    simp only [Option.bind_some]
    rw [if_neg (by omega)]
    simp only [if_true]
    rw [toNor_eq c w (m + 1) h1 h2 (by omega)]
    simp only [Option.bind_some, g2']
    rw [eqByteS_eq l l (m + 1) (by omega) (by omega)]
    simp only [Option.bind_some, decide_true, if_true, bne_self_eq_false]
    simp only [laws_FnExactSlotBytes.j2]
    rw [if_neg (by simp), heldByteS_eq l.length 1 m (by omega) (by omega) (by omega)]
    simp only [Option.bind_some]
    rw [if_neg (by omega)]
    simp
end Go.Proofs.Ytldlpoloanmohaa.Pure.FnExactSlotBytes
namespace Go.Proofs.Ytldlpoloanmohaa.Pure
theorem FnExactSlotBytes : Go.Proofs.Ytldlpoloanmohaa.PFnExactSlotBytes.laws_FnExactSlotBytes.PureR := FnExactSlotBytes.holds
end Go.Proofs.Ytldlpoloanmohaa.Pure
