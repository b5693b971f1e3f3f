/- The pure statement of the law FnExactGetFrame, proved: numbers and lists alone, no memory. It holds for all arguments that can be read. -/
import Derived.Test.YtldlpoloanmohaaDFnExactGetFrame
import Derived.Test.YtldlpoloanmohaaPlain
set_option linter.unusedVariables false
set_option linter.unusedSimpArgs false
namespace Go.Proofs.Ytldlpoloanmohaa.Pure.FnExactGetFrame
open Go.RowKit Go.Proofs.Ytldlpoloanmohaa.PFnExactGetFrame Go.Proofs.YtldlpoloanmohaaW.PrintWords Go.Proofs.YtldlpoloanmohaaW.PrintLast Go.Proofs.Ytldlpoloanmohaa.Plain

theorem toByteS_l0 (l : List Int) (hl : l.length ≤ 9223372036854775807) : ∀ (d k : Nat) (x : List Int) (i : Nat), i + d = l.length → d < k → x.length = l.length → (∀ j, j < i → x[j]? = l[j]?) → laws_toByteS.l0 k l x (i : Int) = some l := by
  intro d
  induction d with
  | zero =>
    intro k x i hd hk hx hj
    obtain ⟨k, rfl⟩ := succ_of hk
    simp only [laws_toByteS.l0]
    rw [if_neg (by omega)]
    congr 1
    apply List.ext_getElem?
    intro j
    by_cases h : j < i
    · exact hj j h
    · rw [List.getElem?_eq_none (by omega), List.getElem?_eq_none (by omega)]
  | succ d ih =>
    intro k x i hd hk hx hj
    obtain ⟨k, rfl⟩ := succ_of hk
    simp only [laws_toByteS.l0]
    rw [if_pos (by omega), if_pos (by omega), if_pos (by omega), w64n (n := l.length) (by omega) hl]
    apply ih k _ (i + 1) (by omega) (by omega) (by simpa using hx)
    intro j hji
    simp only [Int.toNat_natCast, rd_nat]
    rw [List.getElem?_set]
    by_cases h : i = j
    · subst h
      rw [if_pos rfl, if_pos (by omega), List.getElem?_eq_getElem (by omega)]
      simp [List.getElem?_eq_getElem (show i < l.length by omega)]
    · rw [if_neg h]
      exact hj j (by omega)
theorem toByteS_eq (l : List Int) (k : Nat) (hl : l.length ≤ 281474976710656) (hk : l.length < k) : laws_toByteS.f k l = some l := by
  unfold laws_toByteS.f
  rw [if_pos (by omega), if_pos (by simpa using hl)]
  exact toByteS_l0 l (by omega) l.length k _ 0 (by omega) hk (by simp) (by omega)
theorem eqByteS_l0 (x y : List Int) (hxy : x.length = y.length) (hl : x.length ≤ 9223372036854775807) : ∀ (d k : Nat) (i : Nat), i + d = x.length → d < k → (∀ j, j < i → x[j]? = y[j]?) → laws_eqByteS.l0 k x y (i : Int) = some (decide (x = y)) := by
  intro d
  induction d with
  | zero =>
    intro k i hd hk hj
    obtain ⟨k, rfl⟩ := succ_of hk
    simp only [laws_eqByteS.l0]
    rw [if_neg (by omega)]
    have : x = y := by
      apply List.ext_getElem?
      intro j
      by_cases h : j < i
      · exact hj j h
      · rw [List.getElem?_eq_none (by omega), List.getElem?_eq_none (by omega)]
    simp [this]
  | succ d ih =>
    intro k i hd hk hj
    obtain ⟨k, rfl⟩ := succ_of hk
    simp only [laws_eqByteS.l0]
    rw [if_pos (by omega), if_pos (by omega), if_pos (by omega), w64n (n := x.length) (by omega) hl]
    simp only [rd_nat]
    have hx : x[i]? = some (x.getD i 0) := by simp [List.getElem?_eq_getElem (show i < x.length by omega)]
    have hy : y[i]? = some (y.getD i 0) := by simp [List.getElem?_eq_getElem (show i < y.length by omega)]
    by_cases h : x.getD i 0 = y.getD i 0
    · rw [if_pos h]
      apply ih k (i + 1) (by omega) (by omega)
      intro j hji
      by_cases e : j = i
      · subst e
        rw [hx, hy, h]
      · exact hj j (by omega)
    · rw [if_neg h]
      have : x ≠ y := fun e => h (by rw [e])
      simp [this]
theorem eqByteS_eq (x y : List Int) (k : Nat) (hl : x.length ≤ 9223372036854775807) (hk : x.length < k) : laws_eqByteS.f k x y = some (decide (x = y)) := by
  unfold laws_eqByteS.f
  by_cases h : x.length = y.length
  · rw [if_pos (by omega)]
    exact eqByteS_l0 x y h hl x.length k 0 (by omega) hk (by omega)
  · rw [if_neg (by omega)]
    have : x ≠ y := fun e => h (by rw [e])
    simp [this]
theorem markByteS_l0 (n : Nat) (a : Int) (h0 : 0 ≤ a) (hn : a + n ≤ 9223372036854775807) : ∀ (d k : Nat) (x : List Int) (i : Nat), i + d = n → d < k → x.length = n → (∀ j, j < i → x[j]? = some ((a + (j : Nat)) % 256)) → laws_markByteS.l0 k x (a + (i : Nat)) (i : Int) = some (a + (n : Nat), marks n a) := by
  intro d
  induction d with
  | zero =>
    intro k x i hd hk hx hj
    obtain ⟨k, rfl⟩ := succ_of hk
    simp only [laws_markByteS.l0]
    rw [if_neg (by omega)]
    have e : x = marks n a := by
      apply List.ext_getElem?
      intro j
      by_cases h : j < n
      · rw [hj j (by omega), marks_get n a j h]
      · rw [List.getElem?_eq_none (by omega), List.getElem?_eq_none (by rw [marks_length]; omega)]
    obtain rfl : i = n := by omega
    rw [e]
  | succ d ih =>
    intro k x i hd hk hx hj
    obtain ⟨k, rfl⟩ := succ_of hk
    simp only [laws_markByteS.l0]
    rw [if_pos (by omega), if_pos (by omega), w64n (n := n) (by omega) (by omega), w64 (x := a + (i : Nat) + 1) (by omega) (by omega)]
    have e : a + (i : Nat) + 1 = a + ((i + 1 : Nat) : Int) := by omega
    rw [e]
    apply ih k _ (i + 1) (by omega) (by omega) (by simpa using hx)
    intro j hji
    rw [Int.toNat_natCast, List.getElem?_set]
    by_cases h : i = j
    · subst h
      rw [if_pos rfl, if_pos (by omega)]
    · rw [if_neg h]
      exact hj j (by omega)
theorem markByteS_eq (l : List Int) (a : Int) (k : Nat) (h0 : 0 ≤ a) (hn : a + l.length ≤ 9223372036854775807) (hk : l.length < k) : laws_markByteS.f k l a = some (a + (l.length : Nat), marks l.length a) := by
  unfold laws_markByteS.f
  have := markByteS_l0 l.length a h0 hn l.length k l 0 (by omega) hk rfl (by omega)
  rw [show a + ((0 : Nat) : Int) = a by omega] at this
  exact this
theorem heldByteS_l0 (n : Nat) (a : Int) (h0 : 0 ≤ a) (hn : a + n ≤ 9223372036854775807) : ∀ (d k : Nat) (i : Nat), i + d = n → d < k → laws_heldByteS.l0 k (marks n a) (a + (i : Nat)) (i : Int) = some (a + (n : Nat)) := by
  intro d
  induction d with
  | zero =>
    intro k i hd hk
    obtain ⟨k, rfl⟩ := succ_of hk
    simp only [laws_heldByteS.l0]
    rw [if_neg (by rw [marks_length]; omega)]
    obtain rfl : i = n := by omega
    rfl
  | succ d ih =>
    intro k i hd hk
    obtain ⟨k, rfl⟩ := succ_of hk
    simp only [laws_heldByteS.l0]
    have hr : rd (marks n a) (i : Int) = (a + (i : Nat)) % 256 := by
      rw [rd_nat, List.getD_eq_getElem?_getD, marks_get n a i (by omega)]
      rfl
    rw [if_pos (by rw [marks_length]; omega), if_pos (by omega), if_pos hr, w64n (n := n) (by omega) (by omega), w64 (x := a + (i : Nat) + 1) (by omega) (by omega)]
    have e : a + (i : Nat) + 1 = a + ((i + 1 : Nat) : Int) := by omega
    rw [e]
    exact ih k (i + 1) (by omega) (by omega)
theorem heldByteS_eq (n : Nat) (a : Int) (k : Nat) (h0 : 0 ≤ a) (hn : a + n ≤ 9223372036854775807) (hk : n < k) : laws_heldByteS.f k (marks n a) a = some (a + (n : Nat)) := by
  unfold laws_heldByteS.f
  have := heldByteS_l0 n a h0 hn n k 0 (by omega) hk
  rw [show a + ((0 : Nat) : Int) = a by omega] at this
  exact this
theorem in_eq (a b c : Int) : spec_l1In.f a b c = some (decide (b ≤ a ∧ a ≤ c)) := by
  unfold spec_l1In.f
  split <;> simp <;> omega
theorem in_eq' (a b c : Int) : impl_in.f a b c = some (decide (b ≤ a ∧ a ≤ c)) := in_eq a b c
theorem frame_eq (a b c : Int) (l : List Int) : spec_FrameOk.f a b c l = some (decide ((1 ≤ a ∧ a ≤ 4) ∧ (1 ≤ b ∧ b ≤ 2147483647) ∧ (0 ≤ c ∧ c ≤ 2147483647) ∧ l.length ≤ 48 ∧ (a = 2 ∨ l.length = 0))) := by
  unfold spec_FrameOk.f
  simp only [in_eq, Option.bind_some, decide_eq_true_eq]
  repeat' split
  all_goals (congr 1; rw [Bool.eq_iff_iff]; simp only [beq_iff_eq, decide_eq_true_eq, true_iff, false_iff, Bool.false_eq_true]; omega)
theorem frame_eq' (a b c : Int) (l : List Int) : impl_isFrame.f a b c l = some (decide ((1 ≤ a ∧ a ≤ 4) ∧ (1 ≤ b ∧ b ≤ 2147483647) ∧ (0 ≤ c ∧ c ≤ 2147483647) ∧ l.length ≤ 48 ∧ (a = 2 ∨ l.length = 0))) := by
  unfold impl_isFrame.f
  simp only [in_eq', Option.bind_some, decide_eq_true_eq]
  repeat' split
  all_goals (congr 1; rw [Bool.eq_iff_iff]; simp only [beq_iff_eq, decide_eq_true_eq, true_iff, false_iff, Bool.false_eq_true]; omega)
theorem bxor_i64 (a b : Nat) (ha : a < 4294967296) (hb : b < 4294967296) : Go.bits .xor .i64 (a : Int) (b : Int) = ((a ^^^ b : Nat) : Int) := by
  have hx : a ^^^ b < 2 ^ 32 := Nat.xor_lt_two_pow ha hb
  have e1 : (BitVec.ofInt 64 (a : Int) ^^^ BitVec.ofInt 64 (b : Int)).toNat = a ^^^ b := by
    rw [BitVec.ofInt_natCast, BitVec.ofInt_natCast, BitVec.toNat_xor, BitVec.toNat_ofNat, BitVec.toNat_ofNat, Nat.mod_eq_of_lt (by omega), Nat.mod_eq_of_lt (by omega)]
  have e2 : Go.bits .xor .i64 (a : Int) (b : Int) = IntKind.i64.wrap (((BitVec.ofInt 64 (a : Int) ^^^ BitVec.ofInt 64 (b : Int)).toNat : Nat) : Int) := rfl
  rw [e2, e1, IntKind.wrap_i64]
  omega
theorem bxor_u32 (a b : Nat) (ha : a < 4294967296) (hb : b < 4294967296) : Go.bits .xor .u32 (a : Int) (b : Int) = ((a ^^^ b : Nat) : Int) := by
  have hx : a ^^^ b < 2 ^ 32 := Nat.xor_lt_two_pow ha hb
  have e1 : (BitVec.ofInt 32 (a : Int) ^^^ BitVec.ofInt 32 (b : Int)).toNat = a ^^^ b := by
    rw [BitVec.ofInt_natCast, BitVec.ofInt_natCast, BitVec.toNat_xor, BitVec.toNat_ofNat, BitVec.toNat_ofNat, Nat.mod_eq_of_lt (by omega), Nat.mod_eq_of_lt (by omega)]
  have e2 : Go.bits .xor .u32 (a : Int) (b : Int) = IntKind.u32.wrap (((BitVec.ofInt 32 (a : Int) ^^^ BitVec.ofInt 32 (b : Int)).toNat : Nat) : Int) := rfl
  rw [e2, e1, IntKind.wrap_u32]
  omega
theorem band1_u32 (a : Nat) (ha : a < 4294967296) : Go.bits .and .u32 (a : Int) 1 = ((a % 2 : Nat) : Int) := by
  have e := bits_mask .u32 32 (by decide) (fun n h0 h1 => by rw [IntKind.wrap_u32]; omega) 1 (by decide) (a : Int) (by omega) (by omega)
  simpa using e
def crc8 : Nat → Nat → Nat
  | 0, x => x
  | d + 1, x => crc8 d (if x % 2 = 1 then (x / 2) ^^^ 3988292384 else x / 2)
theorem crc_step_lt (x : Nat) (hx : x < 4294967296) : (if x % 2 = 1 then (x / 2) ^^^ 3988292384 else x / 2) < 4294967296 := by
  split
  · exact Nat.xor_lt_two_pow (n := 32) (by omega) (by omega)
  · omega
theorem crc8_lt : ∀ (d x : Nat), x < 4294967296 → crc8 d x < 4294967296
  | 0, _, h => h
  | d + 1, x, h => crc8_lt d _ (crc_step_lt x h)
def crcAll : List Int → Nat → Nat
  | [], x => x
  | c :: l, x => crcAll l (crc8 8 (x ^^^ c.toNat))
theorem crcAll_lt : ∀ (l : List Int) (x : Nat), Byt l → x < 4294967296 → crcAll l x < 4294967296
  | [], _, _, h => h
  | c :: l, x, hb, h => crcAll_lt l _ (fun y hy => hb y (by simp [hy])) (crc8_lt 8 _ (Nat.xor_lt_two_pow (n := 32) (by omega) (by have := hb c (by simp); omega)))
def crcOf (l : List Int) : Int := ((crcAll l 4294967295 ^^^ 4294967295 : Nat) : Int)
theorem crcOf_range (l : List Int) (hb : Byt l) : 0 ≤ crcOf l ∧ crcOf l < 4294967296 := by
  have : crcAll l 4294967295 ^^^ 4294967295 < 2 ^ 32 := Nat.xor_lt_two_pow (crcAll_lt l _ hb (by omega)) (by omega)
  unfold crcOf
  omega
theorem spec_crc_l1 (l : List Int) (i : Int) : ∀ (d k x j : Nat), j + d = 8 → x < 4294967296 → spec_Crc.l1 (k + d + 1) l (x : Int) i (j : Int) = spec_Crc.l0 k l (crc8 d x : Nat) (wrap64 (i + 1)) := by
  intro d
  induction d with
  | zero =>
    intro k x j hj hx
    simp only [Nat.add_zero, spec_Crc.l1]
    rw [if_neg (by omega)]
    rfl
  | succ d ih =>
    intro k x j hj hx
    obtain ⟨m, hm⟩ : ∃ m, k + d + 1 = m := ⟨_, rfl⟩
    rw [show k + (d + 1) + 1 = m + 1 by omega]
    simp only [spec_Crc.l1]
    have e1 : Int.tmod (x : Int) 2 = ((x % 2 : Nat) : Int) := by rw [Int.tmod_eq_emod_of_nonneg (by omega)]; omega
    have e2 : wrap64 (Int.tdiv (x : Int) 2) = ((x / 2 : Nat) : Int) := by rw [Int.tdiv_eq_ediv_of_nonneg (by omega), w64 (by omega) (by omega)]; omega
    have e3 : wrap64 ((j : Int) + 1) = ((j + 1 : Nat) : Int) := by rw [w64 (by omega) (by omega)]; omega
    rw [if_pos (by omega), e1, e2, e3]
    have hlt := crc_step_lt x hx
    by_cases ho : x % 2 = 1
    · rw [if_pos (by omega), show (3988292384 : Int) = ((3988292384 : Nat) : Int) from rfl, bxor_i64 _ _ (by omega) (by omega)]
      rw [if_pos ho] at hlt
      rw [← hm, ih k _ (j + 1) (by omega) hlt]
      simp only [crc8, if_pos ho]
    · rw [if_neg (by omega)]
      rw [if_neg ho] at hlt
      rw [← hm, ih k _ (j + 1) (by omega) hlt]
      simp only [crc8, if_neg ho]
theorem impl_crc_l1 (l : List Int) (n i : Int) : ∀ (d k x j : Nat), j + d = 8 → x < 4294967296 → impl_Crc.l1 (k + d + 1) (x : Int) l n i (j : Int) = impl_Crc.l0 k (crc8 d x : Nat) l n (wrap64 (i + 1)) := by
  intro d
  induction d with
  | zero =>
    intro k x j hj hx
    simp only [Nat.add_zero, impl_Crc.l1]
    rw [if_neg (by omega)]
    rfl
  | succ d ih =>
    intro k x j hj hx
    obtain ⟨m, hm⟩ : ∃ m, k + d + 1 = m := ⟨_, rfl⟩
    rw [show k + (d + 1) + 1 = m + 1 by omega]
    simp only [impl_Crc.l1]
    have e2 : (x : Int) / 2 = ((x / 2 : Nat) : Int) := by omega
    have e3 : wrap64 ((j : Int) + 1) = ((j + 1 : Nat) : Int) := by rw [w64 (by omega) (by omega)]; omega
    rw [if_pos (by omega), band1_u32 x hx, e2, e3]
    have hlt := crc_step_lt x hx
    by_cases ho : x % 2 = 1
    · rw [if_pos (by omega), show (3988292384 : Int) = ((3988292384 : Nat) : Int) from rfl, bxor_u32 _ _ (by omega) (by omega)]
      rw [if_pos ho] at hlt
      rw [← hm, ih k _ (j + 1) (by omega) hlt]
      simp only [crc8, if_pos ho]
    · rw [if_neg (by omega)]
      rw [if_neg ho] at hlt
      rw [← hm, ih k _ (j + 1) (by omega) hlt]
      simp only [crc8, if_neg ho]
theorem crc_round (l : List Int) (hb : Byt l) (i : Nat) (hi : i < l.length) : ∃ c : Nat, rd l (i : Int) = (c : Int) ∧ c < 256 ∧ ∀ x, crcAll (l.drop i) x = crcAll (l.drop (i + 1)) (crc8 8 (x ^^^ c)) := by
  have h := hb.get i hi
  refine ⟨(l[i]).toNat, by rw [rd_lt l i hi]; omega, by omega, fun x => ?_⟩
  rw [List.drop_eq_getElem_cons hi]
  rfl
theorem spec_crc_l0 (l : List Int) (hb : Byt l) (hl : l.length < 9223372036854775807) : ∀ (d k x i : Nat), i + d = l.length → x < 4294967296 → spec_Crc.l0 (k + 10 * d + 1) l (x : Int) (i : Int) = some ((crcAll (l.drop i) x ^^^ 4294967295 : Nat) : Int) := by
  intro d
  induction d with
  | zero =>
    intro k x i hi hx
    simp only [Nat.mul_zero, Nat.add_zero, spec_Crc.l0]
    rw [if_neg (by omega), List.drop_eq_nil_of_le (by omega), show (4294967295 : Int) = ((4294967295 : Nat) : Int) from rfl, bxor_i64 x _ hx (by omega)]
    rfl
  | succ d ih =>
    intro k x i hi hx
    obtain ⟨c, h1, h2, h3⟩ := crc_round l hb i (by omega)
    rw [show k + 10 * (d + 1) + 1 = ((k + 10 * d + 1) + 8 + 1) + 1 by omega]
    simp only [spec_Crc.l0]
    rw [if_pos (by omega), if_pos (by omega), h1, w64 (x := (c : Int)) (by omega) (by omega), bxor_i64 x c hx (by omega)]
    have hxc : x ^^^ c < 4294967296 := Nat.xor_lt_two_pow (n := 32) (by omega) (by omega)
    have e := spec_crc_l1 l (i : Int) 8 (k + 10 * d + 1) (x ^^^ c) 0 (by omega) hxc
    rw [show ((0 : Nat) : Int) = 0 from rfl] at e
    rw [e, w64n (n := l.length) (by omega) (by omega), ih k _ (i + 1) (by omega) (crc8_lt 8 _ hxc), h3]
theorem impl_crc_l0 (l : List Int) (hb : Byt l) (hl : l.length < 9223372036854775807) : ∀ (d k x i : Nat), i + d = l.length → x < 4294967296 → impl_Crc.l0 (k + 10 * d + 1) (x : Int) l (l.length : Int) (i : Int) = some ((crcAll (l.drop i) x ^^^ 4294967295 : Nat) : Int) := by
  intro d
  induction d with
  | zero =>
    intro k x i hi hx
    simp only [Nat.mul_zero, Nat.add_zero, impl_Crc.l0]
    have hlt : x ^^^ 4294967295 < 2 ^ 32 := Nat.xor_lt_two_pow (by omega) (by omega)
    rw [if_neg (by omega), List.drop_eq_nil_of_le (by omega), show (4294967295 : Int) = ((4294967295 : Nat) : Int) from rfl, bxor_u32 _ x (by omega) hx, Nat.xor_comm, w64 (by omega) (by omega)]
    rfl
  | succ d ih =>
    intro k x i hi hx
    obtain ⟨c, h1, h2, h3⟩ := crc_round l hb i (by omega)
    rw [show k + 10 * (d + 1) + 1 = ((k + 10 * d + 1) + 8 + 1) + 1 by omega]
    simp only [impl_Crc.l0]
    rw [if_pos (by omega), if_pos (by omega), if_pos (by omega), h1, show (c : Int) % 4294967296 = (c : Int) by omega, bxor_u32 x c hx (by omega)]
    have hxc : x ^^^ c < 4294967296 := Nat.xor_lt_two_pow (n := 32) (by omega) (by omega)
    have e := impl_crc_l1 l (l.length : Int) (i : Int) 8 (k + 10 * d + 1) (x ^^^ c) 0 (by omega) hxc
    rw [show ((0 : Nat) : Int) = 0 from rfl] at e
    rw [e, w64n (n := l.length) (by omega) (by omega), ih k _ (i + 1) (by omega) (crc8_lt 8 _ hxc), h3]
theorem crc_spec (l : List Int) (hb : Byt l) (hl : l.length < 9223372036854775807) (k : Nat) (hk : 10 * l.length < k) : spec_Crc.f k l = some (crcOf l) := by
  have e := spec_crc_l0 l hb hl l.length (k - 10 * l.length - 1) 4294967295 0 (by omega) (by omega)
  rw [show k - 10 * l.length - 1 + 10 * l.length + 1 = k by omega] at e
  exact e
theorem crc_impl (l : List Int) (hb : Byt l) (hl : l.length < 9223372036854775807) (k : Nat) (hk : 10 * l.length < k) : impl_Crc.f k l = some (crcOf l) := by
  have e := impl_crc_l0 l hb hl l.length (k - 10 * l.length - 1) 4294967295 0 (by omega) (by omega)
  rw [show k - 10 * l.length - 1 + 10 * l.length + 1 = k by omega] at e
  exact e
/-- A number's bytes, seven bits each. -/
def varb : Nat → Int → List Int
  | 0, n => [n % 256]
  | d + 1, n => if n < 128 then [n % 256] else ((n % 128 + 128) % 256) :: varb d (n / 128)
theorem varb_byt : ∀ (d : Nat) (n : Int), Byt (varb d n)
  | 0, n => fun x hx => by simp [varb] at hx; omega
  | d + 1, n => fun x hx => by
    simp only [varb] at hx
    split at hx
    · simp at hx; omega
    · rcases List.mem_cons.mp hx with h | h
      · omega
      · exact varb_byt d _ x h
theorem varb_length : ∀ (d : Nat) (n : Int), (varb d n).length ≤ d + 1
  | 0, n => by simp [varb]
  | d + 1, n => by
    simp only [varb]
    split
    · simp
    · have := varb_length d (n / 128)
      simp; omega
theorem putVar_impl_l0 : ∀ (d k : Nat) (n : Int) (acc : List Int), 0 ≤ n → n < 128 ^ (d + 1) → n < 2147483648 → acc.length + d < 100 → impl_PutVar.l0 (k + d + 1) n acc = some (acc ++ varb d n) := by
  intro d
  induction d with
  | zero =>
    intro k n acc h0 h1 h2 h3
    simp only [Nat.add_zero, impl_PutVar.l0]
    rw [if_neg (by simpa using h1), if_pos (by omega)]
    rfl
  | succ d ih =>
    intro k n acc h0 h1 h2 h3
    obtain ⟨m, hm⟩ : ∃ m, k + d + 1 = m := ⟨_, rfl⟩
    rw [show k + (d + 1) + 1 = m + 1 by omega]
    simp only [impl_PutVar.l0]
    by_cases h : n ≥ 128
    · have e1 : Go.bits .and .i64 n 127 = n % 128 := and_pow n 7 (by omega) h0 (by omega)
      have e2 : Go.bits .or .i64 (n % 128) 128 = n % 128 + 128 := or_low (n % 128) 128 7 (by omega) (by omega) (by omega) (by omega) (by omega) (by omega)
      rw [if_pos h, if_pos (by omega), e1, e2, ← hm, ih k (n / 128) _ (by omega) (by rw [Int.pow_succ] at h1; omega) (by omega) (by simp; omega)]
      simp only [varb]
      rw [if_neg (by omega)]
      simp
    · rw [if_neg h, if_pos (by omega)]
      simp only [varb]
      rw [if_pos (by omega)]
theorem putVar_spec_l : ∀ (d k : Nat) (n : Int), 0 ≤ n → n < 128 ^ (d + 1) → n < 2147483648 → d < 100 → spec_PutVar.f (k + 2 * d + 2) n = some (varb d n) := by
  intro d
  induction d with
  | zero =>
    intro k n h0 h1 h2 h3
    simp only [Nat.mul_zero, Nat.add_zero]
    rw [show k + 2 = (k + 1) + 1 from rfl]
    simp only [spec_PutVar.f]
    rw [if_neg (by omega)]
    simp only [spec_PutVar.j0]
    rw [if_neg (by simp; omega), if_pos (by simpa using h1)]
    rfl
  | succ d ih =>
    intro k n h0 h1 h2 h3
    rw [show k + 2 * (d + 1) + 2 = ((k + 2 * d + 2) + 1) + 1 by omega]
    simp only [spec_PutVar.f]
    rw [if_neg (by omega)]
    simp only [spec_PutVar.j0]
    rw [if_neg (by simp; omega)]
    by_cases h : n < 128
    · rw [if_pos h]
      simp only [varb]
      rw [if_pos h]
    · have hl := varb_length d (n / 128)
      rw [if_neg h, Option.bind_some, w64 (x := Int.tdiv n 128) (by rw [Int.tdiv_eq_ediv_of_nonneg h0]; omega) (by rw [Int.tdiv_eq_ediv_of_nonneg h0]; omega), Int.tdiv_eq_ediv_of_nonneg h0, ih k (n / 128) (by omega) (by rw [Int.pow_succ] at h1; omega) (by omega) (by omega), Option.bind_some, if_pos (by simp; omega), Int.tmod_eq_emod_of_nonneg h0, w64 (by omega) (by omega)]
      simp only [varb]
      rw [if_neg h]
      rfl
theorem putVar_impl (k : Nat) (n : Int) (hk : 8 ≤ k) (h0 : 0 ≤ n) (h1 : n ≤ 2147483647) : impl_PutVar.f k n = some (varb 4 n) := by
  unfold impl_PutVar.f
  obtain ⟨m, rfl⟩ : ∃ m, k = (m + 4 + 1) + 1 := ⟨k - 6, by omega⟩
  rw [if_neg (by omega)]
  simp only [impl_PutVar.j0]
  rw [if_neg (by simp; omega), putVar_impl_l0 4 m n [] h0 (by omega) (by omega) (by simp)]
  rfl
theorem putVar_spec (k : Nat) (n : Int) (hk : 12 ≤ k) (h0 : 0 ≤ n) (h1 : n ≤ 2147483647) : spec_PutVar.f k n = some (varb 4 n) := by
  obtain ⟨m, rfl⟩ : ∃ m, k = m + 2 * 4 + 2 := ⟨k - 10, by omega⟩
  exact putVar_spec_l 4 m n h0 (by omega) (by omega) (by omega)
theorem varb_pos : ∀ (d : Nat) (n : Int), 1 ≤ (varb d n).length
  | 0, n => by simp [varb]
  | d + 1, n => by
    simp only [varb]
    split <;> simp
theorem rd_rows (l : List (List Int)) (i : Nat) (h : i < l.length) : rd_L1 l (i : Int) = l[i] := by
  unfold rd_L1
  rw [Int.toNat_natCast, List.getD_eq_getElem?_getD, List.getElem?_eq_getElem h]
  rfl
theorem concat_l1 (ll : List (List Int)) (hn : ll.length < 140737488355328) (hs : ll.flatten.length < 140737488355328) : ∀ (d k i : Nat) (x : List Int), i + d = ll.length → d < k → x = (ll.take i).flatten → slices_Concat_byte_byte.l1 k x ll (ll.length : Int) (i : Int) = some ll.flatten := by
  intro d
  induction d with
  | zero =>
    intro k i x hi hk hx
    obtain ⟨k, rfl⟩ := succ_of hk
    simp only [slices_Concat_byte_byte.l1]
    rw [if_neg (by omega), hx, List.take_of_length_le (by omega)]
  | succ d ih =>
    intro k i x hi hk hx
    obtain ⟨k, rfl⟩ := succ_of hk
    have hlt : i < ll.length := by omega
    have e : (ll.take (i + 1)).flatten = x ++ ll[i] := by
      rw [List.take_succ_eq_append_getElem hlt, List.flatten_append, hx]; simp
    have hle : (ll.take (i + 1)).flatten.length ≤ ll.flatten.length := by
      conv => rhs; rw [← List.take_append_drop (i + 1) ll, List.flatten_append, List.length_append]
      omega
    rw [e, List.length_append] at hle
    simp only [slices_Concat_byte_byte.l1]
    rw [if_pos (by omega), if_pos (by omega), if_pos (by omega), rd_rows ll i hlt, if_pos (by omega), w64n (n := ll.length) (by omega) (by omega)]
    exact ih k (i + 1) _ (by omega) (by omega) e.symm
theorem concat_l0 (ll : List (List Int)) (hn : ll.length < 140737488355328) (hs : ll.flatten.length < 140737488355328) : ∀ (d k i : Nat), i + d = ll.length → d + ll.length + 1 < k → slices_Concat_byte_byte.l0 k ll (((ll.take i).flatten.length : Nat) : Int) ll (ll.length : Int) (i : Int) = some ll.flatten := by
  intro d
  induction d with
  | zero =>
    intro k i hi hk
    obtain ⟨k, rfl⟩ : ∃ m, k = m + 1 := ⟨k - 1, by omega⟩
    simp only [slices_Concat_byte_byte.l0]
    rw [if_neg (by omega), List.take_of_length_le (by omega)]
    unfold slices_Growofnil_byte_byte.f
    rw [if_pos (by omega), if_pos (by omega), Option.bind_some]
    exact concat_l1 ll hn hs ll.length k 0 [] (by omega) (by omega) (by simp)
  | succ d ih =>
    intro k i hi hk
    obtain ⟨k, rfl⟩ : ∃ m, k = m + 1 := ⟨k - 1, by omega⟩
    have hlt : i < ll.length := by omega
    have e : (ll.take (i + 1)).flatten.length = (ll.take i).flatten.length + (ll[i]).length := by
      rw [List.take_succ_eq_append_getElem hlt, List.flatten_append, List.length_append]; simp
    have hle : (ll.take (i + 1)).flatten.length ≤ ll.flatten.length := by
      conv => rhs; rw [← List.take_append_drop (i + 1) ll, List.flatten_append, List.length_append]
      omega
    simp only [slices_Concat_byte_byte.l0]
    rw [if_pos (by omega), if_pos (by omega), if_pos (by omega), rd_rows ll i hlt]
    have e2 : wrap64 (((ll.take i).flatten.length : Nat) + ((ll[i]).length : Int)) = (((ll.take (i + 1)).flatten.length : Nat) : Int) := by
      rw [w64 (by omega) (by omega)]; omega
    rw [e2, if_neg (by omega), w64n (n := ll.length) (by omega) (by omega)]
    exact ih k (i + 1) (by omega) (by omega)
theorem concat_eq (ll : List (List Int)) (hn : ll.length < 140737488355328) (hs : ll.flatten.length < 140737488355328) (k : Nat) (hk : 2 * ll.length + 1 < k) : slices_Concat_byte_byte.f k ll = some ll.flatten := by
  unfold slices_Concat_byte_byte.f
  have e := concat_l0 ll hn hs ll.length k 0 (by omega) (by omega)
  simpa using e


theorem putWord_round (k : Nat) (x : Int) (l : List Int) (i : Nat) (h0 : 0 ≤ x) (h1 : x < 4294967296) (hl : l.length < 5) (hi : i < 4) : spec_PutWord.l0 (k + 1) x l (i : Int) = spec_PutWord.l0 k (x / 256) (l ++ [x % 256]) ((i + 1 : Nat) : Int) := by
  simp only [spec_PutWord.l0]
  rw [if_pos (by omega), if_pos (by omega), Int.tdiv_eq_ediv_of_nonneg h0, Int.tmod_eq_emod_of_nonneg h0, w64 (x := x / 256) (by omega) (by omega), w64 (x := (i : Int) + 1) (by omega) (by omega), Int.emod_emod_of_dvd _ (by decide)]
  rfl
theorem putWord_spec (a : Int) (k : Nat) (hk : 4 < k) : spec_PutWord.f k a = some (word4 a) := by
  obtain ⟨k, rfl⟩ : ∃ m, k = m + 5 := ⟨k - 5, by omega⟩
  unfold spec_PutWord.f
  rw [and_mask]
  have h0 : 0 ≤ a % 4294967296 := Int.emod_nonneg _ (by omega)
  have h1 : a % 4294967296 < 4294967296 := Int.emod_lt_of_pos _ (by omega)
  rw [show (0 : Int) = ((0 : Nat) : Int) from rfl, putWord_round (k + 4) _ _ 0 h0 h1 (by simp) (by omega), putWord_round (k + 3) _ _ 1 (by omega) (by omega) (by simp) (by omega), putWord_round (k + 2) _ _ 2 (by omega) (by omega) (by simp) (by omega), putWord_round (k + 1) _ _ 3 (by omega) (by omega) (by simp) (by omega)]
  simp only [spec_PutWord.l0]
  rw [if_neg (by omega)]
  simp [word4]
  omega
theorem putWord_impl (a : Int) : impl_PutWord.f a = some (word4 a) := rfl
/-- A frame's bytes without the check. -/
def frameHead (a b c : Int) (l : List Int) : List Int := [a % 256, (l.length : Int) % 256] ++ varb 4 b ++ varb 4 c ++ l
def frameBytes (a b c : Int) (l : List Int) : List Int := frameHead a b c l ++ word4 (crcOf (frameHead a b c l))
theorem frameHead_byt (a b c : Int) (l : List Int) (hl : Byt l) : Byt (frameHead a b c l) := by
  refine Byt.append (Byt.append (Byt.append ?_ (varb_byt 4 b)) (varb_byt 4 c)) hl
  intro x hx
  simp at hx
  omega
theorem frameHead_length (a b c : Int) (l : List Int) : (frameHead a b c l).length ≤ 12 + l.length := by
  have h1 := varb_length 4 b
  have h2 := varb_length 4 c
  simp [frameHead]
  omega
theorem frameBytes_length (a b c : Int) (l : List Int) : (frameBytes a b c l).length ≤ 16 + l.length := by
  have := frameHead_length a b c l
  unfold frameBytes
  rw [List.length_append, word4_length]
  omega
theorem frameBytes_byt (a b c : Int) (l : List Int) (hl : Byt l) : Byt (frameBytes a b c l) := (frameHead_byt a b c l hl).append (Byt.word4 _)
/-- When a frame is right. -/
def frameIs (a b c : Int) (l : List Int) : Prop := (1 ≤ a ∧ a ≤ 4) ∧ (1 ≤ b ∧ b ≤ 2147483647) ∧ (0 ≤ c ∧ c ≤ 2147483647) ∧ l.length ≤ 48 ∧ (a = 2 ∨ l.length = 0)
instance (a b c : Int) (l : List Int) : Decidable (frameIs a b c l) := by unfold frameIs; infer_instance
theorem putFrame_impl (a b c : Int) (l : List Int) (hb : Byt l) (h : frameIs a b c l) (k : Nat) (hk : 1000 ≤ k) : impl_putFrame.f k a b c l = some (frameBytes a b c l) := by
  obtain ⟨h1, h2, h3, h4, h5⟩ := h
  have hh := frameHead_length a b c l
  have e1 := concat_eq [[a % 256, (l.length : Int) % 256], varb 4 b, varb 4 c, l] (by simp) (by have h1 := varb_length 4 b; have h2 := varb_length 4 c; simp; omega) k (by simp; omega)
  have e2 : ([[a % 256, (l.length : Int) % 256], varb 4 b, varb 4 c, l] : List (List Int)).flatten = frameHead a b c l := by simp [frameHead]
  rw [e2] at e1
  unfold impl_putFrame.f
  rw [putVar_impl k b (by omega) (by omega) (by omega), Option.bind_some, putVar_impl k c (by omega) (by omega) (by omega), Option.bind_some, e1, Option.bind_some, crc_impl _ (frameHead_byt a b c l hb) (by omega) k (by omega), Option.bind_some, putWord_impl, Option.bind_some, if_pos (by rw [word4_length]; omega)]
  rfl
theorem putFrame_spec (a b c : Int) (l : List Int) (hb : Byt l) (h : frameIs a b c l) (k : Nat) (hk : 1000 ≤ k) : spec_PutFrame.f k a b c l = some (frameBytes a b c l) := by
  have hh := frameHead_length a b c l
  have e0 : spec_FrameOk.f a b c l = some true := by rw [frame_eq]; exact congrArg some (decide_eq_true h)
  obtain ⟨h1, h2, h3, h4, h5⟩ := h
  have v1 := varb_length 4 b
  have v2 := varb_length 4 c
  unfold spec_PutFrame.f
  rw [e0, Option.bind_some, if_pos rfl, Option.bind_some, putVar_spec k b (by omega) (by omega) (by omega), Option.bind_some, if_pos (by simp; omega), Option.bind_some, putVar_spec k c (by omega) (by omega) (by omega), Option.bind_some, if_pos (by simp; omega), Option.bind_some, if_pos (by simp; omega), Option.bind_some]
  have e2 : [a % 256, (l.length : Int) % 256] ++ varb 4 b ++ varb 4 c ++ l = frameHead a b c l := rfl
  rw [e2, crc_spec _ (frameHead_byt a b c l hb) (by omega) k (by omega), Option.bind_some, putWord_spec _ k (by omega), Option.bind_some, if_pos (by rw [word4_length]; omega)]
  rfl
theorem same_l0 (x y : List Int) (hxy : x.length = y.length) (hl : x.length ≤ 9223372036854775807) : ∀ (d k : Nat) (i : Nat), i + d = x.length → d < k → (∀ j, j < i → x[j]? = y[j]?) → spec_Same.l0 k x y (i : Int) = some (decide (x = y)) := by
  intro d
  induction d with
  | zero =>
    intro k i hd hk hj
    obtain ⟨k, rfl⟩ := succ_of hk
    simp only [spec_Same.l0]
    rw [if_neg (by omega)]
    have : x = y := by
      apply List.ext_getElem?
      intro j
      by_cases h : j < i
      · exact hj j h
      · rw [List.getElem?_eq_none (by omega), List.getElem?_eq_none (by omega)]
    simp [this]
  | succ d ih =>
    intro k i hd hk hj
    obtain ⟨k, rfl⟩ := succ_of hk
    simp only [spec_Same.l0]
    rw [if_pos (by omega), if_pos (by omega), if_pos (by omega), w64n (n := x.length) (by omega) hl]
    simp only [rd_nat]
    have hx : x[i]? = some (x.getD i 0) := by simp [List.getElem?_eq_getElem (show i < x.length by omega)]
    have hy : y[i]? = some (y.getD i 0) := by simp [List.getElem?_eq_getElem (show i < y.length by omega)]
    by_cases h : x.getD i 0 = y.getD i 0
    · rw [if_pos h]
      apply ih k (i + 1) (by omega) (by omega)
      intro j hji
      by_cases e : j = i
      · subst e
        rw [hx, hy, h]
      · exact hj j (by omega)
    · rw [if_neg h]
      have : x ≠ y := fun e => h (by rw [e])
      simp [this]
theorem same_eq (x y : List Int) (k : Nat) (hl : x.length ≤ 9223372036854775807) (hk : x.length < k) : spec_Same.f k x y = some (decide (x = y)) := by
  unfold spec_Same.f
  by_cases h : x.length = y.length
  · rw [if_pos (by omega)]
    exact same_l0 x y h hl x.length k 0 (by omega) hk (by omega)
  · rw [if_neg (by omega)]
    have : x ≠ y := fun e => h (by rw [e])
    simp [this]
def value : List Int → Int
  | [] => 0
  | x :: r => x % 128 + 128 * value r
theorem value_bound : ∀ (l : List Int), 0 ≤ value l ∧ value l < 128 ^ l.length
  | [] => by simp [value]
  | x :: r => by
    have h := value_bound r
    simp only [value, List.length_cons, Int.pow_succ]
    omega
theorem value_snoc : ∀ (l : List Int) (c : Int), value (l ++ [c]) = value l + (c % 128) * 128 ^ l.length
  | [], c => by simp [value]
  | x :: r, c => by
    have h := value_snoc r c
    simp only [List.cons_append, value, h, List.length_cons, Int.pow_succ]
    rw [Int.mul_add, ← Int.mul_assoc, Int.mul_comm 128 (c % 128), Int.mul_assoc, Int.mul_comm 128 (128 ^ r.length)]
    omega
theorem varb_canon : ∀ (cs : List Int) (c : Int) (d : Nat), (∀ x ∈ cs, 128 ≤ x ∧ x ≤ 255) → 0 ≤ c → c < 128 → cs.length ≤ d → (cs = [] ∨ c ≠ 0) → varb d (value (cs ++ [c])) = cs ++ [c] ∧ 0 < value (cs ++ [c]) + (if cs = [] then 1 else 0)
  | [], c, d, hx, h0, h1, hd, hc => by
    have e : value ([] ++ [c]) = c := by simp [value]; omega
    rw [e]
    refine ⟨?_, by simp; omega⟩
    cases d with
    | zero => simp [varb]; omega
    | succ d =>
      simp only [varb]
      rw [if_pos h1]
      simp; omega
  | x :: r, c, d, hx, h0, h1, hd, hc => by
    obtain ⟨d, rfl⟩ : ∃ m, d = m + 1 := ⟨d - 1, by simp at hd; omega⟩
    have hc' : c ≠ 0 := by rcases hc with h | h; · simp at h
                           · exact h
    have ih := varb_canon r c d (fun y hy => hx y (by simp [hy])) h0 h1 (by simpa using hd) (Or.inr hc')
    have hxx := hx x (by simp)
    have hv : 0 < value (r ++ [c]) := by
      by_cases hr : r = []
      · subst hr
        have e : value ([] ++ [c]) = c := by simp [value]; omega
        rw [e]; omega
      · have := ih.2
        rw [if_neg hr] at this
        omega
    simp only [List.cons_append, value]
    refine ⟨?_, by split <;> omega⟩
    simp only [varb]
    rw [if_neg (by omega), show (x % 128 + 128 * value (r ++ [c])) / 128 = value (r ++ [c]) by omega, ih.1]
    congr 1
    omega
theorem varb_not : ∀ (cs : List Int) (d : Nat), (∀ x ∈ cs, 128 ≤ x ∧ x ≤ 255) → cs ≠ [] → varb d (value (cs ++ [0])) ≠ cs ++ [0]
  | [], _, _, h => absurd rfl h
  | x :: r, d, hx, _ => by
    cases d with
    | zero => simp [varb]
    | succ d =>
      intro hh
      simp only [List.cons_append, value, varb] at hh
      by_cases hlt : x % 128 + 128 * value (r ++ [0]) < 128
      · rw [if_pos hlt] at hh
        have := congrArg List.length hh
        simp at this
      · rw [if_neg hlt, show (x % 128 + 128 * value (r ++ [0])) / 128 = value (r ++ [0]) by omega] at hh
        have h2 := (List.cons.inj hh).2
        by_cases hr : r = []
        · subst hr
          have e : value ([] ++ [0]) = 0 := by simp [value]
          rw [e] at hlt
          omega
        · exact varb_not r d (fun y hy => hx y (by simp [hy])) hr h2
theorem pow128 (j : Nat) (hj : j < 5) : (128 : Int) ^ j = 1 ∧ j = 0 ∨ (128 : Int) ^ j = 128 ∧ j = 1 ∨ (128 : Int) ^ j = 16384 ∧ j = 2 ∨ (128 : Int) ^ j = 2097152 ∧ j = 3 ∨ (128 : Int) ^ j = 268435456 ∧ j = 4 := by
  obtain rfl | rfl | rfl | rfl | rfl : j = 0 ∨ j = 1 ∨ j = 2 ∨ j = 3 ∨ j = 4 := by omega
  all_goals simp
theorem or_step (j : Nat) (hj : j < 5) (n c : Int) (h0 : 0 ≤ n) (hn : n < 128 ^ j) (hc : 0 ≤ c ∧ c ≤ 255) : Go.bits .or .i64 n (shl .i64 (Go.bits .and .i64 c 127) (wrap64 (7 * (j : Int)))) = n + (c % 128) * 128 ^ j := by
  have e1 : Go.bits .and .i64 c 127 = c % 128 := and_pow c 7 (by omega) (by omega) (by omega)
  rw [e1, w64 (x := 7 * (j : Int)) (by omega) (by omega)]
  have e2 : shl .i64 (c % 128) (7 * (j : Int)) = (c % 128) * 128 ^ j := by
    unfold shl
    have hm : min (7 * (j : Int)).toNat IntKind.i64.bits = 7 * j := by have : IntKind.i64.bits = 64 := rfl; omega
    rw [hm, IntKind.wrap_i64, Int.pow_mul]
    have : (2 : Int) ^ 7 = 128 := by decide
    rw [this]
    rcases pow128 j hj with ⟨e, _⟩ | ⟨e, _⟩ | ⟨e, _⟩ | ⟨e, _⟩ | ⟨e, _⟩ <;> rw [e] <;> omega
  rw [e2]
  rcases pow128 j hj with ⟨e, _⟩ | ⟨e, _⟩ | ⟨e, _⟩ | ⟨e, _⟩ | ⟨e, _⟩ <;> rw [e] at hn ⊢
  · exact or_low n _ 0 h0 (by omega) (by omega) (by omega) (by omega) (by omega)
  · exact or_low n _ 7 h0 (by omega) (by omega) (by omega) (by omega) (by omega)
  · exact or_low n _ 14 h0 (by omega) (by omega) (by omega) (by omega) (by omega)
  · exact or_low n _ 21 h0 (by omega) (by omega) (by omega) (by omega) (by omega)
  · exact or_low n _ 28 h0 (by omega) (by omega) (by omega) (by omega) (by omega)
theorem add_step (j : Nat) (hj : j < 5) (n c : Int) (h0 : 0 ≤ n) (hn : n < 128 ^ j) (hc : 0 ≤ c ∧ c ≤ 255) : wrap64 (n + wrap64 ((Int.tmod c 128) * 128 ^ j)) = n + (c % 128) * 128 ^ j := by
  rw [Int.tmod_eq_emod_of_nonneg hc.1]
  rcases pow128 j hj with ⟨e, _⟩ | ⟨e, _⟩ | ⟨e, _⟩ | ⟨e, _⟩ | ⟨e, _⟩ <;> rw [e] at hn ⊢ <;> rw [w64 (x := c % 128 * _) (by omega) (by omega), w64 (by omega) (by omega)]
theorem mul_step (j : Nat) (hj : j < 5) : wrap64 ((128 : Int) ^ j * 128) = (128 : Int) ^ (j + 1) := by
  rw [Int.pow_succ]
  rcases pow128 j hj with ⟨e, _⟩ | ⟨e, _⟩ | ⟨e, _⟩ | ⟨e, _⟩ | ⟨e, _⟩ <;> rw [e] <;> exact w64 (by omega) (by omega)
theorem w64add {a j : Nat} (h : a + j ≤ 9223372036854775807) : wrap64 ((a : Int) + (j : Int)) = ((a + j : Nat) : Int) := by rw [w64 (by omega) (by omega)]; omega
theorem w64mul7 {j : Nat} (h : j < 10) : 0 ≤ wrap64 (7 * (j : Int)) := by rw [w64 (by omega) (by omega)]; omega
section steps
variable (l : List Int) (hl : l.length ≤ 1048576) (a j : Nat) (hj : j < 5) (n c v : Int) (hlt : a + j < l.length) (hr : l[a + j]'hlt = c) (hc : 0 ≤ c ∧ c ≤ 255) (h0 : 0 ≤ n) (hn : n < 128 ^ j) (hv : n + (c % 128) * 128 ^ j = v) (m : Nat)
include hl hj hr hc h0 hn hv
theorem impl_var_go (h : 128 ≤ c) : impl_Var.l0 (m + 1) l a n (j : Int) = impl_Var.l0 m l a v ((j + 1 : Nat) : Int) := by
  have p1 : (j : Int) < 5 := by omega
  have p2 : ¬ ((a + j : Nat) : Int) = (l.length : Int) := by omega
  have p3 : ¬ ((a + j : Nat) : Int) ≥ (l.length : Int) := by omega
  have p4 : (0 : Int) ≤ ((a + j : Nat) : Int) := by omega
  have p5 : ((a + j : Nat) : Int) < (l.length : Int) := by omega
  have p6 : c ≥ 128 ↔ 128 ≤ c := by omega
  have b1 : a + j ≤ 9223372036854775807 := by omega
  have b2 : -9223372036854775808 ≤ c := by omega
  have b3 : c ≤ 9223372036854775807 := by omega
  have b4 : j < 10 := by omega
  have b5 : a + j < 9223372036854775807 := by omega
  have e1 := w64add b1
  have p7 := w64 b2 b3
  have e2 : rd l ((a + j : Nat) : Int) = c := by rw [rd_lt l (a + j) hlt, hr]
  have e4 := or_step j hj n c h0 hn hc
  rw [hv] at e4
  have e6 := w64mul7 b4
  have e8 := w64n b4 (by decide)
  simp only [impl_Var.l0]
  rw [if_pos p1, e1, if_neg p2, if_pos p4, if_pos p5, if_pos e6, e2, p7, if_pos (p6.mpr h), e4, e8]
theorem impl_var_end (h : c < 128) : impl_Var.l0 (m + 1) l a n (j : Int) = some (if v ≤ 2147483647 ∧ (j = 0 ∨ c ≠ 0) then (v, ((a + j + 1 : Nat) : Int), 0) else (0, 0, 2)) := by
  have p1 : (j : Int) < 5 := by omega
  have p2 : ¬ ((a + j : Nat) : Int) = (l.length : Int) := by omega
  have p3 : ¬ ((a + j : Nat) : Int) ≥ (l.length : Int) := by omega
  have p4 : (0 : Int) ≤ ((a + j : Nat) : Int) := by omega
  have p5 : ((a + j : Nat) : Int) < (l.length : Int) := by omega
  have p6 : c ≥ 128 ↔ 128 ≤ c := by omega
  have b1 : a + j ≤ 9223372036854775807 := by omega
  have b2 : -9223372036854775808 ≤ c := by omega
  have b3 : c ≤ 9223372036854775807 := by omega
  have b4 : j < 10 := by omega
  have q1 : ¬ c ≥ 128 := by omega
  have q2 : (if v > 2147483647 then some ((0 : Int), (0 : Int), (2 : Int)) else if c = 0 then if (j : Int) > 0 then some (0, 0, 2) else some (v, ((a + j + 1 : Nat) : Int), 0) else some (v, ((a + j + 1 : Nat) : Int), 0)) = some (if v ≤ 2147483647 ∧ (j = 0 ∨ c ≠ 0) then (v, ((a + j + 1 : Nat) : Int), 0) else (0, 0, 2)) := by
    clear p2 p3 p4 p5 hv hn h0 hr hl
    by_cases h2 : v > 2147483647
    · rw [if_pos h2, if_neg (by omega)]
    · rw [if_neg h2]
      by_cases h3 : c = 0
      · rw [if_pos h3]
        by_cases h4 : (j : Int) > 0
        · rw [if_pos h4, if_neg (by omega)]
        · rw [if_neg h4, if_pos (by omega)]
      · rw [if_neg h3, if_pos (by omega)]
  have b5 : a + j < 9223372036854775807 := by omega
  have e1 := w64add b1
  have p7 := w64 b2 b3
  have e2 : rd l ((a + j : Nat) : Int) = c := by rw [rd_lt l (a + j) hlt, hr]
  have e4 := or_step j hj n c h0 hn hc
  rw [hv] at e4
  have e6 := w64mul7 b4
  have e7 := w64n b5 (Nat.le_refl _)
  simp only [impl_Var.l0]
  rw [if_pos p1, e1, if_neg p2, if_pos p4, if_pos p5, if_pos e6, e2, p7, if_neg q1, e4, e7]
  exact q2
theorem spec_var_go (h : 128 ≤ c) : spec_Var.l0 (m + 1) l a n (128 ^ j) (j : Int) = spec_Var.l0 m l a v (128 ^ (j + 1)) ((j + 1 : Nat) : Int) := by
  have p1 : (j : Int) < 5 := by omega
  have p2 : ¬ ((a + j : Nat) : Int) = (l.length : Int) := by omega
  have p3 : ¬ ((a + j : Nat) : Int) ≥ (l.length : Int) := by omega
  have p4 : (0 : Int) ≤ ((a + j : Nat) : Int) := by omega
  have p5 : ((a + j : Nat) : Int) < (l.length : Int) := by omega
  have p6 : c ≥ 128 ↔ 128 ≤ c := by omega
  have b1 : a + j ≤ 9223372036854775807 := by omega
  have b2 : -9223372036854775808 ≤ c := by omega
  have b3 : c ≤ 9223372036854775807 := by omega
  have b4 : j < 10 := by omega
  have q1 : ¬ c < 128 := by omega
  have b5 : a + j < 9223372036854775807 := by omega
  have e1 := w64add b1
  have p7 := w64 b2 b3
  have e2 : rd l ((a + j : Nat) : Int) = c := by rw [rd_lt l (a + j) hlt, hr]
  have e4 := add_step j hj n c h0 hn hc
  rw [hv] at e4
  have e5 := mul_step j hj
  have e8 := w64n b4 (by decide)
  simp only [spec_Var.l0]
  rw [if_pos p1, e1, if_neg p3, if_pos p4, if_pos p5, e2, p7, if_neg q1, e4, e5, e8]
theorem spec_var_end (h : c < 128) (p : List Int) (hp : p.length ≤ 5) (hm : 100 < m) (hput : spec_PutVar.f m v = some p) : spec_Var.l0 (m + 1) l a n (128 ^ j) (j : Int) = some (if p = (l.take (a + j + 1)).drop a then (v, ((a + j + 1 : Nat) : Int), 0) else (0, 0, 2)) := by
  have p1 : (j : Int) < 5 := by omega
  have p2 : ¬ ((a + j : Nat) : Int) = (l.length : Int) := by omega
  have p3 : ¬ ((a + j : Nat) : Int) ≥ (l.length : Int) := by omega
  have p4 : (0 : Int) ≤ ((a + j : Nat) : Int) := by omega
  have p5 : ((a + j : Nat) : Int) < (l.length : Int) := by omega
  have p6 : c ≥ 128 ↔ 128 ≤ c := by omega
  have b1 : a + j ≤ 9223372036854775807 := by omega
  have b2 : -9223372036854775808 ≤ c := by omega
  have b3 : c ≤ 9223372036854775807 := by omega
  have b4 : j < 10 := by omega
  have q1 : (0 : Int) ≤ (a : Int) := by omega
  have q2 : (a : Int) ≤ ((a + j + 1 : Nat) : Int) := by omega
  have q3 : ((a + j + 1 : Nat) : Int) ≤ (l.length : Int) := by omega
  have hsame : spec_Same.f m p ((l.take (a + j + 1)).drop a) = some (decide (p = (l.take (a + j + 1)).drop a)) := same_eq p _ m (by omega) (by omega)
  have b5 : a + j < 9223372036854775807 := by omega
  have e1 := w64add b1
  have p7 := w64 b2 b3
  have e2 : rd l ((a + j : Nat) : Int) = c := by rw [rd_lt l (a + j) hlt, hr]
  have e4 := add_step j hj n c h0 hn hc
  rw [hv] at e4
  have e7 := w64n b5 (Nat.le_refl _)
  simp only [spec_Var.l0]
  rw [if_pos p1, e1, if_neg p3, if_pos p4, if_pos p5, e2, p7, if_pos h, e4, hput, Option.bind_some, if_pos q1, e7, if_pos q2, if_pos q3, Int.toNat_natCast, Int.toNat_natCast, hsame, Option.bind_some]
  by_cases hh : p = (l.take (a + j + 1)).drop a
  · rw [if_pos hh, if_pos (decide_eq_true hh)]
  · rw [if_neg hh, if_neg (by simpa using hh)]
end steps
/-- What the number at a place of bytes is, if it has one. -/
def VarGood (l : List Int) (a : Nat) (r : Int × Int × Int) : Prop := (0 ≤ r.2.1 ∧ r.2.1 ≤ l.length) ∧ (r.2.2 = 0 → 0 ≤ r.1 ∧ r.1 ≤ 2147483647 ∧ (a : Int) ≤ r.2.1 ∧ varb 4 r.1 = (l.take r.2.1.toNat).drop a)
theorem putVar_big (m : Nat) (v : Int) (h : 2147483647 < v) (hm : 100 < m) : spec_PutVar.f m v = some [] := by
  obtain ⟨q, rfl⟩ : ∃ q, m = q + 1 + 1 := ⟨m - 2, by omega⟩
  simp only [spec_PutVar.f]
  rw [if_neg (by omega)]
  simp only [spec_PutVar.j0]
  rw [if_pos (by simp; omega)]
theorem var_loop (l : List Int) (hb : Byt l) (hl : l.length ≤ 1048576) (a : Nat) : ∀ (d k j : Nat), j + d = 5 → d + 100 < k → a + j ≤ l.length → (∀ x ∈ (l.take (a + j)).drop a, 128 ≤ x) → ∃ r, VarGood l a r ∧ spec_Var.l0 k l a (value ((l.take (a + j)).drop a)) (128 ^ j) (j : Int) = some r ∧ impl_Var.l0 k l a (value ((l.take (a + j)).drop a)) (j : Int) = some r := by
  intro d
  induction d with
  | zero =>
    intro k j hj hk ha hp
    obtain ⟨k, rfl⟩ : ∃ m, k = m + 1 := ⟨k - 1, by omega⟩
    refine ⟨(0, 0, 2), ⟨⟨by simp, by simp⟩, fun h => by simp at h⟩, ?_, ?_⟩
    · simp only [spec_Var.l0]
      rw [if_neg (by omega)]
    · simp only [impl_Var.l0]
      rw [if_neg (by omega)]
  | succ d ih =>
    intro k j hj hk ha hp
    obtain ⟨m, rfl⟩ : ∃ m, k = m + 1 := ⟨k - 1, by omega⟩
    by_cases h0 : a + j = l.length
    · have p1 : (j : Int) < 5 := by omega
      have p2 : ((a + j : Nat) : Int) ≥ (l.length : Int) := by omega
      have p3 : ((a + j : Nat) : Int) = (l.length : Int) := by omega
      have e1 := w64add (a := a) (j := j) (by omega)
      refine ⟨(0, 0, 1), ⟨⟨by simp, by simp⟩, fun h => by simp at h⟩, ?_, ?_⟩
      · simp only [spec_Var.l0]
        rw [if_pos p1, e1, if_pos p2]
      · simp only [impl_Var.l0]
        rw [if_pos p1, e1, if_pos p3]
    · have hlt : a + j < l.length := by omega
      have hc := hb.get (a + j) hlt
      obtain ⟨c, hcd⟩ : ∃ c, l[a + j] = c := ⟨_, rfl⟩
      rw [hcd] at hc
      obtain ⟨cs, hcs⟩ : ∃ cs, (l.take (a + j)).drop a = cs := ⟨_, rfl⟩
      have hlen : cs.length = j := by rw [← hcs, List.length_drop, List.length_take]; omega
      have hsn : (l.take (a + j + 1)).drop a = cs ++ [c] := by
        rw [List.take_succ_eq_append_getElem hlt, List.drop_append_of_le_length (by rw [List.length_take]; omega), hcs, hcd]
      have hpc : ∀ x ∈ cs, 128 ≤ x ∧ x ≤ 255 := fun x hx => ⟨hp x (by rw [hcs]; exact hx), (hb x (List.mem_of_mem_take (List.mem_of_mem_drop (hcs ▸ hx)))).2⟩
      rw [hcs]
      have vb := value_bound cs
      rw [hlen] at vb
      have hval : value cs + (c % 128) * 128 ^ j = value (cs ++ [c]) := by rw [value_snoc, hlen]
      have hv0 : 0 ≤ value (cs ++ [c]) := (value_bound (cs ++ [c])).1
      by_cases h1 : 128 ≤ c
      · rw [spec_var_go l hl a j (by omega) (value cs) c _ hlt hcd hc vb.1 vb.2 hval m h1, impl_var_go l hl a j (by omega) (value cs) c _ hlt hcd hc vb.1 vb.2 hval m h1, ← hsn]
        refine ih m (j + 1) (by omega) (by omega) (by omega) ?_
        rw [show a + (j + 1) = a + j + 1 from rfl, hsn]
        intro x hx
        rcases List.mem_append.mp hx with h | h
        · exact (hpc x h).1
        · simp at h; omega
      · have hnil : cs = [] ↔ j = 0 := by rw [← hlen]; exact List.length_eq_zero_iff.symm
        obtain ⟨p, hp5, hp1, hp2⟩ : ∃ p, p.length ≤ 5 ∧ spec_PutVar.f m (value (cs ++ [c])) = some p ∧ (p = cs ++ [c] ↔ (value (cs ++ [c]) ≤ 2147483647 ∧ (j = 0 ∨ c ≠ 0))) := by
          clear hval vb
          by_cases h2 : value (cs ++ [c]) ≤ 2147483647
          · refine ⟨varb 4 (value (cs ++ [c])), by have := varb_length 4 (value (cs ++ [c])); omega, putVar_spec m _ (by omega) hv0 h2, ?_⟩
            constructor
            · intro h
              refine ⟨h2, ?_⟩
              by_cases h3 : cs = []
              · exact Or.inl (hnil.mp h3)
              · right
                intro h4
                subst h4
                exact varb_not cs 4 hpc h3 h
            · intro h
              exact (varb_canon cs c 4 hpc (by omega) (by omega) (by omega) (h.2.imp hnil.mpr id)).1
          · refine ⟨[], by simp, putVar_big m _ (by omega) (by omega), ?_⟩
            constructor
            · intro h
              have := congrArg List.length h
              simp at this
            · intro h
              exact absurd h.1 h2
        have hs := spec_var_end l hl a j (by omega) (value cs) c _ hlt hcd hc vb.1 vb.2 hval m (by omega) p hp5 (by omega) hp1
        have hi := impl_var_end l hl a j (by omega) (value cs) c _ hlt hcd hc vb.1 vb.2 hval m (by omega)
        rw [hsn] at hs
        refine ⟨_, ?_, hs, ?_⟩
        · clear hs hi hval vb
          split
          · rename_i h
            have h' := hp2.mp h
            refine ⟨⟨by simp only []; omega, by simp only []; omega⟩, fun _ => ⟨hv0, h'.1, by simp only []; omega, ?_⟩⟩
            simp only [Int.toNat_natCast, hsn]
            exact (varb_canon cs c 4 hpc (by omega) (by omega) (by omega) (h'.2.imp hnil.mpr id)).1
          · exact ⟨⟨by simp, by simp⟩, fun h => by simp at h⟩
        · rw [hi]
          simp only [hp2]
theorem var_both (l : List Int) (hb : Byt l) (hl : l.length ≤ 1048576) (a : Nat) (ha : a ≤ l.length) : ∃ r, VarGood l a r ∧ ∀ k, 200 ≤ k → spec_Var.f k l a = some r ∧ impl_Var.f k l a = some r := by
  obtain ⟨r, hr, hs, hi⟩ := var_loop l hb hl a 5 150 0 (by omega) (by omega) (by omega) (by simp)
  have e0 : value ((l.take (a + 0)).drop a) = 0 := by rw [List.drop_eq_nil_of_le (by rw [List.length_take]; omega)]; rfl
  rw [e0] at hs hi
  refine ⟨r, hr, fun k hk => ?_⟩
  have hs' : spec_Var.f 151 l a = some r := by
    unfold spec_Var.f
    rw [if_neg (by omega)]
    simp only [spec_Var.j0]
    rw [if_neg (by simp; omega)]
    exact hs
  have hi' : impl_Var.f 151 l a = some r := by
    unfold impl_Var.f
    rw [if_neg (by omega)]
    simp only [impl_Var.j0]
    rw [if_neg (by simp; omega)]
    exact hi
  exact ⟨at_rounds (fun k => spec_Var.mono _ _ k) (by omega) hs', at_rounds (fun k => impl_Var.mono _ _ k) (by omega) hi'⟩
theorem eqFrame_self (a b c : Int) (l : List Int) (k : Nat) (hl : l.length ≤ 9223372036854775807) (hk : l.length < k) : laws_eqFrame.f k a b c l a b c l = some true := by
  unfold laws_eqFrame.f
  rw [eqByteS_eq l l k hl hk]
  simp
theorem eqFrame_eq (a b c : Int) (l : List Int) (a' b' c' : Int) (l' : List Int) (k : Nat) (hl : l.length ≤ 9223372036854775807) (hk : l.length < k) : laws_eqFrame.f k a b c l a' b' c' l' = some (decide (a = a' ∧ b = b' ∧ c = c' ∧ l = l')) := by
  unfold laws_eqFrame.f
  rw [eqByteS_eq l l' k hl hk]
  by_cases h1 : a = a' <;> by_cases h2 : b = b' <;> by_cases h3 : c = c' <;> by_cases h4 : l = l' <;> simp [h1, h2, h3, h4]
theorem markFrame_eq (x y z : Int) (l : List Int) (a : Int) (k : Nat) (h0 : 0 ≤ a) (hn : a + l.length ≤ 9223372036854775807) (hk : l.length < k) : laws_markFrame.f k x y z l a = some (a + (l.length : Nat), marks l.length a) := by
  unfold laws_markFrame.f
  rw [markByteS_eq l a k h0 hn hk]; rfl
theorem heldFrame_eq (x y z : Int) (n : Nat) (a : Int) (k : Nat) (h0 : 0 ≤ a) (hn : a + n ≤ 9223372036854775807) (hk : n < k) : laws_heldFrame.f k x y z (marks n a) a = some (a + (n : Nat)) := by
  unfold laws_heldFrame.f
  rw [heldByteS_eq n a k h0 hn hk]
  simp only [Option.bind_some]
  rw [if_neg (by omega)]
set_option maxHeartbeats 4000000 in
theorem getFrame_both (l : List Int) (hb : Byt l) (hl : l.length ≤ 1048576) : ∃ (x y z : Int) (o : List Int) (r : Bool), o.length ≤ 48 ∧ ∀ k, 2000 ≤ k → spec_GetFrame.f k l = some (x, y, z, o, r) ∧ impl_GetFrame.f k l = some (x, y, z, o, r) := by
  by_cases h2 : (l.length : Int) < 2
  · refine ⟨0, 0, 0, [], false, by simp, fun k hk => ⟨?_, ?_⟩⟩
    · unfold spec_GetFrame.f
      rw [if_pos (by omega)]
    · unfold impl_GetFrame.f
      rw [if_pos h2]
  · obtain ⟨⟨s, t1, c1⟩, g1, G1⟩ := var_both l hb hl 2 (by omega)
    obtain ⟨n1, rfl⟩ : ∃ n : Nat, t1 = n := ⟨t1.toNat, by have := g1.1.1; simp only [] at this; omega⟩
    have hn1 : n1 ≤ l.length := by have := g1.1.2; simp only [] at this; omega
    obtain ⟨⟨o, t2, c2⟩, g2, G2⟩ := var_both l hb hl n1 hn1
    obtain ⟨n2, rfl⟩ : ∃ n : Nat, t2 = n := ⟨t2.toNat, by have := g2.1.1; simp only [] at this; omega⟩
    have hn2 : n2 ≤ l.length := by have := g2.1.2; simp only [] at this; omega
    have b0 := hb.get 0 (by omega)
    have b1 := hb.get 1 (by omega)
    obtain ⟨q, hq⟩ : ∃ q : Nat, l[1]'(by omega) = q := ⟨(l[1]'(by omega)).toNat, by omega⟩
    obtain ⟨κ, hκ⟩ : ∃ κ : Int, l[0]'(by omega) = κ := ⟨_, rfl⟩
    rw [hq] at b1
    rw [hκ] at b0
    have r1 : Aside0 (wrap64 (rd l 1) = (q : Int)) := ⟨by
      have := rd_lt l 1 (by omega)
      rw [show ((1 : Nat) : Int) = 1 from rfl, hq] at this
      rw [this, w64 (by omega) (by omega)]⟩
    have r0 : Aside0 (wrap64 (rd l 0) = κ) := ⟨by
      have := rd_lt l 0 (by omega)
      rw [show ((0 : Nat) : Int) = 0 from rfl, hκ] at this
      rw [this, w64 (by omega) (by omega)]⟩
    have e4 : Aside0 (wrap64 ((n2 : Int) + (q : Int)) = ((n2 + q : Nat) : Int)) := ⟨w64add (by omega)⟩
    have e5 : Aside0 (wrap64 (((n2 + q : Nat) : Int) + 4) = ((n2 + q + 4 : Nat) : Int)) := ⟨w64add (a := n2 + q) (j := 4) (by omega)⟩
    have e6 : Aside0 (wrap64 ((l.length : Int) - (n2 : Int)) = (l.length : Int) - n2) := ⟨by rw [w64 (by omega) (by omega)]⟩
    by_cases hc : c1 = 0 ∧ c2 = 0
    · obtain ⟨rfl, rfl⟩ := hc
      obtain ⟨s0, s1, s2, s3⟩ := g1.2 rfl
      obtain ⟨o0, o1, o2, o3⟩ := g2.2 rfl
      simp only [Int.toNat_natCast] at s0 s1 s2 s3 o0 o1 o2 o3
      have ls : (varb 4 s).length = n1 - 2 := by rw [s3, List.length_drop, List.length_take]; omega
      have lo : (varb 4 o).length = n2 - n1 := by rw [o3, List.length_drop, List.length_take]; omega
      have ps := varb_pos 4 s
      have po := varb_pos 4 o
      obtain ⟨dt, hdt⟩ : ∃ dt, (l.take (n2 + q)).drop n2 = dt := ⟨_, rfl⟩
      have hdb : Byt dt := by rw [← hdt]; exact (hb.take _).drop _
      by_cases hfit : n2 + q ≤ l.length
      · have hdl : dt.length = q := by rw [← hdt, List.length_drop, List.length_take]; omega
        have hfb : frameIs κ s o dt → frameBytes κ s o dt = l → n2 + q + 4 = l.length := by
          intro _ h
          have := congrArg List.length h
          rw [frameBytes, List.length_append, word4_length, frameHead, List.length_append, List.length_append, List.length_append, ls, lo, hdl] at this
          simp at this
          omega
        have himpl : ∀ k, 2000 ≤ k → impl_GetFrame.f k l = some (if frameIs κ s o dt ∧ frameBytes κ s o dt = l then (κ, s, o, dt, true) else (0, 0, 0, [], false)) := by
          intro k hk
          obtain ⟨m, rfl⟩ : ∃ m, k = m + 1 := ⟨k - 1, by omega⟩
          have G1' := (G1 (m + 1) (by omega)).2
          rw [show ((2 : Nat) : Int) = 2 from rfl] at G1'
          unfold impl_GetFrame.f
          rw [if_neg h2, G1', Option.bind_some, (G2 (m + 1) (by omega)).2, Option.bind_some, if_pos (by omega), if_pos rfl, if_pos rfl, r1.out, e6.out]
          simp only [impl_GetFrame.j0]
          rw [if_neg (by simp; omega), if_pos (by omega), if_pos (by omega), e4.out, if_pos (by omega), if_pos (by omega), Int.toNat_natCast, Int.toNat_natCast, hdt, r0.out]
          have ec : slices_Clone_byte_byte.f dt = some dt := by
            unfold slices_Clone_byte_byte.f
            rw [if_pos (by omega)]
          rw [ec, Option.bind_some]
          by_cases h : frameIs κ s o dt
          · have e0 : impl_isFrame.f κ s o dt = some true := by rw [frame_eq']; exact congrArg some (decide_eq_true h)
            rw [e0, Option.bind_some, if_pos rfl, putFrame_impl κ s o dt hdb h m (by omega), Option.bind_some]
            unfold bytes_Equal.f
            rw [strs_eq _ l (frameBytes_byt κ s o dt hdb) hb, Option.bind_some]
            by_cases h' : frameBytes κ s o dt = l
            · rw [if_pos (decide_eq_true h'), if_pos ⟨h, h'⟩]
            · rw [if_neg (by simpa using h'), if_neg (fun hh => h' hh.2)]
          · have e0 : impl_isFrame.f κ s o dt = some false := by rw [frame_eq']; exact congrArg some (decide_eq_false h)
            rw [e0, Option.bind_some, if_neg (by decide), if_neg (fun hh => h hh.1)]
        have hspec : ∀ k, 2000 ≤ k → spec_GetFrame.f k l = some (if frameIs κ s o dt ∧ frameBytes κ s o dt = l then (κ, s, o, dt, true) else (0, 0, 0, [], false)) := by
          intro k hk
          by_cases h8 : (l.length : Int) < 8
          · unfold spec_GetFrame.f
            rw [if_pos h8, if_neg (fun hh => by have := hfb hh.1 hh.2; omega)]
          · obtain ⟨m, rfl⟩ : ∃ m, k = m + 1 := ⟨k - 1, by omega⟩
            have G1' := (G1 (m + 1) (by omega)).1
            rw [show ((2 : Nat) : Int) = 2 from rfl] at G1'
            unfold spec_GetFrame.f
            rw [if_neg h8, if_pos (by omega), G1', Option.bind_some, (G2 (m + 1) (by omega)).1, Option.bind_some, if_pos (by omega), if_pos rfl, if_pos rfl, r1.out, r0.out, e4.out, e5.out]
            by_cases hlen : n2 + q + 4 = l.length
            · have e7 : (((n2 + q + 4 : Nat) : Int) != (l.length : Int)) = false := by rw [hlen]; simp
              rw [e7]
              simp only [spec_GetFrame.j0]
              rw [if_neg (by simp), Option.bind_some, if_pos (by omega), e4.out, if_pos (by omega), if_pos (by omega), Int.toNat_natCast, Int.toNat_natCast, hdt, if_pos (by simp only [List.length_nil]; omega), Option.bind_some, List.nil_append]
              by_cases h : frameIs κ s o dt
              · have hfl := frameBytes_length κ s o dt
                have h48 := h.2.2.2.1
                rw [putFrame_spec κ s o dt hdb h m (by omega), Option.bind_some, same_eq _ l m (by omega) (by omega), Option.bind_some]
                by_cases h' : frameBytes κ s o dt = l
                · rw [if_pos (decide_eq_true h'), if_pos ⟨h, h'⟩]
                · rw [if_neg (by simpa using h'), if_neg (fun hh => h' hh.2)]
              · have e0 : spec_FrameOk.f κ s o dt = some false := by rw [frame_eq]; exact congrArg some (decide_eq_false h)
                have ep : spec_PutFrame.f m κ s o dt = some [] := by
                  unfold spec_PutFrame.f
                  rw [e0, Option.bind_some, if_neg (by decide)]
                rw [ep, Option.bind_some, same_eq [] l m (by simp) (by simp; omega), Option.bind_some, if_neg (fun hh => by have := congrArg List.length (of_decide_eq_true hh); simp only [List.length_nil] at this; omega), if_neg (fun hh => h hh.1)]
            · have e7 : (((n2 + q + 4 : Nat) : Int) != (l.length : Int)) = true := by simp; omega
              rw [e7, if_neg (fun hh => hlen (hfb hh.1 hh.2))]
              simp only [spec_GetFrame.j0]
              first | rw [if_pos rfl] | rw [if_pos trivial]
        by_cases h : frameIs κ s o dt ∧ frameBytes κ s o dt = l
        · exact ⟨κ, s, o, dt, true, h.1.2.2.2.1, fun k hk => ⟨by rw [hspec k hk, if_pos h], by rw [himpl k hk, if_pos h]⟩⟩
        · exact ⟨0, 0, 0, [], false, by simp, fun k hk => ⟨by rw [hspec k hk, if_neg h], by rw [himpl k hk, if_neg h]⟩⟩
      · refine ⟨0, 0, 0, [], false, by simp, fun k hk => ?_⟩
        obtain ⟨m, rfl⟩ : ∃ m, k = m + 1 := ⟨k - 1, by omega⟩
        have G1i := (G1 (m + 1) (by omega)).2
        have G1s := (G1 (m + 1) (by omega)).1
        rw [show ((2 : Nat) : Int) = 2 from rfl] at G1i G1s
        constructor
        · unfold spec_GetFrame.f
          by_cases h8 : (l.length : Int) < 8
          · rw [if_pos h8]
          · rw [if_neg h8, if_pos (by omega), G1s, Option.bind_some, (G2 (m + 1) (by omega)).1, Option.bind_some, if_pos (by omega), if_pos rfl, if_pos rfl, r1.out, r0.out, e4.out, e5.out]
            have e7 : (((n2 + q + 4 : Nat) : Int) != (l.length : Int)) = true := by simp; omega
            rw [e7]
            simp only [spec_GetFrame.j0]
            first | rw [if_pos rfl] | rw [if_pos trivial]
        · unfold impl_GetFrame.f
          rw [if_neg h2, G1i, Option.bind_some, (G2 (m + 1) (by omega)).2, Option.bind_some, if_pos (by omega), if_pos rfl, if_pos rfl, r1.out, e6.out]
          simp only [impl_GetFrame.j0]
          rw [if_pos (by simp; omega)]
    · refine ⟨0, 0, 0, [], false, by simp, fun k hk => ?_⟩
      obtain ⟨m, rfl⟩ : ∃ m, k = m + 1 := ⟨k - 1, by omega⟩
      have G1i := (G1 (m + 1) (by omega)).2
      have G1s := (G1 (m + 1) (by omega)).1
      rw [show ((2 : Nat) : Int) = 2 from rfl] at G1i G1s
      constructor
      · unfold spec_GetFrame.f
        by_cases h8 : (l.length : Int) < 8
        · rw [if_pos h8]
        · rw [if_neg h8, if_pos (by omega), G1s, Option.bind_some, (G2 (m + 1) (by omega)).1, Option.bind_some, if_pos (by omega)]
          by_cases h1 : c1 = 0
          · rw [if_pos h1, if_neg (fun h => hc ⟨h1, h⟩)]
            simp only [spec_GetFrame.j0]
            first | rw [if_pos rfl] | rw [if_pos trivial]
          · rw [if_neg h1]
            simp only [spec_GetFrame.j0]
            first | rw [if_pos rfl] | rw [if_pos trivial]
      · unfold impl_GetFrame.f
        rw [if_neg h2, G1i, Option.bind_some, (G2 (m + 1) (by omega)).2, Option.bind_some, if_pos (by omega)]
        by_cases h1 : c1 = 0
        · rw [if_pos h1, if_neg (fun h => hc ⟨h1, h⟩)]
          simp only [impl_GetFrame.j0]
          first | rw [if_pos rfl] | rw [if_pos trivial]
        · rw [if_neg h1]
          simp only [impl_GetFrame.j0]
          first | rw [if_pos rfl] | rw [if_pos trivial]
theorem holds : laws_FnExactGetFrame.PureR := by
  intro l hl
  obtain ⟨K, hK⟩ : ∃ K : Nat, 4000000 ≤ K := ⟨_, Nat.le_refl _⟩
  obtain ⟨m, rfl⟩ : ∃ m, K = m + 3 := ⟨K - 3, by omega⟩
  refine ⟨m + 3, ?_⟩
  unfold laws_FnExactGetFrame.f
  by_cases h0 : (l.length : Int) > 1048576
  · rw [if_pos h0]
  · obtain ⟨x, y, z, o, r, g3, g⟩ := getFrame_both l hl.2 (by omega)
    obtain ⟨g1, g2⟩ := g (m + 3) (by omega)
    obtain ⟨_, g4⟩ := g (m + 1) (by omega)
    rw [if_neg h0, toByteS_eq l (m + 3) (by omega) (by omega)]
    simp only [Option.bind_some, g1, g2]
    rw [eqFrame_self x y z o (m + 3) (by omega) (by omega)]
    simp only [Option.bind_some, if_true, bne_self_eq_false]
    rw [show m + 3 = (m + 2) + 1 from rfl]
    simp only [laws_FnExactGetFrame.j0]
    rw [if_neg (by simp), toByteS_eq l (m + 2) (by omega) (by omega)]
    simp only [Option.bind_some]
    rw [eqByteS_eq l l (m + 2) (by omega) (by omega)]
    simp only [Option.bind_some, decide_true, if_true]
    rw [markByteS_eq l 1 (m + 2) (by omega) (by omega) (by omega)]
    simp only [Option.bind_some]
    rw [if_neg (by omega), eqFrame_self x y z o (m + 2) (by omega) (by omega)]
    simp only [Option.bind_some, if_true, bne_self_eq_false]
    rw [show m + 2 = (m + 1) + 1 from rfl]
    simp only [laws_FnExactGetFrame.j1]
    rw [if_neg (by simp), markFrame_eq x y z o 1 (m + 1) (by omega) (by omega) (by omega)]
    simp only [Option.bind_some]
    rw [heldFrame_eq x y z o.length 1 (m + 1) (by omega) (by omega) (by omega)]
    simp only [Option.bind_some]
    rw [if_neg (by omega)]
    simp only [if_true]
    rw [toByteS_eq l (m + 1) (by omega) (by omega)]
    simp only [Option.bind_some, g4]
    rw [eqFrame_self x y z o (m + 1) (by omega) (by omega)]
    simp only [Option.bind_some, if_true, bne_self_eq_false]
    simp only [laws_FnExactGetFrame.j2]
    rw [if_neg (by simp), heldFrame_eq x y z o.length 1 m (by omega) (by omega) (by omega)]
    simp only [Option.bind_some]
    rw [if_neg (by omega)]
    simp
end Go.Proofs.Ytldlpoloanmohaa.Pure.FnExactGetFrame
namespace Go.Proofs.Ytldlpoloanmohaa.Pure
theorem FnExactGetFrame : Go.Proofs.Ytldlpoloanmohaa.PFnExactGetFrame.laws_FnExactGetFrame.PureR := FnExactGetFrame.holds
end Go.Proofs.Ytldlpoloanmohaa.Pure
