/- The pure statement of the law FnExactPutFrame, proved: numbers and lists alone, no memory. It holds for all arguments that can be read. -/
import Derived.Test.YtldlpoloanmohaaDFnExactPutFrame
import Derived.Test.YtldlpoloanmohaaPlain
set_option linter.unusedVariables false
set_option linter.unusedSimpArgs false
namespace Go.Proofs.Ytldlpoloanmohaa.Pure.FnExactPutFrame
open Go.RowKit Go.Proofs.Ytldlpoloanmohaa.PFnExactPutFrame Go.Proofs.YtldlpoloanmohaaW.PrintWords Go.Proofs.YtldlpoloanmohaaW.PrintLast Go.Proofs.Ytldlpoloanmohaa.Plain

theorem toByteS_l0 (l : List Int) (hl : l.length ≤ 9223372036854775807) : ∀ (d k : Nat) (x : List Int) (i : Nat), i + d = l.length → d < k → x.length = l.length → (∀ j, j < i → x[j]? = l[j]?) → laws_toByteS.l0 k l x (i : Int) = some l := by
  intro d
  induction d with
  | zero =>
    intro k x i hd hk hx hj
    obtain ⟨k, rfl⟩ := succ_of hk
    simp only [laws_toByteS.l0]
    rw [if_neg (by omega)]
    congr 1
    apply List.ext_getElem?
    intro j
    by_cases h : j < i
    · exact hj j h
    · rw [List.getElem?_eq_none (by omega), List.getElem?_eq_none (by omega)]
  | succ d ih =>
    intro k x i hd hk hx hj
    obtain ⟨k, rfl⟩ := succ_of hk
    simp only [laws_toByteS.l0]
    rw [if_pos (by omega), if_pos (by omega), if_pos (by omega), w64n (n := l.length) (by omega) hl]
    apply ih k _ (i + 1) (by omega) (by omega) (by simpa using hx)
    intro j hji
    simp only [Int.toNat_natCast, rd_nat]
    rw [List.getElem?_set]
    by_cases h : i = j
    · subst h
      rw [if_pos rfl, if_pos (by omega), List.getElem?_eq_getElem (by omega)]
      simp [List.getElem?_eq_getElem (show i < l.length by omega)]
    · rw [if_neg h]
      exact hj j (by omega)
theorem toByteS_eq (l : List Int) (k : Nat) (hl : l.length ≤ 281474976710656) (hk : l.length < k) : laws_toByteS.f k l = some l := by
  unfold laws_toByteS.f
  rw [if_pos (by omega), if_pos (by simpa using hl)]
  exact toByteS_l0 l (by omega) l.length k _ 0 (by omega) hk (by simp) (by omega)
theorem eqByteS_l0 (x y : List Int) (hxy : x.length = y.length) (hl : x.length ≤ 9223372036854775807) : ∀ (d k : Nat) (i : Nat), i + d = x.length → d < k → (∀ j, j < i → x[j]? = y[j]?) → laws_eqByteS.l0 k x y (i : Int) = some (decide (x = y)) := by
  intro d
  induction d with
  | zero =>
    intro k i hd hk hj
    obtain ⟨k, rfl⟩ := succ_of hk
    simp only [laws_eqByteS.l0]
    rw [if_neg (by omega)]
    have : x = y := by
      apply List.ext_getElem?
      intro j
      by_cases h : j < i
      · exact hj j h
      · rw [List.getElem?_eq_none (by omega), List.getElem?_eq_none (by omega)]
    simp [this]
  | succ d ih =>
    intro k i hd hk hj
    obtain ⟨k, rfl⟩ := succ_of hk
    simp only [laws_eqByteS.l0]
    rw [if_pos (by omega), if_pos (by omega), if_pos (by omega), w64n (n := x.length) (by omega) hl]
    simp only [rd_nat]
    have hx : x[i]? = some (x.getD i 0) := by simp [List.getElem?_eq_getElem (show i < x.length by omega)]
    have hy : y[i]? = some (y.getD i 0) := by simp [List.getElem?_eq_getElem (show i < y.length by omega)]
    by_cases h : x.getD i 0 = y.getD i 0
    · rw [if_pos h]
      apply ih k (i + 1) (by omega) (by omega)
      intro j hji
      by_cases e : j = i
      · subst e
        rw [hx, hy, h]
      · exact hj j (by omega)
    · rw [if_neg h]
      have : x ≠ y := fun e => h (by rw [e])
      simp [this]
theorem eqByteS_eq (x y : List Int) (k : Nat) (hl : x.length ≤ 9223372036854775807) (hk : x.length < k) : laws_eqByteS.f k x y = some (decide (x = y)) := by
  unfold laws_eqByteS.f
  by_cases h : x.length = y.length
  · rw [if_pos (by omega)]
    exact eqByteS_l0 x y h hl x.length k 0 (by omega) hk (by omega)
  · rw [if_neg (by omega)]
    have : x ≠ y := fun e => h (by rw [e])
    simp [this]
theorem szByteS_eq (l : List Int) (a : Int) (hl : l.length ≤ 9223372036854775807) (h0 : 0 ≤ a) (h1 : a ≤ 9223372036854775807) : laws_szByteS.f l a = some (if a < l.length then -1 else a - l.length) := by
  unfold laws_szByteS.f
  rw [w64 (by omega) (by omega)]
  by_cases h : a < l.length
  · rw [if_pos (by omega), if_pos h]
  · rw [if_neg (by omega), if_neg h]
theorem markByteS_l0 (n : Nat) (a : Int) (h0 : 0 ≤ a) (hn : a + n ≤ 9223372036854775807) : ∀ (d k : Nat) (x : List Int) (i : Nat), i + d = n → d < k → x.length = n → (∀ j, j < i → x[j]? = some ((a + (j : Nat)) % 256)) → laws_markByteS.l0 k x (a + (i : Nat)) (i : Int) = some (a + (n : Nat), marks n a) := by
  intro d
  induction d with
  | zero =>
    intro k x i hd hk hx hj
    obtain ⟨k, rfl⟩ := succ_of hk
    simp only [laws_markByteS.l0]
    rw [if_neg (by omega)]
    have e : x = marks n a := by
      apply List.ext_getElem?
      intro j
      by_cases h : j < n
      · rw [hj j (by omega), marks_get n a j h]
      · rw [List.getElem?_eq_none (by omega), List.getElem?_eq_none (by rw [marks_length]; omega)]
    obtain rfl : i = n := by omega
    rw [e]
  | succ d ih =>
    intro k x i hd hk hx hj
    obtain ⟨k, rfl⟩ := succ_of hk
    simp only [laws_markByteS.l0]
    rw [if_pos (by omega), if_pos (by omega), w64n (n := n) (by omega) (by omega), w64 (x := a + (i : Nat) + 1) (by omega) (by omega)]
    have e : a + (i : Nat) + 1 = a + ((i + 1 : Nat) : Int) := by omega
    rw [e]
    apply ih k _ (i + 1) (by omega) (by omega) (by simpa using hx)
    intro j hji
    rw [Int.toNat_natCast, List.getElem?_set]
    by_cases h : i = j
    · subst h
      rw [if_pos rfl, if_pos (by omega)]
    · rw [if_neg h]
      exact hj j (by omega)
theorem markByteS_eq (l : List Int) (a : Int) (k : Nat) (h0 : 0 ≤ a) (hn : a + l.length ≤ 9223372036854775807) (hk : l.length < k) : laws_markByteS.f k l a = some (a + (l.length : Nat), marks l.length a) := by
  unfold laws_markByteS.f
  have := markByteS_l0 l.length a h0 hn l.length k l 0 (by omega) hk rfl (by omega)
  rw [show a + ((0 : Nat) : Int) = a by omega] at this
  exact this
theorem heldByteS_l0 (n : Nat) (a : Int) (h0 : 0 ≤ a) (hn : a + n ≤ 9223372036854775807) : ∀ (d k : Nat) (i : Nat), i + d = n → d < k → laws_heldByteS.l0 k (marks n a) (a + (i : Nat)) (i : Int) = some (a + (n : Nat)) := by
  intro d
  induction d with
  | zero =>
    intro k i hd hk
    obtain ⟨k, rfl⟩ := succ_of hk
    simp only [laws_heldByteS.l0]
    rw [if_neg (by rw [marks_length]; omega)]
    obtain rfl : i = n := by omega
    rfl
  | succ d ih =>
    intro k i hd hk
    obtain ⟨k, rfl⟩ := succ_of hk
    simp only [laws_heldByteS.l0]
    have hr : rd (marks n a) (i : Int) = (a + (i : Nat)) % 256 := by
      rw [rd_nat, List.getD_eq_getElem?_getD, marks_get n a i (by omega)]
      rfl
    rw [if_pos (by rw [marks_length]; omega), if_pos (by omega), if_pos hr, w64n (n := n) (by omega) (by omega), w64 (x := a + (i : Nat) + 1) (by omega) (by omega)]
    have e : a + (i : Nat) + 1 = a + ((i + 1 : Nat) : Int) := by omega
    rw [e]
    exact ih k (i + 1) (by omega) (by omega)
theorem heldByteS_eq (n : Nat) (a : Int) (k : Nat) (h0 : 0 ≤ a) (hn : a + n ≤ 9223372036854775807) (hk : n < k) : laws_heldByteS.f k (marks n a) a = some (a + (n : Nat)) := by
  unfold laws_heldByteS.f
  have := heldByteS_l0 n a h0 hn n k 0 (by omega) hk
  rw [show a + ((0 : Nat) : Int) = a by omega] at this
  exact this
theorem in_eq (a b c : Int) : spec_l1In.f a b c = some (decide (b ≤ a ∧ a ≤ c)) := by
  unfold spec_l1In.f
  split <;> simp <;> omega
theorem in_eq' (a b c : Int) : impl_in.f a b c = some (decide (b ≤ a ∧ a ≤ c)) := in_eq a b c
theorem frame_eq (a b c : Int) (l : List Int) : spec_FrameOk.f a b c l = some (decide ((1 ≤ a ∧ a ≤ 4) ∧ (1 ≤ b ∧ b ≤ 2147483647) ∧ (0 ≤ c ∧ c ≤ 2147483647) ∧ l.length ≤ 48 ∧ (a = 2 ∨ l.length = 0))) := by
  unfold spec_FrameOk.f
  simp only [in_eq, Option.bind_some, decide_eq_true_eq]
  repeat' split
  all_goals (congr 1; rw [Bool.eq_iff_iff]; simp only [beq_iff_eq, decide_eq_true_eq, true_iff, false_iff, Bool.false_eq_true]; omega)
theorem frame_eq' (a b c : Int) (l : List Int) : impl_isFrame.f a b c l = some (decide ((1 ≤ a ∧ a ≤ 4) ∧ (1 ≤ b ∧ b ≤ 2147483647) ∧ (0 ≤ c ∧ c ≤ 2147483647) ∧ l.length ≤ 48 ∧ (a = 2 ∨ l.length = 0))) := by
  unfold impl_isFrame.f
  simp only [in_eq', Option.bind_some, decide_eq_true_eq]
  repeat' split
  all_goals (congr 1; rw [Bool.eq_iff_iff]; simp only [beq_iff_eq, decide_eq_true_eq, true_iff, false_iff, Bool.false_eq_true]; omega)
theorem bxor_i64 (a b : Nat) (ha : a < 4294967296) (hb : b < 4294967296) : Go.bits .xor .i64 (a : Int) (b : Int) = ((a ^^^ b : Nat) : Int) := by
  have hx : a ^^^ b < 2 ^ 32 := Nat.xor_lt_two_pow ha hb
  have e1 : (BitVec.ofInt 64 (a : Int) ^^^ BitVec.ofInt 64 (b : Int)).toNat = a ^^^ b := by
    rw [BitVec.ofInt_natCast, BitVec.ofInt_natCast, BitVec.toNat_xor, BitVec.toNat_ofNat, BitVec.toNat_ofNat, Nat.mod_eq_of_lt (by omega), Nat.mod_eq_of_lt (by omega)]
  have e2 : Go.bits .xor .i64 (a : Int) (b : Int) = IntKind.i64.wrap (((BitVec.ofInt 64 (a : Int) ^^^ BitVec.ofInt 64 (b : Int)).toNat : Nat) : Int) := rfl
  rw [e2, e1, IntKind.wrap_i64]
  omega
theorem bxor_u32 (a b : Nat) (ha : a < 4294967296) (hb : b < 4294967296) : Go.bits .xor .u32 (a : Int) (b : Int) = ((a ^^^ b : Nat) : Int) := by
  have hx : a ^^^ b < 2 ^ 32 := Nat.xor_lt_two_pow ha hb
  have e1 : (BitVec.ofInt 32 (a : Int) ^^^ BitVec.ofInt 32 (b : Int)).toNat = a ^^^ b := by
    rw [BitVec.ofInt_natCast, BitVec.ofInt_natCast, BitVec.toNat_xor, BitVec.toNat_ofNat, BitVec.toNat_ofNat, Nat.mod_eq_of_lt (by omega), Nat.mod_eq_of_lt (by omega)]
  have e2 : Go.bits .xor .u32 (a : Int) (b : Int) = IntKind.u32.wrap (((BitVec.ofInt 32 (a : Int) ^^^ BitVec.ofInt 32 (b : Int)).toNat : Nat) : Int) := rfl
  rw [e2, e1, IntKind.wrap_u32]
  omega
theorem band1_u32 (a : Nat) (ha : a < 4294967296) : Go.bits .and .u32 (a : Int) 1 = ((a % 2 : Nat) : Int) := by
  have e := bits_mask .u32 32 (by decide) (fun n h0 h1 => by rw [IntKind.wrap_u32]; omega) 1 (by decide) (a : Int) (by omega) (by omega)
  simpa using e
def crc8 : Nat → Nat → Nat
  | 0, x => x
  | d + 1, x => crc8 d (if x % 2 = 1 then (x / 2) ^^^ 3988292384 else x / 2)
theorem crc_step_lt (x : Nat) (hx : x < 4294967296) : (if x % 2 = 1 then (x / 2) ^^^ 3988292384 else x / 2) < 4294967296 := by
  split
  · exact Nat.xor_lt_two_pow (n := 32) (by omega) (by omega)
  · omega
theorem crc8_lt : ∀ (d x : Nat), x < 4294967296 → crc8 d x < 4294967296
  | 0, _, h => h
  | d + 1, x, h => crc8_lt d _ (crc_step_lt x h)
def crcAll : List Int → Nat → Nat
  | [], x => x
  | c :: l, x => crcAll l (crc8 8 (x ^^^ c.toNat))
theorem crcAll_lt : ∀ (l : List Int) (x : Nat), Byt l → x < 4294967296 → crcAll l x < 4294967296
  | [], _, _, h => h
  | c :: l, x, hb, h => crcAll_lt l _ (fun y hy => hb y (by simp [hy])) (crc8_lt 8 _ (Nat.xor_lt_two_pow (n := 32) (by omega) (by have := hb c (by simp); omega)))
def crcOf (l : List Int) : Int := ((crcAll l 4294967295 ^^^ 4294967295 : Nat) : Int)
theorem crcOf_range (l : List Int) (hb : Byt l) : 0 ≤ crcOf l ∧ crcOf l < 4294967296 := by
  have : crcAll l 4294967295 ^^^ 4294967295 < 2 ^ 32 := Nat.xor_lt_two_pow (crcAll_lt l _ hb (by omega)) (by omega)
  unfold crcOf
  omega
theorem spec_crc_l1 (l : List Int) (i : Int) : ∀ (d k x j : Nat), j + d = 8 → x < 4294967296 → spec_Crc.l1 (k + d + 1) l (x : Int) i (j : Int) = spec_Crc.l0 k l (crc8 d x : Nat) (wrap64 (i + 1)) := by
  intro d
  induction d with
  | zero =>
    intro k x j hj hx
    simp only [Nat.add_zero, spec_Crc.l1]
    rw [if_neg (by omega)]
    rfl
  | succ d ih =>
    intro k x j hj hx
    obtain ⟨m, hm⟩ : ∃ m, k + d + 1 = m := ⟨_, rfl⟩
    rw [show k + (d + 1) + 1 = m + 1 by omega]
    simp only [spec_Crc.l1]
    have e1 : Int.tmod (x : Int) 2 = ((x % 2 : Nat) : Int) := by rw [Int.tmod_eq_emod_of_nonneg (by omega)]; omega
    have e2 : wrap64 (Int.tdiv (x : Int) 2) = ((x / 2 : Nat) : Int) := by rw [Int.tdiv_eq_ediv_of_nonneg (by omega), w64 (by omega) (by omega)]; omega
    have e3 : wrap64 ((j : Int) + 1) = ((j + 1 : Nat) : Int) := by rw [w64 (by omega) (by omega)]; omega
    rw [if_pos (by omega), e1, e2, e3]
    have hlt := crc_step_lt x hx
    by_cases ho : x % 2 = 1
    · rw [if_pos (by omega), show (3988292384 : Int) = ((3988292384 : Nat) : Int) from rfl, bxor_i64 _ _ (by omega) (by omega)]
      rw [if_pos ho] at hlt
      rw [← hm, ih k _ (j + 1) (by omega) hlt]
      simp only [crc8, if_pos ho]
    · rw [if_neg (by omega)]
      rw [if_neg ho] at hlt
      rw [← hm, ih k _ (j + 1) (by omega) hlt]
      simp only [crc8, if_neg ho]
theorem impl_crc_l1 (l : List Int) (n i : Int) : ∀ (d k x j : Nat), j + d = 8 → x < 4294967296 → impl_Crc.l1 (k + d + 1) (x : Int) l n i (j : Int) = impl_Crc.l0 k (crc8 d x : Nat) l n (wrap64 (i + 1)) := by
  intro d
  induction d with
  | zero =>
    intro k x j hj hx
    simp only [Nat.add_zero, impl_Crc.l1]
    rw [if_neg (by omega)]
    rfl
  | succ d ih =>
    intro k x j hj hx
    obtain ⟨m, hm⟩ : ∃ m, k + d + 1 = m := ⟨_, rfl⟩
    rw [show k + (d + 1) + 1 = m + 1 by omega]
    simp only [impl_Crc.l1]
    have e2 : (x : Int) / 2 = ((x / 2 : Nat) : Int) := by omega
    have e3 : wrap64 ((j : Int) + 1) = ((j + 1 : Nat) : Int) := by rw [w64 (by omega) (by omega)]; omega
    rw [if_pos (by omega), band1_u32 x hx, e2, e3]
    have hlt := crc_step_lt x hx
    by_cases ho : x % 2 = 1
    · rw [if_pos (by omega), show (3988292384 : Int) = ((3988292384 : Nat) : Int) from rfl, bxor_u32 _ _ (by omega) (by omega)]
      rw [if_pos ho] at hlt
      rw [← hm, ih k _ (j + 1) (by omega) hlt]
      simp only [crc8, if_pos ho]
    · rw [if_neg (by omega)]
      rw [if_neg ho] at hlt
      rw [← hm, ih k _ (j + 1) (by omega) hlt]
      simp only [crc8, if_neg ho]
theorem crc_round (l : List Int) (hb : Byt l) (i : Nat) (hi : i < l.length) : ∃ c : Nat, rd l (i : Int) = (c : Int) ∧ c < 256 ∧ ∀ x, crcAll (l.drop i) x = crcAll (l.drop (i + 1)) (crc8 8 (x ^^^ c)) := by
  have h := hb.get i hi
  refine ⟨(l[i]).toNat, by rw [rd_lt l i hi]; omega, by omega, fun x => ?_⟩
  rw [List.drop_eq_getElem_cons hi]
  rfl
theorem spec_crc_l0 (l : List Int) (hb : Byt l) (hl : l.length < 9223372036854775807) : ∀ (d k x i : Nat), i + d = l.length → x < 4294967296 → spec_Crc.l0 (k + 10 * d + 1) l (x : Int) (i : Int) = some ((crcAll (l.drop i) x ^^^ 4294967295 : Nat) : Int) := by
  intro d
  induction d with
  | zero =>
    intro k x i hi hx
    simp only [Nat.mul_zero, Nat.add_zero, spec_Crc.l0]
    rw [if_neg (by omega), List.drop_eq_nil_of_le (by omega), show (4294967295 : Int) = ((4294967295 : Nat) : Int) from rfl, bxor_i64 x _ hx (by omega)]
    rfl
  | succ d ih =>
    intro k x i hi hx
    obtain ⟨c, h1, h2, h3⟩ := crc_round l hb i (by omega)
    rw [show k + 10 * (d + 1) + 1 = ((k + 10 * d + 1) + 8 + 1) + 1 by omega]
    simp only [spec_Crc.l0]
    rw [if_pos (by omega), if_pos (by omega), h1, w64 (x := (c : Int)) (by omega) (by omega), bxor_i64 x c hx (by omega)]
    have hxc : x ^^^ c < 4294967296 := Nat.xor_lt_two_pow (n := 32) (by omega) (by omega)
    have e := spec_crc_l1 l (i : Int) 8 (k + 10 * d + 1) (x ^^^ c) 0 (by omega) hxc
    rw [show ((0 : Nat) : Int) = 0 from rfl] at e
    rw [e, w64n (n := l.length) (by omega) (by omega), ih k _ (i + 1) (by omega) (crc8_lt 8 _ hxc), h3]
theorem impl_crc_l0 (l : List Int) (hb : Byt l) (hl : l.length < 9223372036854775807) : ∀ (d k x i : Nat), i + d = l.length → x < 4294967296 → impl_Crc.l0 (k + 10 * d + 1) (x : Int) l (l.length : Int) (i : Int) = some ((crcAll (l.drop i) x ^^^ 4294967295 : Nat) : Int) := by
  intro d
  induction d with
  | zero =>
    intro k x i hi hx
    simp only [Nat.mul_zero, Nat.add_zero, impl_Crc.l0]
    have hlt : x ^^^ 4294967295 < 2 ^ 32 := Nat.xor_lt_two_pow (by omega) (by omega)
    rw [if_neg (by omega), List.drop_eq_nil_of_le (by omega), show (4294967295 : Int) = ((4294967295 : Nat) : Int) from rfl, bxor_u32 _ x (by omega) hx, Nat.xor_comm, w64 (by omega) (by omega)]
    rfl
  | succ d ih =>
    intro k x i hi hx
    obtain ⟨c, h1, h2, h3⟩ := crc_round l hb i (by omega)
    rw [show k + 10 * (d + 1) + 1 = ((k + 10 * d + 1) + 8 + 1) + 1 by omega]
    simp only [impl_Crc.l0]
    rw [if_pos (by omega), if_pos (by omega), if_pos (by omega), h1, show (c : Int) % 4294967296 = (c : Int) by omega, bxor_u32 x c hx (by omega)]
    have hxc : x ^^^ c < 4294967296 := Nat.xor_lt_two_pow (n := 32) (by omega) (by omega)
    have e := impl_crc_l1 l (l.length : Int) (i : Int) 8 (k + 10 * d + 1) (x ^^^ c) 0 (by omega) hxc
    rw [show ((0 : Nat) : Int) = 0 from rfl] at e
    rw [e, w64n (n := l.length) (by omega) (by omega), ih k _ (i + 1) (by omega) (crc8_lt 8 _ hxc), h3]
theorem crc_spec (l : List Int) (hb : Byt l) (hl : l.length < 9223372036854775807) (k : Nat) (hk : 10 * l.length < k) : spec_Crc.f k l = some (crcOf l) := by
  have e := spec_crc_l0 l hb hl l.length (k - 10 * l.length - 1) 4294967295 0 (by omega) (by omega)
  rw [show k - 10 * l.length - 1 + 10 * l.length + 1 = k by omega] at e
  exact e
theorem crc_impl (l : List Int) (hb : Byt l) (hl : l.length < 9223372036854775807) (k : Nat) (hk : 10 * l.length < k) : impl_Crc.f k l = some (crcOf l) := by
  have e := impl_crc_l0 l hb hl l.length (k - 10 * l.length - 1) 4294967295 0 (by omega) (by omega)
  rw [show k - 10 * l.length - 1 + 10 * l.length + 1 = k by omega] at e
  exact e
/-- A number's bytes, seven bits each. -/
def varb : Nat → Int → List Int
  | 0, n => [n % 256]
  | d + 1, n => if n < 128 then [n % 256] else ((n % 128 + 128) % 256) :: varb d (n / 128)
theorem varb_byt : ∀ (d : Nat) (n : Int), Byt (varb d n)
  | 0, n => fun x hx => by simp [varb] at hx; omega
  | d + 1, n => fun x hx => by
    simp only [varb] at hx
    split at hx
    · simp at hx; omega
    · rcases List.mem_cons.mp hx with h | h
      · omega
      · exact varb_byt d _ x h
theorem varb_length : ∀ (d : Nat) (n : Int), (varb d n).length ≤ d + 1
  | 0, n => by simp [varb]
  | d + 1, n => by
    simp only [varb]
    split
    · simp
    · have := varb_length d (n / 128)
      simp; omega
theorem putVar_impl_l0 : ∀ (d k : Nat) (n : Int) (acc : List Int), 0 ≤ n → n < 128 ^ (d + 1) → n < 2147483648 → acc.length + d < 100 → impl_PutVar.l0 (k + d + 1) n acc = some (acc ++ varb d n) := by
  intro d
  induction d with
  | zero =>
    intro k n acc h0 h1 h2 h3
    simp only [Nat.add_zero, impl_PutVar.l0]
    rw [if_neg (by simpa using h1), if_pos (by omega)]
    rfl
  | succ d ih =>
    intro k n acc h0 h1 h2 h3
    obtain ⟨m, hm⟩ : ∃ m, k + d + 1 = m := ⟨_, rfl⟩
    rw [show k + (d + 1) + 1 = m + 1 by omega]
    simp only [impl_PutVar.l0]
    by_cases h : n ≥ 128
    · have e1 : Go.bits .and .i64 n 127 = n % 128 := and_pow n 7 (by omega) h0 (by omega)
      have e2 : Go.bits .or .i64 (n % 128) 128 = n % 128 + 128 := or_low (n % 128) 128 7 (by omega) (by omega) (by omega) (by omega) (by omega) (by omega)
      rw [if_pos h, if_pos (by omega), e1, e2, ← hm, ih k (n / 128) _ (by omega) (by rw [Int.pow_succ] at h1; omega) (by omega) (by simp; omega)]
      simp only [varb]
      rw [if_neg (by omega)]
      simp
    · rw [if_neg h, if_pos (by omega)]
      simp only [varb]
      rw [if_pos (by omega)]
theorem putVar_spec_l : ∀ (d k : Nat) (n : Int), 0 ≤ n → n < 128 ^ (d + 1) → n < 2147483648 → d < 100 → spec_PutVar.f (k + 2 * d + 2) n = some (varb d n) := by
  intro d
  induction d with
  | zero =>
    intro k n h0 h1 h2 h3
    simp only [Nat.mul_zero, Nat.add_zero]
    rw [show k + 2 = (k + 1) + 1 from rfl]
    simp only [spec_PutVar.f]
    rw [if_neg (by omega)]
    simp only [spec_PutVar.j0]
    rw [if_neg (by simp; omega), if_pos (by simpa using h1)]
    rfl
  | succ d ih =>
    intro k n h0 h1 h2 h3
    rw [show k + 2 * (d + 1) + 2 = ((k + 2 * d + 2) + 1) + 1 by omega]
    simp only [spec_PutVar.f]
    rw [if_neg (by omega)]
    simp only [spec_PutVar.j0]
    rw [if_neg (by simp; omega)]
    by_cases h : n < 128
    · rw [if_pos h]
      simp only [varb]
      rw [if_pos h]
    · have hl := varb_length d (n / 128)
      rw [if_neg h, Option.bind_some, w64 (x := Int.tdiv n 128) (by rw [Int.tdiv_eq_ediv_of_nonneg h0]; omega) (by rw [Int.tdiv_eq_ediv_of_nonneg h0]; omega), Int.tdiv_eq_ediv_of_nonneg h0, ih k (n / 128) (by omega) (by rw [Int.pow_succ] at h1; omega) (by omega) (by omega), Option.bind_some, if_pos (by simp; omega), Int.tmod_eq_emod_of_nonneg h0, w64 (by omega) (by omega)]
      simp only [varb]
      rw [if_neg h]
      rfl
theorem putVar_impl (k : Nat) (n : Int) (hk : 8 ≤ k) (h0 : 0 ≤ n) (h1 : n ≤ 2147483647) : impl_PutVar.f k n = some (varb 4 n) := by
  unfold impl_PutVar.f
  obtain ⟨m, rfl⟩ : ∃ m, k = (m + 4 + 1) + 1 := ⟨k - 6, by omega⟩
  rw [if_neg (by omega)]
  simp only [impl_PutVar.j0]
  rw [if_neg (by simp; omega), putVar_impl_l0 4 m n [] h0 (by omega) (by omega) (by simp)]
  rfl
theorem putVar_spec (k : Nat) (n : Int) (hk : 12 ≤ k) (h0 : 0 ≤ n) (h1 : n ≤ 2147483647) : spec_PutVar.f k n = some (varb 4 n) := by
  obtain ⟨m, rfl⟩ : ∃ m, k = m + 2 * 4 + 2 := ⟨k - 10, by omega⟩
  exact putVar_spec_l 4 m n h0 (by omega) (by omega) (by omega)
theorem rd_rows (l : List (List Int)) (i : Nat) (h : i < l.length) : rd_L1 l (i : Int) = l[i] := by
  unfold rd_L1
  rw [Int.toNat_natCast, List.getD_eq_getElem?_getD, List.getElem?_eq_getElem h]
  rfl
theorem concat_l1 (ll : List (List Int)) (hn : ll.length < 140737488355328) (hs : ll.flatten.length < 140737488355328) : ∀ (d k i : Nat) (x : List Int), i + d = ll.length → d < k → x = (ll.take i).flatten → slices_Concat_byte_byte.l1 k x ll (ll.length : Int) (i : Int) = some ll.flatten := by
  intro d
  induction d with
  | zero =>
    intro k i x hi hk hx
    obtain ⟨k, rfl⟩ := succ_of hk
    simp only [slices_Concat_byte_byte.l1]
    rw [if_neg (by omega), hx, List.take_of_length_le (by omega)]
  | succ d ih =>
    intro k i x hi hk hx
    obtain ⟨k, rfl⟩ := succ_of hk
    have hlt : i < ll.length := by omega
    have e : (ll.take (i + 1)).flatten = x ++ ll[i] := by
      rw [List.take_succ_eq_append_getElem hlt, List.flatten_append, hx]; simp
    have hle : (ll.take (i + 1)).flatten.length ≤ ll.flatten.length := by
      conv => rhs; rw [← List.take_append_drop (i + 1) ll, List.flatten_append, List.length_append]
      omega
    rw [e, List.length_append] at hle
    simp only [slices_Concat_byte_byte.l1]
    rw [if_pos (by omega), if_pos (by omega), if_pos (by omega), rd_rows ll i hlt, if_pos (by omega), w64n (n := ll.length) (by omega) (by omega)]
    exact ih k (i + 1) _ (by omega) (by omega) e.symm
theorem concat_l0 (ll : List (List Int)) (hn : ll.length < 140737488355328) (hs : ll.flatten.length < 140737488355328) : ∀ (d k i : Nat), i + d = ll.length → d + ll.length + 1 < k → slices_Concat_byte_byte.l0 k ll (((ll.take i).flatten.length : Nat) : Int) ll (ll.length : Int) (i : Int) = some ll.flatten := by
  intro d
  induction d with
  | zero =>
    intro k i hi hk
    obtain ⟨k, rfl⟩ : ∃ m, k = m + 1 := ⟨k - 1, by omega⟩
    simp only [slices_Concat_byte_byte.l0]
    rw [if_neg (by omega), List.take_of_length_le (by omega)]
    unfold slices_Growofnil_byte_byte.f
    rw [if_pos (by omega), if_pos (by omega), Option.bind_some]
    exact concat_l1 ll hn hs ll.length k 0 [] (by omega) (by omega) (by simp)
  | succ d ih =>
    intro k i hi hk
    obtain ⟨k, rfl⟩ : ∃ m, k = m + 1 := ⟨k - 1, by omega⟩
    have hlt : i < ll.length := by omega
    have e : (ll.take (i + 1)).flatten.length = (ll.take i).flatten.length + (ll[i]).length := by
      rw [List.take_succ_eq_append_getElem hlt, List.flatten_append, List.length_append]; simp
    have hle : (ll.take (i + 1)).flatten.length ≤ ll.flatten.length := by
      conv => rhs; rw [← List.take_append_drop (i + 1) ll, List.flatten_append, List.length_append]
      omega
    simp only [slices_Concat_byte_byte.l0]
    rw [if_pos (by omega), if_pos (by omega), if_pos (by omega), rd_rows ll i hlt]
    have e2 : wrap64 (((ll.take i).flatten.length : Nat) + ((ll[i]).length : Int)) = (((ll.take (i + 1)).flatten.length : Nat) : Int) := by
      rw [w64 (by omega) (by omega)]; omega
    rw [e2, if_neg (by omega), w64n (n := ll.length) (by omega) (by omega)]
    exact ih k (i + 1) (by omega) (by omega)
theorem concat_eq (ll : List (List Int)) (hn : ll.length < 140737488355328) (hs : ll.flatten.length < 140737488355328) (k : Nat) (hk : 2 * ll.length + 1 < k) : slices_Concat_byte_byte.f k ll = some ll.flatten := by
  unfold slices_Concat_byte_byte.f
  have e := concat_l0 ll hn hs ll.length k 0 (by omega) (by omega)
  simpa using e


theorem putWord_round (k : Nat) (x : Int) (l : List Int) (i : Nat) (h0 : 0 ≤ x) (h1 : x < 4294967296) (hl : l.length < 5) (hi : i < 4) : spec_PutWord.l0 (k + 1) x l (i : Int) = spec_PutWord.l0 k (x / 256) (l ++ [x % 256]) ((i + 1 : Nat) : Int) := by
  simp only [spec_PutWord.l0]
  rw [if_pos (by omega), if_pos (by omega), Int.tdiv_eq_ediv_of_nonneg h0, Int.tmod_eq_emod_of_nonneg h0, w64 (x := x / 256) (by omega) (by omega), w64 (x := (i : Int) + 1) (by omega) (by omega), Int.emod_emod_of_dvd _ (by decide)]
  rfl
theorem putWord_spec (a : Int) (k : Nat) (hk : 4 < k) : spec_PutWord.f k a = some (word4 a) := by
  obtain ⟨k, rfl⟩ : ∃ m, k = m + 5 := ⟨k - 5, by omega⟩
  unfold spec_PutWord.f
  rw [and_mask]
  have h0 : 0 ≤ a % 4294967296 := Int.emod_nonneg _ (by omega)
  have h1 : a % 4294967296 < 4294967296 := Int.emod_lt_of_pos _ (by omega)
  rw [show (0 : Int) = ((0 : Nat) : Int) from rfl, putWord_round (k + 4) _ _ 0 h0 h1 (by simp) (by omega), putWord_round (k + 3) _ _ 1 (by omega) (by omega) (by simp) (by omega), putWord_round (k + 2) _ _ 2 (by omega) (by omega) (by simp) (by omega), putWord_round (k + 1) _ _ 3 (by omega) (by omega) (by simp) (by omega)]
  simp only [spec_PutWord.l0]
  rw [if_neg (by omega)]
  simp [word4]
  omega
theorem putWord_impl (a : Int) : impl_PutWord.f a = some (word4 a) := rfl
/-- A frame's bytes without the check. -/
def frameHead (a b c : Int) (l : List Int) : List Int := [a % 256, (l.length : Int) % 256] ++ varb 4 b ++ varb 4 c ++ l
def frameBytes (a b c : Int) (l : List Int) : List Int := frameHead a b c l ++ word4 (crcOf (frameHead a b c l))
theorem frameHead_byt (a b c : Int) (l : List Int) (hl : Byt l) : Byt (frameHead a b c l) := by
  refine Byt.append (Byt.append (Byt.append ?_ (varb_byt 4 b)) (varb_byt 4 c)) hl
  intro x hx
  simp at hx
  omega
theorem frameHead_length (a b c : Int) (l : List Int) : (frameHead a b c l).length ≤ 12 + l.length := by
  have h1 := varb_length 4 b
  have h2 := varb_length 4 c
  simp [frameHead]
  omega
theorem frameBytes_length (a b c : Int) (l : List Int) : (frameBytes a b c l).length ≤ 16 + l.length := by
  have := frameHead_length a b c l
  unfold frameBytes
  rw [List.length_append, word4_length]
  omega
theorem frameBytes_byt (a b c : Int) (l : List Int) (hl : Byt l) : Byt (frameBytes a b c l) := (frameHead_byt a b c l hl).append (Byt.word4 _)
/-- When a frame is right. -/
def frameIs (a b c : Int) (l : List Int) : Prop := (1 ≤ a ∧ a ≤ 4) ∧ (1 ≤ b ∧ b ≤ 2147483647) ∧ (0 ≤ c ∧ c ≤ 2147483647) ∧ l.length ≤ 48 ∧ (a = 2 ∨ l.length = 0)
instance (a b c : Int) (l : List Int) : Decidable (frameIs a b c l) := by unfold frameIs; infer_instance
theorem putFrame_impl (a b c : Int) (l : List Int) (hb : Byt l) (h : frameIs a b c l) (k : Nat) (hk : 1000 ≤ k) : impl_putFrame.f k a b c l = some (frameBytes a b c l) := by
  obtain ⟨h1, h2, h3, h4, h5⟩ := h
  have hh := frameHead_length a b c l
  have e1 := concat_eq [[a % 256, (l.length : Int) % 256], varb 4 b, varb 4 c, l] (by simp) (by have h1 := varb_length 4 b; have h2 := varb_length 4 c; simp; omega) k (by simp; omega)
  have e2 : ([[a % 256, (l.length : Int) % 256], varb 4 b, varb 4 c, l] : List (List Int)).flatten = frameHead a b c l := by simp [frameHead]
  rw [e2] at e1
  unfold impl_putFrame.f
  rw [putVar_impl k b (by omega) (by omega) (by omega), Option.bind_some, putVar_impl k c (by omega) (by omega) (by omega), Option.bind_some, e1, Option.bind_some, crc_impl _ (frameHead_byt a b c l hb) (by omega) k (by omega), Option.bind_some, putWord_impl, Option.bind_some, if_pos (by rw [word4_length]; omega)]
  rfl
theorem putFrame_spec (a b c : Int) (l : List Int) (hb : Byt l) (h : frameIs a b c l) (k : Nat) (hk : 1000 ≤ k) : spec_PutFrame.f k a b c l = some (frameBytes a b c l) := by
  have hh := frameHead_length a b c l
  have e0 : spec_FrameOk.f a b c l = some true := by rw [frame_eq]; exact congrArg some (decide_eq_true h)
  obtain ⟨h1, h2, h3, h4, h5⟩ := h
  have v1 := varb_length 4 b
  have v2 := varb_length 4 c
  unfold spec_PutFrame.f
  rw [e0, Option.bind_some, if_pos rfl, Option.bind_some, putVar_spec k b (by omega) (by omega) (by omega), Option.bind_some, if_pos (by simp; omega), Option.bind_some, putVar_spec k c (by omega) (by omega) (by omega), Option.bind_some, if_pos (by simp; omega), Option.bind_some, if_pos (by simp; omega), Option.bind_some]
  have e2 : [a % 256, (l.length : Int) % 256] ++ varb 4 b ++ varb 4 c ++ l = frameHead a b c l := rfl
  rw [e2, crc_spec _ (frameHead_byt a b c l hb) (by omega) k (by omega), Option.bind_some, putWord_spec _ k (by omega), Option.bind_some, if_pos (by rw [word4_length]; omega)]
  rfl
theorem szFrame_eq (a b c : Int) (l : List Int) (hl : l.length ≤ 9223372036854775807) : laws_szFrame.f a b c l 1048576 = some (if (1048576 : Int) < (l.length : Int) then (-1 : Int) else (1048576 : Int) - (l.length : Int)) := by
  unfold laws_szFrame.f
  rw [szByteS_eq l 1048576 hl (by omega) (by omega)]
  simp only [Option.bind_some]
  split
  · rw [if_pos (by omega)]
  · rw [if_neg (by omega)]
theorem toFrame_eq (a b c : Int) (l : List Int) (k : Nat) (hl : l.length ≤ 281474976710656) (hk : l.length < k) : laws_toFrame.f k a b c l = some (a, b, c, l) := by
  unfold laws_toFrame.f
  rw [toByteS_eq l k hl hk]; rfl
theorem eqFrame_self (a b c : Int) (l : List Int) (k : Nat) (hl : l.length ≤ 9223372036854775807) (hk : l.length < k) : laws_eqFrame.f k a b c l a b c l = some true := by
  unfold laws_eqFrame.f
  rw [eqByteS_eq l l k hl hk]
  simp
theorem eqFrame_eq (a b c : Int) (l : List Int) (a' b' c' : Int) (l' : List Int) (k : Nat) (hl : l.length ≤ 9223372036854775807) (hk : l.length < k) : laws_eqFrame.f k a b c l a' b' c' l' = some (decide (a = a' ∧ b = b' ∧ c = c' ∧ l = l')) := by
  unfold laws_eqFrame.f
  rw [eqByteS_eq l l' k hl hk]
  by_cases h1 : a = a' <;> by_cases h2 : b = b' <;> by_cases h3 : c = c' <;> by_cases h4 : l = l' <;> simp [h1, h2, h3, h4]
theorem markFrame_eq (x y z : Int) (l : List Int) (a : Int) (k : Nat) (h0 : 0 ≤ a) (hn : a + l.length ≤ 9223372036854775807) (hk : l.length < k) : laws_markFrame.f k x y z l a = some (a + (l.length : Nat), marks l.length a) := by
  unfold laws_markFrame.f
  rw [markByteS_eq l a k h0 hn hk]; rfl
theorem putFrame_both (a b c : Int) (l : List Int) (hb : Byt l) (hl : l.length ≤ 1048576) : ∃ o, o.length ≤ 64 ∧ ∀ k, 1000 ≤ k → spec_PutFrame.f k a b c l = some o ∧ impl_PutFrame.f k a b c l = some o := by
  by_cases h : frameIs a b c l
  · refine ⟨frameBytes a b c l, ?_, fun k hk => ⟨putFrame_spec a b c l hb h k hk, ?_⟩⟩
    · have := frameBytes_length a b c l
      have h4 := h.2.2.2.1
      omega
    · unfold impl_PutFrame.f
      have e0 : impl_isFrame.f a b c l = some true := by rw [frame_eq']; exact congrArg some (decide_eq_true h)
      rw [e0, Option.bind_some, if_pos rfl, putFrame_impl a b c l hb h k hk, Option.bind_some]
  · refine ⟨[], by simp, fun k hk => ⟨?_, ?_⟩⟩
    · have e0 : spec_FrameOk.f a b c l = some false := by rw [frame_eq]; exact congrArg some (decide_eq_false h)
      unfold spec_PutFrame.f
      rw [e0, Option.bind_some, if_neg (by decide)]
    · have e0 : impl_isFrame.f a b c l = some false := by rw [frame_eq']; exact congrArg some (decide_eq_false h)
      unfold impl_PutFrame.f
      rw [e0, Option.bind_some, if_neg (by decide)]
theorem holds : laws_FnExactPutFrame.PureR := by
  intro a b c l ha hb hc hl
  obtain ⟨K, hK⟩ : ∃ K : Nat, 4000000 ≤ K := ⟨_, Nat.le_refl _⟩
  obtain ⟨m, rfl⟩ : ∃ m, K = m + 1 := ⟨K - 1, by omega⟩
  refine ⟨m + 1, ?_⟩
  unfold laws_FnExactPutFrame.f
  rw [szFrame_eq a b c l hl.1]
  simp only [Option.bind_some]
  by_cases h1 : (1048576 : Int) < l.length
  · rw [if_pos h1, if_pos (by omega)]
  · rw [if_neg h1, if_neg (by omega)]
    obtain ⟨o, g0, g⟩ := putFrame_both a b c l hl.2 (by omega)
    obtain ⟨g1, g2⟩ := g (m + 1) (by omega)
    obtain ⟨_, g3⟩ := g m (by omega)
    rw [toFrame_eq a b c l (m + 1) (by omega) (by omega)]
    simp only [Option.bind_some, g1, g2]
    rw [eqByteS_eq o o (m + 1) (by omega) (by omega)]
    simp only [Option.bind_some, decide_true, if_true]
    rw [eqFrame_self a b c l (m + 1) (by omega) (by omega)]
    simp only [Option.bind_some, if_true]
    rw [markFrame_eq a b c l 1 (m + 1) (by omega) (by omega) (by omega)]
    simp only [Option.bind_some]
    rw [if_neg (by omega)]
    simp only [Bool.not_true]
    simp only [laws_FnExactPutFrame.j0]
    rw [if_neg (by simp), markByteS_eq o 1 m (by omega) (by omega) (by omega)]
    simp only [Option.bind_some]
    rw [heldByteS_eq o.length 1 m (by omega) (by omega) (by omega)]
    simp only [Option.bind_some]
    rw [if_neg (by omega)]
    simp only [if_true]
    rw [toFrame_eq a b c l m (by omega) (by omega)]
    simp only [Option.bind_some, g3]
    rw [eqByteS_eq o o m (by omega) (by omega)]
    simp only [Option.bind_some, decide_true, if_true]
    rw [if_neg (by omega)]
end Go.Proofs.Ytldlpoloanmohaa.Pure.FnExactPutFrame
namespace Go.Proofs.Ytldlpoloanmohaa.Pure
theorem FnExactPutFrame : Go.Proofs.Ytldlpoloanmohaa.PFnExactPutFrame.laws_FnExactPutFrame.PureR := FnExactPutFrame.holds
end Go.Proofs.Ytldlpoloanmohaa.Pure
