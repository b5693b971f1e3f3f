/- The pure statement of the law FnFrame, proved: numbers and lists alone, no memory. It holds for all arguments that can be read. -/
import Derived.Test.YtldlpoloanmohaaDFnFrame
import Derived.Test.YtldlpoloanmohaaPlain
set_option linter.unusedVariables false
set_option linter.unusedSimpArgs false
namespace Go.Proofs.Ytldlpoloanmohaa.Pure.FnFrame
open Go.RowKit Go.Proofs.Ytldlpoloanmohaa.PFnFrame Go.Proofs.YtldlpoloanmohaaW.PrintWords Go.Proofs.YtldlpoloanmohaaW.PrintLast Go.Proofs.Ytldlpoloanmohaa.Plain

theorem and255 (y : Int) : 0 ≤ Go.bits .and .i64 y 255 ∧ Go.bits .and .i64 y 255 ≤ 255 := by
  have e2 : Go.bits .and .i64 y 255 = IntKind.i64.wrap (((BitVec.ofInt 64 y &&& BitVec.ofInt 64 255).toNat : Nat) : Int) := rfl
  have e3 : (BitVec.ofInt 64 y &&& BitVec.ofInt 64 255).toNat ≤ 255 := by
    rw [BitVec.toNat_and]
    exact Nat.and_le_right
  rw [e2, IntKind.wrap_i64]
  omega
theorem l1Byte_some (b : List Int) (i h : Int) (hi : 0 ≤ i) (hl : b.length ≤ 9223372036854775807) : ∃ x i' h', spec_l1Byte.f b i h = some (x, i', h') ∧ (0 ≤ x ∧ x ≤ 255) ∧ 0 ≤ i' := by
  unfold spec_l1Byte.f
  split
  · (try rw [if_pos hi])
    exact ⟨_, _, _, rfl, and255 _, by rw [w64 (by omega) (by omega)]; omega⟩
  · exact ⟨_, _, _, rfl, and255 _, hi⟩
theorem l1Below_some (b : List Int) (i h a : Int) (hi : 0 ≤ i) (hl : b.length ≤ 9223372036854775807) (ha : 0 < a) : ∃ x i' h', spec_l1Below.f b i h a = some (x, i', h') ∧ (0 ≤ x ∧ x < a) ∧ 0 ≤ i' := by
  unfold spec_l1Below.f
  rw [if_neg (by omega)]
  obtain ⟨x1, i1, h1, e1, r1, j1⟩ := l1Byte_some b i h hi hl
  rw [e1]
  split
  · rw [Option.bind_some, if_neg (by omega)]
    exact ⟨_, _, _, rfl, by rw [Int.tmod_eq_emod_of_nonneg r1.1]; exact ⟨Int.emod_nonneg _ (by omega), Int.emod_lt_of_pos _ ha⟩, j1⟩
  · obtain ⟨x2, i2, h2, e2, r2, j2⟩ := l1Byte_some b i1 h1 j1 hl
    obtain ⟨x3, i3, h3, e3, r3, j3⟩ := l1Byte_some b i2 h2 j2 hl
    rw [Option.bind_some, e2, Option.bind_some, e3, Option.bind_some, if_neg (by omega)]
    have w1 : wrap64 (x1 * 65536) = x1 * 65536 := w64 (by omega) (by omega)
    have w2 : wrap64 (x2 * 256) = x2 * 256 := w64 (by omega) (by omega)
    have w3 : wrap64 (x1 * 65536 + x2 * 256) = x1 * 65536 + x2 * 256 := w64 (by omega) (by omega)
    have w4 : wrap64 (x1 * 65536 + x2 * 256 + x3) = x1 * 65536 + x2 * 256 + x3 := w64 (by omega) (by omega)
    rw [w1, w2, w3, w4]
    exact ⟨_, _, _, rfl, by rw [Int.tmod_eq_emod_of_nonneg (by omega)]; exact ⟨Int.emod_nonneg _ (by omega), Int.emod_lt_of_pos _ ha⟩, j3⟩
theorem l1Int_some (b : List Int) (i h : Int) (l : List Int) (hi : 0 ≤ i) (hl : b.length ≤ 9223372036854775807) (h0 : l ≠ []) : ∃ x i' h', spec_l1Int.f b i h l = some (x, i', h') ∧ x ∈ l ∧ 0 ≤ i' := by
  have hp : 0 < l.length := List.length_pos_iff.mpr h0
  obtain ⟨x, i1, h1, e, r, j⟩ := l1Below_some b i h (l.length : Int) hi hl (by omega)
  unfold spec_l1Int.f
  rw [e, Option.bind_some, if_pos r.1, if_pos r.2]
  obtain ⟨n, rfl⟩ : ∃ n : Nat, x = n := ⟨x.toNat, by omega⟩
  exact ⟨_, _, _, rfl, by rw [rd_lt l n (by omega)]; exact List.getElem_mem _, j⟩
theorem l1Bytes_l0 (b : List Int) (hl : b.length ≤ 9223372036854775807) (n : Nat) (hn : n ≤ 1000000) : ∀ (d k j : Nat) (x : List Int) (i h : Int), j + d = n → d < k → 0 ≤ i → x.length = j → Byt x → ∃ o i' h', spec_l1Bytes.l0 k (n : Int) x (j : Int) b i h = some (o, i', h') ∧ Byt o ∧ o.length = n ∧ 0 ≤ i' := by
  intro d
  induction d with
  | zero =>
    intro k j x i h hj hk hi hx hb
    obtain ⟨k, rfl⟩ := succ_of hk
    simp only [spec_l1Bytes.l0]
    rw [if_neg (by omega)]
    exact ⟨_, _, _, rfl, hb, by omega, hi⟩
  | succ d ih =>
    intro k j x i h hj hk hi hx hb
    obtain ⟨k, rfl⟩ := succ_of hk
    obtain ⟨y, i1, h1, e, r, q⟩ := l1Byte_some b i h hi hl
    have p1 : (j : Int) < (n : Int) := by omega
    have p2 : x.length < 140737488355328 := by omega
    simp only [spec_l1Bytes.l0]
    rw [if_pos p1, e, Option.bind_some, if_pos p2, w64n (n := n) (by omega) (by omega)]
    refine ih k (j + 1) (x ++ [y % 256]) i1 h1 (by omega) (by omega) q (by simp; omega) ?_
    refine hb.append ?_
    intro z hz
    simp at hz
    omega
theorem l1Bytes_some (b : List Int) (i h : Int) (n : Int) (hi : 0 ≤ i) (hl : b.length ≤ 9223372036854775807) (h0 : 0 ≤ n) (hn : n ≤ 1000000) (k : Nat) (hk : n.toNat < k) : ∃ o i' h', spec_l1Bytes.f k b i h n = some (o, i', h') ∧ Byt o ∧ (o.length : Int) = n ∧ 0 ≤ i' := by
  obtain ⟨m, rfl⟩ : ∃ m : Nat, n = m := ⟨n.toNat, by omega⟩
  obtain ⟨o, i', h', e, hb, hle, hi'⟩ := l1Bytes_l0 b hl m (by omega) m k 0 [] i h (by omega) (by omega) hi rfl (fun x hx => by cases hx)
  exact ⟨o, i', h', e, hb, by omega, hi'⟩
theorem l1New_l0 (b : List Int) (hl : b.length ≤ 1048576) : ∀ (d k j : Nat) (h : Int), j + d = 4000 → d < k → ∃ h', spec_l1New.l0 k b h (j : Int) = some (b, 0, h') := by
  intro d
  induction d with
  | zero =>
    intro k j h hj hk
    obtain ⟨k, rfl⟩ := succ_of hk
    simp only [spec_l1New.l0]
    by_cases hlt : (j : Int) < (b.length : Int)
    · rw [if_pos hlt, if_neg (by omega)]
      exact ⟨_, rfl⟩
    · rw [if_neg hlt]
      exact ⟨_, rfl⟩
  | succ d ih =>
    intro k j h hj hk
    obtain ⟨k, rfl⟩ := succ_of hk
    simp only [spec_l1New.l0]
    by_cases hlt : (j : Int) < (b.length : Int)
    · have p1 : (j : Int) < 4000 := by omega
      have p2 : (0 : Int) ≤ (j : Int) := by omega
      rw [if_pos hlt, if_pos p1, if_pos p2, w64n (n := 4000) (by omega) (by omega)]
      exact ih k (j + 1) _ (by omega) (by omega)
    · rw [if_neg hlt]
      exact ⟨_, rfl⟩
theorem l1New_some (b : List Int) (hl : b.length ≤ 1048576) (k : Nat) (hk : 4000 < k) : ∃ h, spec_l1New.f k b = some (b, 0, h) := l1New_l0 b hl 4000 k 0 _ (by omega) hk
theorem bxor_i64 (a b : Nat) (ha : a < 4294967296) (hb : b < 4294967296) : Go.bits .xor .i64 (a : Int) (b : Int) = ((a ^^^ b : Nat) : Int) := by
  have hx : a ^^^ b < 2 ^ 32 := Nat.xor_lt_two_pow ha hb
  have e1 : (BitVec.ofInt 64 (a : Int) ^^^ BitVec.ofInt 64 (b : Int)).toNat = a ^^^ b := by
    rw [BitVec.ofInt_natCast, BitVec.ofInt_natCast, BitVec.toNat_xor, BitVec.toNat_ofNat, BitVec.toNat_ofNat, Nat.mod_eq_of_lt (by omega), Nat.mod_eq_of_lt (by omega)]
  have e2 : Go.bits .xor .i64 (a : Int) (b : Int) = IntKind.i64.wrap (((BitVec.ofInt 64 (a : Int) ^^^ BitVec.ofInt 64 (b : Int)).toNat : Nat) : Int) := rfl
  rw [e2, e1, IntKind.wrap_i64]
  omega
theorem bxor_u32 (a b : Nat) (ha : a < 4294967296) (hb : b < 4294967296) : Go.bits .xor .u32 (a : Int) (b : Int) = ((a ^^^ b : Nat) : Int) := by
  have hx : a ^^^ b < 2 ^ 32 := Nat.xor_lt_two_pow ha hb
  have e1 : (BitVec.ofInt 32 (a : Int) ^^^ BitVec.ofInt 32 (b : Int)).toNat = a ^^^ b := by
    rw [BitVec.ofInt_natCast, BitVec.ofInt_natCast, BitVec.toNat_xor, BitVec.toNat_ofNat, BitVec.toNat_ofNat, Nat.mod_eq_of_lt (by omega), Nat.mod_eq_of_lt (by omega)]
  have e2 : Go.bits .xor .u32 (a : Int) (b : Int) = IntKind.u32.wrap (((BitVec.ofInt 32 (a : Int) ^^^ BitVec.ofInt 32 (b : Int)).toNat : Nat) : Int) := rfl
  rw [e2, e1, IntKind.wrap_u32]
  omega
theorem band1_u32 (a : Nat) (ha : a < 4294967296) : Go.bits .and .u32 (a : Int) 1 = ((a % 2 : Nat) : Int) := by
  have e := bits_mask .u32 32 (by decide) (fun n h0 h1 => by rw [IntKind.wrap_u32]; omega) 1 (by decide) (a : Int) (by omega) (by omega)
  simpa using e
def crc8 : Nat → Nat → Nat
  | 0, x => x
  | d + 1, x => crc8 d (if x % 2 = 1 then (x / 2) ^^^ 3988292384 else x / 2)
theorem crc_step_lt (x : Nat) (hx : x < 4294967296) : (if x % 2 = 1 then (x / 2) ^^^ 3988292384 else x / 2) < 4294967296 := by
  split
  · exact Nat.xor_lt_two_pow (n := 32) (by omega) (by omega)
  · omega
theorem crc8_lt : ∀ (d x : Nat), x < 4294967296 → crc8 d x < 4294967296
  | 0, _, h => h
  | d + 1, x, h => crc8_lt d _ (crc_step_lt x h)
def crcAll : List Int → Nat → Nat
  | [], x => x
  | c :: l, x => crcAll l (crc8 8 (x ^^^ c.toNat))
theorem crcAll_lt : ∀ (l : List Int) (x : Nat), Byt l → x < 4294967296 → crcAll l x < 4294967296
  | [], _, _, h => h
  | c :: l, x, hb, h => crcAll_lt l _ (fun y hy => hb y (by simp [hy])) (crc8_lt 8 _ (Nat.xor_lt_two_pow (n := 32) (by omega) (by have := hb c (by simp); omega)))
def crcOf (l : List Int) : Int := ((crcAll l 4294967295 ^^^ 4294967295 : Nat) : Int)
theorem crcOf_range (l : List Int) (hb : Byt l) : 0 ≤ crcOf l ∧ crcOf l < 4294967296 := by
  have : crcAll l 4294967295 ^^^ 4294967295 < 2 ^ 32 := Nat.xor_lt_two_pow (crcAll_lt l _ hb (by omega)) (by omega)
  unfold crcOf
  omega
theorem impl_crc_l1 (l : List Int) (n i : Int) : ∀ (d k x j : Nat), j + d = 8 → x < 4294967296 → impl_Crc.l1 (k + d + 1) (x : Int) l n i (j : Int) = impl_Crc.l0 k (crc8 d x : Nat) l n (wrap64 (i + 1)) := by
  intro d
  induction d with
  | zero =>
    intro k x j hj hx
    simp only [Nat.add_zero, impl_Crc.l1]
    rw [if_neg (by omega)]
    rfl
  | succ d ih =>
    intro k x j hj hx
    obtain ⟨m, hm⟩ : ∃ m, k + d + 1 = m := ⟨_, rfl⟩
    rw [show k + (d + 1) + 1 = m + 1 by omega]
    simp only [impl_Crc.l1]
    have e2 : (x : Int) / 2 = ((x / 2 : Nat) : Int) := by omega
    have e3 : wrap64 ((j : Int) + 1) = ((j + 1 : Nat) : Int) := by rw [w64 (by omega) (by omega)]; omega
    rw [if_pos (by omega), band1_u32 x hx, e2, e3]
    have hlt := crc_step_lt x hx
    by_cases ho : x % 2 = 1
    · rw [if_pos (by omega), show (3988292384 : Int) = ((3988292384 : Nat) : Int) from rfl, bxor_u32 _ _ (by omega) (by omega)]
      rw [if_pos ho] at hlt
      rw [← hm, ih k _ (j + 1) (by omega) hlt]
      simp only [crc8, if_pos ho]
    · rw [if_neg (by omega)]
      rw [if_neg ho] at hlt
      rw [← hm, ih k _ (j + 1) (by omega) hlt]
      simp only [crc8, if_neg ho]
theorem crc_round (l : List Int) (hb : Byt l) (i : Nat) (hi : i < l.length) : ∃ c : Nat, rd l (i : Int) = (c : Int) ∧ c < 256 ∧ ∀ x, crcAll (l.drop i) x = crcAll (l.drop (i + 1)) (crc8 8 (x ^^^ c)) := by
  have h := hb.get i hi
  refine ⟨(l[i]).toNat, by rw [rd_lt l i hi]; omega, by omega, fun x => ?_⟩
  rw [List.drop_eq_getElem_cons hi]
  rfl
theorem impl_crc_l0 (l : List Int) (hb : Byt l) (hl : l.length < 9223372036854775807) : ∀ (d k x i : Nat), i + d = l.length → x < 4294967296 → impl_Crc.l0 (k + 10 * d + 1) (x : Int) l (l.length : Int) (i : Int) = some ((crcAll (l.drop i) x ^^^ 4294967295 : Nat) : Int) := by
  intro d
  induction d with
  | zero =>
    intro k x i hi hx
    simp only [Nat.mul_zero, Nat.add_zero, impl_Crc.l0]
    have hlt : x ^^^ 4294967295 < 2 ^ 32 := Nat.xor_lt_two_pow (by omega) (by omega)
    rw [if_neg (by omega), List.drop_eq_nil_of_le (by omega), show (4294967295 : Int) = ((4294967295 : Nat) : Int) from rfl, bxor_u32 _ x (by omega) hx, Nat.xor_comm, w64 (by omega) (by omega)]
    rfl
  | succ d ih =>
    intro k x i hi hx
    obtain ⟨c, h1, h2, h3⟩ := crc_round l hb i (by omega)
    rw [show k + 10 * (d + 1) + 1 = ((k + 10 * d + 1) + 8 + 1) + 1 by omega]
    simp only [impl_Crc.l0]
    rw [if_pos (by omega), if_pos (by omega), if_pos (by omega), h1, show (c : Int) % 4294967296 = (c : Int) by omega, bxor_u32 x c hx (by omega)]
    have hxc : x ^^^ c < 4294967296 := Nat.xor_lt_two_pow (n := 32) (by omega) (by omega)
    have e := impl_crc_l1 l (l.length : Int) (i : Int) 8 (k + 10 * d + 1) (x ^^^ c) 0 (by omega) hxc
    rw [show ((0 : Nat) : Int) = 0 from rfl] at e
    rw [e, w64n (n := l.length) (by omega) (by omega), ih k _ (i + 1) (by omega) (crc8_lt 8 _ hxc), h3]
theorem crc_impl (l : List Int) (hb : Byt l) (hl : l.length < 9223372036854775807) (k : Nat) (hk : 10 * l.length < k) : impl_Crc.f k l = some (crcOf l) := by
  have e := impl_crc_l0 l hb hl l.length (k - 10 * l.length - 1) 4294967295 0 (by omega) (by omega)
  rw [show k - 10 * l.length - 1 + 10 * l.length + 1 = k by omega] at e
  exact e
theorem xor_cancel_r {a b c : Nat} (h : a ^^^ c = b ^^^ c) : a = b := by
  have := congrArg (· ^^^ c) h
  simpa [Nat.xor_assoc] using this
theorem xor_cancel_l {a b c : Nat} (h : c ^^^ a = c ^^^ b) : a = b := by
  rw [Nat.xor_comm c a, Nat.xor_comm c b] at h
  exact xor_cancel_r h
theorem crc_step_inj (x y : Nat) (hx : x < 4294967296) (hy : y < 4294967296) (h : (if x % 2 = 1 then (x / 2) ^^^ 3988292384 else x / 2) = (if y % 2 = 1 then (y / 2) ^^^ 3988292384 else y / 2)) : x = y := by
  have hbit : ∀ z : Nat, z < 2147483648 → (z ^^^ 3988292384).testBit 31 = true := by
    intro z hz
    rw [Nat.testBit_xor, Nat.testBit_lt_two_pow (show z < 2 ^ 31 by omega)]
    decide
  have hno : ∀ z : Nat, z < 2147483648 → z.testBit 31 = false := fun z hz => Nat.testBit_lt_two_pow (show z < 2 ^ 31 by omega)
  by_cases a : x % 2 = 1 <;> by_cases b : y % 2 = 1
  · rw [if_pos a, if_pos b] at h
    have := xor_cancel_r h
    omega
  · rw [if_pos a, if_neg b] at h
    have h1 := hbit (x / 2) (by omega)
    rw [h, hno (y / 2) (by omega)] at h1
    cases h1
  · rw [if_neg a, if_pos b] at h
    have h1 := hbit (y / 2) (by omega)
    rw [← h, hno (x / 2) (by omega)] at h1
    cases h1
  · rw [if_neg a, if_neg b] at h
    omega
theorem crc8_inj : ∀ (d x y : Nat), x < 4294967296 → y < 4294967296 → crc8 d x = crc8 d y → x = y
  | 0, _, _, _, _, h => h
  | d + 1, x, y, hx, hy, h => crc_step_inj x y hx hy (crc8_inj d _ _ (crc_step_lt x hx) (crc_step_lt y hy) h)
theorem crcAll_append : ∀ (a b : List Int) (x : Nat), crcAll (a ++ b) x = crcAll b (crcAll a x)
  | [], _, _ => rfl
  | _ :: a, b, x => crcAll_append a b _
theorem crcAll_inj : ∀ (l : List Int) (x y : Nat), Byt l → x < 4294967296 → y < 4294967296 → crcAll l x = crcAll l y → x = y
  | [], _, _, _, _, _, h => h
  | c :: l, x, y, hb, hx, hy, h => by
    have hc := hb c (by simp)
    have hx' : x ^^^ c.toNat < 4294967296 := Nat.xor_lt_two_pow (n := 32) (by omega) (by omega)
    have hy' : y ^^^ c.toNat < 4294967296 := Nat.xor_lt_two_pow (n := 32) (by omega) (by omega)
    have h1 := crcAll_inj l _ _ (fun z hz => hb z (by simp [hz])) (crc8_lt 8 _ hx') (crc8_lt 8 _ hy') h
    exact xor_cancel_r (crc8_inj 8 _ _ hx' hy' h1)
theorem crcOf_one (a b : List Int) (c c' : Int) (ha : Byt a) (hb : Byt b) (hc : 0 ≤ c ∧ c ≤ 255) (hc' : 0 ≤ c' ∧ c' ≤ 255) (h : crcOf (a ++ c :: b) = crcOf (a ++ c' :: b)) : c = c' := by
  unfold crcOf at h
  have h1 := xor_cancel_r (Int.ofNat.inj h)
  rw [crcAll_append, crcAll_append] at h1
  have h0 := crcAll_lt a 4294967295 ha (by omega)
  have hx : crcAll a 4294967295 ^^^ c.toNat < 4294967296 := Nat.xor_lt_two_pow (n := 32) (by omega) (by omega)
  have hy : crcAll a 4294967295 ^^^ c'.toNat < 4294967296 := Nat.xor_lt_two_pow (n := 32) (by omega) (by omega)
  have h2 := crcAll_inj b _ _ hb (crc8_lt 8 _ hx) (crc8_lt 8 _ hy) h1
  have h3 := xor_cancel_l (crc8_inj 8 _ _ hx hy h2)
  omega
theorem word4_inj (x y : Int) (hx : 0 ≤ x ∧ x < 4294967296) (hy : 0 ≤ y ∧ y < 4294967296) (h : word4 x = word4 y) : x = y := by
  unfold word4 at h
  simp only [List.cons.injEq, and_true] at h
  omega
/-- A number's bytes, seven bits each. -/
def varb : Nat → Int → List Int
  | 0, n => [n % 256]
  | d + 1, n => if n < 128 then [n % 256] else ((n % 128 + 128) % 256) :: varb d (n / 128)
theorem varb_byt : ∀ (d : Nat) (n : Int), Byt (varb d n)
  | 0, n => fun x hx => by simp [varb] at hx; omega
  | d + 1, n => fun x hx => by
    simp only [varb] at hx
    split at hx
    · simp at hx; omega
    · rcases List.mem_cons.mp hx with h | h
      · omega
      · exact varb_byt d _ x h
theorem varb_length : ∀ (d : Nat) (n : Int), (varb d n).length ≤ d + 1
  | 0, n => by simp [varb]
  | d + 1, n => by
    simp only [varb]
    split
    · simp
    · have := varb_length d (n / 128)
      simp; omega
theorem putVar_impl_l0 : ∀ (d k : Nat) (n : Int) (acc : List Int), 0 ≤ n → n < 128 ^ (d + 1) → n < 2147483648 → acc.length + d < 100 → impl_PutVar.l0 (k + d + 1) n acc = some (acc ++ varb d n) := by
  intro d
  induction d with
  | zero =>
    intro k n acc h0 h1 h2 h3
    simp only [Nat.add_zero, impl_PutVar.l0]
    rw [if_neg (by simpa using h1), if_pos (by omega)]
    rfl
  | succ d ih =>
    intro k n acc h0 h1 h2 h3
    obtain ⟨m, hm⟩ : ∃ m, k + d + 1 = m := ⟨_, rfl⟩
    rw [show k + (d + 1) + 1 = m + 1 by omega]
    simp only [impl_PutVar.l0]
    by_cases h : n ≥ 128
    · have e1 : Go.bits .and .i64 n 127 = n % 128 := and_pow n 7 (by omega) h0 (by omega)
      have e2 : Go.bits .or .i64 (n % 128) 128 = n % 128 + 128 := or_low (n % 128) 128 7 (by omega) (by omega) (by omega) (by omega) (by omega) (by omega)
      rw [if_pos h, if_pos (by omega), e1, e2, ← hm, ih k (n / 128) _ (by omega) (by rw [Int.pow_succ] at h1; omega) (by omega) (by simp; omega)]
      simp only [varb]
      rw [if_neg (by omega)]
      simp
    · rw [if_neg h, if_pos (by omega)]
      simp only [varb]
      rw [if_pos (by omega)]
theorem putVar_impl (k : Nat) (n : Int) (hk : 8 ≤ k) (h0 : 0 ≤ n) (h1 : n ≤ 2147483647) : impl_PutVar.f k n = some (varb 4 n) := by
  unfold impl_PutVar.f
  obtain ⟨m, rfl⟩ : ∃ m, k = (m + 4 + 1) + 1 := ⟨k - 6, by omega⟩
  rw [if_neg (by omega)]
  simp only [impl_PutVar.j0]
  rw [if_neg (by simp; omega), putVar_impl_l0 4 m n [] h0 (by omega) (by omega) (by simp)]
  rfl
theorem varb_pos : ∀ (d : Nat) (n : Int), 1 ≤ (varb d n).length
  | 0, n => by simp [varb]
  | d + 1, n => by
    simp only [varb]
    split <;> simp
theorem rd_rows (l : List (List Int)) (i : Nat) (h : i < l.length) : rd_L1 l (i : Int) = l[i] := by
  unfold rd_L1
  rw [Int.toNat_natCast, List.getD_eq_getElem?_getD, List.getElem?_eq_getElem h]
  rfl
theorem concat_l1 (ll : List (List Int)) (hn : ll.length < 140737488355328) (hs : ll.flatten.length < 140737488355328) : ∀ (d k i : Nat) (x : List Int), i + d = ll.length → d < k → x = (ll.take i).flatten → slices_Concat_byte_byte.l1 k x ll (ll.length : Int) (i : Int) = some ll.flatten := by
  intro d
  induction d with
  | zero =>
    intro k i x hi hk hx
    obtain ⟨k, rfl⟩ := succ_of hk
    simp only [slices_Concat_byte_byte.l1]
    rw [if_neg (by omega), hx, List.take_of_length_le (by omega)]
  | succ d ih =>
    intro k i x hi hk hx
    obtain ⟨k, rfl⟩ := succ_of hk
    have hlt : i < ll.length := by omega
    have e : (ll.take (i + 1)).flatten = x ++ ll[i] := by
      rw [List.take_succ_eq_append_getElem hlt, List.flatten_append, hx]; simp
    have hle : (ll.take (i + 1)).flatten.length ≤ ll.flatten.length := by
      conv => rhs; rw [← List.take_append_drop (i + 1) ll, List.flatten_append, List.length_append]
      omega
    rw [e, List.length_append] at hle
    simp only [slices_Concat_byte_byte.l1]
    rw [if_pos (by omega), if_pos (by omega), if_pos (by omega), rd_rows ll i hlt, if_pos (by omega), w64n (n := ll.length) (by omega) (by omega)]
    exact ih k (i + 1) _ (by omega) (by omega) e.symm
theorem concat_l0 (ll : List (List Int)) (hn : ll.length < 140737488355328) (hs : ll.flatten.length < 140737488355328) : ∀ (d k i : Nat), i + d = ll.length → d + ll.length + 1 < k → slices_Concat_byte_byte.l0 k ll (((ll.take i).flatten.length : Nat) : Int) ll (ll.length : Int) (i : Int) = some ll.flatten := by
  intro d
  induction d with
  | zero =>
    intro k i hi hk
    obtain ⟨k, rfl⟩ : ∃ m, k = m + 1 := ⟨k - 1, by omega⟩
    simp only [slices_Concat_byte_byte.l0]
    rw [if_neg (by omega), List.take_of_length_le (by omega)]
    unfold slices_Growofnil_byte_byte.f
    rw [if_pos (by omega), if_pos (by omega), Option.bind_some]
    exact concat_l1 ll hn hs ll.length k 0 [] (by omega) (by omega) (by simp)
  | succ d ih =>
    intro k i hi hk
    obtain ⟨k, rfl⟩ : ∃ m, k = m + 1 := ⟨k - 1, by omega⟩
    have hlt : i < ll.length := by omega
    have e : (ll.take (i + 1)).flatten.length = (ll.take i).flatten.length + (ll[i]).length := by
      rw [List.take_succ_eq_append_getElem hlt, List.flatten_append, List.length_append]; simp
    have hle : (ll.take (i + 1)).flatten.length ≤ ll.flatten.length := by
      conv => rhs; rw [← List.take_append_drop (i + 1) ll, List.flatten_append, List.length_append]
      omega
    simp only [slices_Concat_byte_byte.l0]
    rw [if_pos (by omega), if_pos (by omega), if_pos (by omega), rd_rows ll i hlt]
    have e2 : wrap64 (((ll.take i).flatten.length : Nat) + ((ll[i]).length : Int)) = (((ll.take (i + 1)).flatten.length : Nat) : Int) := by
      rw [w64 (by omega) (by omega)]; omega
    rw [e2, if_neg (by omega), w64n (n := ll.length) (by omega) (by omega)]
    exact ih k (i + 1) (by omega) (by omega)
theorem concat_eq (ll : List (List Int)) (hn : ll.length < 140737488355328) (hs : ll.flatten.length < 140737488355328) (k : Nat) (hk : 2 * ll.length + 1 < k) : slices_Concat_byte_byte.f k ll = some ll.flatten := by
  unfold slices_Concat_byte_byte.f
  have e := concat_l0 ll hn hs ll.length k 0 (by omega) (by omega)
  simpa using e
theorem in_eq (a b c : Int) : spec_l1In.f a b c = some (decide (b ≤ a ∧ a ≤ c)) := by
  unfold spec_l1In.f
  split <;> simp <;> omega
theorem in_eq' (a b c : Int) : impl_in.f a b c = some (decide (b ≤ a ∧ a ≤ c)) := in_eq a b c
theorem frame_eq (a b c : Int) (l : List Int) : spec_FrameOk.f a b c l = some (decide ((1 ≤ a ∧ a ≤ 4) ∧ (1 ≤ b ∧ b ≤ 2147483647) ∧ (0 ≤ c ∧ c ≤ 2147483647) ∧ l.length ≤ 48 ∧ (a = 2 ∨ l.length = 0))) := by
  unfold spec_FrameOk.f
  simp only [in_eq, Option.bind_some, decide_eq_true_eq]
  repeat' split
  all_goals (congr 1; rw [Bool.eq_iff_iff]; simp only [beq_iff_eq, decide_eq_true_eq, true_iff, false_iff, Bool.false_eq_true]; omega)
theorem frame_eq' (a b c : Int) (l : List Int) : impl_isFrame.f a b c l = some (decide ((1 ≤ a ∧ a ≤ 4) ∧ (1 ≤ b ∧ b ≤ 2147483647) ∧ (0 ≤ c ∧ c ≤ 2147483647) ∧ l.length ≤ 48 ∧ (a = 2 ∨ l.length = 0))) := by
  unfold impl_isFrame.f
  simp only [in_eq', Option.bind_some, decide_eq_true_eq]
  repeat' split
  all_goals (congr 1; rw [Bool.eq_iff_iff]; simp only [beq_iff_eq, decide_eq_true_eq, true_iff, false_iff, Bool.false_eq_true]; omega)

theorem putWord_impl (a : Int) : impl_PutWord.f a = some (word4 a) := rfl
/-- A frame's bytes without the check. -/
def frameHead (a b c : Int) (l : List Int) : List Int := [a % 256, (l.length : Int) % 256] ++ varb 4 b ++ varb 4 c ++ l
def frameBytes (a b c : Int) (l : List Int) : List Int := frameHead a b c l ++ word4 (crcOf (frameHead a b c l))
theorem frameHead_byt (a b c : Int) (l : List Int) (hl : Byt l) : Byt (frameHead a b c l) := by
  refine Byt.append (Byt.append (Byt.append ?_ (varb_byt 4 b)) (varb_byt 4 c)) hl
  intro x hx
  simp at hx
  omega
theorem frameHead_length (a b c : Int) (l : List Int) : (frameHead a b c l).length ≤ 12 + l.length := by
  have h1 := varb_length 4 b
  have h2 := varb_length 4 c
  simp [frameHead]
  omega
theorem frameBytes_length (a b c : Int) (l : List Int) : (frameBytes a b c l).length ≤ 16 + l.length := by
  have := frameHead_length a b c l
  unfold frameBytes
  rw [List.length_append, word4_length]
  omega
theorem frameBytes_byt (a b c : Int) (l : List Int) (hl : Byt l) : Byt (frameBytes a b c l) := (frameHead_byt a b c l hl).append (Byt.word4 _)
/-- When a frame is right. -/
def frameIs (a b c : Int) (l : List Int) : Prop := (1 ≤ a ∧ a ≤ 4) ∧ (1 ≤ b ∧ b ≤ 2147483647) ∧ (0 ≤ c ∧ c ≤ 2147483647) ∧ l.length ≤ 48 ∧ (a = 2 ∨ l.length = 0)
instance (a b c : Int) (l : List Int) : Decidable (frameIs a b c l) := by unfold frameIs; infer_instance
theorem putFrame_impl (a b c : Int) (l : List Int) (hb : Byt l) (h : frameIs a b c l) (k : Nat) (hk : 1000 ≤ k) : impl_putFrame.f k a b c l = some (frameBytes a b c l) := by
  obtain ⟨h1, h2, h3, h4, h5⟩ := h
  have hh := frameHead_length a b c l
  have e1 := concat_eq [[a % 256, (l.length : Int) % 256], varb 4 b, varb 4 c, l] (by simp) (by have h1 := varb_length 4 b; have h2 := varb_length 4 c; simp; omega) k (by simp; omega)
  have e2 : ([[a % 256, (l.length : Int) % 256], varb 4 b, varb 4 c, l] : List (List Int)).flatten = frameHead a b c l := by simp [frameHead]
  rw [e2] at e1
  unfold impl_putFrame.f
  rw [putVar_impl k b (by omega) (by omega) (by omega), Option.bind_some, putVar_impl k c (by omega) (by omega) (by omega), Option.bind_some, e1, Option.bind_some, crc_impl _ (frameHead_byt a b c l hb) (by omega) k (by omega), Option.bind_some, putWord_impl, Option.bind_some, if_pos (by rw [word4_length]; omega)]
  rfl
def value : List Int → Int
  | [] => 0
  | x :: r => x % 128 + 128 * value r
theorem value_bound : ∀ (l : List Int), 0 ≤ value l ∧ value l < 128 ^ l.length
  | [] => by simp [value]
  | x :: r => by
    have h := value_bound r
    simp only [value, List.length_cons, Int.pow_succ]
    omega
theorem value_snoc : ∀ (l : List Int) (c : Int), value (l ++ [c]) = value l + (c % 128) * 128 ^ l.length
  | [], c => by simp [value]
  | x :: r, c => by
    have h := value_snoc r c
    simp only [List.cons_append, value, h, List.length_cons, Int.pow_succ]
    rw [Int.mul_add, ← Int.mul_assoc, Int.mul_comm 128 (c % 128), Int.mul_assoc, Int.mul_comm 128 (128 ^ r.length)]
    omega
theorem varb_canon : ∀ (cs : List Int) (c : Int) (d : Nat), (∀ x ∈ cs, 128 ≤ x ∧ x ≤ 255) → 0 ≤ c → c < 128 → cs.length ≤ d → (cs = [] ∨ c ≠ 0) → varb d (value (cs ++ [c])) = cs ++ [c] ∧ 0 < value (cs ++ [c]) + (if cs = [] then 1 else 0)
  | [], c, d, hx, h0, h1, hd, hc => by
    have e : value ([] ++ [c]) = c := by simp [value]; omega
    rw [e]
    refine ⟨?_, by simp; omega⟩
    cases d with
    | zero => simp [varb]; omega
    | succ d =>
      simp only [varb]
      rw [if_pos h1]
      simp; omega
  | x :: r, c, d, hx, h0, h1, hd, hc => by
    obtain ⟨d, rfl⟩ : ∃ m, d = m + 1 := ⟨d - 1, by simp at hd; omega⟩
    have hc' : c ≠ 0 := by rcases hc with h | h; · simp at h
                           · exact h
    have ih := varb_canon r c d (fun y hy => hx y (by simp [hy])) h0 h1 (by simpa using hd) (Or.inr hc')
    have hxx := hx x (by simp)
    have hv : 0 < value (r ++ [c]) := by
      by_cases hr : r = []
      · subst hr
        have e : value ([] ++ [c]) = c := by simp [value]; omega
        rw [e]; omega
      · have := ih.2
        rw [if_neg hr] at this
        omega
    simp only [List.cons_append, value]
    refine ⟨?_, by split <;> omega⟩
    simp only [varb]
    rw [if_neg (by omega), show (x % 128 + 128 * value (r ++ [c])) / 128 = value (r ++ [c]) by omega, ih.1]
    congr 1
    omega
theorem varb_not : ∀ (cs : List Int) (d : Nat), (∀ x ∈ cs, 128 ≤ x ∧ x ≤ 255) → cs ≠ [] → varb d (value (cs ++ [0])) ≠ cs ++ [0]
  | [], _, _, h => absurd rfl h
  | x :: r, d, hx, _ => by
    cases d with
    | zero => simp [varb]
    | succ d =>
      intro hh
      simp only [List.cons_append, value, varb] at hh
      by_cases hlt : x % 128 + 128 * value (r ++ [0]) < 128
      · rw [if_pos hlt] at hh
        have := congrArg List.length hh
        simp at this
      · rw [if_neg hlt, show (x % 128 + 128 * value (r ++ [0])) / 128 = value (r ++ [0]) by omega] at hh
        have h2 := (List.cons.inj hh).2
        by_cases hr : r = []
        · subst hr
          have e : value ([] ++ [0]) = 0 := by simp [value]
          rw [e] at hlt
          omega
        · exact varb_not r d (fun y hy => hx y (by simp [hy])) hr h2
theorem pow128 (j : Nat) (hj : j < 5) : (128 : Int) ^ j = 1 ∧ j = 0 ∨ (128 : Int) ^ j = 128 ∧ j = 1 ∨ (128 : Int) ^ j = 16384 ∧ j = 2 ∨ (128 : Int) ^ j = 2097152 ∧ j = 3 ∨ (128 : Int) ^ j = 268435456 ∧ j = 4 := by
  obtain rfl | rfl | rfl | rfl | rfl : j = 0 ∨ j = 1 ∨ j = 2 ∨ j = 3 ∨ j = 4 := by omega
  all_goals simp
theorem or_step (j : Nat) (hj : j < 5) (n c : Int) (h0 : 0 ≤ n) (hn : n < 128 ^ j) (hc : 0 ≤ c ∧ c ≤ 255) : Go.bits .or .i64 n (shl .i64 (Go.bits .and .i64 c 127) (wrap64 (7 * (j : Int)))) = n + (c % 128) * 128 ^ j := by
  have e1 : Go.bits .and .i64 c 127 = c % 128 := and_pow c 7 (by omega) (by omega) (by omega)
  rw [e1, w64 (x := 7 * (j : Int)) (by omega) (by omega)]
  have e2 : shl .i64 (c % 128) (7 * (j : Int)) = (c % 128) * 128 ^ j := by
    unfold shl
    have hm : min (7 * (j : Int)).toNat IntKind.i64.bits = 7 * j := by have : IntKind.i64.bits = 64 := rfl; omega
    rw [hm, IntKind.wrap_i64, Int.pow_mul]
    have : (2 : Int) ^ 7 = 128 := by decide
    rw [this]
    rcases pow128 j hj with ⟨e, _⟩ | ⟨e, _⟩ | ⟨e, _⟩ | ⟨e, _⟩ | ⟨e, _⟩ <;> rw [e] <;> omega
  rw [e2]
  rcases pow128 j hj with ⟨e, _⟩ | ⟨e, _⟩ | ⟨e, _⟩ | ⟨e, _⟩ | ⟨e, _⟩ <;> rw [e] at hn ⊢
  · exact or_low n _ 0 h0 (by omega) (by omega) (by omega) (by omega) (by omega)
  · exact or_low n _ 7 h0 (by omega) (by omega) (by omega) (by omega) (by omega)
  · exact or_low n _ 14 h0 (by omega) (by omega) (by omega) (by omega) (by omega)
  · exact or_low n _ 21 h0 (by omega) (by omega) (by omega) (by omega) (by omega)
  · exact or_low n _ 28 h0 (by omega) (by omega) (by omega) (by omega) (by omega)
theorem add_step (j : Nat) (hj : j < 5) (n c : Int) (h0 : 0 ≤ n) (hn : n < 128 ^ j) (hc : 0 ≤ c ∧ c ≤ 255) : wrap64 (n + wrap64 ((Int.tmod c 128) * 128 ^ j)) = n + (c % 128) * 128 ^ j := by
  rw [Int.tmod_eq_emod_of_nonneg hc.1]
  rcases pow128 j hj with ⟨e, _⟩ | ⟨e, _⟩ | ⟨e, _⟩ | ⟨e, _⟩ | ⟨e, _⟩ <;> rw [e] at hn ⊢ <;> rw [w64 (x := c % 128 * _) (by omega) (by omega), w64 (by omega) (by omega)]
theorem mul_step (j : Nat) (hj : j < 5) : wrap64 ((128 : Int) ^ j * 128) = (128 : Int) ^ (j + 1) := by
  rw [Int.pow_succ]
  rcases pow128 j hj with ⟨e, _⟩ | ⟨e, _⟩ | ⟨e, _⟩ | ⟨e, _⟩ | ⟨e, _⟩ <;> rw [e] <;> exact w64 (by omega) (by omega)
theorem w64add {a j : Nat} (h : a + j ≤ 9223372036854775807) : wrap64 ((a : Int) + (j : Int)) = ((a + j : Nat) : Int) := by rw [w64 (by omega) (by omega)]; omega
theorem w64mul7 {j : Nat} (h : j < 10) : 0 ≤ wrap64 (7 * (j : Int)) := by rw [w64 (by omega) (by omega)]; omega
section steps
variable (l : List Int) (hl : l.length ≤ 1048576) (a j : Nat) (hj : j < 5) (n c v : Int) (hlt : a + j < l.length) (hr : l[a + j]'hlt = c) (hc : 0 ≤ c ∧ c ≤ 255) (h0 : 0 ≤ n) (hn : n < 128 ^ j) (hv : n + (c % 128) * 128 ^ j = v) (m : Nat)
include hl hj hr hc h0 hn hv
theorem impl_var_go (h : 128 ≤ c) : impl_Var.l0 (m + 1) l a n (j : Int) = impl_Var.l0 m l a v ((j + 1 : Nat) : Int) := by
  have p1 : (j : Int) < 5 := by omega
  have p2 : ¬ ((a + j : Nat) : Int) = (l.length : Int) := by omega
  have p3 : ¬ ((a + j : Nat) : Int) ≥ (l.length : Int) := by omega
  have p4 : (0 : Int) ≤ ((a + j : Nat) : Int) := by omega
  have p5 : ((a + j : Nat) : Int) < (l.length : Int) := by omega
  have p6 : c ≥ 128 ↔ 128 ≤ c := by omega
  have b1 : a + j ≤ 9223372036854775807 := by omega
  have b2 : -9223372036854775808 ≤ c := by omega
  have b3 : c ≤ 9223372036854775807 := by omega
  have b4 : j < 10 := by omega
  have b5 : a + j < 9223372036854775807 := by omega
  have e1 := w64add b1
  have p7 := w64 b2 b3
  have e2 : rd l ((a + j : Nat) : Int) = c := by rw [rd_lt l (a + j) hlt, hr]
  have e4 := or_step j hj n c h0 hn hc
  rw [hv] at e4
  have e6 := w64mul7 b4
  have e8 := w64n b4 (by decide)
  simp only [impl_Var.l0]
  rw [if_pos p1, e1, if_neg p2, if_pos p4, if_pos p5, if_pos e6, e2, p7, if_pos (p6.mpr h), e4, e8]
theorem impl_var_end (h : c < 128) : impl_Var.l0 (m + 1) l a n (j : Int) = some (if v ≤ 2147483647 ∧ (j = 0 ∨ c ≠ 0) then (v, ((a + j + 1 : Nat) : Int), 0) else (0, 0, 2)) := by
  have p1 : (j : Int) < 5 := by omega
  have p2 : ¬ ((a + j : Nat) : Int) = (l.length : Int) := by omega
  have p3 : ¬ ((a + j : Nat) : Int) ≥ (l.length : Int) := by omega
  have p4 : (0 : Int) ≤ ((a + j : Nat) : Int) := by omega
  have p5 : ((a + j : Nat) : Int) < (l.length : Int) := by omega
  have p6 : c ≥ 128 ↔ 128 ≤ c := by omega
  have b1 : a + j ≤ 9223372036854775807 := by omega
  have b2 : -9223372036854775808 ≤ c := by omega
  have b3 : c ≤ 9223372036854775807 := by omega
  have b4 : j < 10 := by omega
  have q1 : ¬ c ≥ 128 := by omega
  have q2 : (if v > 2147483647 then some ((0 : Int), (0 : Int), (2 : Int)) else if c = 0 then if (j : Int) > 0 then some (0, 0, 2) else some (v, ((a + j + 1 : Nat) : Int), 0) else some (v, ((a + j + 1 : Nat) : Int), 0)) = some (if v ≤ 2147483647 ∧ (j = 0 ∨ c ≠ 0) then (v, ((a + j + 1 : Nat) : Int), 0) else (0, 0, 2)) := by
    clear p2 p3 p4 p5 hv hn h0 hr hl
    by_cases h2 : v > 2147483647
    · rw [if_pos h2, if_neg (by omega)]
    · rw [if_neg h2]
      by_cases h3 : c = 0
      · rw [if_pos h3]
        by_cases h4 : (j : Int) > 0
        · rw [if_pos h4, if_neg (by omega)]
        · rw [if_neg h4, if_pos (by omega)]
      · rw [if_neg h3, if_pos (by omega)]
  have b5 : a + j < 9223372036854775807 := by omega
  have e1 := w64add b1
  have p7 := w64 b2 b3
  have e2 : rd l ((a + j : Nat) : Int) = c := by rw [rd_lt l (a + j) hlt, hr]
  have e4 := or_step j hj n c h0 hn hc
  rw [hv] at e4
  have e6 := w64mul7 b4
  have e7 := w64n b5 (Nat.le_refl _)
  simp only [impl_Var.l0]
  rw [if_pos p1, e1, if_neg p2, if_pos p4, if_pos p5, if_pos e6, e2, p7, if_neg q1, e4, e7]
  exact q2
end steps
/-- What the number at a place of bytes is, if it has one. -/
def VarGood (l : List Int) (a : Nat) (r : Int × Int × Int) : Prop := (0 ≤ r.2.1 ∧ r.2.1 ≤ l.length) ∧ (r.2.2 = 0 → 0 ≤ r.1 ∧ r.1 ≤ 2147483647 ∧ (a : Int) ≤ r.2.1 ∧ varb 4 r.1 = (l.take r.2.1.toNat).drop a)
theorem drop_cons {l : List Int} {i : Nat} {c : Int} {t : List Int} (h : l.drop i = c :: t) : ∃ hi : i < l.length, l[i] = c ∧ l.drop (i + 1) = t := by
  have hi : i < l.length := by
    by_cases hi : i < l.length
    · exact hi
    · rw [List.drop_eq_nil_of_le (by omega)] at h; cases h
  rw [List.drop_eq_getElem_cons hi] at h
  injection h with h1 h2
  exact ⟨hi, h1, h2⟩
theorem var_canon_loop (l : List Int) (hl : l.length ≤ 1048576) (a : Nat) (rest : List Int) (n : Int) (hn : n ≤ 2147483647) : ∀ (d k j : Nat) (w m : Int), j + d = 4 → d < k → 0 ≤ w → w < 128 ^ j → 0 ≤ m → m < 128 ^ (d + 1) → (j = 0 ∨ 0 < m) → w + m * 128 ^ j = n → l.drop (a + j) = varb d m ++ rest → impl_Var.l0 k l a w (j : Int) = some (n, ((a + j + (varb d m).length : Nat) : Int), 0) := by
  intro d
  induction d with
  | zero =>
    intro k j w m hj hk hw0 hw hm0 hm hp hs hd
    obtain ⟨k, rfl⟩ : ∃ q, k = q + 1 := ⟨k - 1, by omega⟩
    have hm' : m < 128 := by simpa using hm
    simp only [varb, List.cons_append] at hd
    obtain ⟨hlt, hr, _⟩ := drop_cons hd
    have e := impl_var_end l hl a j (by omega) w (m % 256) n hlt hr (by omega) hw0 hw (by rw [show m % 256 % 128 = m by omega]; exact hs) k (by omega)
    rw [e, if_pos ⟨hn, by omega⟩]
    rfl
  | succ d ih =>
    intro k j w m hj hk hw0 hw hm0 hm hp hs hd
    obtain ⟨k, rfl⟩ : ∃ q, k = q + 1 := ⟨k - 1, by omega⟩
    simp only [varb] at hd
    by_cases h : m < 128
    · rw [if_pos h, List.cons_append] at hd
      obtain ⟨hlt, hr, _⟩ := drop_cons hd
      have e := impl_var_end l hl a j (by omega) w (m % 256) n hlt hr (by omega) hw0 hw (by rw [show m % 256 % 128 = m by omega]; exact hs) k (by omega)
      rw [e, if_pos ⟨hn, by omega⟩]
      simp only [varb]
      rw [if_pos h]
      rfl
    · rw [if_neg h, List.cons_append] at hd
      obtain ⟨hlt, hr, ht⟩ := drop_cons hd
      have e := impl_var_go l hl a j (by omega) w ((m % 128 + 128) % 256) (w + (m % 128) * 128 ^ j) hlt hr (by omega) hw0 hw (by rw [show (m % 128 + 128) % 256 % 128 = m % 128 by omega]) k (by omega)
      rw [e]
      have hj4 : j < 4 := by omega
      have f1 : 0 ≤ w + (m % 128) * 128 ^ j ∧ w + (m % 128) * 128 ^ j < 128 ^ (j + 1) ∧ w + (m % 128) * 128 ^ j + m / 128 * 128 ^ (j + 1) = n := by
        rw [Int.pow_succ]
        rcases pow128 j (by omega) with ⟨e, _⟩ | ⟨e, _⟩ | ⟨e, _⟩ | ⟨e, _⟩ | ⟨e, _⟩ <;> rw [e] at hw hs ⊢ <;> omega
      have f2 : m / 128 < 128 ^ (d + 1) := by
        rw [Int.pow_succ] at hm
        omega
      have := ih k (j + 1) _ (m / 128) (by omega) (by omega) f1.1 f1.2.1 (by omega) f2 (Or.inr (by omega)) f1.2.2 (by rw [show a + (j + 1) = a + j + 1 from rfl]; exact ht)
      rw [this]
      simp only [varb]
      rw [if_neg h]
      congr 3
      simp only [List.length_cons]
      omega
theorem var_canon (l : List Int) (hl : l.length ≤ 1048576) (a : Nat) (rest : List Int) (n : Int) (h0 : 0 ≤ n) (hn : n ≤ 2147483647) (hd : l.drop a = varb 4 n ++ rest) (k : Nat) (hk : 200 ≤ k) : impl_Var.f k l a = some (n, ((a + (varb 4 n).length : Nat) : Int), 0) := by
  have ha : a ≤ l.length := by
    by_cases ha : a ≤ l.length
    · exact ha
    · rw [List.drop_eq_nil_of_le (by omega)] at hd
      have := congrArg List.length hd
      have := varb_pos 4 n
      simp at *
      omega
  have e := var_canon_loop l hl a rest n hn 4 150 0 0 n (by omega) (by omega) (by omega) (by omega) h0 (by omega) (Or.inl rfl) (by simp) hd
  have hi' : impl_Var.f 151 l a = some (n, ((a + (varb 4 n).length : Nat) : Int), 0) := by
    unfold impl_Var.f
    rw [if_neg (by omega)]
    simp only [impl_Var.j0]
    rw [if_neg (by simp; omega)]
    exact e
  exact at_rounds (fun k => impl_Var.mono _ _ k) (by omega) hi'
theorem var_loopI (l : List Int) (hb : Byt l) (hl : l.length ≤ 1048576) (a : Nat) : ∀ (d k j : Nat), j + d = 5 → d + 100 < k → a + j ≤ l.length → (∀ x ∈ (l.take (a + j)).drop a, 128 ≤ x) → ∃ r, VarGood l a r ∧ impl_Var.l0 k l a (value ((l.take (a + j)).drop a)) (j : Int) = some r := by
  intro d
  induction d with
  | zero =>
    intro k j hj hk ha hp
    obtain ⟨k, rfl⟩ : ∃ m, k = m + 1 := ⟨k - 1, by omega⟩
    refine ⟨(0, 0, 2), ⟨⟨by simp, by simp⟩, fun h => by simp at h⟩, ?_⟩
    simp only [impl_Var.l0]
    rw [if_neg (by omega)]
  | succ d ih =>
    intro k j hj hk ha hp
    obtain ⟨m, rfl⟩ : ∃ m, k = m + 1 := ⟨k - 1, by omega⟩
    by_cases h0 : a + j = l.length
    · have p1 : (j : Int) < 5 := by omega
      have p3 : ((a + j : Nat) : Int) = (l.length : Int) := by omega
      have e1 := w64add (a := a) (j := j) (by omega)
      refine ⟨(0, 0, 1), ⟨⟨by simp, by simp⟩, fun h => by simp at h⟩, ?_⟩
      simp only [impl_Var.l0]
      rw [if_pos p1, e1, if_pos p3]
    · have hlt : a + j < l.length := by omega
      have hc := hb.get (a + j) hlt
      obtain ⟨c, hcd⟩ : ∃ c, l[a + j] = c := ⟨_, rfl⟩
      rw [hcd] at hc
      obtain ⟨cs, hcs⟩ : ∃ cs, (l.take (a + j)).drop a = cs := ⟨_, rfl⟩
      have hlen : cs.length = j := by rw [← hcs, List.length_drop, List.length_take]; omega
      have hsn : (l.take (a + j + 1)).drop a = cs ++ [c] := by
        rw [List.take_succ_eq_append_getElem hlt, List.drop_append_of_le_length (by rw [List.length_take]; omega), hcs, hcd]
      have hpc : ∀ x ∈ cs, 128 ≤ x ∧ x ≤ 255 := fun x hx => ⟨hp x (by rw [hcs]; exact hx), (hb x (List.mem_of_mem_take (List.mem_of_mem_drop (hcs ▸ hx)))).2⟩
      rw [hcs]
      have vb := value_bound cs
      rw [hlen] at vb
      have hval : value cs + (c % 128) * 128 ^ j = value (cs ++ [c]) := by rw [value_snoc, hlen]
      have hv0 : 0 ≤ value (cs ++ [c]) := (value_bound (cs ++ [c])).1
      by_cases h1 : 128 ≤ c
      · rw [impl_var_go l hl a j (by omega) (value cs) c _ hlt hcd hc vb.1 vb.2 hval m h1, ← hsn]
        refine ih m (j + 1) (by omega) (by omega) (by omega) ?_
        rw [show a + (j + 1) = a + j + 1 from rfl, hsn]
        intro x hx
        rcases List.mem_append.mp hx with h | h
        · exact (hpc x h).1
        · simp at h; omega
      · have hnil : cs = [] ↔ j = 0 := by rw [← hlen]; exact List.length_eq_zero_iff.symm
        have hi := impl_var_end l hl a j (by omega) (value cs) c _ hlt hcd hc vb.1 vb.2 hval m (by omega)
        refine ⟨_, ?_, hi⟩
        clear hi hval vb
        split
        · rename_i h'
          refine ⟨⟨by simp only []; omega, by simp only []; omega⟩, fun _ => ⟨hv0, h'.1, by simp only []; omega, ?_⟩⟩
          simp only [Int.toNat_natCast, hsn]
          exact (varb_canon cs c 4 hpc (by omega) (by omega) (by omega) (h'.2.imp hnil.mpr id)).1
        · exact ⟨⟨by simp, by simp⟩, fun h => by simp at h⟩
theorem var_impl (l : List Int) (hb : Byt l) (hl : l.length ≤ 1048576) (a : Nat) (ha : a ≤ l.length) : ∃ r, VarGood l a r ∧ ∀ k, 200 ≤ k → impl_Var.f k l a = some r := by
  obtain ⟨r, hr, hi⟩ := var_loopI l hb hl a 5 150 0 (by omega) (by omega) (by omega) (by simp)
  have e0 : value ((l.take (a + 0)).drop a) = 0 := by rw [List.drop_eq_nil_of_le (by rw [List.length_take]; omega)]; rfl
  rw [e0] at hi
  refine ⟨r, hr, fun k hk => ?_⟩
  have hi' : impl_Var.f 151 l a = some r := by
    unfold impl_Var.f
    rw [if_neg (by omega)]
    simp only [impl_Var.j0]
    rw [if_neg (by simp; omega)]
    exact hi
  exact at_rounds (fun k => impl_Var.mono _ _ k) (by omega) hi'
theorem draw_some (b : List Int) (hl : b.length ≤ 1048576) : ∃ x y z o, Byt o ∧ o.length ≤ 60 ∧ ∀ k, 5000 ≤ k → spec_DrawFrameOk.f k b = some (x, y, z, o) := by
  have hb : b.length ≤ 9223372036854775807 := by omega
  obtain ⟨h0, e0⟩ := l1New_some b hl 4999 (by omega)
  obtain ⟨x, i1, h1, e1, m1, j1⟩ := l1Int_some b 0 h0 [1, 2, 2, 2, 3, 4] (by omega) hb (by simp)
  obtain ⟨y, i2, h2, e2, m2, j2⟩ := l1Below_some b i1 h1 300 j1 hb (by omega)
  obtain ⟨z, i3, h3, e3, m3, j3⟩ := l1Below_some b i2 h2 2000 j2 hb (by omega)
  have hj : ∀ (i h x y z : Int) (o : List Int), 0 ≤ i → Byt o → o.length ≤ 60 → ∃ x' y' z' o' i' h', spec_l15Draw.j0 4990 b i h x y z o = some (x', y', z', o', i', h') ∧ Byt o' ∧ o'.length ≤ 60 := by
    intro i h x y z o hi ho hlo
    obtain ⟨c, i4, h4, e4, m4, j4⟩ := l1Below_some b i h 20 hi hb (by omega)
    rw [show 4990 = 4989 + 1 from rfl]
    simp only [spec_l15Draw.j0]
    rw [e4, Option.bind_some]
    by_cases c0 : c = 0
    · rw [if_pos c0]
      obtain ⟨u, i5, h5, e5, m5, j5⟩ := l1Int_some b i4 h4 [0, 5, -1] j4 hb (by simp)
      rw [e5, Option.bind_some]
      exact ⟨_, _, _, _, _, _, rfl, ho, hlo⟩
    · rw [if_neg c0]
      have hodd : ∃ u i5 h5, spec_l1Odd.f b i4 h4 = some (u, i5, h5) := by
        unfold spec_l1Odd.f
        obtain ⟨u, i5, h5, e5, m5, j5⟩ := l1Int_some b i4 h4 [(-1), 0, 1, 2, 255, 256, 65535, 2147483647, 2147483648, 4294967295, 4294967296, (-2147483648), 9223372036854775807, (-9223372036854775808)] j4 hb (by simp)
        rw [e5, Option.bind_some]
        exact ⟨_, _, _, rfl⟩
      obtain ⟨u, i5, h5, e5⟩ := hodd
      by_cases c1 : c = 1
      · rw [if_pos c1, e5, Option.bind_some]
        exact ⟨_, _, _, _, _, _, rfl, ho, hlo⟩
      · rw [if_neg c1]
        by_cases c2 : c = 2
        · rw [if_pos c2, e5, Option.bind_some]
          exact ⟨_, _, _, _, _, _, rfl, ho, hlo⟩
        · rw [if_neg c2]
          by_cases c3 : c = 3
          · rw [if_pos c3]
            obtain ⟨u, i5, h5, e5, m5, j5⟩ := l1Int_some b i4 h4 [1, 48, 49] j4 hb (by simp)
            rw [e5, Option.bind_some]
            have hu : 0 ≤ u ∧ u ≤ 49 := by
              simp at m5
              omega
            obtain ⟨o', i6, h6, e6, ho', hl', j6⟩ := l1Bytes_some b i5 h5 u j5 hb hu.1 (by omega) 4989 (by omega)
            rw [e6, Option.bind_some]
            have hle : o'.length ≤ 60 := by omega
            exact ⟨_, _, _, _, _, _, rfl, ho', hle⟩
          · rw [if_neg c3]
            exact ⟨_, _, _, _, _, _, rfl, ho, hlo⟩
  have hmain : ∃ x' y' z' o' i' h', spec_l15Draw.f 4990 b 0 h0 = some (x', y', z', o', i', h') ∧ Byt o' ∧ o'.length ≤ 60 := by
    unfold spec_l15Draw.f
    rw [e1, Option.bind_some, e2, Option.bind_some, e3, Option.bind_some]
    by_cases hx : x = 2
    · rw [if_pos hx]
      obtain ⟨n, i4, h4, e4, m4, j4⟩ := l1Below_some b i3 h3 49 j3 hb (by omega)
      rw [e4, Option.bind_some]
      obtain ⟨o', i6, h6, e6, ho', hl', j6⟩ := l1Bytes_some b i4 h4 n j4 hb m4.1 (by omega) 4990 (by omega)
      rw [e6, Option.bind_some]
      have hle : o'.length ≤ 60 := by omega
      exact hj _ _ _ _ _ _ j6 ho' hle
    · rw [if_neg hx]
      exact hj _ _ _ _ _ _ j3 (fun x hx => by cases hx) (by simp)
  obtain ⟨x', y', z', o', i', h', e, ho, hlo⟩ := hmain
  refine ⟨x', y', z', o', ho, hlo, fun k hk => ?_⟩
  have e' : spec_DrawFrameOk.f 4999 b = some (x', y', z', o') := by
    unfold spec_DrawFrameOk.f
    rw [e0, Option.bind_some, at_rounds (fun k => spec_l15Draw.mono _ _ _ k) (show 4990 ≤ 4999 by omega) e, Option.bind_some]
  exact at_rounds (fun k => spec_DrawFrameOk.mono _ k) (by omega) e'
theorem getFrame_at (l : List Int) (hb : Byt l) (hl : l.length ≤ 1048576) (h2 : 2 ≤ l.length) (s o κ : Int) (n1 n2 q : Nat) (G1 : ∀ k, 200 ≤ k → impl_Var.f k l 2 = some (s, (n1 : Int), 0)) (G2 : ∀ k, 200 ≤ k → impl_Var.f k l (n1 : Int) = some (o, (n2 : Int), 0)) (hq : l[1]'(by omega) = (q : Int)) (hκ : l[0]'(by omega) = κ) (hfit : n2 + q ≤ l.length) (dt : List Int) (hdt : (l.take (n2 + q)).drop n2 = dt) (k : Nat) (hk : 2000 ≤ k) :
    impl_GetFrame.f k l = some (if frameIs κ s o dt ∧ frameBytes κ s o dt = l then (κ, s, o, dt, true) else (0, 0, 0, [], false)) := by
  have b1 := hb.get 1 (by omega)
  have b0 := hb.get 0 (by omega)
  rw [hq] at b1
  rw [hκ] at b0
  have hdb : Byt dt := by rw [← hdt]; exact (hb.take _).drop _
  have hdl : dt.length = q := by rw [← hdt, List.length_drop, List.length_take]; omega
  obtain ⟨m, rfl⟩ : ∃ m, k = m + 1 := ⟨k - 1, by omega⟩
  have p0 : ¬ (l.length : Int) < 2 := by omega
  have p1 : (1 : Int) < (l.length : Int) := by omega
  have p2 : ¬ decide (((l.length : Int) - (n2 : Int)) < (q : Int)) = true := by simp; omega
  have p3 : (0 : Int) < (l.length : Int) := by omega
  have p4 : (0 : Int) ≤ (n2 : Int) := by omega
  have p5 : (n2 : Int) ≤ ((n2 + q : Nat) : Int) := by omega
  have p6 : ((n2 + q : Nat) : Int) ≤ (l.length : Int) := by omega
  have p7 : dt.length * 1 ≤ 140737488355328 := by omega
  have pm1 : 200 ≤ m + 1 := by omega
  have pm2 : 1000 ≤ m := by omega
  have r1 : wrap64 (rd l 1) = (q : Int) := by
    have := rd_lt l 1 (by omega)
    rw [show ((1 : Nat) : Int) = 1 from rfl, hq] at this
    rw [this, w64 (by omega) (by omega)]
  have r0 : Aside0 (wrap64 (rd l 0) = κ) := ⟨by
    have := rd_lt l 0 (by omega)
    rw [show ((0 : Nat) : Int) = 0 from rfl, hκ] at this
    rw [this, w64 (by clear r1; omega) (by clear r1; omega)]⟩
  have e4 : Aside0 (wrap64 ((n2 : Int) + (q : Int)) = ((n2 + q : Nat) : Int)) := ⟨w64add (by clear r1; omega)⟩
  have e6 : Aside0 (wrap64 ((l.length : Int) - (n2 : Int)) = (l.length : Int) - n2) := ⟨by rw [w64 (by clear r1; omega) (by clear r1; omega)]⟩
  have ec : slices_Clone_byte_byte.f dt = some dt := by
    unfold slices_Clone_byte_byte.f
    rw [if_pos p7]
  unfold impl_GetFrame.f
  rw [if_neg p0, G1 (m + 1) pm1, Option.bind_some, G2 (m + 1) pm1, Option.bind_some, if_pos p1, if_pos rfl, if_pos rfl, r1, e6.out]
  simp only [impl_GetFrame.j0]
  rw [if_neg p2, if_pos p3, if_pos p4, e4.out, if_pos p5, if_pos p6, Int.toNat_natCast, Int.toNat_natCast, hdt, r0.out, ec, Option.bind_some]
  by_cases h : frameIs κ s o dt
  · have e0 : impl_isFrame.f κ s o dt = some true := by rw [frame_eq']; exact congrArg some (decide_eq_true h)
    rw [e0, Option.bind_some, if_pos rfl, putFrame_impl κ s o dt hdb h m pm2, Option.bind_some]
    unfold bytes_Equal.f
    rw [strs_eq _ l (frameBytes_byt κ s o dt hdb) hb, Option.bind_some]
    by_cases h' : frameBytes κ s o dt = l
    · rw [if_pos (decide_eq_true h'), if_pos ⟨h, h'⟩]
    · rw [if_neg (by simpa using h'), if_neg (fun hh => h' hh.2)]
  · have e0 : impl_isFrame.f κ s o dt = some false := by rw [frame_eq']; exact congrArg some (decide_eq_false h)
    rw [e0, Option.bind_some, if_neg (by decide), if_neg (fun hh => h hh.1)]
theorem getFrame_impl (l : List Int) (hb : Byt l) (hl : l.length ≤ 1048576) : ∃ x y z o r, (∀ k, 2000 ≤ k → impl_GetFrame.f k l = some (x, y, z, o, r)) ∧ (r = true → Byt o ∧ frameIs x y z o ∧ frameBytes x y z o = l) := by
  by_cases h2 : (l.length : Int) < 2
  · refine ⟨0, 0, 0, [], false, fun k hk => ?_, fun h => by cases h⟩
    unfold impl_GetFrame.f
    rw [if_pos h2]
  · obtain ⟨⟨s, t1, c1⟩, g1, G1⟩ := var_impl l hb hl 2 (by omega)
    obtain ⟨n1, rfl⟩ : ∃ n : Nat, t1 = n := ⟨t1.toNat, by have := g1.1.1; simp only [] at this; omega⟩
    have hn1 : n1 ≤ l.length := by have := g1.1.2; simp only [] at this; omega
    obtain ⟨⟨o, t2, c2⟩, g2, G2⟩ := var_impl l hb hl n1 hn1
    obtain ⟨n2, rfl⟩ : ∃ n : Nat, t2 = n := ⟨t2.toNat, by have := g2.1.1; simp only [] at this; omega⟩
    have hn2 : n2 ≤ l.length := by have := g2.1.2; simp only [] at this; omega
    have b1 := hb.get 1 (by omega)
    obtain ⟨q, hq⟩ : ∃ q : Nat, l[1]'(by omega) = q := ⟨(l[1]'(by omega)).toNat, by omega⟩
    rw [hq] at b1
    by_cases hc : c1 = 0 ∧ c2 = 0 ∧ n2 + q ≤ l.length
    · obtain ⟨rfl, rfl, hfit⟩ := hc
      have G := fun k hk => getFrame_at l hb hl (by omega) s o _ n1 n2 q G1 G2 hq rfl hfit _ rfl k hk
      by_cases h : frameIs (l[0]'(by omega)) s o ((l.take (n2 + q)).drop n2) ∧ frameBytes (l[0]'(by omega)) s o ((l.take (n2 + q)).drop n2) = l
      · refine ⟨_, _, _, _, true, fun k hk => ?_, fun _ => ⟨?_, h⟩⟩
        · rw [G k hk, if_pos h]
        · exact (hb.take _).drop _
      · refine ⟨0, 0, 0, [], false, fun k hk => ?_, fun h => by cases h⟩
        rw [G k hk, if_neg h]
    · refine ⟨0, 0, 0, [], false, fun k hk => ?_, fun h => by cases h⟩
      obtain ⟨m, rfl⟩ : ∃ m, k = m + 1 := ⟨k - 1, by omega⟩
      have p1 : (1 : Int) < (l.length : Int) := by omega
      have pm1 : 200 ≤ m + 1 := by omega
      have p2 : c1 = 0 → c2 = 0 → decide (((l.length : Int) - (n2 : Int)) < (q : Int)) = true := fun h1 h2 => decide_eq_true (by
        have : ¬ n2 + q ≤ l.length := fun h3 => hc ⟨h1, h2, h3⟩
        omega)
      have r1 : Aside0 (wrap64 (rd l 1) = (q : Int)) := ⟨by
        have := rd_lt l 1 (by omega)
        rw [show ((1 : Nat) : Int) = 1 from rfl, hq] at this
        rw [this, w64 (by omega) (by omega)]⟩
      have e6 : Aside0 (wrap64 ((l.length : Int) - (n2 : Int)) = (l.length : Int) - n2) := ⟨by rw [w64 (by omega) (by omega)]⟩
      have G1' := G1 (m + 1) pm1
      rw [show ((2 : Nat) : Int) = 2 from rfl] at G1'
      unfold impl_GetFrame.f
      rw [if_neg h2, G1', Option.bind_some, G2 (m + 1) pm1, Option.bind_some, if_pos p1, r1.out, e6.out]
      by_cases h1 : c1 = 0
      · rw [if_pos h1]
        by_cases h3 : c2 = 0
        · rw [if_pos h3, p2 h1 h3]
          simp only [impl_GetFrame.j0]
          first | rw [if_pos rfl] | rw [if_pos trivial]
        · rw [if_neg h3]
          simp only [impl_GetFrame.j0]
          first | rw [if_pos rfl] | rw [if_pos trivial]
      · rw [if_neg h1]
        simp only [impl_GetFrame.j0]
        first | rw [if_pos rfl] | rw [if_pos trivial]
theorem getFrame_good (κ s o : Int) (dt : List Int) (hb : Byt dt) (h : frameIs κ s o dt) (k : Nat) (hk : 2000 ≤ k) : impl_GetFrame.f k (frameBytes κ s o dt) = some (κ, s, o, dt, true) := by
  have hby := frameBytes_byt κ s o dt hb
  have hlen := frameBytes_length κ s o dt
  obtain ⟨h1, h2, h3, h4, h5⟩ := id h
  obtain ⟨vs, hvs⟩ : ∃ vs, varb 4 s = vs := ⟨_, rfl⟩
  obtain ⟨vo, hvo⟩ : ∃ vo, varb 4 o = vo := ⟨_, rfl⟩
  obtain ⟨W, hW⟩ : ∃ W, word4 (crcOf (frameHead κ s o dt)) = W := ⟨_, rfl⟩
  have hl : frameBytes κ s o dt = κ :: (dt.length : Int) :: (vs ++ (vo ++ (dt ++ W))) := by
    unfold frameBytes
    rw [hW]
    unfold frameHead
    rw [hvs, hvo, show κ % 256 = κ by omega, show (dt.length : Int) % 256 = dt.length by omega]
    simp
  have hall : ∀ (L : List Int), L = frameBytes κ s o dt → L = κ :: (dt.length : Int) :: (vs ++ (vo ++ (dt ++ W))) → impl_GetFrame.f k L = some (κ, s, o, dt, true) := by
    intro L hL hL'
    have hb' : Byt L := hL ▸ hby
    have hl' : L.length ≤ 1048576 := by rw [hL]; omega
    have len : L.length = 2 + vs.length + vo.length + dt.length + W.length := by rw [hL']; simp; omega
    have d2 : L.drop 2 = varb 4 s ++ (vo ++ (dt ++ W)) := by rw [hL', hvs]; rfl
    have d3 : L.drop (2 + vs.length) = varb 4 o ++ (dt ++ W) := by
      rw [← List.drop_drop, d2, hvs, List.drop_left, hvo]
    have G1 := fun k hk => var_canon L hl' 2 _ s (by omega) (by omega) d2 k hk
    have G2 := fun k hk => var_canon L hl' (2 + vs.length) _ o (by omega) (by omega) d3 k hk
    rw [hvs] at G1
    rw [hvo] at G2
    have hdt : (L.take (2 + vs.length + vo.length + dt.length)).drop (2 + vs.length + vo.length) = dt := by
      rw [List.drop_take, ← List.drop_drop, d3, hvo, List.drop_left, show 2 + vs.length + vo.length + dt.length - (2 + vs.length + vo.length) = dt.length by omega, List.take_left]
    have e := getFrame_at L hb' hl' (by omega) s o κ (2 + vs.length) (2 + vs.length + vo.length) dt.length G1 G2 (by simp [hL']) (by simp [hL']) (by omega) dt hdt k hk
    rw [e, if_pos ⟨h, hL.symm⟩]
  exact hall _ rfl hl
theorem xor_byte (y q : Int) (hy : 0 ≤ y ∧ y ≤ 255) (hq : 0 ≤ q ∧ q < 8) : (0 ≤ Go.bits .xor .u8 y (shl .u8 1 q) ∧ Go.bits .xor .u8 y (shl .u8 1 q) ≤ 255) ∧ Go.bits .xor .u8 y (shl .u8 1 q) ≠ y := by
  obtain ⟨Q, rfl⟩ : ∃ n : Nat, q = n := ⟨q.toNat, by omega⟩
  obtain ⟨Y, rfl⟩ : ∃ n : Nat, y = n := ⟨y.toNat, by omega⟩
  have e1 : shl .u8 1 (Q : Int) = ((2 ^ Q : Nat) : Int) := by
    obtain h | h | h | h | h | h | h | h : Q = 0 ∨ Q = 1 ∨ Q = 2 ∨ Q = 3 ∨ Q = 4 ∨ Q = 5 ∨ Q = 6 ∨ Q = 7 := by omega
    all_goals (subst h; decide)
  have e0 : 2 ^ Q < 256 := by
    have : 2 ^ Q < 2 ^ 8 := Nat.pow_lt_pow_right (by omega) (by omega)
    omega
  have hx : Y ^^^ 2 ^ Q < 2 ^ 8 := Nat.xor_lt_two_pow (by omega) (by omega)
  have e2 : (BitVec.ofInt 8 (Y : Int) ^^^ BitVec.ofInt 8 ((2 ^ Q : Nat) : Int)).toNat = Y ^^^ 2 ^ Q := by
    rw [BitVec.ofInt_natCast, BitVec.ofInt_natCast, BitVec.toNat_xor, BitVec.toNat_ofNat, BitVec.toNat_ofNat, Nat.mod_eq_of_lt (by omega), Nat.mod_eq_of_lt (by omega)]
  have e3 : Go.bits .xor .u8 (Y : Int) (shl .u8 1 (Q : Int)) = IntKind.u8.wrap (((BitVec.ofInt 8 (Y : Int) ^^^ BitVec.ofInt 8 ((2 ^ Q : Nat) : Int)).toNat : Nat) : Int) := by rw [e1]; rfl
  have e4 : IntKind.u8.wrap ((Y ^^^ 2 ^ Q : Nat) : Int) = ((Y ^^^ 2 ^ Q : Nat) : Int) := by
    rw [IntKind.wrap_u8]
    omega
  rw [e3, e2, e4]
  refine ⟨by omega, ?_⟩
  intro hh
  have h1 : Y ^^^ 2 ^ Q = Y := by omega
  have h2 : (2 ^ Q : Nat) = 0 := by
    have := congrArg (Y ^^^ ·) h1
    simp [← Nat.xor_assoc] at this
  have := Nat.two_pow_pos Q
  omega
theorem turned (κ s o : Int) (dt : List Int) (hb : Byt dt) (h : frameIs κ s o dt) (p : Nat) (hp : p < (frameBytes κ s o dt).length) (v : Int) (hv : 0 ≤ v ∧ v ≤ 255) (hne : v ≠ (frameBytes κ s o dt)[p]) (x y z : Int) (w : List Int) (hw : Byt w) (h' : frameIs x y z w) (he : frameBytes x y z w = (frameBytes κ s o dt).set p v) : False := by
  have hH := frameHead_byt κ s o dt hb
  have hH' := frameHead_byt x y z w hw
  have c1 := crcOf_range _ hH
  have c2 := crcOf_range _ hH'
  unfold frameBytes at he hne hp
  obtain ⟨H, hHe⟩ : ∃ H, frameHead κ s o dt = H := ⟨_, rfl⟩
  obtain ⟨H', hHe'⟩ : ∃ H', frameHead x y z w = H' := ⟨_, rfl⟩
  rw [hHe] at hH c1
  rw [hHe'] at hH' c2
  simp only [hHe, hHe'] at he hne hp
  rw [List.length_append, word4_length] at hp
  have hlen : H'.length = H.length := by
    have := congrArg List.length he
    rw [List.length_append, List.length_set, List.length_append, word4_length, word4_length] at this
    omega
  by_cases hph : p < H.length
  · rw [List.set_append_left _ _ hph] at he
    have ⟨e1, e2⟩ := List.append_inj he (by rw [hlen, List.length_set])
    have e3 := word4_inj _ _ c2 c1 e2
    rw [e1] at e3
    rw [List.getElem_append_left hph] at hne
    have e4 : H = H.take p ++ H[p] :: H.drop (p + 1) := by
      rw [← List.drop_eq_getElem_cons hph, List.take_append_drop]
    have e5 : H.set p v = H.take p ++ v :: H.drop (p + 1) := List.set_eq_take_append_cons_drop.trans (by rw [if_pos hph])
    rw [e5] at e3
    have e6 : crcOf (H.take p ++ v :: H.drop (p + 1)) = crcOf (H.take p ++ H[p] :: H.drop (p + 1)) := by rw [← e4]; exact e3
    exact hne (crcOf_one _ _ _ _ (hH.take _) (hH.drop _) hv (hH.get p hph) e6)
  · rw [List.set_append_right _ _ (by omega)] at he
    have ⟨e1, e2⟩ := List.append_inj he hlen
    rw [e1] at e2
    have hq : p - H.length < (word4 (crcOf H)).length := by rw [word4_length]; omega
    have e3 := congrArg (fun (l : List Int) => l[p - H.length]?) e2
    rw [List.getElem?_set_self hq, List.getElem?_eq_getElem hq] at e3
    rw [List.getElem_append_right (by omega)] at hne
    exact hne (Option.some.inj e3).symm
theorem sameBytes_l0 (x : List Int) (hl : x.length ≤ 9223372036854775806) : ∀ (d k i : Nat), i + d = x.length → d < k → laws_sameBytes.l0 k x x (i : Int) = some true := by
  intro d
  induction d with
  | zero =>
    intro k i hd hk
    obtain ⟨k, rfl⟩ := succ_of hk
    simp only [laws_sameBytes.l0]
    rw [if_neg (by omega)]
  | succ d ih =>
    intro k i hd hk
    obtain ⟨k, rfl⟩ := succ_of hk
    simp only [laws_sameBytes.l0]
    rw [if_pos (by omega), if_pos (by omega), if_pos (by omega), w64n (n := x.length) (by omega) (by omega), if_pos trivial]
    exact ih k (i + 1) (by omega) (by omega)
theorem at_some (b : List Int) (hb : Byt b) (hl : b.length ≤ 1048576) (i : Nat) (hi : i < 10) : ∃ r : Int, laws_at.f b (i : Int) = some r ∧ 0 ≤ r ∧ r ≤ 255 := by
  unfold laws_at.f
  by_cases h : (i : Int) < (b.length : Int)
  · have := hb.get i (by omega)
    rw [if_pos h, if_pos (by omega), rd_lt b i (by omega)]
    exact ⟨_, rfl, by rw [w64 (by omega) (by omega)]; omega⟩
  · rw [if_neg h]
    refine ⟨_, rfl, ?_⟩
    rw [w64 (x := (i : Int) * 31) (by omega) (by omega), w64 (x := (b.length : Int) * 7) (by omega) (by omega), w64 (by omega) (by omega), Int.tmod_eq_emod_of_nonneg (by omega)]
    omega
theorem holds : laws_FnFrame.PureR := by
  intro l hl
  obtain ⟨K, hK⟩ : ∃ K : Nat, 10000 ≤ K := ⟨_, Nat.le_refl _⟩
  obtain ⟨m, rfl⟩ : ∃ m, K = m + 1 := ⟨K - 1, by omega⟩
  refine ⟨m + 1, ?_⟩
  unfold laws_FnFrame.f laws_big.f
  rw [Option.bind_some]
  by_cases h0 : (l.length : Int) > 1048576
  · rw [if_pos (decide_eq_true h0)]
  · rw [if_neg (by simpa using h0)]
    obtain ⟨x, y, z, o, ho, hlo, hd⟩ := draw_some l (by omega)
    rw [hd (m + 1) (by omega), Option.bind_some]
    by_cases h : frameIs x y z o
    · have hg := getFrame_good x y z o ho h
      have e0 : impl_isFrame.f x y z o = some true := by rw [frame_eq']; exact congrArg some (decide_eq_true h)
      have e1 : spec_FrameOk.f x y z o = some true := by rw [frame_eq]; exact congrArg some (decide_eq_true h)
      have e2 : impl_PutFrame.f (m + 1) x y z o = some (frameBytes x y z o) := by
        unfold impl_PutFrame.f
        rw [e0, Option.bind_some, if_pos rfl, putFrame_impl x y z o ho h _ (by omega), Option.bind_some]
      have e3 : laws_sameBytes.f (m + 1) o o = some true := by
        unfold laws_sameBytes.f
        rw [if_pos rfl]
        exact sameBytes_l0 o (by omega) o.length (m + 1) 0 (by omega) (by omega)
      rw [e2, Option.bind_some, e1, Option.bind_some, if_pos rfl, hg (m + 1) (by omega), Option.bind_some]
      simp only [if_true]
      rw [e3, Option.bind_some]
      simp only [laws_FnFrame.j0]
      rw [if_neg (by decide)]
      have hlen := frameBytes_length x y z o
      have hby := frameBytes_byt x y z o ho
      have ht := turned x y z o ho h
      have hpos : 0 < (frameBytes x y z o).length := by
        unfold frameBytes
        rw [List.length_append, word4_length]
        omega
      obtain ⟨b, hbe⟩ : ∃ b, frameBytes x y z o = b := ⟨_, rfl⟩
      rw [hbe] at ht hlen hby hpos ⊢
      obtain ⟨u, eu, ub⟩ := at_some l hl.2 (by omega) 3 (by omega)
      obtain ⟨v, ev, vb⟩ := at_some l hl.2 (by omega) 4 (by omega)
      rw [show ((3 : Nat) : Int) = 3 from rfl] at eu
      rw [show ((4 : Nat) : Int) = 4 from rfl] at ev
      rw [eu, Option.bind_some, ev, Option.bind_some]
      have w1 : wrap64 (wrap64 (u * 256) + v) = u * 256 + v := by rw [w64 (x := u * 256) (by omega) (by omega), w64 (by omega) (by omega)]
      have w2 : wrap64 (8 * (b.length : Int)) = 8 * (b.length : Int) := w64 (by clear w1; omega) (by clear w1; omega)
      rw [w1, w2]
      clear w1 w2
      obtain ⟨t, htd⟩ : ∃ t, Int.tmod (u * 256 + v) (8 * (b.length : Int)) = t := ⟨_, rfl⟩
      have tb : 0 ≤ t ∧ t < 8 * (b.length : Int) := by
        rw [← htd, Int.tmod_eq_emod_of_nonneg (by omega)]
        exact ⟨Int.emod_nonneg _ (by omega), Int.emod_lt_of_pos _ (by omega)⟩
      rw [htd]
      clear htd
      rw [Int.tdiv_eq_ediv_of_nonneg tb.1, Int.tmod_eq_emod_of_nonneg tb.1]
      obtain ⟨p, hp⟩ : ∃ p : Nat, t / 8 = p := ⟨(t / 8).toNat, by omega⟩
      obtain ⟨q, hq⟩ : ∃ q : Int, t % 8 = q := ⟨_, rfl⟩
      have pb : p < b.length := by omega
      have qb : 0 ≤ q ∧ q < 8 := by omega
      rw [hp, hq]
      have w3 : Aside0 (wrap64 (p : Int) = (p : Int)) := ⟨w64 (by omega) (by omega)⟩
      have w4 : Aside0 (IntKind.u64.wrap q = q) := ⟨by rw [IntKind.wrap_u64]; omega⟩
      rw [w3.out, w4.out, if_neg (by omega), if_pos (by omega), if_pos (by omega), if_pos (by omega), Int.toNat_natCast, rd_lt b p pb]
      have hx := xor_byte b[p] q (hby.get p pb) qb
      obtain ⟨nv, hnv⟩ : ∃ nv, Go.bits .xor .u8 b[p] (shl .u8 1 q) = nv := ⟨_, rfl⟩
      rw [hnv] at hx ⊢
      have hbs : Byt (b.set p nv) := fun w hw => by
        rcases List.mem_or_eq_of_mem_set hw with hh | hh
        · exact hby w hh
        · rw [hh]; exact hx.1
      obtain ⟨x', y', z', o', r, hg', hr⟩ := getFrame_impl (b.set p nv) hbs (by rw [List.length_set]; omega)
      rw [hg' m (by omega), Option.bind_some]
      cases r with
      | false => rfl
      | true =>
        obtain ⟨q1, q2, q3⟩ := hr rfl
        exact absurd q3 (fun q3 => ht p pb nv hx.1 hx.2 x' y' z' o' q1 q2 q3)
    · have e0 : impl_isFrame.f x y z o = some false := by rw [frame_eq']; exact congrArg some (decide_eq_false h)
      have e1 : spec_FrameOk.f x y z o = some false := by rw [frame_eq]; exact congrArg some (decide_eq_false h)
      have e2 : impl_PutFrame.f (m + 1) x y z o = some [] := by
        unfold impl_PutFrame.f
        rw [e0, Option.bind_some, if_neg (by decide)]
      rw [e2, Option.bind_some, e1, Option.bind_some, if_neg (by decide), if_pos (by simp)]
      unfold impl_FrameOk.f
      rw [e0, Option.bind_some, Option.bind_some]
      rfl
end Go.Proofs.Ytldlpoloanmohaa.Pure.FnFrame
namespace Go.Proofs.Ytldlpoloanmohaa.Pure
theorem FnFrame : Go.Proofs.Ytldlpoloanmohaa.PFnFrame.laws_FnFrame.PureR := FnFrame.holds
end Go.Proofs.Ytldlpoloanmohaa.Pure
