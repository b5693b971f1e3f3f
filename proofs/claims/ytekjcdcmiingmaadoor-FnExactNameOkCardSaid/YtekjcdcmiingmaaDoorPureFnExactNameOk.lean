/- The pure statement of the law FnExactNameOk, proved: numbers and lists alone, no memory. It holds for all arguments that can be read. -/
import Derived.Test.YtekjcdcmiingmaaDoorDFnExactNameOk
import Derived.Test.YtekjcdcmiingmaaDoorPlain
import Derived.Lib.TrimUEq
set_option linter.unusedVariables false
set_option linter.unusedSimpArgs false
namespace Go.Proofs.YtekjcdcmiingmaaDoor.Pure.FnExactNameOk
open Go.RowKit Go.Proofs.YtekjcdcmiingmaaDoor.PFnExactNameOk Go.Proofs.YtekjcdcmiingmaaDoorW.PrintWords Go.Proofs.YtekjcdcmiingmaaDoorW.PrintLast Go.Proofs.YtekjcdcmiingmaaDoor.Plain
theorem get_bt (s : ByteArray) (i : Nat) : ((s.get! i).toNat : Int) = bt s (i : Int) := by
  unfold bt
  by_cases h : i < s.size
  · rw [dif_pos (by simpa using h)]
    have : s.get! i = s[i]'h := by
      cases s; exact getElem!_pos _ i h
    rw [this]; rfl
  · rw [dif_neg (by simpa using h)]
    have : s.get! i = 0 := by
      cases s; exact getElem!_neg _ i h
    rw [this]; rfl
set_option maxHeartbeats 4000000 in
theorem dec_err (n b0 b1 b2 b3 : Nat) (hn : 1 ≤ n) (h0 : b0 < 256) (h1 : b1 < 256) (h2 : b2 < 256) (h : (Lib.decodeN n b0 b1 b2 b3).1 = 65533) :
    (Lib.decodeN n b0 b1 b2 b3).2 = 1 ↔ (n ≤ 2 ∨ b0 ≠ 239 ∨ b1 ≠ 191 ∨ b2 ≠ 189) := by
  unfold Lib.decodeN at h ⊢
  by_cases c1 : b0 < 128
  · rw [if_pos c1] at h ⊢; simp only at h; omega
  rw [if_neg c1] at h ⊢
  by_cases c2 : b0 / 32 = 6 ∧ (1 < n ∧ b1 / 64 = 2)
  · rw [if_pos c2] at h ⊢
    by_cases d : b0 % 32 * 64 + b1 % 64 ≥ 128
    · rw [if_pos d] at h; simp only at h; omega
    · rw [if_neg d] at h ⊢; simp only [true_iff]; omega
  rw [if_neg c2] at h ⊢
  by_cases c3 : b0 / 16 = 14 ∧ (1 < n ∧ b1 / 64 = 2) ∧ (2 < n ∧ b2 / 64 = 2)
  · rw [if_pos c3] at h ⊢
    by_cases d : b0 % 16 * 4096 + b1 % 64 * 64 + b2 % 64 ≥ 2048 ∧ (b0 % 16 * 4096 + b1 % 64 * 64 + b2 % 64 < 55296 ∨ (57344 ≤ b0 % 16 * 4096 + b1 % 64 * 64 + b2 % 64 ∧ b0 % 16 * 4096 + b1 % 64 * 64 + b2 % 64 ≤ 1114111))
    · rw [if_pos d] at h ⊢; simp only at h ⊢; omega
    · rw [if_neg d] at h ⊢; simp only [true_iff]; omega
  rw [if_neg c3] at h ⊢
  by_cases c4 : b0 / 8 = 30 ∧ (1 < n ∧ b1 / 64 = 2) ∧ (2 < n ∧ b2 / 64 = 2) ∧ (3 < n ∧ b3 / 64 = 2)
  · rw [if_pos c4] at h ⊢
    by_cases d : b0 % 8 * 262144 + b1 % 64 * 4096 + b2 % 64 * 64 + b3 % 64 ≥ 65536 ∧ (b0 % 8 * 262144 + b1 % 64 * 4096 + b2 % 64 * 64 + b3 % 64 < 55296 ∨ (57344 ≤ b0 % 8 * 262144 + b1 % 64 * 4096 + b2 % 64 * 64 + b3 % 64 ∧ b0 % 8 * 262144 + b1 % 64 * 4096 + b2 % 64 * 64 + b3 % 64 ≤ 1114111))
    · rw [if_pos d] at h; simp only at h; omega
    · rw [if_neg d] at h ⊢; simp only [true_iff]; omega
  rw [if_neg c4] at h ⊢
  simp only [true_iff]
  omega
theorem broken_dec (s : ByteArray) (pos : Nat) (hp : pos < s.size) : brokenAt s pos ((Utf8.decode s pos).1 : Int) = decide ((Utf8.decode s pos).1 = 65533 ∧ (Utf8.decode s pos).2 = 1) := by
  by_cases h : (Utf8.decode s pos).1 = 65533
  · have e := h
    rw [Lib.decode_at] at e
    have z := dec_err _ _ _ _ _ (by omega) (UInt8.toNat_lt _) (UInt8.toNat_lt _) (UInt8.toNat_lt _) e
    rw [← Lib.decode_at] at z
    rw [h, Bool.eq_iff_iff, decide_eq_true_iff, and_iff_right rfl, z]
    unfold brokenAt
    rw [← get_bt, ← get_bt, ← get_bt]
    simp only [Bool.and_eq_true, Bool.or_eq_true, beq_iff_eq, bne_iff_ne, decide_eq_true_eq, ne_eq]
    constructor
    · rintro ⟨_, ((a | a) | a) | a⟩ <;> omega
    · intro a; refine ⟨by decide, ?_⟩; omega
  · rw [decide_eq_false (fun x => h x.1)]
    unfold brokenAt
    have : (((Utf8.decode s pos).1 : Int) == 65533) = false := by simp; omega
    rw [this]; rfl
theorem p_eq (x : Nat) : strings_ContainsFunc_F46.p x = !nameRune (x : Int) := by
  unfold strings_ContainsFunc_F46.p
  have : impl_isNameRune.f (x : Int) = some (nameRune (x : Int)) := by
    unfold impl_isNameRune.f nameRune
    repeat' split
    all_goals (congr 1; symm; first | (simp only [Bool.or_eq_true, Bool.and_eq_true, decide_eq_true_eq, beq_iff_eq]; omega) | (rw [Bool.eq_iff_iff]; simp only [Bool.or_eq_true, Bool.and_eq_true, decide_eq_true_eq, beq_iff_eq]; omega))
  rw [impl_NameOk_1.f, this]; rfl
def rest (s : ByteArray) (f pos : Nat) (n : Int) : Bool := Lib.validGoD f (s.data.toList.drop pos) && (!(decide (0 ≤ Lib.idxFuncFrom strings_ContainsFunc_F46.p true s f pos)) && (decide (1 ≤ n + Lib.runeCountFrom s f pos ∧ n + Lib.runeCountFrom s f pos ≤ 24) && (bt s 0 != 32 && bt s ((s.size : Int) - 1) != 32)))
theorem len_data (s : ByteArray) : s.data.toList.length = s.size := rfl
theorem valid_end (f : Nat) : Lib.validGoD f [] = true := by cases f <;> simp [Lib.validGoD]
theorem main (s : ByteArray) (h0 : 0 < s.size) : ∀ (f pos : Nat) (n : Int) (K : Nat), s.size ≤ pos + f → f < K → 0 ≤ n → n + f < 9000000000000000000 → spec_NameOk.l0 K s n pos = some (rest s f pos n) := by
  intro f
  have fin : ∀ (f pos : Nat) (n : Int) (K : Nat), ¬ pos < s.size → f < K → 0 ≤ n → spec_NameOk.l0 K s n pos = some (rest s f pos n) := by
    intro f pos n K hp hK hn
    obtain ⟨K, rfl⟩ : ∃ K', K = K' + 1 := ⟨K - 1, by omega⟩
    have e : s.data.toList.drop pos = [] := List.drop_eq_nil_of_le (by rw [len_data]; omega)
    unfold spec_NameOk.l0 rest
    rw [if_neg hp, e, valid_end, Lib.idxFuncFrom_end _ _ _ _ _ hp, Lib.runeCountFrom_end _ _ _ hp, if_pos h0]
    by_cases a : 1 ≤ n
    · rw [if_pos a]
      by_cases b : n ≤ 24
      · rw [if_pos b, decide_eq_true (show 1 ≤ n + ((0 : Nat) : Int) ∧ n + ((0 : Nat) : Int) ≤ 24 by omega)]; simp
      · rw [if_neg b, decide_eq_false (show ¬ (1 ≤ n + ((0 : Nat) : Int) ∧ n + ((0 : Nat) : Int) ≤ 24) by omega)]; simp
    · rw [if_neg a, decide_eq_false (show ¬ (1 ≤ n + ((0 : Nat) : Int) ∧ n + ((0 : Nat) : Int) ≤ 24) by omega)]; simp
  induction f with
  | zero => intro pos n K hs hK hn _; exact fin 0 pos n K (by omega) hK hn
  | succ f ih =>
    intro pos n K hs hK hn hb
    by_cases hp : pos < s.size
    case neg => exact fin _ pos n K hp hK hn
    obtain ⟨K, rfl⟩ : ∃ K', K = K' + 1 := ⟨K - 1, by omega⟩
    have ne : s.data.toList.drop pos ≠ [] := by
      intro e
      have := congrArg List.length e
      rw [List.length_drop, len_data] at this
      simp only [List.length_nil] at this; omega
    have hw := Lib.width_pos s pos
    unfold spec_NameOk.l0 rest Lib.validGoD Lib.idxFuncFrom Lib.runeCountFrom
    rw [if_pos hp, if_neg ne, if_pos hp, if_pos hp, Lib.decodeL_drop, broken_dec s pos hp, p_eq]
    by_cases hb1 : (Utf8.decode s pos).1 = 65533 ∧ (Utf8.decode s pos).2 = 1
    · rw [if_pos (by rw [decide_eq_true hb1]), if_pos hb1]; rfl
    · rw [if_neg (by rw [decide_eq_false hb1]; decide), if_neg hb1, List.drop_drop]
      cases hN : nameRune ((Utf8.decode s pos).1 : Int) with
      | false =>
        rw [if_neg (by decide), if_pos (by decide), decide_eq_true (show (0 : Int) ≤ ((pos : Nat) : Int) by omega)]
        simp
      | true =>
        rw [if_pos rfl, if_neg (by decide), w64 (by omega) (by omega), ih _ _ K (by omega) (by omega) (by omega) (by omega)]
        unfold rest
        have e : n + 1 + ((Lib.runeCountFrom s f (pos + (Utf8.decode s pos).2) : Nat) : Int) = n + ((1 + Lib.runeCountFrom s f (pos + (Utf8.decode s pos).2) : Nat) : Int) := by omega
        rw [e]
theorem prefix_bt (s : ByteArray) (h0 : 0 < s.size) : Lib.hasPrefix s.data.toList (#[32] : Array UInt8).toList = (bt s 0 == 32) := by
  have hl : 0 < s.data.toList.length := h0
  have e : bt s 0 = ((s.data.toList[0]'hl).toNat : Int) := by
    unfold bt; rw [dif_pos (show (0 : Int).toNat < s.size from h0)]; rfl
  rw [e]
  unfold Lib.hasPrefix
  revert hl
  generalize s.data.toList = L
  intro hl _
  cases L with
  | nil => exact absurd hl (by decide)
  | cons b t =>
    simp only [List.getElem_cons_zero, List.isPrefixOf, Bool.and_true]
    rw [Bool.eq_iff_iff, beq_iff_eq, beq_iff_eq]
    constructor
    · rintro rfl; rfl
    · intro h; exact UInt8.toNat_inj.mp (by have : (32 : UInt8).toNat = 32 := rfl; omega)
theorem suffix_bt (s : ByteArray) (h0 : 0 < s.size) : Lib.hasSuffix s.data.toList (#[32] : Array UInt8).toList = (bt s ((s.size : Int) - 1) == 32) := by
  have hl : 0 < s.data.toList.length := h0
  have hs : s.data.toList.length = s.size := rfl
  have e : bt s ((s.size : Int) - 1) = ((s.data.toList[s.size - 1]'(by omega)).toNat : Int) := by
    have h1 : ((s.size : Int) - 1).toNat = s.size - 1 := by omega
    unfold bt; rw [dif_pos (by omega)]
    simp only [h1]; rfl
  rw [e]
  unfold Lib.hasSuffix List.isSuffixOf
  have hr : s.data.toList.reverse ≠ [] := by intro x; rw [List.reverse_eq_nil_iff] at x; rw [x] at hl; exact absurd hl (by decide)
  have hx : ∀ (h : 0 < s.data.toList.reverse.length), s.data.toList.reverse[0]'h = s.data.toList[s.size - 1]'(by omega) := by
    intro h; rw [List.getElem_reverse]; congr 1
  cases hd : s.data.toList.reverse with
  | nil => exact absurd hd hr
  | cons b t =>
    have hb : b = s.data.toList[s.size - 1]'(by omega) := by
      have := hx (by rw [hd]; exact Nat.succ_pos _)
      rw [← this]; simp only [hd, List.getElem_cons_zero]
    rw [← hb]
    simp only [List.reverse_cons, List.reverse_nil, List.nil_append, List.isPrefixOf, Bool.and_true]
    rw [Bool.eq_iff_iff, beq_iff_eq, beq_iff_eq]
    constructor
    · rintro rfl; rfl
    · intro h; exact UInt8.toNat_inj.mp (by have : (32 : UInt8).toNat = 32 := rfl; omega)
theorem spec_eq (s : ByteArray) (hs : s.size ≤ 1048576) (K : Nat) (hK : 1048577 ≤ K) : spec_NameOk.f K s = some (decide (0 < s.size) && rest s s.size 0 0) := by
  unfold spec_NameOk.f
  rw [if_pos hs]
  by_cases h0 : 0 < s.size
  · rw [main s h0 s.size 0 0 K (by omega) (by omega) (by omega) (by omega), decide_eq_true h0]; rfl
  · obtain ⟨K, rfl⟩ : ∃ K', K = K' + 1 := ⟨K - 1, by omega⟩
    rw [decide_eq_false h0, spec_NameOk.l0, if_neg h0, if_neg (by decide)]; rfl
theorem impl_eq (s : ByteArray) (hs : s.size ≤ 1048576) : impl_NameOk.f s = some (decide (0 < s.size) && rest s s.size 0 0) := by
  unfold impl_NameOk.f utf8_ValidString.f utf8_RuneCountInString.f strings_HasPrefix.f strings_HasSuffix.f strings_ContainsFunc_F46.f impl_in.f
  rw [if_pos (by omega), if_pos (by omega)]
  simp only [Option.bind_some]
  have hv : Lib.validD s.data.toList = Lib.validGoD s.size (s.data.toList.drop 0) := rfl
  by_cases h0 : 0 < s.size
  · rw [decide_eq_true h0, Bool.true_and]
    unfold rest
    rw [hv]
    cases Lib.validGoD s.size (s.data.toList.drop 0) with
    | false => rw [if_neg (by decide)]; rfl
    | true =>
      rw [if_pos rfl, Bool.true_and]
      have hc : (0 : Int) + (Lib.runeCountFrom s s.size 0 : Int) = (Lib.runeCount s : Int) := by unfold Lib.runeCount; omega
      rw [hc]
      by_cases c1 : (Lib.runeCount s : Int) ≥ 1
      · rw [if_pos c1]
        simp only [Option.bind_some]
        by_cases c2 : (Lib.runeCount s : Int) ≤ 24
        · rw [decide_eq_true c2, if_pos rfl, if_pos (by omega), if_pos (by omega), decide_eq_true (show 1 ≤ (Lib.runeCount s : Int) ∧ (Lib.runeCount s : Int) ≤ 24 from ⟨c1, c2⟩)]
          simp only [Option.bind_some]
          rw [prefix_bt s h0, suffix_bt s h0]
          unfold Lib.idxFunc
          generalize decide (0 ≤ Lib.idxFuncFrom strings_ContainsFunc_F46.p true s s.size 0) = d
          simp only [bne]
          generalize (bt s 0 == 32) = x
          generalize (bt s ((s.size : Int) - 1) == 32) = y
          cases x <;> cases y <;> cases d <;> rfl
        · rw [decide_eq_false c2, if_neg (by decide), decide_eq_false (show ¬ (1 ≤ (Lib.runeCount s : Int) ∧ (Lib.runeCount s : Int) ≤ 24) from fun h => c2 h.2)]; simp
      · rw [if_neg c1, decide_eq_false (show ¬ (1 ≤ (Lib.runeCount s : Int) ∧ (Lib.runeCount s : Int) ≤ 24) from fun h => c1 h.1)]; simp
  · have hz : s.size = 0 := by omega
    rw [decide_eq_false h0, Bool.false_and]
    have hc : Lib.runeCount s = 0 := by unfold Lib.runeCount; exact Lib.runeCountFrom_end _ _ _ h0
    rw [hc]
    cases Lib.validD s.data.toList with
    | false => rfl
    | true => rw [if_pos rfl, if_neg (by decide)]; rfl
theorem holds : laws_FnExactNameOk.PureR := by
  intro s _
  refine ⟨1048577, ?_⟩
  unfold laws_FnExactNameOk.f
  by_cases h : (s.size : Int) > 1048576
  · rw [if_pos h]
  · rw [if_neg h, spec_eq s (by omega) _ (Nat.le_refl _), impl_eq s (by omega)]
    simp
end Go.Proofs.YtekjcdcmiingmaaDoor.Pure.FnExactNameOk
namespace Go.Proofs.YtekjcdcmiingmaaDoor.Pure
theorem FnExactNameOk : Go.Proofs.YtekjcdcmiingmaaDoor.PFnExactNameOk.laws_FnExactNameOk.PureR := FnExactNameOk.holds
end Go.Proofs.YtekjcdcmiingmaaDoor.Pure
