/- The pure statement of the law FnExactReply, proved: numbers and lists alone, no memory. It holds for all arguments that can be read. -/
import Derived.Test.YtnnjhhoibhpbhaaDFnExactReply
import Derived.Test.YtnnjhhoibhpbhaaPlain
set_option linter.unusedVariables false
set_option linter.unusedSimpArgs false
namespace Go.Proofs.Ytnnjhhoibhpbhaa.Pure.FnExactReply
open Go.RowKit Go.Proofs.Ytnnjhhoibhpbhaa.PFnExactReply Go.Proofs.YtnnjhhoibhpbhaaW.PrintWords Go.Proofs.YtnnjhhoibhpbhaaW.PrintLast Go.Proofs.Ytnnjhhoibhpbhaa.Plain

theorem toByteS_l0 (l : List Int) (hl : l.length ≤ 9223372036854775807) : ∀ (d k : Nat) (x : List Int) (i : Nat), i + d = l.length → d < k → x.length = l.length → (∀ j, j < i → x[j]? = l[j]?) → laws_toByteS.l0 k l x (i : Int) = some l := by
  intro d
  induction d with
  | zero =>
    intro k x i hd hk hx hj
    obtain ⟨k, rfl⟩ := succ_of hk
    simp only [laws_toByteS.l0]
    rw [if_neg (by omega)]
    congr 1
    apply List.ext_getElem?
    intro j
    by_cases h : j < i
    · exact hj j h
    · rw [List.getElem?_eq_none (by omega), List.getElem?_eq_none (by omega)]
  | succ d ih =>
    intro k x i hd hk hx hj
    obtain ⟨k, rfl⟩ := succ_of hk
    simp only [laws_toByteS.l0]
    rw [if_pos (by omega), if_pos (by omega), if_pos (by omega), w64n (n := l.length) (by omega) hl]
    apply ih k _ (i + 1) (by omega) (by omega) (by simpa using hx)
    intro j hji
    simp only [Int.toNat_natCast, rd_nat]
    rw [List.getElem?_set]
    by_cases h : i = j
    · subst h
      rw [if_pos rfl, if_pos (by omega), List.getElem?_eq_getElem (by omega)]
      simp [List.getElem?_eq_getElem (show i < l.length by omega)]
    · rw [if_neg h]
      exact hj j (by omega)
theorem toByteS_eq (l : List Int) (k : Nat) (hl : l.length ≤ 281474976710656) (hk : l.length < k) : laws_toByteS.f k l = some l := by
  unfold laws_toByteS.f
  rw [if_pos (by omega), if_pos (by simpa using hl)]
  exact toByteS_l0 l (by omega) l.length k _ 0 (by omega) hk (by simp) (by omega)
theorem eqByteS_l0 (x y : List Int) (hxy : x.length = y.length) (hl : x.length ≤ 9223372036854775807) : ∀ (d k : Nat) (i : Nat), i + d = x.length → d < k → (∀ j, j < i → x[j]? = y[j]?) → laws_eqByteS.l0 k x y (i : Int) = some (decide (x = y)) := by
  intro d
  induction d with
  | zero =>
    intro k i hd hk hj
    obtain ⟨k, rfl⟩ := succ_of hk
    simp only [laws_eqByteS.l0]
    rw [if_neg (by omega)]
    have : x = y := by
      apply List.ext_getElem?
      intro j
      by_cases h : j < i
      · exact hj j h
      · rw [List.getElem?_eq_none (by omega), List.getElem?_eq_none (by omega)]
    simp [this]
  | succ d ih =>
    intro k i hd hk hj
    obtain ⟨k, rfl⟩ := succ_of hk
    simp only [laws_eqByteS.l0]
    rw [if_pos (by omega), if_pos (by omega), if_pos (by omega), w64n (n := x.length) (by omega) hl]
    simp only [rd_nat]
    have hx : x[i]? = some (x.getD i 0) := by simp [List.getElem?_eq_getElem (show i < x.length by omega)]
    have hy : y[i]? = some (y.getD i 0) := by simp [List.getElem?_eq_getElem (show i < y.length by omega)]
    by_cases h : x.getD i 0 = y.getD i 0
    · rw [if_pos h]
      apply ih k (i + 1) (by omega) (by omega)
      intro j hji
      by_cases e : j = i
      · subst e
        rw [hx, hy, h]
      · exact hj j (by omega)
    · rw [if_neg h]
      have : x ≠ y := fun e => h (by rw [e])
      simp [this]
theorem eqByteS_eq (x y : List Int) (k : Nat) (hl : x.length ≤ 9223372036854775807) (hk : x.length < k) : laws_eqByteS.f k x y = some (decide (x = y)) := by
  unfold laws_eqByteS.f
  by_cases h : x.length = y.length
  · rw [if_pos (by omega)]
    exact eqByteS_l0 x y h hl x.length k 0 (by omega) hk (by omega)
  · rw [if_neg (by omega)]
    have : x ≠ y := fun e => h (by rw [e])
    simp [this]
theorem szByteS_eq (l : List Int) (a : Int) (hl : l.length ≤ 9223372036854775807) (h0 : 0 ≤ a) (h1 : a ≤ 9223372036854775807) : laws_szByteS.f l a = some (if a < l.length then -1 else a - l.length) := by
  unfold laws_szByteS.f
  rw [w64 (by omega) (by omega)]
  by_cases h : a < l.length
  · rw [if_pos (by omega), if_pos h]
  · rw [if_neg (by omega), if_neg h]
theorem markByteS_l0 (n : Nat) (a : Int) (h0 : 0 ≤ a) (hn : a + n ≤ 9223372036854775807) : ∀ (d k : Nat) (x : List Int) (i : Nat), i + d = n → d < k → x.length = n → (∀ j, j < i → x[j]? = some ((a + (j : Nat)) % 256)) → laws_markByteS.l0 k x (a + (i : Nat)) (i : Int) = some (a + (n : Nat), marks n a) := by
  intro d
  induction d with
  | zero =>
    intro k x i hd hk hx hj
    obtain ⟨k, rfl⟩ := succ_of hk
    simp only [laws_markByteS.l0]
    rw [if_neg (by omega)]
    have e : x = marks n a := by
      apply List.ext_getElem?
      intro j
      by_cases h : j < n
      · rw [hj j (by omega), marks_get n a j h]
      · rw [List.getElem?_eq_none (by omega), List.getElem?_eq_none (by rw [marks_length]; omega)]
    obtain rfl : i = n := by omega
    rw [e]
  | succ d ih =>
    intro k x i hd hk hx hj
    obtain ⟨k, rfl⟩ := succ_of hk
    simp only [laws_markByteS.l0]
    rw [if_pos (by omega), if_pos (by omega), w64n (n := n) (by omega) (by omega), w64 (x := a + (i : Nat) + 1) (by omega) (by omega)]
    have e : a + (i : Nat) + 1 = a + ((i + 1 : Nat) : Int) := by omega
    rw [e]
    apply ih k _ (i + 1) (by omega) (by omega) (by simpa using hx)
    intro j hji
    rw [Int.toNat_natCast, List.getElem?_set]
    by_cases h : i = j
    · subst h
      rw [if_pos rfl, if_pos (by omega)]
    · rw [if_neg h]
      exact hj j (by omega)
theorem markByteS_eq (l : List Int) (a : Int) (k : Nat) (h0 : 0 ≤ a) (hn : a + l.length ≤ 9223372036854775807) (hk : l.length < k) : laws_markByteS.f k l a = some (a + (l.length : Nat), marks l.length a) := by
  unfold laws_markByteS.f
  have := markByteS_l0 l.length a h0 hn l.length k l 0 (by omega) hk rfl (by omega)
  rw [show a + ((0 : Nat) : Int) = a by omega] at this
  exact this
theorem heldByteS_l0 (n : Nat) (a : Int) (h0 : 0 ≤ a) (hn : a + n ≤ 9223372036854775807) : ∀ (d k : Nat) (i : Nat), i + d = n → d < k → laws_heldByteS.l0 k (marks n a) (a + (i : Nat)) (i : Int) = some (a + (n : Nat)) := by
  intro d
  induction d with
  | zero =>
    intro k i hd hk
    obtain ⟨k, rfl⟩ := succ_of hk
    simp only [laws_heldByteS.l0]
    rw [if_neg (by rw [marks_length]; omega)]
    obtain rfl : i = n := by omega
    rfl
  | succ d ih =>
    intro k i hd hk
    obtain ⟨k, rfl⟩ := succ_of hk
    simp only [laws_heldByteS.l0]
    have hr : rd (marks n a) (i : Int) = (a + (i : Nat)) % 256 := by
      rw [rd_nat, List.getD_eq_getElem?_getD, marks_get n a i (by omega)]
      rfl
    rw [if_pos (by rw [marks_length]; omega), if_pos (by omega), if_pos hr, w64n (n := n) (by omega) (by omega), w64 (x := a + (i : Nat) + 1) (by omega) (by omega)]
    have e : a + (i : Nat) + 1 = a + ((i + 1 : Nat) : Int) := by omega
    rw [e]
    exact ih k (i + 1) (by omega) (by omega)
theorem heldByteS_eq (n : Nat) (a : Int) (k : Nat) (h0 : 0 ≤ a) (hn : a + n ≤ 9223372036854775807) (hk : n < k) : laws_heldByteS.f k (marks n a) a = some (a + (n : Nat)) := by
  unfold laws_heldByteS.f
  have := heldByteS_l0 n a h0 hn n k 0 (by omega) hk
  rw [show a + ((0 : Nat) : Int) = a by omega] at this
  exact this
theorem in_eq (a b c : Int) : spec_l1In.f a b c = some (decide (b ≤ a ∧ a ≤ c)) := by
  unfold spec_l1In.f
  split <;> simp <;> omega
theorem in_eq' (a b c : Int) : impl_in.f a b c = some (decide (b ≤ a ∧ a ≤ c)) := in_eq a b c
theorem frame_eq (a b c : Int) (l : List Int) : spec_FrameOk.f a b c l = some (decide ((1 ≤ a ∧ a ≤ 4) ∧ (1 ≤ b ∧ b ≤ 2147483647) ∧ (0 ≤ c ∧ c ≤ 2147483647) ∧ l.length ≤ 48 ∧ (a = 2 ∨ l.length = 0))) := by
  unfold spec_FrameOk.f
  simp only [in_eq, Option.bind_some, decide_eq_true_eq]
  repeat' split
  all_goals (congr 1; rw [Bool.eq_iff_iff]; simp only [beq_iff_eq, decide_eq_true_eq, true_iff, false_iff, Bool.false_eq_true]; omega)
theorem frame_eq' (a b c : Int) (l : List Int) : impl_isFrame.f a b c l = some (decide ((1 ≤ a ∧ a ≤ 4) ∧ (1 ≤ b ∧ b ≤ 2147483647) ∧ (0 ≤ c ∧ c ≤ 2147483647) ∧ l.length ≤ 48 ∧ (a = 2 ∨ l.length = 0))) := by
  unfold impl_isFrame.f
  simp only [in_eq', Option.bind_some, decide_eq_true_eq]
  repeat' split
  all_goals (congr 1; rw [Bool.eq_iff_iff]; simp only [beq_iff_eq, decide_eq_true_eq, true_iff, false_iff, Bool.false_eq_true]; omega)
theorem szFrame_eq (a b c : Int) (l : List Int) (hl : l.length ≤ 9223372036854775807) : laws_szFrame.f a b c l 1048576 = some (if (1048576 : Int) < (l.length : Int) then (-1 : Int) else (1048576 : Int) - (l.length : Int)) := by
  unfold laws_szFrame.f
  rw [szByteS_eq l 1048576 hl (by omega) (by omega)]
  simp only [Option.bind_some]
  split
  · rw [if_pos (by omega)]
  · rw [if_neg (by omega)]
theorem toFrame_eq (a b c : Int) (l : List Int) (k : Nat) (hl : l.length ≤ 281474976710656) (hk : l.length < k) : laws_toFrame.f k a b c l = some (a, b, c, l) := by
  unfold laws_toFrame.f
  rw [toByteS_eq l k hl hk]; rfl
theorem eqFrame_self (a b c : Int) (l : List Int) (k : Nat) (hl : l.length ≤ 9223372036854775807) (hk : l.length < k) : laws_eqFrame.f k a b c l a b c l = some true := by
  unfold laws_eqFrame.f
  rw [eqByteS_eq l l k hl hk]
  simp
theorem eqFrame_eq (a b c : Int) (l : List Int) (a' b' c' : Int) (l' : List Int) (k : Nat) (hl : l.length ≤ 9223372036854775807) (hk : l.length < k) : laws_eqFrame.f k a b c l a' b' c' l' = some (decide (a = a' ∧ b = b' ∧ c = c' ∧ l = l')) := by
  unfold laws_eqFrame.f
  rw [eqByteS_eq l l' k hl hk]
  by_cases h1 : a = a' <;> by_cases h2 : b = b' <;> by_cases h3 : c = c' <;> by_cases h4 : l = l' <;> simp [h1, h2, h3, h4]
theorem markFrame_eq (x y z : Int) (l : List Int) (a : Int) (k : Nat) (h0 : 0 ≤ a) (hn : a + l.length ≤ 9223372036854775807) (hk : l.length < k) : laws_markFrame.f k x y z l a = some (a + (l.length : Nat), marks l.length a) := by
  unfold laws_markFrame.f
  rw [markByteS_eq l a k h0 hn hk]; rfl
theorem heldFrame_eq (x y z : Int) (n : Nat) (a : Int) (k : Nat) (h0 : 0 ≤ a) (hn : a + n ≤ 9223372036854775807) (hk : n < k) : laws_heldFrame.f k x y z (marks n a) a = some (a + (n : Nat)) := by
  unfold laws_heldFrame.f
  rw [heldByteS_eq n a k h0 hn hk]
  simp only [Option.bind_some]
  rw [if_neg (by omega)]
theorem reply_both (l : List Int) (s a b c : Int) (d : List Int) (hl : l.length ≤ 1048576) : ∃ (x y z : Int) (o : List Int) (r : Bool), spec_Reply.f l s a b c d = some (x, y, z, o, r) ∧ impl_Reply.f l s a b c d = some (x, y, z, o, r) ∧ o.length ≤ 48 := by
  unfold spec_Reply.f impl_Reply.f
  rw [frame_eq, frame_eq']
  simp only [Option.bind_some, decide_eq_true_eq]
  by_cases h : (1 ≤ a ∧ a ≤ 4) ∧ (1 ≤ b ∧ b ≤ 2147483647) ∧ (0 ≤ c ∧ c ≤ 2147483647) ∧ d.length ≤ 48 ∧ (a = 2 ∨ d.length = 0)
  · rw [if_pos h, if_pos h]
    by_cases h1 : a = 1
    · rw [if_pos h1, if_pos h1]
      by_cases h2 : b = s
      · rw [if_pos h2, if_pos h2]
        by_cases h3 : (l.length : Int) > 2000
        · rw [if_pos h3, if_pos h3]
          exact ⟨0, 0, 0, [], false, rfl, rfl, by simp⟩
        · rw [if_neg h3, if_neg h3]
          by_cases h4 : c > (l.length : Int)
          · rw [if_pos h4, if_pos h4]
            exact ⟨0, 0, 0, [], false, rfl, rfl, by simp⟩
          · rw [if_neg h4, if_neg h4]
            obtain ⟨n, rfl⟩ : ∃ n : Nat, c = n := ⟨c.toNat, by omega⟩
            have hd : ((l.drop n).length : Int) = (l.length : Int) - n := by rw [List.length_drop]; omega
            have e0 : spec_l4Min.f 48 (wrap64 ((l.length : Int) - (n : Nat))) = some (if 48 < (l.length : Int) - n then 48 else (l.length : Int) - n) := by
              unfold spec_l4Min.f
              rw [w64 (by omega) (by omega)]
              split <;> rfl
            obtain ⟨m, hm⟩ : ∃ m : Nat, (if 48 < (l.length : Int) - n then 48 else (l.length : Int) - n) = m := ⟨(if 48 < (l.length : Int) - n then 48 else (l.length : Int) - n).toNat, by split <;> omega⟩
            have hm1 : m ≤ 48 ∧ n + m ≤ l.length := by split at hm <;> omega
            have e1 : (List.take (n + m) l).drop n = (l.drop n).take m := by rw [List.drop_take]; congr 1; omega
            have e2 : ((l.drop n).take m).length = m := by rw [List.length_take, List.length_drop]; omega
            have e3 : ((n : Int) + m).toNat = n + m := by omega
            have e4 : slices_Clone_byte_byte.f ((l.drop n).take m) = some ((l.drop n).take m) := by
              unfold slices_Clone_byte_byte.f
              rw [e2, if_pos (by omega)]
            have e5 : mn ((l.drop n).length : Int) 48 = (m : Int) := by rw [hd]; exact hm
            refine ⟨2, s, n, (l.drop n).take m, true, ?_, ?_, by omega⟩
            · rw [hm] at e0
              rw [e0, Option.bind_some, w64 (x := (n : Int) + m) (by omega) (by omega), if_pos (by omega), if_pos (by omega), if_pos (by omega), e3, Int.toNat_natCast, e1, if_pos (by rw [e2]; simp only [List.length_nil]; omega), List.nil_append]
            · rw [Int.toNat_natCast, e5, if_pos (by omega), if_pos (by omega), if_pos (by omega), if_pos (by rw [hd]; omega), Int.toNat_natCast, e4, Option.bind_some]
      · rw [if_neg h2, if_neg h2]
        exact ⟨0, 0, 0, [], false, rfl, rfl, by simp⟩
    · rw [if_neg h1, if_neg h1]
      exact ⟨0, 0, 0, [], false, rfl, rfl, by simp⟩
  · rw [if_neg h, if_neg h]
    exact ⟨0, 0, 0, [], false, rfl, rfl, by simp⟩
theorem holds : laws_FnExactReply.PureR := by
  intro l s a b c d hl hs ha hb hc hd
  obtain ⟨K, hK⟩ : ∃ K : Nat, 4000000 ≤ K := ⟨_, Nat.le_refl _⟩
  obtain ⟨m, rfl⟩ : ∃ m, K = m + 3 := ⟨K - 3, by omega⟩
  refine ⟨m + 3, ?_⟩
  unfold laws_FnExactReply.f
  by_cases h0 : (l.length : Int) > 1048576
  · rw [if_pos h0]
  · rw [if_neg h0, szFrame_eq a b c d hd.1]
    simp only [Option.bind_some]
    by_cases h1 : (1048576 : Int) < d.length
    · rw [if_pos h1, if_pos (by omega)]
    · rw [if_neg h1, if_neg (by omega)]
      obtain ⟨x, y, z, o, r, g1, g2, g3⟩ := reply_both l s a b c d (by omega)
      rw [toByteS_eq l (m + 3) (by omega) (by omega), toFrame_eq a b c d (m + 3) (by omega) (by omega)]
      simp only [Option.bind_some, g1, g2]
      rw [eqFrame_self x y z o (m + 3) (by omega) (by omega)]
      simp only [Option.bind_some, if_true, bne_self_eq_false]
      rw [show m + 3 = (m + 2) + 1 from rfl]
      simp only [laws_FnExactReply.j0]
      rw [if_neg (by simp), toByteS_eq l (m + 2) (by omega) (by omega)]
      simp only [Option.bind_some]
      rw [eqByteS_eq l l (m + 2) (by omega) (by omega), toFrame_eq a b c d (m + 2) (by omega) (by omega)]
      simp only [Option.bind_some, decide_true, if_true]
      rw [eqFrame_self a b c d (m + 2) (by omega) (by omega)]
      simp only [Option.bind_some, if_true]
      rw [markByteS_eq l 1 (m + 2) (by omega) (by omega) (by omega)]
      simp only [Option.bind_some]
      rw [markFrame_eq a b c d (1 + (l.length : Nat)) (m + 2) (by omega) (by omega) (by omega)]
      simp only [Option.bind_some]
      rw [if_neg (by omega), eqFrame_self x y z o (m + 2) (by omega) (by omega)]
      simp only [Option.bind_some, if_true, bne_self_eq_false]
      rw [show m + 2 = (m + 1) + 1 from rfl]
      simp only [laws_FnExactReply.j1]
      rw [if_neg (by simp), markFrame_eq x y z o 1 (m + 1) (by omega) (by omega) (by omega)]
      simp only [Option.bind_some]
      rw [heldFrame_eq x y z o.length 1 (m + 1) (by omega) (by omega) (by omega)]
      simp only [Option.bind_some]
      rw [if_neg (by omega)]
      simp only [if_true]
      rw [toByteS_eq l (m + 1) (by omega) (by omega), toFrame_eq a b c d (m + 1) (by omega) (by omega)]
      simp only [Option.bind_some, g2]
      rw [eqFrame_self x y z o (m + 1) (by omega) (by omega)]
      simp only [Option.bind_some, if_true, bne_self_eq_false]
      simp only [laws_FnExactReply.j2]
      rw [if_neg (by simp), heldFrame_eq x y z o.length 1 m (by omega) (by omega) (by omega)]
      simp only [Option.bind_some]
      rw [if_neg (by omega)]
      simp
end Go.Proofs.Ytnnjhhoibhpbhaa.Pure.FnExactReply
namespace Go.Proofs.Ytnnjhhoibhpbhaa.Pure
theorem FnExactReply : Go.Proofs.Ytnnjhhoibhpbhaa.PFnExactReply.laws_FnExactReply.PureR := FnExactReply.holds
end Go.Proofs.Ytnnjhhoibhpbhaa.Pure
