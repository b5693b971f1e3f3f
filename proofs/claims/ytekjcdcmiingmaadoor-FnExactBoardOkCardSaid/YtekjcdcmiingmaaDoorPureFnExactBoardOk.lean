/- The pure statement of the law FnExactBoardOk, proved: numbers and lists alone, no memory. It holds for all arguments that can be read. -/
import Derived.Test.YtekjcdcmiingmaaDoorDFnExactBoardOk
import Derived.Test.YtekjcdcmiingmaaDoorPlain
set_option linter.unusedVariables false
set_option linter.unusedSimpArgs false
namespace Go.Proofs.YtekjcdcmiingmaaDoor.Pure.FnExactBoardOk
open Go.RowKit Go.Proofs.YtekjcdcmiingmaaDoor.PFnExactBoardOk Go.Proofs.YtekjcdcmiingmaaDoorW.PrintWords Go.Proofs.YtekjcdcmiingmaaDoorW.PrintLast Go.Proofs.YtekjcdcmiingmaaDoor.Plain
theorem tl_data (s : ByteArray) : s.toList = s.data.toList := Lib.toList_data s
theorem size_l (s : ByteArray) : s.size = s.data.toList.length := (data_length s).symm
theorem bt_get (s : ByteArray) (i : Nat) (h : i < s.data.toList.length) : bt s (i : Int) = ((s.data.toList[i].toNat : Nat) : Int) := by
  have hs : i < s.size := by rw [size_l]; exact h
  have := bt_at s (i : Int) (by simpa using hs)
  rw [← this]
  rfl
/-- Which bytes stand in a board (or in a pattern). -/
def okN (star : Bool) (n : Nat) : Bool := (decide (97 ≤ n) && decide (n ≤ 122)) || (decide (48 ≤ n) && decide (n ≤ 57)) || n == 45 || (star && n == 42)
theorem byte_cases {p : UInt8 → Bool} (h : (List.range 256).all (fun n => p (UInt8.ofNat n)) = true) (b : UInt8) : p b = true := by
  have h1 := List.all_eq_true.1 h b.toNat (List.mem_range.2 b.toNat_lt)
  simpa using h1
theorem in_some (a b c : Int) : spec_l1In.f a b c = some (decide (b ≤ a ∧ a ≤ c)) := by
  unfold spec_l1In.f
  by_cases h : b ≤ a <;> simp [h]
theorem in_some' (a b c : Int) : impl_in.f a b c = some (decide (b ≤ a ∧ a ≤ c)) := in_some a b c
theorem board_l0 (s : ByteArray) (star : Bool) (hs : s.data.toList.length ≤ 1048576) : ∀ (d k i : Nat), i + d = s.data.toList.length → d < k → spec_l16Board.l0 k s star (i : Int) = some ((s.data.toList.drop i).all (fun b => okN star b.toNat) && decide (1 ≤ s.data.toList.length ∧ s.data.toList.length ≤ 12)) := by
  intro d
  induction d with
  | zero =>
    intro k i hi hk
    obtain ⟨k, rfl⟩ := succ_of hk
    simp only [spec_l16Board.l0]
    rw [if_neg (by rw [size_l]; omega), in_some, Option.bind_some, List.drop_eq_nil_of_le (by omega), size_l]
    show some _ = some (true && _)
    rw [Bool.true_and]
    exact congrArg some (decide_eq_decide.2 (by omega))
  | succ d ih =>
    intro k i hi hk
    obtain ⟨k, rfl⟩ := succ_of hk
    have hlt : i < s.data.toList.length := by omega
    have p1 : (i : Int) < (s.size : Int) := by rw [size_l]; omega
    have p2 : (0 : Int) ≤ (i : Int) := by omega
    obtain ⟨b, hb⟩ : ∃ b, s.data.toList[i] = b := ⟨_, rfl⟩
    have hbl := b.toNat_lt
    have e1 : wrap64 (bt s (i : Int)) = (b.toNat : Int) := by rw [bt_get s i hlt, hb, w64 (by omega) (by omega)]
    have hih := ih k (i + 1) (by omega) (by omega)
    simp only [spec_l16Board.l0]
    rw [if_pos p1, if_pos p2, e1, w64n hlt (by omega), List.drop_eq_getElem_cons hlt, hb, List.all_cons, hih, in_some, in_some, Option.bind_some, Option.bind_some]
    clear e1 hih p1 p2 ih
    obtain ⟨R, hR⟩ : ∃ R, ((s.data.toList.drop (i + 1)).all (fun b => okN star b.toNat) && decide (1 ≤ s.data.toList.length ∧ s.data.toList.length ≤ 12)) = R := ⟨_, rfl⟩
    rw [Bool.and_assoc, hR]
    obtain ⟨n, hn⟩ : ∃ n : Nat, b.toNat = n := ⟨_, rfl⟩
    rw [hn] at hbl ⊢
    clear hR hb hn
    unfold okN
    by_cases h1 : (97 : Int) ≤ (n : Int) ∧ (n : Int) ≤ 122
    · rw [if_pos (decide_eq_true h1)]
      have a1 : decide (97 ≤ n) = true := decide_eq_true (by omega)
      have a2 : decide (n ≤ 122) = true := decide_eq_true (by omega)
      simp [a1, a2]
    · rw [if_neg (by simpa using h1)]
      have a0 : (decide (97 ≤ n) && decide (n ≤ 122)) = false := by simp; omega
      by_cases h2 : (48 : Int) ≤ (n : Int) ∧ (n : Int) ≤ 57
      · rw [if_pos (decide_eq_true h2)]
        have a1 : decide (48 ≤ n) = true := decide_eq_true (by omega)
        have a2 : decide (n ≤ 57) = true := decide_eq_true (by omega)
        simp [a1, a2]
      · rw [if_neg (by simpa using h2)]
        have b0 : (decide (48 ≤ n) && decide (n ≤ 57)) = false := by simp; omega
        rw [a0, b0]
        by_cases h3 : (n : Int) = 45
        · have : n = 45 := by omega
          subst this
          rw [if_pos h3]
          simp
        · have c0 : (n == 45) = false := by simp; omega
          rw [if_neg h3, c0]
          cases star with
          | false => simp
          | true =>
            rw [if_pos rfl]
            by_cases h4 : (n : Int) = 42
            · have : n = 42 := by omega
              subst this
              rw [if_pos h4]
              simp
            · have d0 : (n == 42) = false := by simp; omega
              rw [if_neg h4, d0]
              simp
theorem board_spec (s : ByteArray) (star : Bool) (hs : s.data.toList.length ≤ 1048576) (k : Nat) (hk : s.data.toList.length < k) : spec_l16Board.f k s star = some (s.data.toList.all (fun b => okN star b.toNat) && decide (1 ≤ s.data.toList.length ∧ s.data.toList.length ≤ 12)) := by
  have := board_l0 s star hs s.data.toList.length k 0 (by omega) hk
  rw [List.drop_zero] at this
  exact this
theorem dropWhile_all {p : UInt8 → Bool} : ∀ (l : List UInt8), (∀ b ∈ l.dropWhile p, p b = true) → ∀ b ∈ l, p b = true
  | [], _ => fun _ h => by cases h
  | a :: l, h => by
    by_cases ha : p a = true
    · rw [List.dropWhile_cons_of_pos ha] at h
      intro b hb
      rcases List.mem_cons.1 hb with rfl | hb
      · exact ha
      · exact dropWhile_all l h b hb
    · rw [List.dropWhile_cons_of_neg ha] at h
      exact absurd (h a (by simp)) ha
theorem all_dropWhile {p : UInt8 → Bool} : ∀ (l : List UInt8), (∀ b ∈ l, p b = true) → l.dropWhile p = []
  | [], _ => rfl
  | a :: l, h => by
    rw [List.dropWhile_cons_of_pos (h a (by simp))]
    exact all_dropWhile l (fun b hb => h b (by simp [hb]))
theorem trimS_nil (l cs : List UInt8) : (Lib.trimS l cs == ([] : List UInt8)) = l.all (cs.contains ·) := by
  rw [Bool.eq_iff_iff, beq_iff_eq, List.all_eq_true]
  unfold Lib.trimS Lib.trimLeftS Lib.trimRightS
  constructor
  · intro h
    have h1 : ∀ b ∈ (l.reverse.dropWhile (cs.contains ·)).reverse, cs.contains b = true := by
      intro b hb
      by_cases hc : cs.contains b = true
      · exact hc
      · have h2 : ∀ (m : List UInt8), b ∈ m → m.dropWhile (cs.contains ·) ≠ [] := by
          intro m
          induction m with
          | nil => intro h; cases h
          | cons a m ih =>
            intro hm
            by_cases ha : cs.contains a = true
            · rw [List.dropWhile_cons_of_pos ha]
              rcases List.mem_cons.1 hm with rfl | hm
              · exact absurd ha hc
              · exact ih hm
            · rw [List.dropWhile_cons_of_neg ha]
              simp
        exact absurd h (h2 _ hb)
    have h3 := dropWhile_all l.reverse (fun b hb => h1 b (List.mem_reverse.2 hb))
    exact fun b hb => h3 b (List.mem_reverse.2 hb)
  · intro h
    rw [all_dropWhile l.reverse (fun b hb => h b (List.mem_reverse.1 hb))]
    rfl
theorem all_same {p q : UInt8 → Bool} (h : ∀ b, p b = q b) (l : List UInt8) : l.all p = l.all q := by
  have : p = q := funext h
  rw [this]
theorem boardSet (b : UInt8) : ([97, 98, 99, 100, 101, 102, 103, 104, 105, 106, 107, 108, 109, 110, 111, 112, 113, 114, 115, 116, 117, 118, 119, 120, 121, 122, 48, 49, 50, 51, 52, 53, 54, 55, 56, 57, 45] : List UInt8).contains b = okN false b.toNat :=
  eq_of_beq (byte_cases (p := fun b => ([97, 98, 99, 100, 101, 102, 103, 104, 105, 106, 107, 108, 109, 110, 111, 112, 113, 114, 115, 116, 117, 118, 119, 120, 121, 122, 48, 49, 50, 51, 52, 53, 54, 55, 56, 57, 45] : List UInt8).contains b == okN false b.toNat) (by decide +kernel) b)
theorem trim_board (s : ByteArray) (cs : List UInt8) (star : Bool) (hc : ∀ b : UInt8, cs.contains b = okN star b.toNat) (h1 : cs.length < 4294967281) (h2 : cs.all (fun b => decide (b.toNat < 128)) = true) (hs : s.data.toList.length ≤ 1048576) :
    ∃ t, strings_Trim.f s ⟨cs.toArray⟩ = some t ∧ (t.toList == ([] : List UInt8)) = s.data.toList.all (fun b => okN star b.toNat) := by
  unfold strings_Trim.f
  have e : (⟨cs.toArray⟩ : ByteArray).data.toList = cs := rfl
  rw [if_pos (by rw [size_l]; omega), if_pos (by rw [size_l, e]; exact h1), e, if_pos h2]
  refine ⟨_, rfl, ?_⟩
  rw [tl_data]
  show (Lib.trimS s.data.toList cs == []) = _
  rw [trimS_nil]
  exact all_same hc _
theorem board_impl (s : ByteArray) (hs : s.data.toList.length ≤ 1048576) : impl_isBoard.f s = some (s.data.toList.all (fun b => okN false b.toNat) && decide (1 ≤ s.data.toList.length ∧ s.data.toList.length ≤ 12)) := by
  unfold impl_isBoard.f
  rw [in_some', Option.bind_some, size_l]
  by_cases h : 1 ≤ s.data.toList.length ∧ s.data.toList.length ≤ 12
  · have p : (1 : Int) ≤ (s.data.toList.length : Int) ∧ (s.data.toList.length : Int) ≤ 12 := by omega
    rw [if_pos (decide_eq_true p), decide_eq_true h, Bool.and_true]
    obtain ⟨t, h1, h2⟩ := trim_board s _ false boardSet (by decide) (by decide) hs
    rw [h1, Option.bind_some, h2]
  · have p : ¬ ((1 : Int) ≤ (s.data.toList.length : Int) ∧ (s.data.toList.length : Int) ≤ 12) := by omega
    rw [decide_eq_false p, if_neg (by decide), decide_eq_false h, Bool.and_false]
theorem holds : laws_FnExactBoardOk.PureR := by
  intro s hs
  by_cases h : (s.size : Int) > 1048576
  · refine ⟨0, ?_⟩
    unfold laws_FnExactBoardOk.f
    rw [if_pos h]
  · have hl : s.data.toList.length ≤ 1048576 := by rw [size_l] at h; omega
    refine ⟨s.data.toList.length + 1, ?_⟩
    unfold laws_FnExactBoardOk.f
    rw [if_neg h]
    unfold spec_BoardOk.f impl_BoardOk.f
    rw [board_spec s false hl _ (by omega), Option.bind_some, Option.bind_some, board_impl s hl, Option.bind_some, Option.bind_some]
    simp
end Go.Proofs.YtekjcdcmiingmaaDoor.Pure.FnExactBoardOk
namespace Go.Proofs.YtekjcdcmiingmaaDoor.Pure
theorem FnExactBoardOk : Go.Proofs.YtekjcdcmiingmaaDoor.PFnExactBoardOk.laws_FnExactBoardOk.PureR := FnExactBoardOk.holds
end Go.Proofs.YtekjcdcmiingmaaDoor.Pure
