/- The pure statement of the law FnExactFits, proved: numbers and lists alone, no memory. It holds for all arguments that can be read. -/
import Derived.Test.YtekjcdcmiingmaaDoorDFnExactFits
import Derived.Test.YtekjcdcmiingmaaDoorPlain
set_option linter.unusedVariables false
set_option linter.unusedSimpArgs false
namespace Go.Proofs.YtekjcdcmiingmaaDoor.Pure.FnExactFits
open Go.RowKit Go.Proofs.YtekjcdcmiingmaaDoor.PFnExactFits Go.Proofs.YtekjcdcmiingmaaDoorW.PrintWords Go.Proofs.YtekjcdcmiingmaaDoorW.PrintLast Go.Proofs.YtekjcdcmiingmaaDoor.Plain
theorem tl_data (s : ByteArray) : s.toList = s.data.toList := Lib.toList_data s
theorem size_l (s : ByteArray) : s.size = s.data.toList.length := (data_length s).symm
theorem bt_get (s : ByteArray) (i : Nat) (h : i < s.data.toList.length) : bt s (i : Int) = ((s.data.toList[i].toNat : Nat) : Int) := by
  have hs : i < s.size := by rw [size_l]; exact h
  have := bt_at s (i : Int) (by simpa using hs)
  rw [← this]
  rfl
/-- Which bytes stand in a board (or in a pattern). -/
def okN (star : Bool) (n : Nat) : Bool := (decide (97 ≤ n) && decide (n ≤ 122)) || (decide (48 ≤ n) && decide (n ≤ 57)) || n == 45 || (star && n == 42)
theorem byte_cases {p : UInt8 → Bool} (h : (List.range 256).all (fun n => p (UInt8.ofNat n)) = true) (b : UInt8) : p b = true := by
  have h1 := List.all_eq_true.1 h b.toNat (List.mem_range.2 b.toNat_lt)
  simpa using h1
theorem in_some (a b c : Int) : spec_l1In.f a b c = some (decide (b ≤ a ∧ a ≤ c)) := by
  unfold spec_l1In.f
  by_cases h : b ≤ a <;> simp [h]
theorem in_some' (a b c : Int) : impl_in.f a b c = some (decide (b ≤ a ∧ a ≤ c)) := in_some a b c
theorem board_l0 (s : ByteArray) (star : Bool) (hs : s.data.toList.length ≤ 1048576) : ∀ (d k i : Nat), i + d = s.data.toList.length → d < k → spec_l16Board.l0 k s star (i : Int) = some ((s.data.toList.drop i).all (fun b => okN star b.toNat) && decide (1 ≤ s.data.toList.length ∧ s.data.toList.length ≤ 12)) := by
  intro d
  induction d with
  | zero =>
    intro k i hi hk
    obtain ⟨k, rfl⟩ := succ_of hk
    simp only [spec_l16Board.l0]
    rw [if_neg (by rw [size_l]; omega), in_some, Option.bind_some, List.drop_eq_nil_of_le (by omega), size_l]
    show some _ = some (true && _)
    rw [Bool.true_and]
    exact congrArg some (decide_eq_decide.2 (by omega))
  | succ d ih =>
    intro k i hi hk
    obtain ⟨k, rfl⟩ := succ_of hk
    have hlt : i < s.data.toList.length := by omega
    have p1 : (i : Int) < (s.size : Int) := by rw [size_l]; omega
    have p2 : (0 : Int) ≤ (i : Int) := by omega
    obtain ⟨b, hb⟩ : ∃ b, s.data.toList[i] = b := ⟨_, rfl⟩
    have hbl := b.toNat_lt
    have e1 : wrap64 (bt s (i : Int)) = (b.toNat : Int) := by rw [bt_get s i hlt, hb, w64 (by omega) (by omega)]
    have hih := ih k (i + 1) (by omega) (by omega)
    simp only [spec_l16Board.l0]
    rw [if_pos p1, if_pos p2, e1, w64n hlt (by omega), List.drop_eq_getElem_cons hlt, hb, List.all_cons, hih, in_some, in_some, Option.bind_some, Option.bind_some]
    clear e1 hih p1 p2 ih
    obtain ⟨R, hR⟩ : ∃ R, ((s.data.toList.drop (i + 1)).all (fun b => okN star b.toNat) && decide (1 ≤ s.data.toList.length ∧ s.data.toList.length ≤ 12)) = R := ⟨_, rfl⟩
    rw [Bool.and_assoc, hR]
    obtain ⟨n, hn⟩ : ∃ n : Nat, b.toNat = n := ⟨_, rfl⟩
    rw [hn] at hbl ⊢
    clear hR hb hn
    unfold okN
    by_cases h1 : (97 : Int) ≤ (n : Int) ∧ (n : Int) ≤ 122
    · rw [if_pos (decide_eq_true h1)]
      have a1 : decide (97 ≤ n) = true := decide_eq_true (by omega)
      have a2 : decide (n ≤ 122) = true := decide_eq_true (by omega)
      simp [a1, a2]
    · rw [if_neg (by simpa using h1)]
      have a0 : (decide (97 ≤ n) && decide (n ≤ 122)) = false := by simp; omega
      by_cases h2 : (48 : Int) ≤ (n : Int) ∧ (n : Int) ≤ 57
      · rw [if_pos (decide_eq_true h2)]
        have a1 : decide (48 ≤ n) = true := decide_eq_true (by omega)
        have a2 : decide (n ≤ 57) = true := decide_eq_true (by omega)
        simp [a1, a2]
      · rw [if_neg (by simpa using h2)]
        have b0 : (decide (48 ≤ n) && decide (n ≤ 57)) = false := by simp; omega
        rw [a0, b0]
        by_cases h3 : (n : Int) = 45
        · have : n = 45 := by omega
          subst this
          rw [if_pos h3]
          simp
        · have c0 : (n == 45) = false := by simp; omega
          rw [if_neg h3, c0]
          cases star with
          | false => simp
          | true =>
            rw [if_pos rfl]
            by_cases h4 : (n : Int) = 42
            · have : n = 42 := by omega
              subst this
              rw [if_pos h4]
              simp
            · have d0 : (n == 42) = false := by simp; omega
              rw [if_neg h4, d0]
              simp
theorem board_spec (s : ByteArray) (star : Bool) (hs : s.data.toList.length ≤ 1048576) (k : Nat) (hk : s.data.toList.length < k) : spec_l16Board.f k s star = some (s.data.toList.all (fun b => okN star b.toNat) && decide (1 ≤ s.data.toList.length ∧ s.data.toList.length ≤ 12)) := by
  have := board_l0 s star hs s.data.toList.length k 0 (by omega) hk
  rw [List.drop_zero] at this
  exact this
theorem dropWhile_all {p : UInt8 → Bool} : ∀ (l : List UInt8), (∀ b ∈ l.dropWhile p, p b = true) → ∀ b ∈ l, p b = true
  | [], _ => fun _ h => by cases h
  | a :: l, h => by
    by_cases ha : p a = true
    · rw [List.dropWhile_cons_of_pos ha] at h
      intro b hb
      rcases List.mem_cons.1 hb with rfl | hb
      · exact ha
      · exact dropWhile_all l h b hb
    · rw [List.dropWhile_cons_of_neg ha] at h
      exact absurd (h a (by simp)) ha
theorem all_dropWhile {p : UInt8 → Bool} : ∀ (l : List UInt8), (∀ b ∈ l, p b = true) → l.dropWhile p = []
  | [], _ => rfl
  | a :: l, h => by
    rw [List.dropWhile_cons_of_pos (h a (by simp))]
    exact all_dropWhile l (fun b hb => h b (by simp [hb]))
theorem trimS_nil (l cs : List UInt8) : (Lib.trimS l cs == ([] : List UInt8)) = l.all (cs.contains ·) := by
  rw [Bool.eq_iff_iff, beq_iff_eq, List.all_eq_true]
  unfold Lib.trimS Lib.trimLeftS Lib.trimRightS
  constructor
  · intro h
    have h1 : ∀ b ∈ (l.reverse.dropWhile (cs.contains ·)).reverse, cs.contains b = true := by
      intro b hb
      by_cases hc : cs.contains b = true
      · exact hc
      · have h2 : ∀ (m : List UInt8), b ∈ m → m.dropWhile (cs.contains ·) ≠ [] := by
          intro m
          induction m with
          | nil => intro h; cases h
          | cons a m ih =>
            intro hm
            by_cases ha : cs.contains a = true
            · rw [List.dropWhile_cons_of_pos ha]
              rcases List.mem_cons.1 hm with rfl | hm
              · exact absurd ha hc
              · exact ih hm
            · rw [List.dropWhile_cons_of_neg ha]
              simp
        exact absurd h (h2 _ hb)
    have h3 := dropWhile_all l.reverse (fun b hb => h1 b (List.mem_reverse.2 hb))
    exact fun b hb => h3 b (List.mem_reverse.2 hb)
  · intro h
    rw [all_dropWhile l.reverse (fun b hb => h b (List.mem_reverse.1 hb))]
    rfl
theorem all_same {p q : UInt8 → Bool} (h : ∀ b, p b = q b) (l : List UInt8) : l.all p = l.all q := by
  have : p = q := funext h
  rw [this]
theorem boardSet (b : UInt8) : ([97, 98, 99, 100, 101, 102, 103, 104, 105, 106, 107, 108, 109, 110, 111, 112, 113, 114, 115, 116, 117, 118, 119, 120, 121, 122, 48, 49, 50, 51, 52, 53, 54, 55, 56, 57, 45] : List UInt8).contains b = okN false b.toNat :=
  eq_of_beq (byte_cases (p := fun b => ([97, 98, 99, 100, 101, 102, 103, 104, 105, 106, 107, 108, 109, 110, 111, 112, 113, 114, 115, 116, 117, 118, 119, 120, 121, 122, 48, 49, 50, 51, 52, 53, 54, 55, 56, 57, 45] : List UInt8).contains b == okN false b.toNat) (by decide +kernel) b)
theorem trim_board (s : ByteArray) (cs : List UInt8) (star : Bool) (hc : ∀ b : UInt8, cs.contains b = okN star b.toNat) (h1 : cs.length < 4294967281) (h2 : cs.all (fun b => decide (b.toNat < 128)) = true) (hs : s.data.toList.length ≤ 1048576) :
    ∃ t, strings_Trim.f s ⟨cs.toArray⟩ = some t ∧ (t.toList == ([] : List UInt8)) = s.data.toList.all (fun b => okN star b.toNat) := by
  unfold strings_Trim.f
  have e : (⟨cs.toArray⟩ : ByteArray).data.toList = cs := rfl
  rw [if_pos (by rw [size_l]; omega), if_pos (by rw [size_l, e]; exact h1), e, if_pos h2]
  refine ⟨_, rfl, ?_⟩
  rw [tl_data]
  show (Lib.trimS s.data.toList cs == []) = _
  rw [trimS_nil]
  exact all_same hc _
theorem board_impl (s : ByteArray) (hs : s.data.toList.length ≤ 1048576) : impl_isBoard.f s = some (s.data.toList.all (fun b => okN false b.toNat) && decide (1 ≤ s.data.toList.length ∧ s.data.toList.length ≤ 12)) := by
  unfold impl_isBoard.f
  rw [in_some', Option.bind_some, size_l]
  by_cases h : 1 ≤ s.data.toList.length ∧ s.data.toList.length ≤ 12
  · have p : (1 : Int) ≤ (s.data.toList.length : Int) ∧ (s.data.toList.length : Int) ≤ 12 := by omega
    rw [if_pos (decide_eq_true p), decide_eq_true h, Bool.and_true]
    obtain ⟨t, h1, h2⟩ := trim_board s _ false boardSet (by decide) (by decide) hs
    rw [h1, Option.bind_some, h2]
  · have p : ¬ ((1 : Int) ≤ (s.data.toList.length : Int) ∧ (s.data.toList.length : Int) ≤ 12) := by omega
    rw [decide_eq_false p, if_neg (by decide), decide_eq_false h, Bool.and_false]
def starL (f : List UInt8 → Bool) : List UInt8 → Bool
  | [] => f []
  | d :: b => f (d :: b) || starL f b
/-- Whether a board fits a pattern. -/
def fitsL : List UInt8 → List UInt8 → Bool
  | [], b => b.isEmpty
  | c :: p, b => if c = 42 then starL (fitsL p) b else match b with
    | [] => false
    | d :: b => d == c && fitsL p b
theorem extract_l (s : ByteArray) (i : Nat) : (s.extract i s.size).data.toList = s.data.toList.drop i := by
  have hsz : s.size = s.data.size := rfl
  rw [ByteArray.data_extract, Array.toList_extract, hsz]
  simp [List.extract_eq_take_drop]
  rw [List.take_of_length_le (by simp)]
theorem nil_iff (s : ByteArray) : s.toList = ([] : List UInt8) ↔ s.data.toList = [] := by rw [tl_data]
theorem bt_head (s : ByteArray) (c : UInt8) (p : List UInt8) (h : s.data.toList = c :: p) : bt s 0 = (c.toNat : Int) := by
  have := bt_get s 0 (by rw [h]; simp)
  simp only [h, List.getElem_cons_zero] at this
  exact this
theorem toNat_eq (c d : UInt8) : ((c.toNat : Int) = (d.toNat : Int)) ↔ c = d := by
  constructor
  · intro h
    exact UInt8.toNat_inj.1 (by omega)
  · intro h; rw [h]
theorem fits_impl : ∀ (n : Nat) (a b : ByteArray) (k : Nat), a.data.toList.length + b.data.toList.length ≤ n → n < k → impl_fits.f k a b = some (fitsL a.data.toList b.data.toList) := by
  intro n
  induction n with
  | zero =>
    intro a b k hn hk
    obtain ⟨k, rfl⟩ := succ_of hk
    have h1 : a.data.toList = [] := List.eq_nil_of_length_eq_zero (by omega)
    have h2 : b.data.toList = [] := List.eq_nil_of_length_eq_zero (by omega)
    simp only [impl_fits.f]
    rw [if_pos ((nil_iff a).2 h1), tl_data b, h1, h2]
    rfl
  | succ n ih =>
    intro a b k hn hk
    obtain ⟨k, rfl⟩ : ∃ m, k = m + 1 := ⟨k - 1, by omega⟩
    have hk' : n < k := by omega
    simp only [impl_fits.f]
    cases ha : a.data.toList with
    | nil =>
      rw [if_pos ((nil_iff a).2 ha), tl_data b]
      cases b.data.toList <;> rfl
    | cons c p =>
      have la : a.data.toList.length = p.length + 1 := by rw [ha]; rfl
      have p1 : (0 : Int) < (a.size : Int) := by rw [size_l]; omega
      have p2 : (1 : Int) ≤ (a.size : Int) := by omega
      have ea : (a.extract 1 a.size).data.toList = p := by rw [extract_l, ha]; rfl
      rw [if_neg (fun h => by rw [(nil_iff a).1 h] at ha; cases ha), if_pos p1, bt_head a c p ha]
      have h42 : ((c.toNat : Int) = 42) ↔ c = 42 := toNat_eq c 42
      by_cases hc : c = 42
      · have i1 := ih (a.extract 1 a.size) b k (by rw [ea]; omega) hk'
        rw [ea] at i1
        rw [if_pos (h42.2 hc), if_pos p2, i1, Option.bind_some]
        simp only [fitsL]
        rw [if_pos hc]
        cases hb : b.data.toList with
        | nil =>
          have hnn : b.toList = ([] : List UInt8) := (nil_iff b).2 hb
          rw [if_pos hnn]
          simp only [starL]
          cases fitsL p [] <;> rfl
        | cons d q =>
          have lb : b.data.toList.length = q.length + 1 := by rw [hb]; rfl
          have p3 : (1 : Int) ≤ (b.size : Int) := by rw [size_l]; omega
          have eb : (b.extract 1 b.size).data.toList = q := by rw [extract_l, hb]; rfl
          have i2 := ih a (b.extract 1 b.size) k (by rw [eb]; omega) hk'
          rw [eb, ha] at i2
          have hnn : ¬ b.toList = ([] : List UInt8) := fun h => by rw [(nil_iff b).1 h] at hb; cases hb
          rw [if_neg hnn, if_pos p3, i2]
          simp only [fitsL, starL]
          rw [if_pos hc]
          cases fitsL p (d :: q) <;> rfl
      · rw [if_neg (fun h => hc (h42.1 h))]
        simp only [fitsL]
        rw [if_neg hc]
        cases hb : b.data.toList with
        | nil => rw [if_pos ((nil_iff b).2 hb)]
        | cons d q =>
          have lb : b.data.toList.length = q.length + 1 := by rw [hb]; rfl
          have p3 : (1 : Int) ≤ (b.size : Int) := by rw [size_l]; omega
          have p4 : (0 : Int) < (b.size : Int) := by omega
          have eb : (b.extract 1 b.size).data.toList = q := by rw [extract_l, hb]; rfl
          rw [if_neg (fun h => by rw [(nil_iff b).1 h] at hb; cases hb), if_pos p4, bt_head b d q hb]
          by_cases hd : d = c
          · have i2 := ih (a.extract 1 a.size) (b.extract 1 b.size) k (by rw [ea, eb]; omega) hk'
            rw [ea, eb] at i2
            rw [if_pos ((toNat_eq d c).2 hd), if_pos p2, if_pos p3, i2, Option.bind_some]
            simp [hd]
          · rw [if_neg (fun h => hd ((toNat_eq d c).1 h))]
            simp [hd]
theorem fits_spec (N : Nat) (hN : N ≤ 1000000) : ∀ (p : List UInt8) (a b : ByteArray) (k : Nat), a.data.toList = p → b.data.toList.length ≤ N → (p.length + 1) * (N + 3) < k → spec_l16Fits.f k a b = some (fitsL p b.data.toList) := by
  intro p
  induction p with
  | nil =>
    intro a b k ha hb hk
    obtain ⟨k, rfl⟩ := succ_of hk
    simp only [spec_l16Fits.f]
    rw [if_pos ((nil_iff a).2 ha), tl_data b]
    cases b.data.toList <;> rfl
  | cons c p ih =>
    intro a b k ha hb hk
    have hk1 : (p.length + 1) * (N + 3) + (N + 3) < k := by
      have : ((c :: p).length + 1) * (N + 3) = (p.length + 1) * (N + 3) + (N + 3) := by rw [List.length_cons, Nat.succ_mul]
      omega
    obtain ⟨M, hM⟩ : ∃ M, (p.length + 1) * (N + 3) = M := ⟨_, rfl⟩
    rw [hM] at hk1 ih
    clear hk hM
    obtain ⟨k, rfl⟩ : ∃ m, k = m + 1 := ⟨k - 1, by omega⟩
    simp only [spec_l16Fits.f]
    have la : a.data.toList.length = p.length + 1 := by rw [ha]; rfl
    have p1 : (0 : Int) < (a.size : Int) := by rw [size_l]; omega
    have p2 : (1 : Int) ≤ (a.size : Int) := by omega
    have ea : (a.extract 1 a.size).data.toList = p := by rw [extract_l, ha]; rfl
    rw [if_neg (fun h => by rw [(nil_iff a).1 h] at ha; cases ha), if_pos p1, bt_head a c p ha]
    have h42 : ((c.toNat : Int) = 42) ↔ c = 42 := toNat_eq c 42
    by_cases hc : c = 42
    · rw [if_pos (h42.2 hc)]
      simp only [fitsL]
      rw [if_pos hc]
      have hl : ∀ (d k j : Nat), j + d = b.data.toList.length → M + d + 1 < k → spec_l16Fits.l0 k a b (j : Int) = some (starL (fitsL p) (b.data.toList.drop j)) := by
        intro d
        induction d with
        | zero =>
          intro k j hj hk
          obtain ⟨k, rfl⟩ : ∃ m, k = m + 1 := ⟨k - 1, by omega⟩
          obtain ⟨k, rfl⟩ : ∃ m, k = m + 1 := ⟨k - 1, by omega⟩
          have q1 : (j : Int) ≤ (b.size : Int) := by rw [size_l]; omega
          have q2 : (0 : Int) ≤ (j : Int) := by omega
          have q3 : ¬ ((j + 1 : Nat) : Int) ≤ (b.size : Int) := by rw [size_l]; omega
          have eb : (b.extract (j : Int).toNat b.size).data.toList = [] := by rw [Int.toNat_natCast, extract_l, List.drop_eq_nil_of_le (by omega)]
          have i1 := ih (a.extract 1 a.size) (b.extract (j : Int).toNat b.size) (k + 1) ea (by rw [eb]; simp) (by omega)
          rw [eb] at i1
          rw [show spec_l16Fits.l0 (k + 1 + 1) a b (j : Int) = (if (j : Int) ≤ (b.size : Int) then (if 1 ≤ (a.size : Int) then (if 0 ≤ (j : Int) then ((spec_l16Fits.f (k + 1) (a.extract 1 a.size) (b.extract (j : Int).toNat b.size)).bind fun t106 => (if t106 = true then (some true) else (spec_l16Fits.l0 (k + 1) a b (wrap64 ((j : Int) + 1))))) else (none)) else (none)) else (some false)) from by simp only [spec_l16Fits.l0]]
          rw [if_pos q1, if_pos p2, if_pos q2, i1, Option.bind_some, List.drop_eq_nil_of_le (by omega)]
          simp only [starL]
          cases fitsL p [] with
          | true => rfl
          | false =>
            rw [if_neg (by decide), w64n (n := j + 1) (by omega) (by omega)]
            simp only [spec_l16Fits.l0]
            rw [if_neg q3]
        | succ d ihd =>
          intro k j hj hk
          obtain ⟨k, rfl⟩ : ∃ m, k = m + 1 := ⟨k - 1, by omega⟩
          have hlt : j < b.data.toList.length := by omega
          have q1 : (j : Int) ≤ (b.size : Int) := by rw [size_l]; omega
          have q2 : (0 : Int) ≤ (j : Int) := by omega
          have eb : (b.extract (j : Int).toNat b.size).data.toList = b.data.toList.drop j := by rw [Int.toNat_natCast, extract_l]
          have i1 := ih (a.extract 1 a.size) (b.extract (j : Int).toNat b.size) k ea (by rw [eb, List.length_drop]; omega) (by omega)
          rw [eb] at i1
          simp only [spec_l16Fits.l0]
          rw [if_pos q1, if_pos p2, if_pos q2, i1, Option.bind_some, w64n (n := j + 1) (by omega) (by omega), ihd k (j + 1) (by omega) (by omega), List.drop_eq_getElem_cons hlt]
          simp only [starL]
          cases fitsL p (b.data.toList[j] :: b.data.toList.drop (j + 1)) <;> rfl
      have := hl b.data.toList.length k 0 (by omega) (by omega)
      rw [List.drop_zero] at this
      exact this
    · rw [if_neg (fun h => hc (h42.1 h))]
      simp only [fitsL]
      rw [if_neg hc]
      cases hb' : b.data.toList with
      | nil => rw [if_pos ((nil_iff b).2 hb')]
      | cons d q =>
        have lb : b.data.toList.length = q.length + 1 := by rw [hb']; rfl
        have p3 : (1 : Int) ≤ (b.size : Int) := by rw [size_l]; omega
        have p4 : (0 : Int) < (b.size : Int) := by omega
        have eb : (b.extract 1 b.size).data.toList = q := by rw [extract_l, hb']; rfl
        rw [if_neg (fun h => by rw [(nil_iff b).1 h] at hb'; cases hb'), if_pos p4, bt_head b d q hb']
        by_cases hd : c = d
        · have i2 := ih (a.extract 1 a.size) (b.extract 1 b.size) k ea (by rw [eb]; omega) (by omega)
          rw [eb] at i2
          rw [if_pos ((toNat_eq c d).2 hd), if_pos p2, if_pos p3, i2, Option.bind_some]
          simp [hd]
        · rw [if_neg (fun h => hd ((toNat_eq c d).1 h))]
          simp [Ne.symm hd]
theorem patSet (b : UInt8) : ([97, 98, 99, 100, 101, 102, 103, 104, 105, 106, 107, 108, 109, 110, 111, 112, 113, 114, 115, 116, 117, 118, 119, 120, 121, 122, 48, 49, 50, 51, 52, 53, 54, 55, 56, 57, 45, 42] : List UInt8).contains b = okN true b.toNat :=
  eq_of_beq (byte_cases (p := fun b => ([97, 98, 99, 100, 101, 102, 103, 104, 105, 106, 107, 108, 109, 110, 111, 112, 113, 114, 115, 116, 117, 118, 119, 120, 121, 122, 48, 49, 50, 51, 52, 53, 54, 55, 56, 57, 45, 42] : List UInt8).contains b == okN true b.toNat) (by decide +kernel) b)
theorem pat_impl (s : ByteArray) (hs : s.data.toList.length ≤ 1048576) : impl_isPattern.f s = some (s.data.toList.all (fun b => okN true b.toNat) && decide (1 ≤ s.data.toList.length ∧ s.data.toList.length ≤ 12)) := by
  unfold impl_isPattern.f
  rw [in_some', Option.bind_some, size_l]
  by_cases h : 1 ≤ s.data.toList.length ∧ s.data.toList.length ≤ 12
  · have p : (1 : Int) ≤ (s.data.toList.length : Int) ∧ (s.data.toList.length : Int) ≤ 12 := by omega
    rw [if_pos (decide_eq_true p), decide_eq_true h, Bool.and_true]
    obtain ⟨t, h1, h2⟩ := trim_board s _ true patSet (by decide) (by decide) hs
    rw [h1, Option.bind_some, h2]
  · have p : ¬ ((1 : Int) ≤ (s.data.toList.length : Int) ∧ (s.data.toList.length : Int) ≤ 12) := by omega
    rw [decide_eq_false p, if_neg (by decide), decide_eq_false h, Bool.and_false]
theorem holds : laws_FnExactFits.PureR := by
  intro a b ha hb
  obtain ⟨K, hK⟩ : ∃ K : Nat, 4000000 ≤ K := ⟨_, Nat.le_refl _⟩
  refine ⟨K, ?_⟩
  unfold laws_FnExactFits.f
  by_cases h1 : (a.size : Int) > 1048576
  · rw [if_pos h1]
  · rw [if_neg h1]
    by_cases h2 : (b.size : Int) > 1048576
    · rw [if_pos h2]
    · rw [if_neg h2]
      have la : a.data.toList.length ≤ 1048576 := by rw [size_l] at h1; omega
      have lb : b.data.toList.length ≤ 1048576 := by rw [size_l] at h2; omega
      unfold spec_Fits.f impl_Fits.f spec_BoardOk.f
      rw [board_spec a true la K (by omega), board_spec b false lb K (by omega), pat_impl a la, board_impl b lb]
      simp only [Option.bind_some]
      by_cases c1 : (a.data.toList.all (fun b => okN true b.toNat) && decide (1 ≤ a.data.toList.length ∧ a.data.toList.length ≤ 12)) = true
      · rw [if_pos c1, if_pos c1]
        by_cases c2 : (b.data.toList.all (fun b => okN false b.toNat) && decide (1 ≤ b.data.toList.length ∧ b.data.toList.length ≤ 12)) = true
        · rw [if_pos c2, if_pos c2]
          have q1 : a.data.toList.length ≤ 12 := (of_decide_eq_true (Bool.and_eq_true_iff.1 c1).2).2
          have q2 : b.data.toList.length ≤ 12 := (of_decide_eq_true (Bool.and_eq_true_iff.1 c2).2).2
          have e1 := fits_spec 12 (by omega) a.data.toList a b K rfl q2 (by
            have : (a.data.toList.length + 1) * (12 + 3) ≤ 13 * 15 := Nat.mul_le_mul (by omega) (by omega)
            omega)
          have e2 := fits_impl 24 a b K (by omega) (by omega)
          rw [e1, e2]
          simp
        · rw [if_neg c2, if_neg c2]
          simp
      · rw [if_neg c1, if_neg c1]
        simp
end Go.Proofs.YtekjcdcmiingmaaDoor.Pure.FnExactFits
namespace Go.Proofs.YtekjcdcmiingmaaDoor.Pure
theorem FnExactFits : Go.Proofs.YtekjcdcmiingmaaDoor.PFnExactFits.laws_FnExactFits.PureR := FnExactFits.holds
end Go.Proofs.YtekjcdcmiingmaaDoor.Pure
