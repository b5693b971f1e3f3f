/- The pure statement of the law FnBoards, proved: numbers and lists alone, no memory. It holds for all arguments that can be read. -/
import Derived.Test.YtekjcdcmiingmaaDoorDFnBoards
import Derived.Test.YtekjcdcmiingmaaDoorPlain
set_option linter.unusedVariables false
set_option linter.unusedSimpArgs false
namespace Go.Proofs.YtekjcdcmiingmaaDoor.Pure.FnBoards
open Go.RowKit Go.Proofs.YtekjcdcmiingmaaDoor.PFnBoards Go.Proofs.YtekjcdcmiingmaaDoorW.PrintWords Go.Proofs.YtekjcdcmiingmaaDoorW.PrintLast Go.Proofs.YtekjcdcmiingmaaDoor.Plain

theorem tl_data (s : ByteArray) : s.toList = s.data.toList := Lib.toList_data s
theorem size_l (s : ByteArray) : s.size = s.data.toList.length := (data_length s).symm
theorem bt_get (s : ByteArray) (i : Nat) (h : i < s.data.toList.length) : bt s (i : Int) = ((s.data.toList[i].toNat : Nat) : Int) := by
  have hs : i < s.size := by rw [size_l]; exact h
  have := bt_at s (i : Int) (by simpa using hs)
  rw [← this]
  rfl
/-- Which bytes stand in a board (or in a pattern). -/
def okN (star : Bool) (n : Nat) : Bool := (decide (97 ≤ n) && decide (n ≤ 122)) || (decide (48 ≤ n) && decide (n ≤ 57)) || n == 45 || (star && n == 42)
theorem byte_cases {p : UInt8 → Bool} (h : (List.range 256).all (fun n => p (UInt8.ofNat n)) = true) (b : UInt8) : p b = true := by
  have h1 := List.all_eq_true.1 h b.toNat (List.mem_range.2 b.toNat_lt)
  simpa using h1
theorem in_some (a b c : Int) : spec_l1In.f a b c = some (decide (b ≤ a ∧ a ≤ c)) := by
  unfold spec_l1In.f
  by_cases h : b ≤ a <;> simp [h]
theorem in_some' (a b c : Int) : impl_in.f a b c = some (decide (b ≤ a ∧ a ≤ c)) := in_some a b c
theorem board_l0 (s : ByteArray) (star : Bool) (hs : s.data.toList.length ≤ 1048576) : ∀ (d k i : Nat), i + d = s.data.toList.length → d < k → spec_l16Board.l0 k s star (i : Int) = some ((s.data.toList.drop i).all (fun b => okN star b.toNat) && decide (1 ≤ s.data.toList.length ∧ s.data.toList.length ≤ 12)) := by
  intro d
  induction d with
  | zero =>
    intro k i hi hk
    obtain ⟨k, rfl⟩ := succ_of hk
    simp only [spec_l16Board.l0]
    rw [if_neg (by rw [size_l]; omega), in_some, Option.bind_some, List.drop_eq_nil_of_le (by omega), size_l]
    show some _ = some (true && _)
    rw [Bool.true_and]
    exact congrArg some (decide_eq_decide.2 (by omega))
  | succ d ih =>
    intro k i hi hk
    obtain ⟨k, rfl⟩ := succ_of hk
    have hlt : i < s.data.toList.length := by omega
    have p1 : (i : Int) < (s.size : Int) := by rw [size_l]; omega
    have p2 : (0 : Int) ≤ (i : Int) := by omega
    obtain ⟨b, hb⟩ : ∃ b, s.data.toList[i] = b := ⟨_, rfl⟩
    have hbl := b.toNat_lt
    have e1 : wrap64 (bt s (i : Int)) = (b.toNat : Int) := by rw [bt_get s i hlt, hb, w64 (by omega) (by omega)]
    have hih := ih k (i + 1) (by omega) (by omega)
    simp only [spec_l16Board.l0]
    rw [if_pos p1, if_pos p2, e1, w64n hlt (by omega), List.drop_eq_getElem_cons hlt, hb, List.all_cons, hih, in_some, in_some, Option.bind_some, Option.bind_some]
    clear e1 hih p1 p2 ih
    obtain ⟨R, hR⟩ : ∃ R, ((s.data.toList.drop (i + 1)).all (fun b => okN star b.toNat) && decide (1 ≤ s.data.toList.length ∧ s.data.toList.length ≤ 12)) = R := ⟨_, rfl⟩
    rw [Bool.and_assoc, hR]
    obtain ⟨n, hn⟩ : ∃ n : Nat, b.toNat = n := ⟨_, rfl⟩
    rw [hn] at hbl ⊢
    clear hR hb hn
    unfold okN
    by_cases h1 : (97 : Int) ≤ (n : Int) ∧ (n : Int) ≤ 122
    · rw [if_pos (decide_eq_true h1)]
      have a1 : decide (97 ≤ n) = true := decide_eq_true (by omega)
      have a2 : decide (n ≤ 122) = true := decide_eq_true (by omega)
      simp [a1, a2]
    · rw [if_neg (by simpa using h1)]
      have a0 : (decide (97 ≤ n) && decide (n ≤ 122)) = false := by simp; omega
      by_cases h2 : (48 : Int) ≤ (n : Int) ∧ (n : Int) ≤ 57
      · rw [if_pos (decide_eq_true h2)]
        have a1 : decide (48 ≤ n) = true := decide_eq_true (by omega)
        have a2 : decide (n ≤ 57) = true := decide_eq_true (by omega)
        simp [a1, a2]
      · rw [if_neg (by simpa using h2)]
        have b0 : (decide (48 ≤ n) && decide (n ≤ 57)) = false := by simp; omega
        rw [a0, b0]
        by_cases h3 : (n : Int) = 45
        · have : n = 45 := by omega
          subst this
          rw [if_pos h3]
          simp
        · have c0 : (n == 45) = false := by simp; omega
          rw [if_neg h3, c0]
          cases star with
          | false => simp
          | true =>
            rw [if_pos rfl]
            by_cases h4 : (n : Int) = 42
            · have : n = 42 := by omega
              subst this
              rw [if_pos h4]
              simp
            · have d0 : (n == 42) = false := by simp; omega
              rw [if_neg h4, d0]
              simp
theorem board_spec (s : ByteArray) (star : Bool) (hs : s.data.toList.length ≤ 1048576) (k : Nat) (hk : s.data.toList.length < k) : spec_l16Board.f k s star = some (s.data.toList.all (fun b => okN star b.toNat) && decide (1 ≤ s.data.toList.length ∧ s.data.toList.length ≤ 12)) := by
  have := board_l0 s star hs s.data.toList.length k 0 (by omega) hk
  rw [List.drop_zero] at this
  exact this
theorem dropWhile_all {p : UInt8 → Bool} : ∀ (l : List UInt8), (∀ b ∈ l.dropWhile p, p b = true) → ∀ b ∈ l, p b = true
  | [], _ => fun _ h => by cases h
  | a :: l, h => by
    by_cases ha : p a = true
    · rw [List.dropWhile_cons_of_pos ha] at h
      intro b hb
      rcases List.mem_cons.1 hb with rfl | hb
      · exact ha
      · exact dropWhile_all l h b hb
    · rw [List.dropWhile_cons_of_neg ha] at h
      exact absurd (h a (by simp)) ha
theorem all_dropWhile {p : UInt8 → Bool} : ∀ (l : List UInt8), (∀ b ∈ l, p b = true) → l.dropWhile p = []
  | [], _ => rfl
  | a :: l, h => by
    rw [List.dropWhile_cons_of_pos (h a (by simp))]
    exact all_dropWhile l (fun b hb => h b (by simp [hb]))
theorem trimS_nil (l cs : List UInt8) : (Lib.trimS l cs == ([] : List UInt8)) = l.all (cs.contains ·) := by
  rw [Bool.eq_iff_iff, beq_iff_eq, List.all_eq_true]
  unfold Lib.trimS Lib.trimLeftS Lib.trimRightS
  constructor
  · intro h
    have h1 : ∀ b ∈ (l.reverse.dropWhile (cs.contains ·)).reverse, cs.contains b = true := by
      intro b hb
      by_cases hc : cs.contains b = true
      · exact hc
      · have h2 : ∀ (m : List UInt8), b ∈ m → m.dropWhile (cs.contains ·) ≠ [] := by
          intro m
          induction m with
          | nil => intro h; cases h
          | cons a m ih =>
            intro hm
            by_cases ha : cs.contains a = true
            · rw [List.dropWhile_cons_of_pos ha]
              rcases List.mem_cons.1 hm with rfl | hm
              · exact absurd ha hc
              · exact ih hm
            · rw [List.dropWhile_cons_of_neg ha]
              simp
        exact absurd h (h2 _ hb)
    have h3 := dropWhile_all l.reverse (fun b hb => h1 b (List.mem_reverse.2 hb))
    exact fun b hb => h3 b (List.mem_reverse.2 hb)
  · intro h
    rw [all_dropWhile l.reverse (fun b hb => h b (List.mem_reverse.1 hb))]
    rfl
theorem all_same {p q : UInt8 → Bool} (h : ∀ b, p b = q b) (l : List UInt8) : l.all p = l.all q := by
  have : p = q := funext h
  rw [this]
theorem boardSet (b : UInt8) : ([97, 98, 99, 100, 101, 102, 103, 104, 105, 106, 107, 108, 109, 110, 111, 112, 113, 114, 115, 116, 117, 118, 119, 120, 121, 122, 48, 49, 50, 51, 52, 53, 54, 55, 56, 57, 45] : List UInt8).contains b = okN false b.toNat :=
  eq_of_beq (byte_cases (p := fun b => ([97, 98, 99, 100, 101, 102, 103, 104, 105, 106, 107, 108, 109, 110, 111, 112, 113, 114, 115, 116, 117, 118, 119, 120, 121, 122, 48, 49, 50, 51, 52, 53, 54, 55, 56, 57, 45] : List UInt8).contains b == okN false b.toNat) (by decide +kernel) b)
theorem trim_board (s : ByteArray) (cs : List UInt8) (star : Bool) (hc : ∀ b : UInt8, cs.contains b = okN star b.toNat) (h1 : cs.length < 4294967281) (h2 : cs.all (fun b => decide (b.toNat < 128)) = true) (hs : s.data.toList.length ≤ 1048576) :
    ∃ t, strings_Trim.f s ⟨cs.toArray⟩ = some t ∧ (t.toList == ([] : List UInt8)) = s.data.toList.all (fun b => okN star b.toNat) := by
  unfold strings_Trim.f
  have e : (⟨cs.toArray⟩ : ByteArray).data.toList = cs := rfl
  rw [if_pos (by rw [size_l]; omega), if_pos (by rw [size_l, e]; exact h1), e, if_pos h2]
  refine ⟨_, rfl, ?_⟩
  rw [tl_data]
  show (Lib.trimS s.data.toList cs == []) = _
  rw [trimS_nil]
  exact all_same hc _
theorem board_impl (s : ByteArray) (hs : s.data.toList.length ≤ 1048576) : impl_isBoard.f s = some (s.data.toList.all (fun b => okN false b.toNat) && decide (1 ≤ s.data.toList.length ∧ s.data.toList.length ≤ 12)) := by
  unfold impl_isBoard.f
  rw [in_some', Option.bind_some, size_l]
  by_cases h : 1 ≤ s.data.toList.length ∧ s.data.toList.length ≤ 12
  · have p : (1 : Int) ≤ (s.data.toList.length : Int) ∧ (s.data.toList.length : Int) ≤ 12 := by omega
    rw [if_pos (decide_eq_true p), decide_eq_true h, Bool.and_true]
    obtain ⟨t, h1, h2⟩ := trim_board s _ false boardSet (by decide) (by decide) hs
    rw [h1, Option.bind_some, h2]
  · have p : ¬ ((1 : Int) ≤ (s.data.toList.length : Int) ∧ (s.data.toList.length : Int) ≤ 12) := by omega
    rw [decide_eq_false p, if_neg (by decide), decide_eq_false h, Bool.and_false]
def starL (f : List UInt8 → Bool) : List UInt8 → Bool
  | [] => f []
  | d :: b => f (d :: b) || starL f b
/-- Whether a board fits a pattern. -/
def fitsL : List UInt8 → List UInt8 → Bool
  | [], b => b.isEmpty
  | c :: p, b => if c = 42 then starL (fitsL p) b else match b with
    | [] => false
    | d :: b => d == c && fitsL p b
theorem extract_l (s : ByteArray) (i : Nat) : (s.extract i s.size).data.toList = s.data.toList.drop i := by
  have hsz : s.size = s.data.size := rfl
  rw [ByteArray.data_extract, Array.toList_extract, hsz]
  simp [List.extract_eq_take_drop]
  rw [List.take_of_length_le (by simp)]
theorem nil_iff (s : ByteArray) : s.toList = ([] : List UInt8) ↔ s.data.toList = [] := by rw [tl_data]
theorem bt_head (s : ByteArray) (c : UInt8) (p : List UInt8) (h : s.data.toList = c :: p) : bt s 0 = (c.toNat : Int) := by
  have := bt_get s 0 (by rw [h]; simp)
  simp only [h, List.getElem_cons_zero] at this
  exact this
theorem toNat_eq (c d : UInt8) : ((c.toNat : Int) = (d.toNat : Int)) ↔ c = d := by
  constructor
  · intro h
    exact UInt8.toNat_inj.1 (by omega)
  · intro h; rw [h]
theorem fits_impl : ∀ (n : Nat) (a b : ByteArray) (k : Nat), a.data.toList.length + b.data.toList.length ≤ n → n < k → impl_fits.f k a b = some (fitsL a.data.toList b.data.toList) := by
  intro n
  induction n with
  | zero =>
    intro a b k hn hk
    obtain ⟨k, rfl⟩ := succ_of hk
    have h1 : a.data.toList = [] := List.eq_nil_of_length_eq_zero (by omega)
    have h2 : b.data.toList = [] := List.eq_nil_of_length_eq_zero (by omega)
    simp only [impl_fits.f]
    rw [if_pos ((nil_iff a).2 h1), tl_data b, h1, h2]
    rfl
  | succ n ih =>
    intro a b k hn hk
    obtain ⟨k, rfl⟩ : ∃ m, k = m + 1 := ⟨k - 1, by omega⟩
    have hk' : n < k := by omega
    simp only [impl_fits.f]
    cases ha : a.data.toList with
    | nil =>
      rw [if_pos ((nil_iff a).2 ha), tl_data b]
      cases b.data.toList <;> rfl
    | cons c p =>
      have la : a.data.toList.length = p.length + 1 := by rw [ha]; rfl
      have p1 : (0 : Int) < (a.size : Int) := by rw [size_l]; omega
      have p2 : (1 : Int) ≤ (a.size : Int) := by omega
      have ea : (a.extract 1 a.size).data.toList = p := by rw [extract_l, ha]; rfl
      rw [if_neg (fun h => by rw [(nil_iff a).1 h] at ha; cases ha), if_pos p1, bt_head a c p ha]
      have h42 : ((c.toNat : Int) = 42) ↔ c = 42 := toNat_eq c 42
      by_cases hc : c = 42
      · have i1 := ih (a.extract 1 a.size) b k (by rw [ea]; omega) hk'
        rw [ea] at i1
        rw [if_pos (h42.2 hc), if_pos p2, i1, Option.bind_some]
        simp only [fitsL]
        rw [if_pos hc]
        cases hb : b.data.toList with
        | nil =>
          have hnn : b.toList = ([] : List UInt8) := (nil_iff b).2 hb
          rw [if_pos hnn]
          simp only [starL]
          cases fitsL p [] <;> rfl
        | cons d q =>
          have lb : b.data.toList.length = q.length + 1 := by rw [hb]; rfl
          have p3 : (1 : Int) ≤ (b.size : Int) := by rw [size_l]; omega
          have eb : (b.extract 1 b.size).data.toList = q := by rw [extract_l, hb]; rfl
          have i2 := ih a (b.extract 1 b.size) k (by rw [eb]; omega) hk'
          rw [eb, ha] at i2
          have hnn : ¬ b.toList = ([] : List UInt8) := fun h => by rw [(nil_iff b).1 h] at hb; cases hb
          rw [if_neg hnn, if_pos p3, i2]
          simp only [fitsL, starL]
          rw [if_pos hc]
          cases fitsL p (d :: q) <;> rfl
      · rw [if_neg (fun h => hc (h42.1 h))]
        simp only [fitsL]
        rw [if_neg hc]
        cases hb : b.data.toList with
        | nil => rw [if_pos ((nil_iff b).2 hb)]
        | cons d q =>
          have lb : b.data.toList.length = q.length + 1 := by rw [hb]; rfl
          have p3 : (1 : Int) ≤ (b.size : Int) := by rw [size_l]; omega
          have p4 : (0 : Int) < (b.size : Int) := by omega
          have eb : (b.extract 1 b.size).data.toList = q := by rw [extract_l, hb]; rfl
          rw [if_neg (fun h => by rw [(nil_iff b).1 h] at hb; cases hb), if_pos p4, bt_head b d q hb]
          by_cases hd : d = c
          · have i2 := ih (a.extract 1 a.size) (b.extract 1 b.size) k (by rw [ea, eb]; omega) hk'
            rw [ea, eb] at i2
            rw [if_pos ((toNat_eq d c).2 hd), if_pos p2, if_pos p3, i2, Option.bind_some]
            simp [hd]
          · rw [if_neg (fun h => hd ((toNat_eq d c).1 h))]
            simp [hd]
theorem patSet (b : UInt8) : ([97, 98, 99, 100, 101, 102, 103, 104, 105, 106, 107, 108, 109, 110, 111, 112, 113, 114, 115, 116, 117, 118, 119, 120, 121, 122, 48, 49, 50, 51, 52, 53, 54, 55, 56, 57, 45, 42] : List UInt8).contains b = okN true b.toNat :=
  eq_of_beq (byte_cases (p := fun b => ([97, 98, 99, 100, 101, 102, 103, 104, 105, 106, 107, 108, 109, 110, 111, 112, 113, 114, 115, 116, 117, 118, 119, 120, 121, 122, 48, 49, 50, 51, 52, 53, 54, 55, 56, 57, 45, 42] : List UInt8).contains b == okN true b.toNat) (by decide +kernel) b)
theorem pat_impl (s : ByteArray) (hs : s.data.toList.length ≤ 1048576) : impl_isPattern.f s = some (s.data.toList.all (fun b => okN true b.toNat) && decide (1 ≤ s.data.toList.length ∧ s.data.toList.length ≤ 12)) := by
  unfold impl_isPattern.f
  rw [in_some', Option.bind_some, size_l]
  by_cases h : 1 ≤ s.data.toList.length ∧ s.data.toList.length ≤ 12
  · have p : (1 : Int) ≤ (s.data.toList.length : Int) ∧ (s.data.toList.length : Int) ≤ 12 := by omega
    rw [if_pos (decide_eq_true p), decide_eq_true h, Bool.and_true]
    obtain ⟨t, h1, h2⟩ := trim_board s _ true patSet (by decide) (by decide) hs
    rw [h1, Option.bind_some, h2]
  · have p : ¬ ((1 : Int) ≤ (s.data.toList.length : Int) ∧ (s.data.toList.length : Int) ≤ 12) := by omega
    rw [decide_eq_false p, if_neg (by decide), decide_eq_false h, Bool.and_false]
theorem fitsL_star (p b : List UInt8) : fitsL (42 :: p) b = starL (fitsL p) b := by
  simp only [fitsL]
  first | rw [if_pos rfl] | rw [if_pos trivial]
theorem and255 (y : Int) : 0 ≤ Go.bits .and .i64 y 255 ∧ Go.bits .and .i64 y 255 ≤ 255 := by
  have e2 : Go.bits .and .i64 y 255 = IntKind.i64.wrap (((BitVec.ofInt 64 y &&& BitVec.ofInt 64 255).toNat : Nat) : Int) := rfl
  have e3 : (BitVec.ofInt 64 y &&& BitVec.ofInt 64 255).toNat ≤ 255 := by
    rw [BitVec.toNat_and]
    exact Nat.and_le_right
  rw [e2, IntKind.wrap_i64]
  omega
theorem l1Byte_some (b : List Int) (i h : Int) (hi : 0 ≤ i) (hl : b.length ≤ 9223372036854775807) : ∃ x i' h', spec_l1Byte.f b i h = some (x, i', h') ∧ (0 ≤ x ∧ x ≤ 255) ∧ 0 ≤ i' := by
  unfold spec_l1Byte.f
  split
  · (try rw [if_pos hi])
    exact ⟨_, _, _, rfl, and255 _, by rw [w64 (by omega) (by omega)]; omega⟩
  · exact ⟨_, _, _, rfl, and255 _, hi⟩
theorem l1Below_some (b : List Int) (i h a : Int) (hi : 0 ≤ i) (hl : b.length ≤ 9223372036854775807) (ha : 0 < a) : ∃ x i' h', spec_l1Below.f b i h a = some (x, i', h') ∧ (0 ≤ x ∧ x < a) ∧ 0 ≤ i' := by
  unfold spec_l1Below.f
  rw [if_neg (by omega)]
  obtain ⟨x1, i1, h1, e1, r1, j1⟩ := l1Byte_some b i h hi hl
  rw [e1]
  split
  · rw [Option.bind_some, if_neg (by omega)]
    exact ⟨_, _, _, rfl, by rw [Int.tmod_eq_emod_of_nonneg r1.1]; exact ⟨Int.emod_nonneg _ (by omega), Int.emod_lt_of_pos _ ha⟩, j1⟩
  · obtain ⟨x2, i2, h2, e2, r2, j2⟩ := l1Byte_some b i1 h1 j1 hl
    obtain ⟨x3, i3, h3, e3, r3, j3⟩ := l1Byte_some b i2 h2 j2 hl
    rw [Option.bind_some, e2, Option.bind_some, e3, Option.bind_some, if_neg (by omega)]
    have w1 : wrap64 (x1 * 65536) = x1 * 65536 := w64 (by omega) (by omega)
    have w2 : wrap64 (x2 * 256) = x2 * 256 := w64 (by omega) (by omega)
    have w3 : wrap64 (x1 * 65536 + x2 * 256) = x1 * 65536 + x2 * 256 := w64 (by omega) (by omega)
    have w4 : wrap64 (x1 * 65536 + x2 * 256 + x3) = x1 * 65536 + x2 * 256 + x3 := w64 (by omega) (by omega)
    rw [w1, w2, w3, w4]
    exact ⟨_, _, _, rfl, by rw [Int.tmod_eq_emod_of_nonneg (by omega)]; exact ⟨Int.emod_nonneg _ (by omega), Int.emod_lt_of_pos _ ha⟩, j3⟩
theorem l1New_l0 (b : List Int) (hl : b.length ≤ 1048576) : ∀ (d k j : Nat) (h : Int), j + d = 4000 → d < k → ∃ h', spec_l1New.l0 k b h (j : Int) = some (b, 0, h') := by
  intro d
  induction d with
  | zero =>
    intro k j h hj hk
    obtain ⟨k, rfl⟩ := succ_of hk
    simp only [spec_l1New.l0]
    by_cases hlt : (j : Int) < (b.length : Int)
    · rw [if_pos hlt, if_neg (by omega)]
      exact ⟨_, rfl⟩
    · rw [if_neg hlt]
      exact ⟨_, rfl⟩
  | succ d ih =>
    intro k j h hj hk
    obtain ⟨k, rfl⟩ := succ_of hk
    simp only [spec_l1New.l0]
    by_cases hlt : (j : Int) < (b.length : Int)
    · have p1 : (j : Int) < 4000 := by omega
      have p2 : (0 : Int) ≤ (j : Int) := by omega
      rw [if_pos hlt, if_pos p1, if_pos p2, w64n (n := 4000) (by omega) (by omega)]
      exact ih k (j + 1) _ (by omega) (by omega)
    · rw [if_neg hlt]
      exact ⟨_, rfl⟩
theorem l1New_some (b : List Int) (hl : b.length ≤ 1048576) (k : Nat) (hk : 4000 < k) : ∃ h, spec_l1New.f k b = some (b, 0, h) := l1New_l0 b hl 4000 k 0 _ (by omega) hk
theorem l1Once_some (b : List Int) (i h n : Int) (hi : 0 ≤ i) (hl : b.length ≤ 9223372036854775807) (hn : 0 < n) : ∃ x i' h', spec_l1Once.f b i h n = some (x, i', h') ∧ 0 ≤ i' := by
  obtain ⟨x, i1, h1, e, r, j⟩ := l1Below_some b i h n hi hl hn
  unfold spec_l1Once.f
  rw [e, Option.bind_some]
  exact ⟨_, _, _, rfl, j⟩
theorem l1Str_some (b : List Int) (i h : Int) (l : List ByteArray) (hi : 0 ≤ i) (hl : b.length ≤ 9223372036854775807) (h0 : l ≠ []) : ∃ x i' h', spec_l1Str.f b i h l = some (x, i', h') ∧ x ∈ l ∧ 0 ≤ i' := by
  have hp : 0 < l.length := List.length_pos_iff.mpr h0
  obtain ⟨x, i1, h1, e, r, j⟩ := l1Below_some b i h (l.length : Int) hi hl (by omega)
  unfold spec_l1Str.f
  rw [e, Option.bind_some, if_pos r.1, if_pos r.2]
  obtain ⟨n, rfl⟩ : ∃ n : Nat, x = n := ⟨x.toNat, by omega⟩
  have hn : n < l.length := by omega
  refine ⟨_, _, _, rfl, ?_, j⟩
  simp only [rdOf, Int.toNat_natCast, List.getD_eq_getElem?_getD, List.getElem?_eq_getElem hn, Option.getD_some]
  exact List.getElem_mem _
theorem at_some (b : List Int) (hb : Byt b) (hl : b.length ≤ 1048576) (i : Nat) (hi : i < 10) : ∃ r : Int, laws_at.f b (i : Int) = some r ∧ 0 ≤ r ∧ r ≤ 255 := by
  unfold laws_at.f
  by_cases h : (i : Int) < (b.length : Int)
  · have := hb.get i (by omega)
    rw [if_pos h, if_pos (by omega), rd_lt b i (by omega)]
    exact ⟨_, rfl, by rw [w64 (by omega) (by omega)]; omega⟩
  · rw [if_neg h]
    refine ⟨_, rfl, ?_⟩
    rw [w64 (x := (i : Int) * 31) (by omega) (by omega), w64 (x := (b.length : Int) * 7) (by omega) (by omega), w64 (by omega) (by omega), Int.tmod_eq_emod_of_nonneg (by omega)]
    omega
theorem drawBoard_some (b : List Int) (i h : Int) (star : Bool) (hi : 0 ≤ i) (hl : b.length ≤ 9223372036854775807) (k : Nat) (hk : 0 < k) : ∃ x i' h', spec_l16DrawBoard.f k b i h star = some (x, i', h') ∧ x.size ≤ 13 ∧ 0 ≤ i' := by
  have hj : ∀ (x : ByteArray) (i h : Int), 0 ≤ i → x.size ≤ 13 → ∃ x' i' h', spec_l16DrawBoard.j0 k x b i h = some (x', i', h') ∧ x'.size ≤ 13 ∧ 0 ≤ i' := by
    intro x i h hi hx
    obtain ⟨m, rfl⟩ := succ_of hk
    obtain ⟨y, i1, h1, e1, j1⟩ := l1Once_some b i h 16 hi hl (by omega)
    simp only [spec_l16DrawBoard.j0]
    rw [e1, Option.bind_some]
    cases y with
    | true =>
      obtain ⟨z, i2, h2, e2, m2, j2⟩ := l1Str_some b i1 h1 [(⟨#[]⟩ : ByteArray), (⟨#[65, 66]⟩ : ByteArray), (⟨#[97, 32, 98]⟩ : ByteArray), (⟨#[97, 98, 99, 100, 101, 102, 103, 104, 105, 106, 107, 108]⟩ : ByteArray), (⟨#[97, 98, 99, 100, 101, 102, 103, 104, 105, 106, 107, 108, 109]⟩ : ByteArray), (⟨#[97, 42]⟩ : ByteArray)] j1 hl (by simp)
      rw [if_pos rfl, e2, Option.bind_some]
      refine ⟨_, _, _, rfl, ?_, j2⟩
      have : ∀ x ∈ [(⟨#[]⟩ : ByteArray), (⟨#[65, 66]⟩ : ByteArray), (⟨#[97, 32, 98]⟩ : ByteArray), (⟨#[97, 98, 99, 100, 101, 102, 103, 104, 105, 106, 107, 108]⟩ : ByteArray), (⟨#[97, 98, 99, 100, 101, 102, 103, 104, 105, 106, 107, 108, 109]⟩ : ByteArray), (⟨#[97, 42]⟩ : ByteArray)], x.size ≤ 13 := by decide
      exact this z m2
    | false =>
      rw [if_neg (fun h => by cases h)]
      exact ⟨_, _, _, rfl, hx, j1⟩
  obtain ⟨y, i1, h1, e1, m1, j1⟩ := l1Str_some b i h [(⟨#[97, 98, 45, 49]⟩ : ByteArray), (⟨#[97, 98, 45, 50]⟩ : ByteArray), (⟨#[97, 99]⟩ : ByteArray), (⟨#[122, 122, 45, 57, 48, 48]⟩ : ByteArray), (⟨#[97, 98, 97, 98, 45, 49]⟩ : ByteArray)] hi hl (by simp)
  unfold spec_l16DrawBoard.f
  rw [e1, Option.bind_some]
  cases star with
  | true =>
    obtain ⟨z, i2, h2, e2, m2, j2⟩ := l1Str_some b i1 h1 [(⟨#[97, 98, 45, 49]⟩ : ByteArray), (⟨#[97, 98, 42]⟩ : ByteArray), (⟨#[42]⟩ : ByteArray), (⟨#[97, 42, 49]⟩ : ByteArray), (⟨#[42, 45, 42]⟩ : ByteArray), (⟨#[42, 42]⟩ : ByteArray), (⟨#[42, 98, 45, 49]⟩ : ByteArray), (⟨#[122, 42, 48, 42, 48]⟩ : ByteArray)] j1 hl (by simp)
    rw [if_pos rfl, e2, Option.bind_some]
    refine hj _ _ _ j2 ?_
    have : ∀ x ∈ [(⟨#[97, 98, 45, 49]⟩ : ByteArray), (⟨#[97, 98, 42]⟩ : ByteArray), (⟨#[42]⟩ : ByteArray), (⟨#[97, 42, 49]⟩ : ByteArray), (⟨#[42, 45, 42]⟩ : ByteArray), (⟨#[42, 42]⟩ : ByteArray), (⟨#[42, 98, 45, 49]⟩ : ByteArray), (⟨#[122, 42, 48, 42, 48]⟩ : ByteArray)], x.size ≤ 13 := by decide
    exact this z m2
  | false =>
    rw [if_neg (by decide)]
    refine hj _ _ _ j1 ?_
    have : ∀ x ∈ [(⟨#[97, 98, 45, 49]⟩ : ByteArray), (⟨#[97, 98, 45, 50]⟩ : ByteArray), (⟨#[97, 99]⟩ : ByteArray), (⟨#[122, 122, 45, 57, 48, 48]⟩ : ByteArray), (⟨#[97, 98, 97, 98, 45, 49]⟩ : ByteArray)], x.size ≤ 13 := by decide
    exact this y m1
theorem drawFits_some (b : List Int) (hl : b.length ≤ 1048576) (k : Nat) (hk : 5000 ≤ k) : ∃ x y, spec_DrawFits.f k b = some (x, y) ∧ y.size ≤ 13 := by
  have hb : b.length ≤ 9223372036854775807 := by omega
  obtain ⟨h0, e0⟩ := l1New_some b hl k (by omega)
  obtain ⟨x, i1, h1, e1, s1, j1⟩ := drawBoard_some b 0 h0 true (by omega) hb k (by omega)
  obtain ⟨t, i2, h2, e2, j2⟩ := l1Once_some b i1 h1 8 j1 hb (by omega)
  obtain ⟨y, i3, h3, e3, s3, j3⟩ := drawBoard_some b i2 h2 t j2 hb k (by omega)
  unfold spec_DrawFits.f
  rw [e0, Option.bind_some, e1, Option.bind_some, e2, Option.bind_some, e3, Option.bind_some]
  exact ⟨_, _, rfl, s3⟩
theorem fitsL_plain : ∀ (p b : List UInt8), (∀ c ∈ p, c ≠ 42) → fitsL p b = decide (p = b)
  | [], b, _ => by
    simp only [fitsL]
    cases b <;> simp
  | c :: p, b, h => by
    simp only [fitsL]
    rw [if_neg (h c (by simp))]
    cases b with
    | nil => simp
    | cons d b =>
      simp only []
      rw [fitsL_plain p b (fun x hx => h x (by simp [hx]))]
      by_cases e : d = c
      · subst e; simp
      · simp [e, Ne.symm e]
theorem starL_all : ∀ (b : List UInt8), starL (fitsL []) b = true
  | [] => rfl
  | d :: b => by
    simp only [starL]
    rw [starL_all b, Bool.or_true]
theorem fitsL_take : ∀ (s : List UInt8) (k : Nat), (∀ c ∈ s, c ≠ 42) → fitsL (s.take k ++ [42]) s = true
  | s, 0, _ => by
    rw [List.take_zero, List.nil_append, fitsL_star]
    exact starL_all s
  | [], k + 1, _ => by
    rw [List.take_nil, List.nil_append, fitsL_star]
    rfl
  | c :: s, k + 1, h => by
    simp only [List.take_succ_cons, List.cons_append, fitsL]
    rw [if_neg (h c (by simp)), fitsL_take s k (fun x hx => h x (by simp [hx]))]
    simp
def okBoard (star : Bool) (s : ByteArray) : Bool := s.data.toList.all (fun b => okN star b.toNat) && decide (1 ≤ s.data.toList.length ∧ s.data.toList.length ≤ 12)
theorem fits_value (a b : ByteArray) (ha : a.data.toList.length ≤ 1000) (hb : b.data.toList.length ≤ 1000) (k : Nat) (hk : 3000 ≤ k) : impl_Fits.f k a b = some (okBoard true a && (okBoard false b && fitsL a.data.toList b.data.toList)) := by
  unfold impl_Fits.f
  rw [pat_impl a (by omega), board_impl b (by omega), Option.bind_some, Option.bind_some, fits_impl 2000 a b k (by omega) (by omega), Option.bind_some]
  have e1 : (a.data.toList.all (fun b => okN true b.toNat) && decide (1 ≤ a.data.toList.length ∧ a.data.toList.length ≤ 12)) = okBoard true a := rfl
  have e2 : (b.data.toList.all (fun b => okN false b.toNat) && decide (1 ≤ b.data.toList.length ∧ b.data.toList.length ≤ 12)) = okBoard false b := rfl
  rw [e1, e2]
  cases okBoard true a <;> cases okBoard false b <;> simp
theorem okN_star (n : Nat) (h : okN false n = true) : okN true n = true := by
  unfold okN at *
  simp only [Bool.false_and, Bool.or_false] at h
  rw [h]; rfl
theorem okN_42 (c : UInt8) (h : okN false c.toNat = true) : c ≠ 42 := by
  rintro rfl
  exact absurd h (by decide)
theorem append_l (a b : ByteArray) : (a ++ b).data.toList = a.data.toList ++ b.data.toList := by
  rw [ByteArray.data_append, Array.toList_append]
theorem cut_l (s : ByteArray) (k : Nat) : (s.extract 0 k).data.toList = s.data.toList.take k := by
  rw [ByteArray.data_extract, Array.toList_extract]
  simp [List.extract_eq_take_drop]
theorem holds : laws_FnBoards.PureR := by
  intro l hl
  obtain ⟨K, hK⟩ : ∃ K : Nat, 10000 ≤ K := ⟨_, Nat.le_refl _⟩
  refine ⟨K, ?_⟩
  unfold laws_FnBoards.f laws_big.f
  rw [Option.bind_some]
  by_cases h0 : (l.length : Int) > 1048576
  · rw [if_pos (decide_eq_true h0)]
  · rw [if_neg (by simpa using h0)]
    obtain ⟨x, s, e, hs⟩ := drawFits_some l (by omega) K (by omega)
    have ls : s.data.toList.length ≤ 13 := by rw [← size_l]; exact hs
    rw [e, Option.bind_some]
    unfold spec_BoardOk.f
    rw [board_spec s false (by omega) K (by omega)]
    have e2 : (s.data.toList.all (fun b => okN false b.toNat) && decide (1 ≤ s.data.toList.length ∧ s.data.toList.length ≤ 12)) = okBoard false s := rfl
    have e3 : impl_BoardOk.f s = some (okBoard false s) := by
      unfold impl_BoardOk.f
      rw [board_impl s (by omega), Option.bind_some]
      rfl
    rw [e2, Option.bind_some, Option.bind_some, e3]
    have e4 : (⟨#[42]⟩ : ByteArray).data.toList = [42] := rfl
    rw [fits_value ⟨#[42]⟩ s (by rw [e4]; simp) (by omega) K (by omega), fits_value s s (by omega) (by omega) K (by omega)]
    cases hb : okBoard false s with
    | false =>
      rw [if_neg (by decide), Option.bind_some, if_neg (by decide), Option.bind_some]
      simp
    | true =>
      have hb' : okBoard false s = true := hb
      unfold okBoard at hb
      obtain ⟨hall, hlen⟩ := Bool.and_eq_true_iff.1 hb
      have hlen := of_decide_eq_true hlen
      have hall := List.all_eq_true.1 hall
      have h42 : ∀ c ∈ s.data.toList, c ≠ 42 := fun c hc => okN_42 c (hall c hc)
      obtain ⟨u, eu, ub⟩ := at_some l hl.2 (by omega) 2 (by omega)
      rw [show ((2 : Nat) : Int) = 2 from rfl] at eu
      have q1 : ¬ (s.size : Int) = 0 := by rw [size_l]; omega
      rw [if_pos rfl, eu, Option.bind_some, if_neg q1, Option.bind_some, if_pos rfl]
      have t1 : okBoard true s = true := by
        unfold okBoard
        rw [Bool.and_eq_true_iff]
        exact ⟨List.all_eq_true.2 (fun c hc => okN_star _ (hall c hc)), decide_eq_true hlen⟩
      have t2 : fitsL s.data.toList s.data.toList = true := by rw [fitsL_plain _ _ h42]; simp
      rw [t1, t2, Bool.and_true, Bool.and_true, Option.bind_some, if_pos rfl]
      have t3 : okBoard true ⟨#[42]⟩ = true := by decide
      have t4 : fitsL (⟨#[42]⟩ : ByteArray).data.toList s.data.toList = true := by
        rw [e4, fitsL_star]
        exact starL_all _
      rw [t3, t4, Bool.and_true, Bool.and_true, Option.bind_some, if_pos rfl]
      obtain ⟨k, hk⟩ : ∃ k : Nat, Int.tmod u (s.size : Int) = k := ⟨(Int.tmod u (s.size : Int)).toNat, by
        rw [Int.tmod_eq_emod_of_nonneg ub.1]
        have := Int.emod_nonneg u q1
        omega⟩
      have hk2 : k < s.data.toList.length := by
        rw [← size_l]
        have := Int.emod_lt_of_pos u (show (0 : Int) < (s.size : Int) by rw [size_l]; omega)
        rw [Int.tmod_eq_emod_of_nonneg ub.1] at hk
        omega
      rw [hk]
      have q2 : (0 : Int) ≤ (k : Int) := by omega
      have q3 : (k : Int) ≤ (s.size : Int) := by rw [size_l]; omega
      have c1 : (s.extract 0 k).data.toList = s.data.toList.take k := cut_l s k
      have q4 : (s.extract 0 k).size + 1 ≤ 9223372036854775807 := by rw [size_l, c1, List.length_take]; omega
      have q5 : s.size + 1 ≤ 9223372036854775807 := by omega
      rw [if_pos q2, if_pos q3, Int.toNat_natCast, if_pos q4]
      have c2 : (s.extract 0 k ++ (⟨#[42]⟩ : ByteArray)).data.toList = s.data.toList.take k ++ [42] := by rw [append_l, c1]
      have c3 : (s ++ (⟨#[120]⟩ : ByteArray)).data.toList = s.data.toList ++ [120] := by rw [append_l]
      rw [fits_value (s.extract 0 k ++ (⟨#[42]⟩ : ByteArray)) s (by rw [c2]; simp; omega) (by omega) K (by omega), fits_value (s ++ (⟨#[120]⟩ : ByteArray)) s (by rw [c3]; simp; omega) (by omega) K (by omega), fits_value (s.extract 0 k) s (by rw [c1, List.length_take]; omega) (by omega) K (by omega)]
      have t5 : okBoard true (s.extract 0 k ++ (⟨#[42]⟩ : ByteArray)) = true := by
        unfold okBoard
        rw [Bool.and_eq_true_iff, c2]
        refine ⟨List.all_eq_true.2 (fun c hc => ?_), decide_eq_true (by simp; omega)⟩
        rcases List.mem_append.1 hc with h | h
        · exact okN_star _ (hall c (List.mem_of_mem_take h))
        · rw [List.mem_singleton.1 h]; decide
      have t6 : fitsL (s.extract 0 k ++ (⟨#[42]⟩ : ByteArray)).data.toList s.data.toList = true := by rw [c2]; exact fitsL_take _ _ h42
      have t7 : fitsL (s ++ (⟨#[120]⟩ : ByteArray)).data.toList s.data.toList = false := by
        rw [c3, fitsL_plain _ _ (fun c hc => by
          rcases List.mem_append.1 hc with h | h
          · exact h42 c h
          · rw [List.mem_singleton.1 h]; decide)]
        refine decide_eq_false (fun h => ?_)
        have := congrArg List.length h
        simp at this
      have t8 : fitsL (s.extract 0 k).data.toList s.data.toList = false := by
        rw [c1, fitsL_plain _ _ (fun c hc => h42 c (List.mem_of_mem_take hc))]
        refine decide_eq_false (fun h => ?_)
        have := congrArg List.length h
        rw [List.length_take] at this
        omega
      rw [t5, t6, t7, t8, hb', Bool.and_true, Bool.and_true, Option.bind_some, if_pos rfl, if_pos q5, Bool.and_false, Bool.and_false, Option.bind_some, if_neg (by decide)]
      by_cases hk0 : (k : Int) = 0
      · rw [if_pos hk0]
      · rw [if_neg hk0, Bool.and_false, Option.bind_some]
        rfl
end Go.Proofs.YtekjcdcmiingmaaDoor.Pure.FnBoards
namespace Go.Proofs.YtekjcdcmiingmaaDoor.Pure
theorem FnBoards : Go.Proofs.YtekjcdcmiingmaaDoor.PFnBoards.laws_FnBoards.PureR := FnBoards.holds
end Go.Proofs.YtekjcdcmiingmaaDoor.Pure
