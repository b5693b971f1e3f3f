/- What the parameters of the law FnExactPaperText read as, and the law's pure statement (no memory in it). -/
import Derived.Test.YtekjcdcmiingmaaDoorPFnExactPaperTextx9
import Derived.Test.YtekjcdcmiingmaaDoorOpens
set_option linter.unusedVariables false
namespace Go.Proofs.YtekjcdcmiingmaaDoor.PFnExactPaperText
open Go.ChangeShapes Go.WideShapes Go.RowKit
open Go.Proofs.YtekjcdcmiingmaaDoorW.PrintWords Go.Proofs.YtekjcdcmiingmaaDoor.Op
theorem op_9 : Opens Tryd.prog 9 Kd.string (fun z_ => z_.size ≤ 9223372036854775807) := Opens.string Tryd.underlying9 (by kernel_rfl)
theorem op_3 : Opens Tryd.prog 3 (Kd.int .i64) (fun z_ => (-9223372036854775808 ≤ z_ ∧ z_ ≤ 9223372036854775807)) := Opens.i64 Tryd.underlying3 (by kernel_rfl)
theorem op_23 : Opens Tryd.prog 23 (Kd.slice 3 (Kd.int .i64)) (fun z_ => (z_.length ≤ 9223372036854775807 ∧ ∀ x1 ∈ z_, (-9223372036854775808 ≤ x1 ∧ x1 ≤ 9223372036854775807))) := Opens.slice Tryd.underlying23 (by kernel_rfl) op_3
theorem op_5 : Opens Tryd.prog 5 (Kd.int .u8) (fun z_ => (0 ≤ z_ ∧ z_ ≤ 255)) := Opens.u8 Tryd.underlying5 (by kernel_rfl)
theorem op_29 : Opens Tryd.prog 29 (Kd.slice 5 (Kd.int .u8)) (fun z_ => (z_.length ≤ 9223372036854775807 ∧ ∀ x1 ∈ z_, (0 ≤ x1 ∧ x1 ≤ 255))) := Opens.slice Tryd.underlying29 (by kernel_rfl) op_5
theorem opv_35 : Opens Tryd.prog 35 (Kd.pair Kd.string (Kd.pair (Kd.slice 3 (Kd.int .i64)) (Kd.pair Kd.string (Kd.pair (Kd.slice 3 (Kd.int .i64)) (Kd.pair (Kd.int .i64) (Kd.pair (Kd.slice 5 (Kd.int .u8)) (Kd.pair (Kd.int .i64) (Kd.slice 5 (Kd.int .u8))))))))) (fun z_ => (z_.1.size ≤ 9223372036854775807 ∧ (z_.2.1.length ≤ 9223372036854775807 ∧ ∀ x1 ∈ z_.2.1, (-9223372036854775808 ≤ x1 ∧ x1 ≤ 9223372036854775807)) ∧ z_.2.2.1.size ≤ 9223372036854775807 ∧ (z_.2.2.2.1.length ≤ 9223372036854775807 ∧ ∀ x2 ∈ z_.2.2.2.1, (-9223372036854775808 ≤ x2 ∧ x2 ≤ 9223372036854775807)) ∧ (-9223372036854775808 ≤ z_.2.2.2.2.1 ∧ z_.2.2.2.2.1 ≤ 9223372036854775807) ∧ (z_.2.2.2.2.2.1.length ≤ 9223372036854775807 ∧ ∀ x3 ∈ z_.2.2.2.2.2.1, (0 ≤ x3 ∧ x3 ≤ 255)) ∧ (-9223372036854775808 ≤ z_.2.2.2.2.2.2.1 ∧ z_.2.2.2.2.2.2.1 ≤ 9223372036854775807) ∧ (z_.2.2.2.2.2.2.2.length ≤ 9223372036854775807 ∧ ∀ x4 ∈ z_.2.2.2.2.2.2.2, (0 ≤ x4 ∧ x4 ≤ 255)))) := by
  refine ⟨by kernel_rfl, ?_⟩
  intro H enc w fuel cs x h
  obtain ⟨xs, n, rfl, rfl, hl, hxs, hf⟩ := DataW.trod_struct Tryd.underlying35 h
  have hcells : Tryd.prog.cellsOf 35 = 8 := by kernel_rfl
  rw [hcells] at hl
  have hc0 : Tryd.prog.cellsOf 9 = 1 := by kernel_rfl
  have t0 : DataW.trod enc Tryd.prog w 0 (fun _ => true) true n 9 ((cs.drop 0).take (Tryd.prog.cellsOf 9)) = xs[0]? := hf 0 _ rfl
  rw [hc0, List.getElem?_eq_getElem (by simp [hxs])] at t0
  obtain ⟨y0, K0, g0⟩ := op_9.op t0
  have hc1 : Tryd.prog.cellsOf 23 = 1 := by kernel_rfl
  have t1 : DataW.trod enc Tryd.prog w 0 (fun _ => true) true n 23 ((cs.drop 1).take (Tryd.prog.cellsOf 23)) = xs[1]? := hf 1 _ rfl
  rw [hc1, List.getElem?_eq_getElem (by simp [hxs])] at t1
  obtain ⟨y1, K1, g1⟩ := op_23.op t1
  have hc2 : Tryd.prog.cellsOf 9 = 1 := by kernel_rfl
  have t2 : DataW.trod enc Tryd.prog w 0 (fun _ => true) true n 9 ((cs.drop 2).take (Tryd.prog.cellsOf 9)) = xs[2]? := hf 2 _ rfl
  rw [hc2, List.getElem?_eq_getElem (by simp [hxs])] at t2
  obtain ⟨y2, K2, g2⟩ := op_9.op t2
  have hc3 : Tryd.prog.cellsOf 23 = 1 := by kernel_rfl
  have t3 : DataW.trod enc Tryd.prog w 0 (fun _ => true) true n 23 ((cs.drop 3).take (Tryd.prog.cellsOf 23)) = xs[3]? := hf 3 _ rfl
  rw [hc3, List.getElem?_eq_getElem (by simp [hxs])] at t3
  obtain ⟨y3, K3, g3⟩ := op_23.op t3
  have hc4 : Tryd.prog.cellsOf 3 = 1 := by kernel_rfl
  have t4 : DataW.trod enc Tryd.prog w 0 (fun _ => true) true n 3 ((cs.drop 4).take (Tryd.prog.cellsOf 3)) = xs[4]? := hf 4 _ rfl
  rw [hc4, List.getElem?_eq_getElem (by simp [hxs])] at t4
  obtain ⟨y4, K4, g4⟩ := op_3.op t4
  have hc5 : Tryd.prog.cellsOf 29 = 1 := by kernel_rfl
  have t5 : DataW.trod enc Tryd.prog w 0 (fun _ => true) true n 29 ((cs.drop 5).take (Tryd.prog.cellsOf 29)) = xs[5]? := hf 5 _ rfl
  rw [hc5, List.getElem?_eq_getElem (by simp [hxs])] at t5
  obtain ⟨y5, K5, g5⟩ := op_29.op t5
  have hc6 : Tryd.prog.cellsOf 3 = 1 := by kernel_rfl
  have t6 : DataW.trod enc Tryd.prog w 0 (fun _ => true) true n 3 ((cs.drop 6).take (Tryd.prog.cellsOf 3)) = xs[6]? := hf 6 _ rfl
  rw [hc6, List.getElem?_eq_getElem (by simp [hxs])] at t6
  obtain ⟨y6, K6, g6⟩ := op_3.op t6
  have hc7 : Tryd.prog.cellsOf 29 = 1 := by kernel_rfl
  have t7 : DataW.trod enc Tryd.prog w 0 (fun _ => true) true n 29 ((cs.drop 7).take (Tryd.prog.cellsOf 29)) = xs[7]? := hf 7 _ rfl
  rw [hc7, List.getElem?_eq_getElem (by simp [hxs])] at t7
  obtain ⟨y7, K7, g7⟩ := op_29.op t7
  rw [take_end cs 7 1 hl] at K7
  exact ⟨⟨y0, y1, y2, y3, y4, y5, y6, y7⟩, ⟨_, _, split_at cs 0 1, K0, ⟨_, _, split_at cs 1 1, K1, ⟨_, _, split_at cs 2 1, K2, ⟨_, _, split_at cs 3 1, K3, ⟨_, _, split_at cs 4 1, K4, ⟨_, _, split_at cs 5 1, K5, ⟨_, _, split_at cs 6 1, K6, K7⟩⟩⟩⟩⟩⟩⟩, ⟨g0, g1, g2, g3, g4, g5, g6, g7⟩⟩
/-- The pure statement of the law. -/
def laws_FnExactPaperText.PureR : Prop := ∀ (a0_0 : ByteArray) (l0_1 : (List Int)) (a0_2 : ByteArray) (l0_3 : (List Int)) (a0_4 : Int) (l0_5 : (List Int)) (a0_6 : Int) (l0_7 : (List Int)), a0_0.size ≤ 9223372036854775807 → (l0_1.length ≤ 9223372036854775807 ∧ ∀ x1 ∈ l0_1, (-9223372036854775808 ≤ x1 ∧ x1 ≤ 9223372036854775807)) → a0_2.size ≤ 9223372036854775807 → (l0_3.length ≤ 9223372036854775807 ∧ ∀ x1 ∈ l0_3, (-9223372036854775808 ≤ x1 ∧ x1 ≤ 9223372036854775807)) → (-9223372036854775808 ≤ a0_4 ∧ a0_4 ≤ 9223372036854775807) → (l0_5.length ≤ 9223372036854775807 ∧ ∀ x1 ∈ l0_5, (0 ≤ x1 ∧ x1 ≤ 255)) → (-9223372036854775808 ≤ a0_6 ∧ a0_6 ≤ 9223372036854775807) → (l0_7.length ≤ 9223372036854775807 ∧ ∀ x1 ∈ l0_7, (0 ≤ x1 ∧ x1 ≤ 255)) → ∃ k, laws_FnExactPaperText.f k a0_0 l0_1 a0_2 l0_3 a0_4 l0_5 a0_6 l0_7 = some true
end Go.Proofs.YtekjcdcmiingmaaDoor.PFnExactPaperText
