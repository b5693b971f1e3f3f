/- What the parameters of the law FnExactFollows read as, and the law's pure statement (no memory in it). -/
import Derived.Test.YtnnjhhoibhpbhaaPFnExactFollowsx5
import Derived.Test.YtnnjhhoibhpbhaaOpens
set_option linter.unusedVariables false
namespace Go.Proofs.Ytnnjhhoibhpbhaa.PFnExactFollows
open Go.ChangeShapes Go.WideShapes Go.RowKit
open Go.Proofs.YtnnjhhoibhpbhaaW.PrintWords Go.Proofs.Ytnnjhhoibhpbhaa.Op
theorem op_3 : Opens Try.prog 3 (Kd.int .i64) (fun z_ => (-9223372036854775808 ≤ z_ ∧ z_ ≤ 9223372036854775807)) := Opens.i64 Try.underlying3 (by kernel_rfl)
theorem opv_70 : Opens Try.prog 70 (Kd.pair (Kd.int .i64) (Kd.pair (Kd.int .i64) (Kd.pair (Kd.int .i64) (Kd.pair (Kd.int .i64) (Kd.pair (Kd.int .i64) (Kd.int .i64)))))) (fun z_ => ((-9223372036854775808 ≤ z_.1 ∧ z_.1 ≤ 9223372036854775807) ∧ (-9223372036854775808 ≤ z_.2.1 ∧ z_.2.1 ≤ 9223372036854775807) ∧ (-9223372036854775808 ≤ z_.2.2.1 ∧ z_.2.2.1 ≤ 9223372036854775807) ∧ (-9223372036854775808 ≤ z_.2.2.2.1 ∧ z_.2.2.2.1 ≤ 9223372036854775807) ∧ (-9223372036854775808 ≤ z_.2.2.2.2.1 ∧ z_.2.2.2.2.1 ≤ 9223372036854775807) ∧ (-9223372036854775808 ≤ z_.2.2.2.2.2 ∧ z_.2.2.2.2.2 ≤ 9223372036854775807))) := by
  refine ⟨by kernel_rfl, ?_⟩
  intro H enc w fuel cs x h
  obtain ⟨xs, n, rfl, rfl, hl, hxs, hf⟩ := DataW.trod_struct Try.underlying70 h
  have hcells : Try.prog.cellsOf 70 = 6 := by kernel_rfl
  rw [hcells] at hl
  have hc0 : Try.prog.cellsOf 3 = 1 := by kernel_rfl
  have t0 : DataW.trod enc Try.prog w 0 (fun _ => true) true n 3 ((cs.drop 0).take (Try.prog.cellsOf 3)) = xs[0]? := hf 0 _ rfl
  rw [hc0, List.getElem?_eq_getElem (by simp [hxs])] at t0
  obtain ⟨y0, K0, g0⟩ := op_3.op t0
  have hc1 : Try.prog.cellsOf 3 = 1 := by kernel_rfl
  have t1 : DataW.trod enc Try.prog w 0 (fun _ => true) true n 3 ((cs.drop 1).take (Try.prog.cellsOf 3)) = xs[1]? := hf 1 _ rfl
  rw [hc1, List.getElem?_eq_getElem (by simp [hxs])] at t1
  obtain ⟨y1, K1, g1⟩ := op_3.op t1
  have hc2 : Try.prog.cellsOf 3 = 1 := by kernel_rfl
  have t2 : DataW.trod enc Try.prog w 0 (fun _ => true) true n 3 ((cs.drop 2).take (Try.prog.cellsOf 3)) = xs[2]? := hf 2 _ rfl
  rw [hc2, List.getElem?_eq_getElem (by simp [hxs])] at t2
  obtain ⟨y2, K2, g2⟩ := op_3.op t2
  have hc3 : Try.prog.cellsOf 3 = 1 := by kernel_rfl
  have t3 : DataW.trod enc Try.prog w 0 (fun _ => true) true n 3 ((cs.drop 3).take (Try.prog.cellsOf 3)) = xs[3]? := hf 3 _ rfl
  rw [hc3, List.getElem?_eq_getElem (by simp [hxs])] at t3
  obtain ⟨y3, K3, g3⟩ := op_3.op t3
  have hc4 : Try.prog.cellsOf 3 = 1 := by kernel_rfl
  have t4 : DataW.trod enc Try.prog w 0 (fun _ => true) true n 3 ((cs.drop 4).take (Try.prog.cellsOf 3)) = xs[4]? := hf 4 _ rfl
  rw [hc4, List.getElem?_eq_getElem (by simp [hxs])] at t4
  obtain ⟨y4, K4, g4⟩ := op_3.op t4
  have hc5 : Try.prog.cellsOf 3 = 1 := by kernel_rfl
  have t5 : DataW.trod enc Try.prog w 0 (fun _ => true) true n 3 ((cs.drop 5).take (Try.prog.cellsOf 3)) = xs[5]? := hf 5 _ rfl
  rw [hc5, List.getElem?_eq_getElem (by simp [hxs])] at t5
  obtain ⟨y5, K5, g5⟩ := op_3.op t5
  rw [take_end cs 5 1 hl] at K5
  exact ⟨⟨y0, y1, y2, y3, y4, y5⟩, ⟨_, _, split_at cs 0 1, K0, ⟨_, _, split_at cs 1 1, K1, ⟨_, _, split_at cs 2 1, K2, ⟨_, _, split_at cs 3 1, K3, ⟨_, _, split_at cs 4 1, K4, K5⟩⟩⟩⟩⟩, ⟨g0, g1, g2, g3, g4, g5⟩⟩
theorem opv_23 : Opens Try.prog 23 (Kd.pair (Kd.int .i64) (Kd.pair (Kd.int .i64) (Kd.int .i64))) (fun z_ => ((-9223372036854775808 ≤ z_.1 ∧ z_.1 ≤ 9223372036854775807) ∧ (-9223372036854775808 ≤ z_.2.1 ∧ z_.2.1 ≤ 9223372036854775807) ∧ (-9223372036854775808 ≤ z_.2.2 ∧ z_.2.2 ≤ 9223372036854775807))) := by
  refine ⟨by kernel_rfl, ?_⟩
  intro H enc w fuel cs x h
  obtain ⟨xs, n, rfl, rfl, hl, hxs, hf⟩ := DataW.trod_struct Try.underlying23 h
  have hcells : Try.prog.cellsOf 23 = 3 := by kernel_rfl
  rw [hcells] at hl
  have hc0 : Try.prog.cellsOf 3 = 1 := by kernel_rfl
  have t0 : DataW.trod enc Try.prog w 0 (fun _ => true) true n 3 ((cs.drop 0).take (Try.prog.cellsOf 3)) = xs[0]? := hf 0 _ rfl
  rw [hc0, List.getElem?_eq_getElem (by simp [hxs])] at t0
  obtain ⟨y0, K0, g0⟩ := op_3.op t0
  have hc1 : Try.prog.cellsOf 3 = 1 := by kernel_rfl
  have t1 : DataW.trod enc Try.prog w 0 (fun _ => true) true n 3 ((cs.drop 1).take (Try.prog.cellsOf 3)) = xs[1]? := hf 1 _ rfl
  rw [hc1, List.getElem?_eq_getElem (by simp [hxs])] at t1
  obtain ⟨y1, K1, g1⟩ := op_3.op t1
  have hc2 : Try.prog.cellsOf 3 = 1 := by kernel_rfl
  have t2 : DataW.trod enc Try.prog w 0 (fun _ => true) true n 3 ((cs.drop 2).take (Try.prog.cellsOf 3)) = xs[2]? := hf 2 _ rfl
  rw [hc2, List.getElem?_eq_getElem (by simp [hxs])] at t2
  obtain ⟨y2, K2, g2⟩ := op_3.op t2
  rw [take_end cs 2 1 hl] at K2
  exact ⟨⟨y0, y1, y2⟩, ⟨_, _, split_at cs 0 1, K0, ⟨_, _, split_at cs 1 1, K1, K2⟩⟩, ⟨g0, g1, g2⟩⟩
/-- The pure statement of the law. -/
def laws_FnExactFollows.PureR : Prop := ∀ (a0_0 : Int) (a0_1 : Int) (a0_2 : Int) (a0_3 : Int) (a0_4 : Int) (a0_5 : Int) (a1_0 : Int) (a1_1 : Int) (a1_2 : Int), (-9223372036854775808 ≤ a0_0 ∧ a0_0 ≤ 9223372036854775807) → (-9223372036854775808 ≤ a0_1 ∧ a0_1 ≤ 9223372036854775807) → (-9223372036854775808 ≤ a0_2 ∧ a0_2 ≤ 9223372036854775807) → (-9223372036854775808 ≤ a0_3 ∧ a0_3 ≤ 9223372036854775807) → (-9223372036854775808 ≤ a0_4 ∧ a0_4 ≤ 9223372036854775807) → (-9223372036854775808 ≤ a0_5 ∧ a0_5 ≤ 9223372036854775807) → (-9223372036854775808 ≤ a1_0 ∧ a1_0 ≤ 9223372036854775807) → (-9223372036854775808 ≤ a1_1 ∧ a1_1 ≤ 9223372036854775807) → (-9223372036854775808 ≤ a1_2 ∧ a1_2 ≤ 9223372036854775807) → laws_FnExactFollows.f a0_0 a0_1 a0_2 a0_3 a0_4 a0_5 a1_0 a1_1 a1_2 = some true
end Go.Proofs.Ytnnjhhoibhpbhaa.PFnExactFollows
