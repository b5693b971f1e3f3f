-- Made by a program of this repository (xp.py over the kit's print) out of the translation. Lean checks it.
import Derived.Test.YtnnjhhoibhpbhaaPFnExactFollowsx0
namespace Go.Proofs.Ytnnjhhoibhpbhaa.PFnExactFollows
open Go.RowKit Go.Proofs.YtnnjhhoibhpbhaaW.PrintWords Go.Proofs.YtnnjhhoibhpbhaaW.PrintLast Go.Proofs.YtnnjhhoibhpbhaaW.PrintMore
attribute [local go_sem] max2_int min2_int max_two min_two max_three min_three max_four min_four   -- for this text's walks alone
set_option linter.unusedVariables false
set_option linter.unusedSimpArgs false

/-! ### spec_Follows: function 51 -/
set_option maxHeartbeats 1000000 in
set_option maxRecDepth 100000 in
theorem spec_Follows.k1s (a0 a1 a2 a3 a4 a5 b1 b2 : Int) (w : World) (h1 : ¬ b1 = 0) :
    Calls Try.prog 51 #[.agg #[.int .i64 a0, .int .i64 a1, .int .i64 a2, .int .i64 a3, .int .i64 a4, .int .i64 a5], .agg #[.int .i64 1, .int .i64 b1, .int .i64 b2]] w fun e w' => e = .returned (.tuple #[.agg #[.int .i64 a0, .int .i64 a1, .int .i64 a2, .int .i64 a3, .int .i64 a4, .int .i64 a5], .bool false]) ∧ Below w.heap.size w w' := by
  have hu71 := Try.underlying71
  have hu25 := Try.underlying25
  go_enter Try.func51, Try.ntmps51
  go_wp2
  (try (go_region; all_goals go_wp2))
  (try (go_region; all_goals go_wp2))
  all_goals first
    | (refine bodyPost_ret (v := .tuple #[.agg #[.int .i64 a0, .int .i64 a1, .int .i64 a2, .int .i64 a3, .int .i64 a4, .int .i64 a5], .bool false]) ?_ rfl ⟨rfl, ?_⟩
       · (simp [results, Try.results51, go_sem]; done)
       · (repeat (first | exact Below.refl _ _ | apply below_alloc | apply pw_below_drewN | apply below_drew1)))
    | (exfalso; simp_all; done)
    | (exfalso; simp_all; omega)
set_option maxHeartbeats 1000000 in
set_option maxRecDepth 100000 in
theorem spec_Follows.k1l (a0 a1 a2 a3 a4 a5 b1 b2 : Int) (w : World) (h1 : b1 = 0) (h2 : b2 < 1) :
    Calls Try.prog 51 #[.agg #[.int .i64 a0, .int .i64 a1, .int .i64 a2, .int .i64 a3, .int .i64 a4, .int .i64 a5], .agg #[.int .i64 1, .int .i64 b1, .int .i64 b2]] w fun e w' => e = .returned (.tuple #[.agg #[.int .i64 a0, .int .i64 a1, .int .i64 a2, .int .i64 a3, .int .i64 a4, .int .i64 a5], .bool false]) ∧ Below w.heap.size w w' := by
  have hu71 := Try.underlying71
  have hu25 := Try.underlying25
  subst h1
  go_enter Try.func51, Try.ntmps51
  go_wp2
  (try (go_region; all_goals go_wp2))
  (try (go_region; all_goals go_wp2))
  all_goals first
    | (refine bodyPost_ret (v := .tuple #[.agg #[.int .i64 a0, .int .i64 a1, .int .i64 a2, .int .i64 a3, .int .i64 a4, .int .i64 a5], .bool false]) ?_ rfl ⟨rfl, ?_⟩
       · (simp [results, Try.results51, go_sem]; done)
       · (repeat (first | exact Below.refl _ _ | apply below_alloc | apply pw_below_drewN | apply below_drew1)))
    | (exfalso; simp_all; done)
    | (exfalso; simp_all; omega)
set_option maxHeartbeats 1000000 in
set_option maxRecDepth 100000 in
theorem spec_Follows.k1h (a0 a1 a2 a3 a4 a5 b1 b2 : Int) (w : World) (h1 : b1 = 0) (h2 : ¬ b2 < 1) (h3 : 1000000 < b2) :
    Calls Try.prog 51 #[.agg #[.int .i64 a0, .int .i64 a1, .int .i64 a2, .int .i64 a3, .int .i64 a4, .int .i64 a5], .agg #[.int .i64 1, .int .i64 b1, .int .i64 b2]] w fun e w' => e = .returned (.tuple #[.agg #[.int .i64 a0, .int .i64 a1, .int .i64 a2, .int .i64 a3, .int .i64 a4, .int .i64 a5], .bool false]) ∧ Below w.heap.size w w' := by
  have hu71 := Try.underlying71
  have hu25 := Try.underlying25
  replace h2 : 1 ≤ b2 := Int.not_lt.mp h2
  subst h1
  go_enter Try.func51, Try.ntmps51
  go_wp2
  (try (go_region; all_goals go_wp2))
  (try (go_region; all_goals go_wp2))
  all_goals first
    | (refine bodyPost_ret (v := .tuple #[.agg #[.int .i64 a0, .int .i64 a1, .int .i64 a2, .int .i64 a3, .int .i64 a4, .int .i64 a5], .bool false]) ?_ rfl ⟨rfl, ?_⟩
       · (simp [results, Try.results51, go_sem]; done)
       · (repeat (first | exact Below.refl _ _ | apply below_alloc | apply pw_below_drewN | apply below_drew1)))
    | (exfalso; simp_all; done)
    | (exfalso; simp_all; omega)
set_option maxHeartbeats 1000000 in
set_option maxRecDepth 100000 in
theorem spec_Follows.k1k (a0 a1 a2 a3 a4 a5 b1 b2 : Int) (w : World) (h1 : b1 = 0) (h2 : ¬ b2 < 1) (h3 : ¬ 1000000 < b2) :
    Calls Try.prog 51 #[.agg #[.int .i64 a0, .int .i64 a1, .int .i64 a2, .int .i64 a3, .int .i64 a4, .int .i64 a5], .agg #[.int .i64 1, .int .i64 b1, .int .i64 b2]] w fun e w' => e = .returned (.tuple #[.agg #[.int .i64 a0, .int .i64 a1, .int .i64 a2, .int .i64 a3, .int .i64 a4, .int .i64 a5], .bool false]) ∧ Below w.heap.size w w' := by
  have hu71 := Try.underlying71
  have hu25 := Try.underlying25
  replace h2 : 1 ≤ b2 := Int.not_lt.mp h2
  replace h3 : b2 ≤ 1000000 := Int.not_lt.mp h3
  subst h1
  go_enter Try.func51, Try.ntmps51
  go_wp2
  (try (go_region; all_goals go_wp2))
  (try (go_region; all_goals go_wp2))
  all_goals first
    | (refine bodyPost_ret (v := .tuple #[.agg #[.int .i64 a0, .int .i64 a1, .int .i64 a2, .int .i64 a3, .int .i64 a4, .int .i64 a5], .bool false]) ?_ rfl ⟨rfl, ?_⟩
       · (simp [results, Try.results51, go_sem]; done)
       · (repeat (first | exact Below.refl _ _ | apply below_alloc | apply pw_below_drewN | apply below_drew1)))
    | (exfalso; simp_all; done)
    | (exfalso; simp_all; omega)
set_option maxHeartbeats 1000000 in
set_option maxRecDepth 100000 in
theorem spec_Follows.k2a (a0 a1 a2 a3 a4 a5 b1 b2 : Int) (w : World) (h1 : b1 < 0) :
    Calls Try.prog 51 #[.agg #[.int .i64 a0, .int .i64 a1, .int .i64 a2, .int .i64 a3, .int .i64 a4, .int .i64 a5], .agg #[.int .i64 2, .int .i64 b1, .int .i64 b2]] w fun e w' => e = .returned (.tuple #[.agg #[.int .i64 a0, .int .i64 a1, .int .i64 a2, .int .i64 a3, .int .i64 a4, .int .i64 a5], .bool false]) ∧ Below w.heap.size w w' := by
  have hu71 := Try.underlying71
  have hu25 := Try.underlying25
  go_enter Try.func51, Try.ntmps51
  go_wp2
  (try (go_region; all_goals go_wp2))
  (try (go_region; all_goals go_wp2))
  all_goals first
    | (refine bodyPost_ret (v := .tuple #[.agg #[.int .i64 a0, .int .i64 a1, .int .i64 a2, .int .i64 a3, .int .i64 a4, .int .i64 a5], .bool false]) ?_ rfl ⟨rfl, ?_⟩
       · (simp [results, Try.results51, go_sem]; done)
       · (repeat (first | exact Below.refl _ _ | apply below_alloc | apply pw_below_drewN | apply below_drew1)))
    | (exfalso; simp_all; done)
    | (exfalso; simp_all; omega)
set_option maxHeartbeats 1000000 in
set_option maxRecDepth 100000 in
theorem spec_Follows.k2b (a0 a1 a2 a3 a4 a5 b1 b2 : Int) (w : World) (h1 : ¬ b1 < 0) (h2 : 1 < b1) :
    Calls Try.prog 51 #[.agg #[.int .i64 a0, .int .i64 a1, .int .i64 a2, .int .i64 a3, .int .i64 a4, .int .i64 a5], .agg #[.int .i64 2, .int .i64 b1, .int .i64 b2]] w fun e w' => e = .returned (.tuple #[.agg #[.int .i64 a0, .int .i64 a1, .int .i64 a2, .int .i64 a3, .int .i64 a4, .int .i64 a5], .bool false]) ∧ Below w.heap.size w w' := by
  have hu71 := Try.underlying71
  have hu25 := Try.underlying25
  replace h1 : 0 ≤ b1 := Int.not_lt.mp h1
  go_enter Try.func51, Try.ntmps51
  go_wp2
  (try (go_region; all_goals go_wp2))
  (try (go_region; all_goals go_wp2))
  all_goals first
    | (refine bodyPost_ret (v := .tuple #[.agg #[.int .i64 a0, .int .i64 a1, .int .i64 a2, .int .i64 a3, .int .i64 a4, .int .i64 a5], .bool false]) ?_ rfl ⟨rfl, ?_⟩
       · (simp [results, Try.results51, go_sem]; done)
       · (repeat (first | exact Below.refl _ _ | apply below_alloc | apply pw_below_drewN | apply below_drew1)))
    | (exfalso; simp_all; done)
    | (exfalso; simp_all; omega)
set_option maxHeartbeats 1000000 in
set_option maxRecDepth 100000 in
theorem spec_Follows.k2c (a0 a1 a2 a3 a4 a5 b1 b2 : Int) (w : World) (h1 : ¬ b1 < 0) (h2 : ¬ 1 < b1) (h3 : b2 < 0) :
    Calls Try.prog 51 #[.agg #[.int .i64 a0, .int .i64 a1, .int .i64 a2, .int .i64 a3, .int .i64 a4, .int .i64 a5], .agg #[.int .i64 2, .int .i64 b1, .int .i64 b2]] w fun e w' => e = .returned (.tuple #[.agg #[.int .i64 a0, .int .i64 a1, .int .i64 a2, .int .i64 a3, .int .i64 a4, .int .i64 a5], .bool false]) ∧ Below w.heap.size w w' := by
  have hu71 := Try.underlying71
  have hu25 := Try.underlying25
  replace h1 : 0 ≤ b1 := Int.not_lt.mp h1
  replace h2 : b1 ≤ 1 := Int.not_lt.mp h2
  go_enter Try.func51, Try.ntmps51
  go_wp2
  (try (go_region; all_goals go_wp2))
  (try (go_region; all_goals go_wp2))
  all_goals first
    | (refine bodyPost_ret (v := .tuple #[.agg #[.int .i64 a0, .int .i64 a1, .int .i64 a2, .int .i64 a3, .int .i64 a4, .int .i64 a5], .bool false]) ?_ rfl ⟨rfl, ?_⟩
       · (simp [results, Try.results51, go_sem]; done)
       · (repeat (first | exact Below.refl _ _ | apply below_alloc | apply pw_below_drewN | apply below_drew1)))
    | (exfalso; simp_all; done)
    | (exfalso; simp_all; omega)
set_option maxHeartbeats 1000000 in
set_option maxRecDepth 100000 in
theorem spec_Follows.k2d (a0 a1 a2 a3 a4 a5 b1 b2 : Int) (w : World) (h1 : ¬ b1 < 0) (h2 : ¬ 1 < b1) (h3 : ¬ b2 < 0) (h4 : 1024 < b2) :
    Calls Try.prog 51 #[.agg #[.int .i64 a0, .int .i64 a1, .int .i64 a2, .int .i64 a3, .int .i64 a4, .int .i64 a5], .agg #[.int .i64 2, .int .i64 b1, .int .i64 b2]] w fun e w' => e = .returned (.tuple #[.agg #[.int .i64 a0, .int .i64 a1, .int .i64 a2, .int .i64 a3, .int .i64 a4, .int .i64 a5], .bool false]) ∧ Below w.heap.size w w' := by
  have hu71 := Try.underlying71
  have hu25 := Try.underlying25
  replace h1 : 0 ≤ b1 := Int.not_lt.mp h1
  replace h2 : b1 ≤ 1 := Int.not_lt.mp h2
  replace h3 : 0 ≤ b2 := Int.not_lt.mp h3
  go_enter Try.func51, Try.ntmps51
  go_wp2
  (try (go_region; all_goals go_wp2))
  (try (go_region; all_goals go_wp2))
  all_goals first
    | (refine bodyPost_ret (v := .tuple #[.agg #[.int .i64 a0, .int .i64 a1, .int .i64 a2, .int .i64 a3, .int .i64 a4, .int .i64 a5], .bool false]) ?_ rfl ⟨rfl, ?_⟩
       · (simp [results, Try.results51, go_sem]; done)
       · (repeat (first | exact Below.refl _ _ | apply below_alloc | apply pw_below_drewN | apply below_drew1)))
    | (exfalso; simp_all; done)
    | (exfalso; simp_all; omega)
set_option maxHeartbeats 1000000 in
set_option maxRecDepth 100000 in
theorem spec_Follows.k3a (a0 a1 a2 a3 a4 a5 b1 b2 : Int) (w : World) (h1 : b1 < 0) :
    Calls Try.prog 51 #[.agg #[.int .i64 a0, .int .i64 a1, .int .i64 a2, .int .i64 a3, .int .i64 a4, .int .i64 a5], .agg #[.int .i64 3, .int .i64 b1, .int .i64 b2]] w fun e w' => e = .returned (.tuple #[.agg #[.int .i64 a0, .int .i64 a1, .int .i64 a2, .int .i64 a3, .int .i64 a4, .int .i64 a5], .bool false]) ∧ Below w.heap.size w w' := by
  have hu71 := Try.underlying71
  have hu25 := Try.underlying25
  go_enter Try.func51, Try.ntmps51
  go_wp2
  (try (go_region; all_goals go_wp2))
  (try (go_region; all_goals go_wp2))
  all_goals first
    | (refine bodyPost_ret (v := .tuple #[.agg #[.int .i64 a0, .int .i64 a1, .int .i64 a2, .int .i64 a3, .int .i64 a4, .int .i64 a5], .bool false]) ?_ rfl ⟨rfl, ?_⟩
       · (simp [results, Try.results51, go_sem]; done)
       · (repeat (first | exact Below.refl _ _ | apply below_alloc | apply pw_below_drewN | apply below_drew1)))
    | (exfalso; simp_all; done)
    | (exfalso; simp_all; omega)
set_option maxHeartbeats 1000000 in
set_option maxRecDepth 100000 in
theorem spec_Follows.k3b (a0 a1 a2 a3 a4 a5 b1 b2 : Int) (w : World) (h1 : ¬ b1 < 0) (h2 : 1 < b1) :
    Calls Try.prog 51 #[.agg #[.int .i64 a0, .int .i64 a1, .int .i64 a2, .int .i64 a3, .int .i64 a4, .int .i64 a5], .agg #[.int .i64 3, .int .i64 b1, .int .i64 b2]] w fun e w' => e = .returned (.tuple #[.agg #[.int .i64 a0, .int .i64 a1, .int .i64 a2, .int .i64 a3, .int .i64 a4, .int .i64 a5], .bool false]) ∧ Below w.heap.size w w' := by
  have hu71 := Try.underlying71
  have hu25 := Try.underlying25
  replace h1 : 0 ≤ b1 := Int.not_lt.mp h1
  go_enter Try.func51, Try.ntmps51
  go_wp2
  (try (go_region; all_goals go_wp2))
  (try (go_region; all_goals go_wp2))
  all_goals first
    | (refine bodyPost_ret (v := .tuple #[.agg #[.int .i64 a0, .int .i64 a1, .int .i64 a2, .int .i64 a3, .int .i64 a4, .int .i64 a5], .bool false]) ?_ rfl ⟨rfl, ?_⟩
       · (simp [results, Try.results51, go_sem]; done)
       · (repeat (first | exact Below.refl _ _ | apply below_alloc | apply pw_below_drewN | apply below_drew1)))
    | (exfalso; simp_all; done)
    | (exfalso; simp_all; omega)
set_option maxHeartbeats 1000000 in
set_option maxRecDepth 100000 in
theorem spec_Follows.k3c (a0 a1 a2 a3 a4 a5 b1 b2 : Int) (w : World) (h1 : ¬ b1 < 0) (h2 : ¬ 1 < b1) (h3 : b2 < 0) :
    Calls Try.prog 51 #[.agg #[.int .i64 a0, .int .i64 a1, .int .i64 a2, .int .i64 a3, .int .i64 a4, .int .i64 a5], .agg #[.int .i64 3, .int .i64 b1, .int .i64 b2]] w fun e w' => e = .returned (.tuple #[.agg #[.int .i64 a0, .int .i64 a1, .int .i64 a2, .int .i64 a3, .int .i64 a4, .int .i64 a5], .bool false]) ∧ Below w.heap.size w w' := by
  have hu71 := Try.underlying71
  have hu25 := Try.underlying25
  replace h1 : 0 ≤ b1 := Int.not_lt.mp h1
  replace h2 : b1 ≤ 1 := Int.not_lt.mp h2
  go_enter Try.func51, Try.ntmps51
  go_wp2
  (try (go_region; all_goals go_wp2))
  (try (go_region; all_goals go_wp2))
  all_goals first
    | (refine bodyPost_ret (v := .tuple #[.agg #[.int .i64 a0, .int .i64 a1, .int .i64 a2, .int .i64 a3, .int .i64 a4, .int .i64 a5], .bool false]) ?_ rfl ⟨rfl, ?_⟩
       · (simp [results, Try.results51, go_sem]; done)
       · (repeat (first | exact Below.refl _ _ | apply below_alloc | apply pw_below_drewN | apply below_drew1)))
    | (exfalso; simp_all; done)
    | (exfalso; simp_all; omega)
set_option maxHeartbeats 1000000 in
set_option maxRecDepth 100000 in
theorem spec_Follows.k3d (a0 a1 a2 a3 a4 a5 b1 b2 : Int) (w : World) (h1 : ¬ b1 < 0) (h2 : ¬ 1 < b1) (h3 : ¬ b2 < 0) (h4 : 1024 < b2) :
    Calls Try.prog 51 #[.agg #[.int .i64 a0, .int .i64 a1, .int .i64 a2, .int .i64 a3, .int .i64 a4, .int .i64 a5], .agg #[.int .i64 3, .int .i64 b1, .int .i64 b2]] w fun e w' => e = .returned (.tuple #[.agg #[.int .i64 a0, .int .i64 a1, .int .i64 a2, .int .i64 a3, .int .i64 a4, .int .i64 a5], .bool false]) ∧ Below w.heap.size w w' := by
  have hu71 := Try.underlying71
  have hu25 := Try.underlying25
  replace h1 : 0 ≤ b1 := Int.not_lt.mp h1
  replace h2 : b1 ≤ 1 := Int.not_lt.mp h2
  replace h3 : 0 ≤ b2 := Int.not_lt.mp h3
  go_enter Try.func51, Try.ntmps51
  go_wp2
  (try (go_region; all_goals go_wp2))
  (try (go_region; all_goals go_wp2))
  all_goals first
    | (refine bodyPost_ret (v := .tuple #[.agg #[.int .i64 a0, .int .i64 a1, .int .i64 a2, .int .i64 a3, .int .i64 a4, .int .i64 a5], .bool false]) ?_ rfl ⟨rfl, ?_⟩
       · (simp [results, Try.results51, go_sem]; done)
       · (repeat (first | exact Below.refl _ _ | apply below_alloc | apply pw_below_drewN | apply below_drew1)))
    | (exfalso; simp_all; done)
    | (exfalso; simp_all; omega)
set_option maxHeartbeats 1000000 in
set_option maxRecDepth 100000 in
theorem spec_Follows.k2k (a0 a1 a2 a3 a4 a5 b1 b2 : Int) (w : World) (h1 : ¬ b1 < 0) (h2 : ¬ 1 < b1) (h3 : ¬ b2 < 0) (h4 : ¬ 1024 < b2) :
    Calls Try.prog 51 #[.agg #[.int .i64 a0, .int .i64 a1, .int .i64 a2, .int .i64 a3, .int .i64 a4, .int .i64 a5], .agg #[.int .i64 2, .int .i64 b1, .int .i64 b2]] w fun e w' => e = .returned (.tuple #[.agg #[.int .i64 a0, .int .i64 b1, .int .i64 b2, .int .i64 (-1), .int .i64 0, .int .i64 0], .bool true]) ∧ Below w.heap.size w w' := by
  have hu71 := Try.underlying71
  have hu25 := Try.underlying25
  replace h1 : 0 ≤ b1 := Int.not_lt.mp h1
  replace h2 : b1 ≤ 1 := Int.not_lt.mp h2
  replace h3 : 0 ≤ b2 := Int.not_lt.mp h3
  replace h4 : b2 ≤ 1024 := Int.not_lt.mp h4
  go_enter Try.func51, Try.ntmps51
  go_wp2
  (try (go_region; all_goals go_wp2))
  (try (go_region; all_goals go_wp2))
  all_goals first
    | (refine bodyPost_ret (v := .tuple #[.agg #[.int .i64 a0, .int .i64 b1, .int .i64 b2, .int .i64 (-1), .int .i64 0, .int .i64 0], .bool true]) ?_ rfl ⟨rfl, ?_⟩
       · (simp [results, Try.results51, go_sem]; done)
       · (repeat (first | exact Below.refl _ _ | apply below_alloc | apply pw_below_drewN | apply below_drew1)))
    | (exfalso; simp_all; done)
    | (exfalso; simp_all; omega)
set_option maxHeartbeats 1000000 in
set_option maxRecDepth 100000 in
theorem spec_Follows.k3e (a0 a1 a2 a3 a4 a5 b1 b2 : Int) (w : World) (h1 : ¬ b1 < 0) (h2 : ¬ 1 < b1) (h3 : ¬ b2 < 0) (h4 : ¬ 1024 < b2) (h5 : ¬ a3 = -1) :
    Calls Try.prog 51 #[.agg #[.int .i64 a0, .int .i64 a1, .int .i64 a2, .int .i64 a3, .int .i64 a4, .int .i64 a5], .agg #[.int .i64 3, .int .i64 b1, .int .i64 b2]] w fun e w' => e = .returned (.tuple #[.agg #[.int .i64 a0, .int .i64 a1, .int .i64 a2, .int .i64 a3, .int .i64 a4, .int .i64 a5], .bool false]) ∧ Below w.heap.size w w' := by
  have hu71 := Try.underlying71
  have hu25 := Try.underlying25
  replace h1 : 0 ≤ b1 := Int.not_lt.mp h1
  replace h2 : b1 ≤ 1 := Int.not_lt.mp h2
  replace h3 : 0 ≤ b2 := Int.not_lt.mp h3
  replace h4 : b2 ≤ 1024 := Int.not_lt.mp h4
  go_enter Try.func51, Try.ntmps51
  go_wp2
  (try (go_region; all_goals go_wp2))
  (try (go_region; all_goals go_wp2))
  all_goals first
    | (refine bodyPost_ret (v := .tuple #[.agg #[.int .i64 a0, .int .i64 a1, .int .i64 a2, .int .i64 a3, .int .i64 a4, .int .i64 a5], .bool false]) ?_ rfl ⟨rfl, ?_⟩
       · (simp [results, Try.results51, go_sem]; done)
       · (repeat (first | exact Below.refl _ _ | apply below_alloc | apply pw_below_drewN | apply below_drew1)))
    | (exfalso; simp_all; done)
    | (exfalso; simp_all; omega)
set_option maxHeartbeats 1000000 in
set_option maxRecDepth 100000 in
theorem spec_Follows.k3f (a0 a1 a2 a3 a4 a5 b1 b2 : Int) (w : World) (h1 : ¬ b1 < 0) (h2 : ¬ 1 < b1) (h3 : ¬ b2 < 0) (h4 : ¬ 1024 < b2) (h5 : a3 = -1) (h6 : b1 = a1) :
    Calls Try.prog 51 #[.agg #[.int .i64 a0, .int .i64 a1, .int .i64 a2, .int .i64 a3, .int .i64 a4, .int .i64 a5], .agg #[.int .i64 3, .int .i64 b1, .int .i64 b2]] w fun e w' => e = .returned (.tuple #[.agg #[.int .i64 a0, .int .i64 a1, .int .i64 a2, .int .i64 a3, .int .i64 a4, .int .i64 a5], .bool false]) ∧ Below w.heap.size w w' := by
  have hu71 := Try.underlying71
  have hu25 := Try.underlying25
  replace h1 : 0 ≤ b1 := Int.not_lt.mp h1
  replace h2 : b1 ≤ 1 := Int.not_lt.mp h2
  replace h3 : 0 ≤ b2 := Int.not_lt.mp h3
  replace h4 : b2 ≤ 1024 := Int.not_lt.mp h4
  subst h5
  subst h6
  go_enter Try.func51, Try.ntmps51
  go_wp2
  (try (go_region; all_goals go_wp2))
  (try (go_region; all_goals go_wp2))
  all_goals first
    | (refine bodyPost_ret (v := .tuple #[.agg #[.int .i64 a0, .int .i64 b1, .int .i64 a2, .int .i64 (-1), .int .i64 a4, .int .i64 a5], .bool false]) ?_ rfl ⟨rfl, ?_⟩
       · (simp [results, Try.results51, go_sem]; done)
       · (repeat (first | exact Below.refl _ _ | apply below_alloc | apply pw_below_drewN | apply below_drew1)))
    | (exfalso; simp_all; done)
    | (exfalso; simp_all; omega)
set_option maxHeartbeats 1000000 in
set_option maxRecDepth 100000 in
theorem spec_Follows.k3k (a0 a1 a2 a3 a4 a5 b1 b2 : Int) (w : World) (h1 : ¬ b1 < 0) (h2 : ¬ 1 < b1) (h3 : ¬ b2 < 0) (h4 : ¬ 1024 < b2) (h5 : a3 = -1) (h6 : ¬ b1 = a1) :
    Calls Try.prog 51 #[.agg #[.int .i64 a0, .int .i64 a1, .int .i64 a2, .int .i64 a3, .int .i64 a4, .int .i64 a5], .agg #[.int .i64 3, .int .i64 b1, .int .i64 b2]] w fun e w' => e = .returned (.tuple #[.agg #[.int .i64 a0, .int .i64 a1, .int .i64 a2, .int .i64 b1, .int .i64 b2, .int .i64 3], .bool true]) ∧ Below w.heap.size w w' := by
  have hu71 := Try.underlying71
  have hu25 := Try.underlying25
  replace h1 : 0 ≤ b1 := Int.not_lt.mp h1
  replace h2 : b1 ≤ 1 := Int.not_lt.mp h2
  replace h3 : 0 ≤ b2 := Int.not_lt.mp h3
  replace h4 : b2 ≤ 1024 := Int.not_lt.mp h4
  subst h5
  go_enter Try.func51, Try.ntmps51
  go_wp2
  (try (go_region; all_goals go_wp2))
  (try (go_region; all_goals go_wp2))
  all_goals first
    | (refine bodyPost_ret (v := .tuple #[.agg #[.int .i64 a0, .int .i64 a1, .int .i64 a2, .int .i64 b1, .int .i64 b2, .int .i64 3], .bool true]) ?_ rfl ⟨rfl, ?_⟩
       · (simp [results, Try.results51, go_sem]; done)
       · (repeat (first | exact Below.refl _ _ | apply below_alloc | apply pw_below_drewN | apply below_drew1)))
    | (exfalso; simp_all; done)
    | (exfalso; simp_all; omega)
set_option maxHeartbeats 1000000 in
set_option maxRecDepth 100000 in
theorem spec_Follows.k4a (a0 a1 a2 a3 a4 a5 b1 b2 : Int) (w : World) (h1 : ¬ b1 = 0) :
    Calls Try.prog 51 #[.agg #[.int .i64 a0, .int .i64 a1, .int .i64 a2, .int .i64 a3, .int .i64 a4, .int .i64 a5], .agg #[.int .i64 4, .int .i64 b1, .int .i64 b2]] w fun e w' => e = .returned (.tuple #[.agg #[.int .i64 a0, .int .i64 a1, .int .i64 a2, .int .i64 a3, .int .i64 a4, .int .i64 a5], .bool false]) ∧ Below w.heap.size w w' := by
  have hu71 := Try.underlying71
  have hu25 := Try.underlying25
  go_enter Try.func51, Try.ntmps51
  go_wp2
  (try (go_region; all_goals go_wp2))
  (try (go_region; all_goals go_wp2))
  all_goals first
    | (refine bodyPost_ret (v := .tuple #[.agg #[.int .i64 a0, .int .i64 a1, .int .i64 a2, .int .i64 a3, .int .i64 a4, .int .i64 a5], .bool false]) ?_ rfl ⟨rfl, ?_⟩
       · (simp [results, Try.results51, go_sem]; done)
       · (repeat (first | exact Below.refl _ _ | apply below_alloc | apply pw_below_drewN | apply below_drew1)))
    | (exfalso; simp_all; done)
    | (exfalso; simp_all; omega)
set_option maxHeartbeats 1000000 in
set_option maxRecDepth 100000 in
theorem spec_Follows.k4b (a0 a1 a2 a3 a4 a5 b1 b2 : Int) (w : World) (h1 : b1 = 0) (h2 : ¬ b2 = 0) :
    Calls Try.prog 51 #[.agg #[.int .i64 a0, .int .i64 a1, .int .i64 a2, .int .i64 a3, .int .i64 a4, .int .i64 a5], .agg #[.int .i64 4, .int .i64 b1, .int .i64 b2]] w fun e w' => e = .returned (.tuple #[.agg #[.int .i64 a0, .int .i64 a1, .int .i64 a2, .int .i64 a3, .int .i64 a4, .int .i64 a5], .bool false]) ∧ Below w.heap.size w w' := by
  have hu71 := Try.underlying71
  have hu25 := Try.underlying25
  subst h1
  go_enter Try.func51, Try.ntmps51
  go_wp2
  (try (go_region; all_goals go_wp2))
  (try (go_region; all_goals go_wp2))
  all_goals first
    | (refine bodyPost_ret (v := .tuple #[.agg #[.int .i64 a0, .int .i64 a1, .int .i64 a2, .int .i64 a3, .int .i64 a4, .int .i64 a5], .bool false]) ?_ rfl ⟨rfl, ?_⟩
       · (simp [results, Try.results51, go_sem]; done)
       · (repeat (first | exact Below.refl _ _ | apply below_alloc | apply pw_below_drewN | apply below_drew1)))
    | (exfalso; simp_all; done)
    | (exfalso; simp_all; omega)
set_option maxHeartbeats 1000000 in
set_option maxRecDepth 100000 in
theorem spec_Follows.k4c (a0 a1 a2 a3 a4 a5 b1 b2 : Int) (w : World) (h1 : b1 = 0) (h2 : b2 = 0) (h3 : a3 = -1) :
    Calls Try.prog 51 #[.agg #[.int .i64 a0, .int .i64 a1, .int .i64 a2, .int .i64 a3, .int .i64 a4, .int .i64 a5], .agg #[.int .i64 4, .int .i64 b1, .int .i64 b2]] w fun e w' => e = .returned (.tuple #[.agg #[.int .i64 a0, .int .i64 a1, .int .i64 a2, .int .i64 a3, .int .i64 a4, .int .i64 a5], .bool false]) ∧ Below w.heap.size w w' := by
  have hu71 := Try.underlying71
  have hu25 := Try.underlying25
  subst h1
  subst h2
  subst h3
  go_enter Try.func51, Try.ntmps51
  go_wp2
  (try (go_region; all_goals go_wp2))
  (try (go_region; all_goals go_wp2))
  all_goals first
    | (refine bodyPost_ret (v := .tuple #[.agg #[.int .i64 a0, .int .i64 a1, .int .i64 a2, .int .i64 (-1), .int .i64 a4, .int .i64 a5], .bool false]) ?_ rfl ⟨rfl, ?_⟩
       · (simp [results, Try.results51, go_sem]; done)
       · (repeat (first | exact Below.refl _ _ | apply below_alloc | apply pw_below_drewN | apply below_drew1)))
    | (exfalso; simp_all; done)
    | (exfalso; simp_all; omega)
set_option maxHeartbeats 1000000 in
set_option maxRecDepth 100000 in
theorem spec_Follows.k5a (a0 a1 a2 a3 a4 a5 b1 b2 : Int) (w : World) (h1 : ¬ b1 = 0) :
    Calls Try.prog 51 #[.agg #[.int .i64 a0, .int .i64 a1, .int .i64 a2, .int .i64 a3, .int .i64 a4, .int .i64 a5], .agg #[.int .i64 5, .int .i64 b1, .int .i64 b2]] w fun e w' => e = .returned (.tuple #[.agg #[.int .i64 a0, .int .i64 a1, .int .i64 a2, .int .i64 a3, .int .i64 a4, .int .i64 a5], .bool false]) ∧ Below w.heap.size w w' := by
  have hu71 := Try.underlying71
  have hu25 := Try.underlying25
  go_enter Try.func51, Try.ntmps51
  go_wp2
  (try (go_region; all_goals go_wp2))
  (try (go_region; all_goals go_wp2))
  all_goals first
    | (refine bodyPost_ret (v := .tuple #[.agg #[.int .i64 a0, .int .i64 a1, .int .i64 a2, .int .i64 a3, .int .i64 a4, .int .i64 a5], .bool false]) ?_ rfl ⟨rfl, ?_⟩
       · (simp [results, Try.results51, go_sem]; done)
       · (repeat (first | exact Below.refl _ _ | apply below_alloc | apply pw_below_drewN | apply below_drew1)))
    | (exfalso; simp_all; done)
    | (exfalso; simp_all; omega)
set_option maxHeartbeats 1000000 in
set_option maxRecDepth 100000 in
theorem spec_Follows.k5b (a0 a1 a2 a3 a4 a5 b1 b2 : Int) (w : World) (h1 : b1 = 0) (h2 : ¬ b2 = 0) :
    Calls Try.prog 51 #[.agg #[.int .i64 a0, .int .i64 a1, .int .i64 a2, .int .i64 a3, .int .i64 a4, .int .i64 a5], .agg #[.int .i64 5, .int .i64 b1, .int .i64 b2]] w fun e w' => e = .returned (.tuple #[.agg #[.int .i64 a0, .int .i64 a1, .int .i64 a2, .int .i64 a3, .int .i64 a4, .int .i64 a5], .bool false]) ∧ Below w.heap.size w w' := by
  have hu71 := Try.underlying71
  have hu25 := Try.underlying25
  subst h1
  go_enter Try.func51, Try.ntmps51
  go_wp2
  (try (go_region; all_goals go_wp2))
  (try (go_region; all_goals go_wp2))
  all_goals first
    | (refine bodyPost_ret (v := .tuple #[.agg #[.int .i64 a0, .int .i64 a1, .int .i64 a2, .int .i64 a3, .int .i64 a4, .int .i64 a5], .bool false]) ?_ rfl ⟨rfl, ?_⟩
       · (simp [results, Try.results51, go_sem]; done)
       · (repeat (first | exact Below.refl _ _ | apply below_alloc | apply pw_below_drewN | apply below_drew1)))
    | (exfalso; simp_all; done)
    | (exfalso; simp_all; omega)
set_option maxHeartbeats 1000000 in
set_option maxRecDepth 100000 in
theorem spec_Follows.k5c (a0 a1 a2 a3 a4 a5 b1 b2 : Int) (w : World) (h1 : b1 = 0) (h2 : b2 = 0) (h3 : a3 = -1) :
    Calls Try.prog 51 #[.agg #[.int .i64 a0, .int .i64 a1, .int .i64 a2, .int .i64 a3, .int .i64 a4, .int .i64 a5], .agg #[.int .i64 5, .int .i64 b1, .int .i64 b2]] w fun e w' => e = .returned (.tuple #[.agg #[.int .i64 a0, .int .i64 a1, .int .i64 a2, .int .i64 a3, .int .i64 a4, .int .i64 a5], .bool false]) ∧ Below w.heap.size w w' := by
  have hu71 := Try.underlying71
  have hu25 := Try.underlying25
  subst h1
  subst h2
  subst h3
  go_enter Try.func51, Try.ntmps51
  go_wp2
  (try (go_region; all_goals go_wp2))
  (try (go_region; all_goals go_wp2))
  all_goals first
    | (refine bodyPost_ret (v := .tuple #[.agg #[.int .i64 a0, .int .i64 a1, .int .i64 a2, .int .i64 (-1), .int .i64 a4, .int .i64 a5], .bool false]) ?_ rfl ⟨rfl, ?_⟩
       · (simp [results, Try.results51, go_sem]; done)
       · (repeat (first | exact Below.refl _ _ | apply below_alloc | apply pw_below_drewN | apply below_drew1)))
    | (exfalso; simp_all; done)
    | (exfalso; simp_all; omega)
set_option maxHeartbeats 1000000 in
set_option maxRecDepth 100000 in
theorem spec_Follows.k4d (a0 a1 a2 a3 a4 a5 b1 b2 : Int) (w : World) (h1 : b1 = 0) (h2 : b2 = 0) (h3 : ¬ a3 = -1) (h4 : ¬ 0 < a5) :
    Calls Try.prog 51 #[.agg #[.int .i64 a0, .int .i64 a1, .int .i64 a2, .int .i64 a3, .int .i64 a4, .int .i64 a5], .agg #[.int .i64 4, .int .i64 b1, .int .i64 b2]] w fun e w' => e = .returned (.tuple #[.agg #[.int .i64 a0, .int .i64 a1, .int .i64 a2, .int .i64 a3, .int .i64 a4, .int .i64 a5], .bool false]) ∧ Below w.heap.size w w' := by
  have hu71 := Try.underlying71
  have hu25 := Try.underlying25
  replace h4 : a5 ≤ 0 := Int.not_lt.mp h4
  subst h1
  subst h2
  go_enter Try.func51, Try.ntmps51
  go_wp2
  (try (go_region; all_goals go_wp2))
  (try (go_region; all_goals go_wp2))
  all_goals first
    | (refine bodyPost_ret (v := .tuple #[.agg #[.int .i64 a0, .int .i64 a1, .int .i64 a2, .int .i64 a3, .int .i64 a4, .int .i64 a5], .bool false]) ?_ rfl ⟨rfl, ?_⟩
       · (simp [results, Try.results51, go_sem]; done)
       · (repeat (first | exact Below.refl _ _ | apply below_alloc | apply pw_below_drewN | apply below_drew1)))
    | (exfalso; simp_all; done)
    | (exfalso; simp_all; omega)
set_option maxHeartbeats 1000000 in
set_option maxRecDepth 100000 in
theorem spec_Follows.k4k (a0 a1 a2 a3 a4 a5 b1 b2 : Int) (w : World) (h1 : b1 = 0) (h2 : b2 = 0) (h3 : ¬ a3 = -1) (h4 : 0 < a5) :
    Calls Try.prog 51 #[.agg #[.int .i64 a0, .int .i64 a1, .int .i64 a2, .int .i64 a3, .int .i64 a4, .int .i64 a5], .agg #[.int .i64 4, .int .i64 b1, .int .i64 b2]] w fun e w' => e = .returned (.tuple #[.agg #[.int .i64 a0, .int .i64 a1, .int .i64 a2, .int .i64 a3, .int .i64 a4, .int .i64 (wrap64 (a5 - 1))], .bool true]) ∧ Below w.heap.size w w' := by
  have hu71 := Try.underlying71
  have hu25 := Try.underlying25
  subst h1
  subst h2
  go_enter Try.func51, Try.ntmps51
  go_wp2
  (try (go_region; all_goals go_wp2))
  (try (go_region; all_goals go_wp2))
  all_goals first
    | (refine bodyPost_ret (v := .tuple #[.agg #[.int .i64 a0, .int .i64 a1, .int .i64 a2, .int .i64 a3, .int .i64 a4, .int .i64 (wrap64 (a5 - 1))], .bool true]) ?_ rfl ⟨rfl, ?_⟩
       · (simp [results, Try.results51, go_sem]; done)
       · (repeat (first | exact Below.refl _ _ | apply below_alloc | apply pw_below_drewN | apply below_drew1)))
    | (exfalso; simp_all; done)
    | (exfalso; simp_all; omega)
set_option maxHeartbeats 1000000 in
set_option maxRecDepth 100000 in
theorem spec_Follows.k5k (a0 a1 a2 a3 a4 a5 b1 b2 : Int) (w : World) (h1 : b1 = 0) (h2 : b2 = 0) (h3 : ¬ a3 = -1) :
    Calls Try.prog 51 #[.agg #[.int .i64 a0, .int .i64 a1, .int .i64 a2, .int .i64 a3, .int .i64 a4, .int .i64 a5], .agg #[.int .i64 5, .int .i64 b1, .int .i64 b2]] w fun e w' => e = .returned (.tuple #[.agg #[.int .i64 a0, .int .i64 a1, .int .i64 a2, .int .i64 (-1), .int .i64 0, .int .i64 0], .bool true]) ∧ Below w.heap.size w w' := by
  have hu71 := Try.underlying71
  have hu25 := Try.underlying25
  subst h1
  subst h2
  go_enter Try.func51, Try.ntmps51
  go_wp2
  (try (go_region; all_goals go_wp2))
  (try (go_region; all_goals go_wp2))
  all_goals first
    | (refine bodyPost_ret (v := .tuple #[.agg #[.int .i64 a0, .int .i64 a1, .int .i64 a2, .int .i64 (-1), .int .i64 0, .int .i64 0], .bool true]) ?_ rfl ⟨rfl, ?_⟩
       · (simp [results, Try.results51, go_sem]; done)
       · (repeat (first | exact Below.refl _ _ | apply below_alloc | apply pw_below_drewN | apply below_drew1)))
    | (exfalso; simp_all; done)
    | (exfalso; simp_all; omega)
set_option maxHeartbeats 1000000 in
set_option maxRecDepth 100000 in
theorem spec_Follows.k0 (a0 a1 a2 a3 a4 a5 b0 b1 b2 : Int) (w : World) (h1 : ¬ b0 = 1) (h2 : ¬ b0 = 2) (h3 : ¬ b0 = 3) (h4 : ¬ b0 = 4) (h5 : ¬ b0 = 5) :
    Calls Try.prog 51 #[.agg #[.int .i64 a0, .int .i64 a1, .int .i64 a2, .int .i64 a3, .int .i64 a4, .int .i64 a5], .agg #[.int .i64 b0, .int .i64 b1, .int .i64 b2]] w fun e w' => e = .returned (.tuple #[.agg #[.int .i64 a0, .int .i64 a1, .int .i64 a2, .int .i64 a3, .int .i64 a4, .int .i64 a5], .bool false]) ∧ Below w.heap.size w w' := by
  have hu71 := Try.underlying71
  have hu25 := Try.underlying25
  go_enter Try.func51, Try.ntmps51
  go_wp2
  (try (go_region; all_goals go_wp2))
  (try (go_region; all_goals go_wp2))
  all_goals first
    | (refine bodyPost_ret (v := .tuple #[.agg #[.int .i64 a0, .int .i64 a1, .int .i64 a2, .int .i64 a3, .int .i64 a4, .int .i64 a5], .bool false]) ?_ rfl ⟨rfl, ?_⟩
       · (simp [results, Try.results51, go_sem]; done)
       · (repeat (first | exact Below.refl _ _ | apply below_alloc | apply pw_below_drewN | apply below_drew1)))
    | (exfalso; simp_all; done)
    | (exfalso; simp_all; omega)
def spec_Follows.f (a0 a1 a2 a3 a4 a5 b0 b1 b2 : Int) : Option (Int × Int × Int × Int × Int × Int × Bool) := some (if b0 = 1 then (if b1 = 0 then (if b2 < 1 then (a0, a1, a2, a3, a4, a5, false) else (if 1000000 < b2 then (a0, a1, a2, a3, a4, a5, false) else (a0, a1, a2, a3, a4, a5, false))) else (a0, a1, a2, a3, a4, a5, false)) else (if b0 = 2 then (if b1 < 0 then (a0, a1, a2, a3, a4, a5, false) else (if 1 < b1 then (a0, a1, a2, a3, a4, a5, false) else (if b2 < 0 then (a0, a1, a2, a3, a4, a5, false) else (if 1024 < b2 then (a0, a1, a2, a3, a4, a5, false) else (a0, b1, b2, (-1), 0, 0, true))))) else (if b0 = 3 then (if b1 < 0 then (a0, a1, a2, a3, a4, a5, false) else (if 1 < b1 then (a0, a1, a2, a3, a4, a5, false) else (if b2 < 0 then (a0, a1, a2, a3, a4, a5, false) else (if 1024 < b2 then (a0, a1, a2, a3, a4, a5, false) else (if a3 = -1 then (if b1 = a1 then (a0, a1, a2, a3, a4, a5, false) else (a0, a1, a2, b1, b2, 3, true)) else (a0, a1, a2, a3, a4, a5, false)))))) else (if b0 = 4 then (if b1 = 0 then (if b2 = 0 then (if a3 = -1 then (a0, a1, a2, a3, a4, a5, false) else (if 0 < a5 then (a0, a1, a2, a3, a4, (wrap64 (a5 - 1)), true) else (a0, a1, a2, a3, a4, a5, false))) else (a0, a1, a2, a3, a4, a5, false)) else (a0, a1, a2, a3, a4, a5, false)) else (if b0 = 5 then (if b1 = 0 then (if b2 = 0 then (if a3 = -1 then (a0, a1, a2, a3, a4, a5, false) else (a0, a1, a2, (-1), 0, 0, true)) else (a0, a1, a2, a3, a4, a5, false)) else (a0, a1, a2, a3, a4, a5, false)) else (a0, a1, a2, a3, a4, a5, false))))))
theorem spec_Follows.calls (a0 a1 a2 a3 a4 a5 b0 b1 b2 r1 r2 r3 r4 r5 r6 : Int) (r7 : Bool) (w : World) (h : spec_Follows.f a0 a1 a2 a3 a4 a5 b0 b1 b2 = some (r1, r2, r3, r4, r5, r6, r7)) :
    Calls Try.prog 51 #[.agg #[.int .i64 a0, .int .i64 a1, .int .i64 a2, .int .i64 a3, .int .i64 a4, .int .i64 a5], .agg #[.int .i64 b0, .int .i64 b1, .int .i64 b2]] w fun e w' => e = .returned (.tuple #[.agg #[.int .i64 r1, .int .i64 r2, .int .i64 r3, .int .i64 r4, .int .i64 r5, .int .i64 r6], .bool r7]) ∧ Below w.heap.size w w' := by
  unfold spec_Follows.f at h
  replace h := Option.some.inj h
  by_cases c1 : b0 = 1
  · rw [if_pos c1] at h
    subst c1
    by_cases c2 : b1 = 0
    · rw [if_pos c2] at h
      by_cases c3 : b2 < 1
      · rw [if_pos c3] at h
        simp only [Prod.mk.injEq] at h
        obtain ⟨rfl, rfl, rfl, rfl, rfl, rfl, rfl⟩ := h
        exact spec_Follows.k1l _ _ _ _ _ _ _ _ w c2 c3
      · rw [if_neg c3] at h
        by_cases c4 : 1000000 < b2
        · rw [if_pos c4] at h
          simp only [Prod.mk.injEq] at h
          obtain ⟨rfl, rfl, rfl, rfl, rfl, rfl, rfl⟩ := h
          exact spec_Follows.k1h _ _ _ _ _ _ _ _ w c2 c3 c4
        · rw [if_neg c4] at h
          simp only [Prod.mk.injEq] at h
          obtain ⟨rfl, rfl, rfl, rfl, rfl, rfl, rfl⟩ := h
          exact spec_Follows.k1k _ _ _ _ _ _ _ _ w c2 c3 c4
    · rw [if_neg c2] at h
      simp only [Prod.mk.injEq] at h
      obtain ⟨rfl, rfl, rfl, rfl, rfl, rfl, rfl⟩ := h
      exact spec_Follows.k1s _ _ _ _ _ _ _ _ w c2
  · rw [if_neg c1] at h
    by_cases c5 : b0 = 2
    · rw [if_pos c5] at h
      subst c5
      by_cases c6 : b1 < 0
      · rw [if_pos c6] at h
        simp only [Prod.mk.injEq] at h
        obtain ⟨rfl, rfl, rfl, rfl, rfl, rfl, rfl⟩ := h
        exact spec_Follows.k2a _ _ _ _ _ _ _ _ w c6
      · rw [if_neg c6] at h
        by_cases c7 : 1 < b1
        · rw [if_pos c7] at h
          simp only [Prod.mk.injEq] at h
          obtain ⟨rfl, rfl, rfl, rfl, rfl, rfl, rfl⟩ := h
          exact spec_Follows.k2b _ _ _ _ _ _ _ _ w c6 c7
        · rw [if_neg c7] at h
          by_cases c8 : b2 < 0
          · rw [if_pos c8] at h
            simp only [Prod.mk.injEq] at h
            obtain ⟨rfl, rfl, rfl, rfl, rfl, rfl, rfl⟩ := h
            exact spec_Follows.k2c _ _ _ _ _ _ _ _ w c6 c7 c8
          · rw [if_neg c8] at h
            by_cases c9 : 1024 < b2
            · rw [if_pos c9] at h
              simp only [Prod.mk.injEq] at h
              obtain ⟨rfl, rfl, rfl, rfl, rfl, rfl, rfl⟩ := h
              exact spec_Follows.k2d _ _ _ _ _ _ _ _ w c6 c7 c8 c9
            · rw [if_neg c9] at h
              simp only [Prod.mk.injEq] at h
              obtain ⟨rfl, rfl, rfl, rfl, rfl, rfl, rfl⟩ := h
              exact spec_Follows.k2k _ _ _ _ _ _ _ _ w c6 c7 c8 c9
    · rw [if_neg c5] at h
      by_cases c10 : b0 = 3
      · rw [if_pos c10] at h
        subst c10
        by_cases c11 : b1 < 0
        · rw [if_pos c11] at h
          simp only [Prod.mk.injEq] at h
          obtain ⟨rfl, rfl, rfl, rfl, rfl, rfl, rfl⟩ := h
          exact spec_Follows.k3a _ _ _ _ _ _ _ _ w c11
        · rw [if_neg c11] at h
          by_cases c12 : 1 < b1
          · rw [if_pos c12] at h
            simp only [Prod.mk.injEq] at h
            obtain ⟨rfl, rfl, rfl, rfl, rfl, rfl, rfl⟩ := h
            exact spec_Follows.k3b _ _ _ _ _ _ _ _ w c11 c12
          · rw [if_neg c12] at h
            by_cases c13 : b2 < 0
            · rw [if_pos c13] at h
              simp only [Prod.mk.injEq] at h
              obtain ⟨rfl, rfl, rfl, rfl, rfl, rfl, rfl⟩ := h
              exact spec_Follows.k3c _ _ _ _ _ _ _ _ w c11 c12 c13
            · rw [if_neg c13] at h
              by_cases c14 : 1024 < b2
              · rw [if_pos c14] at h
                simp only [Prod.mk.injEq] at h
                obtain ⟨rfl, rfl, rfl, rfl, rfl, rfl, rfl⟩ := h
                exact spec_Follows.k3d _ _ _ _ _ _ _ _ w c11 c12 c13 c14
              · rw [if_neg c14] at h
                by_cases c15 : a3 = -1
                · rw [if_pos c15] at h
                  by_cases c16 : b1 = a1
                  · rw [if_pos c16] at h
                    simp only [Prod.mk.injEq] at h
                    obtain ⟨rfl, rfl, rfl, rfl, rfl, rfl, rfl⟩ := h
                    exact spec_Follows.k3f _ _ _ _ _ _ _ _ w c11 c12 c13 c14 c15 c16
                  · rw [if_neg c16] at h
                    simp only [Prod.mk.injEq] at h
                    obtain ⟨rfl, rfl, rfl, rfl, rfl, rfl, rfl⟩ := h
                    exact spec_Follows.k3k _ _ _ _ _ _ _ _ w c11 c12 c13 c14 c15 c16
                · rw [if_neg c15] at h
                  simp only [Prod.mk.injEq] at h
                  obtain ⟨rfl, rfl, rfl, rfl, rfl, rfl, rfl⟩ := h
                  exact spec_Follows.k3e _ _ _ _ _ _ _ _ w c11 c12 c13 c14 c15
      · rw [if_neg c10] at h
        by_cases c17 : b0 = 4
        · rw [if_pos c17] at h
          subst c17
          by_cases c18 : b1 = 0
          · rw [if_pos c18] at h
            by_cases c19 : b2 = 0
            · rw [if_pos c19] at h
              by_cases c20 : a3 = -1
              · rw [if_pos c20] at h
                simp only [Prod.mk.injEq] at h
                obtain ⟨rfl, rfl, rfl, rfl, rfl, rfl, rfl⟩ := h
                exact spec_Follows.k4c _ _ _ _ _ _ _ _ w c18 c19 c20
              · rw [if_neg c20] at h
                by_cases c21 : 0 < a5
                · rw [if_pos c21] at h
                  simp only [Prod.mk.injEq] at h
                  obtain ⟨rfl, rfl, rfl, rfl, rfl, rfl, rfl⟩ := h
                  exact spec_Follows.k4k _ _ _ _ _ _ _ _ w c18 c19 c20 c21
                · rw [if_neg c21] at h
                  simp only [Prod.mk.injEq] at h
                  obtain ⟨rfl, rfl, rfl, rfl, rfl, rfl, rfl⟩ := h
                  exact spec_Follows.k4d _ _ _ _ _ _ _ _ w c18 c19 c20 c21
            · rw [if_neg c19] at h
              simp only [Prod.mk.injEq] at h
              obtain ⟨rfl, rfl, rfl, rfl, rfl, rfl, rfl⟩ := h
              exact spec_Follows.k4b _ _ _ _ _ _ _ _ w c18 c19
          · rw [if_neg c18] at h
            simp only [Prod.mk.injEq] at h
            obtain ⟨rfl, rfl, rfl, rfl, rfl, rfl, rfl⟩ := h
            exact spec_Follows.k4a _ _ _ _ _ _ _ _ w c18
        · rw [if_neg c17] at h
          by_cases c22 : b0 = 5
          · rw [if_pos c22] at h
            subst c22
            by_cases c23 : b1 = 0
            · rw [if_pos c23] at h
              by_cases c24 : b2 = 0
              · rw [if_pos c24] at h
                by_cases c25 : a3 = -1
                · rw [if_pos c25] at h
                  simp only [Prod.mk.injEq] at h
                  obtain ⟨rfl, rfl, rfl, rfl, rfl, rfl, rfl⟩ := h
                  exact spec_Follows.k5c _ _ _ _ _ _ _ _ w c23 c24 c25
                · rw [if_neg c25] at h
                  simp only [Prod.mk.injEq] at h
                  obtain ⟨rfl, rfl, rfl, rfl, rfl, rfl, rfl⟩ := h
                  exact spec_Follows.k5k _ _ _ _ _ _ _ _ w c23 c24 c25
              · rw [if_neg c24] at h
                simp only [Prod.mk.injEq] at h
                obtain ⟨rfl, rfl, rfl, rfl, rfl, rfl, rfl⟩ := h
                exact spec_Follows.k5b _ _ _ _ _ _ _ _ w c23 c24
            · rw [if_neg c23] at h
              simp only [Prod.mk.injEq] at h
              obtain ⟨rfl, rfl, rfl, rfl, rfl, rfl, rfl⟩ := h
              exact spec_Follows.k5a _ _ _ _ _ _ _ _ w c23
          · rw [if_neg c22] at h
            simp only [Prod.mk.injEq] at h
            obtain ⟨rfl, rfl, rfl, rfl, rfl, rfl, rfl⟩ := h
            exact spec_Follows.k0 _ _ _ _ _ _ _ _ _ w c1 c5 c10 c17 c22

/-! ### laws_toBoots: function 52 -/
def laws_toBoots.f (a0_0 : Int) (a0_1 : Int) (a0_2 : Int) (a0_3 : Int) (a0_4 : Int) (a0_5 : Int) : Option (Int × Int × Int × Int × Int × Int) := some (a0_0, a0_1, a0_2, a0_3, a0_4, a0_5)
set_option maxHeartbeats 8000000 in
set_option maxRecDepth 100000 in
theorem laws_toBoots.calls (a0_0 : Int) (a0_1 : Int) (a0_2 : Int) (a0_3 : Int) (a0_4 : Int) (a0_5 : Int) (r1 : Int) (r2 : Int) (r3 : Int) (r4 : Int) (r5 : Int) (r6 : Int) (w : World) (h : laws_toBoots.f a0_0 a0_1 a0_2 a0_3 a0_4 a0_5 = some (r1, r2, r3, r4, r5, r6)) :
    Calls Try.prog 52 #[.agg #[.int .i64 a0_0, .int .i64 a0_1, .int .i64 a0_2, .int .i64 a0_3, .int .i64 a0_4, .int .i64 a0_5]] w fun e w' => e = .returned (.agg #[.int .i64 r1, .int .i64 r2, .int .i64 r3, .int .i64 r4, .int .i64 r5, .int .i64 r6]) ∧ Below w.heap.size w w' := by
  have hu70 := Try.underlying70
  have hu71 := Try.underlying71
  have HB := Aside0.mk (Below.refl w.heap.size w)
  have H : (some (a0_0, a0_1, a0_2, a0_3, a0_4, a0_5)) = some (r1, r2, r3, r4, r5, r6) := h
  clear h
  simp only [Option.some.injEq, Prod.mk.injEq] at H
  obtain ⟨rfl, rfl, rfl, rfl, rfl, rfl⟩ := H
  go_enter Try.func52, Try.ntmps52
  go_wp2_with (first | ((with_reducible refine gate_dst (N := 1) rfl ?_); refine box_event ?hg (N := 1) ?hd (cs := #[.int .i64 a0_0, .int .i64 a0_1, .int .i64 a0_2, .int .i64 a0_3, .int .i64 a0_4, .int .i64 a0_5]) (t := 70) ?hr ?_; (case hd => rfl); (case hg => rfl); (case hr => first | (go_simp; done) | (go_simp; rfl)); intro gb108 hg w2 hbox hb; have n0_ := Aside0.mk (below_step (by repeat (first | (with_reducible first | exact HB.out | apply below_alloc | apply pw_below_drewN | apply below_drew1) | exact HB.out)) hb); have n1_ := Aside0.mk (hbox); have n2_ := Aside0.mk ((by rw [hg]; exact (below_size (by repeat (first | (with_reducible first | exact HB.out | apply below_alloc | apply pw_below_drewN | apply below_drew1) | exact HB.out))) : w.heap.size ≤ gb108)); have n3_ := Aside0.mk ((by rw [hg]; exact (below_size (by repeat (first | (with_reducible first | exact HB.out | apply below_alloc | apply pw_below_drewN | apply below_drew1) | exact HB.out))) : w.heap.size ≤ gb108)); clear HB; have HB := n0_; have BK108 := n1_; have GW108 := n2_; have GE108 := n3_; clear n0_ n1_ n2_ n3_; clear hb hbox hg) | ((with_reducible refine gate_dst (N := 2) rfl ?_); refine box_event ?hg (N := 2) ?hd (cs := #[.int .i64 0, .int .i64 0, .int .i64 0, .int .i64 0, .int .i64 0, .int .i64 0]) (t := 71) ?hr ?_; (case hd => rfl); (case hg => rfl); (case hr => first | (go_simp; done) | (go_simp; rfl)); intro gb109 hg w3 hbox hb; have n0_ := Aside0.mk (blk_below (g := gb108) (o := .cells #[.int .i64 a0_0, .int .i64 a0_1, .int .i64 a0_2, .int .i64 a0_3, .int .i64 a0_4, .int .i64 a0_5] 70 (0, 0)) (by (with_reducible repeat (first | refine blk_drewN ?_ _ | refine blk_drew ?_ | refine blk_alloc ?_ _)); exact BK108.out) hb); have n1_ := Aside0.mk (below_step (by repeat (first | (with_reducible first | exact HB.out | apply below_alloc | apply pw_below_drewN | apply below_drew1 | refine below_set ?_ GE108.out) | exact HB.out)) hb); have n2_ := Aside0.mk (hbox); have n3_ := Aside0.mk ((by rw [hg]; exact (below_size (by repeat (first | (with_reducible first | exact HB.out | apply below_alloc | apply pw_below_drewN | apply below_drew1 | refine below_set ?_ GE108.out) | exact HB.out))) : w.heap.size ≤ gb109)); have n4_ := Aside0.mk ((by rw [hg]; exact (below_size (by repeat (first | (with_reducible first | exact HB.out | apply below_alloc | apply pw_below_drewN | apply below_drew1 | refine below_set ?_ GE108.out) | exact HB.out))) : w.heap.size ≤ gb109)); have n5_ := Aside0.mk ((by rw [hg]; exact Nat.ne_of_lt (blk_lt (g := gb108) (o := .cells #[.int .i64 a0_0, .int .i64 a0_1, .int .i64 a0_2, .int .i64 a0_3, .int .i64 a0_4, .int .i64 a0_5] 70 (0, 0)) (by (with_reducible repeat (first | refine blk_drewN ?_ _ | refine blk_drew ?_ | refine blk_alloc ?_ _)); exact BK108.out)) : gb108 ≠ gb109)); have n6_ := Aside0.mk ((by rw [hg]; exact Nat.ne_of_gt (blk_lt (g := gb108) (o := .cells #[.int .i64 a0_0, .int .i64 a0_1, .int .i64 a0_2, .int .i64 a0_3, .int .i64 a0_4, .int .i64 a0_5] 70 (0, 0)) (by (with_reducible repeat (first | refine blk_drewN ?_ _ | refine blk_drew ?_ | refine blk_alloc ?_ _)); exact BK108.out)) : gb109 ≠ gb108)); clear BK108; clear HB; have BK108 := n0_; have HB := n1_; have BK109 := n2_; have GW109 := n3_; have GE109 := n4_; have NB108_109 := n5_; have NB109_108 := n6_; clear n0_ n1_ n2_ n3_ n4_ n5_ n6_; clear hb hbox hg) | ((with_reducible refine gate_dst (N := 3) rfl ?_); refine box_event ?hg (N := 3) ?hd (cs := #[.int .i64 0, .int .i64 0, .int .i64 0, .int .i64 0, .int .i64 0, .int .i64 0]) (t := 71) ?hr ?_; (case hd => rfl); (case hg => rfl); (case hr => first | (go_simp; done) | (go_simp; rfl)); intro gb110 hg w4 hbox hb; have n0_ := Aside0.mk (blk_below (g := gb108) (o := .cells #[.int .i64 a0_0, .int .i64 a0_1, .int .i64 a0_2, .int .i64 a0_3, .int .i64 a0_4, .int .i64 a0_5] 70 (0, 0)) (by (with_reducible repeat (first | refine blk_drewN ?_ _ | refine blk_drew ?_ | refine blk_alloc ?_ _)); exact BK108.out) hb); have n1_ := Aside0.mk (blk_below (g := gb109) (o := .cells #[.int .i64 0, .int .i64 0, .int .i64 0, .int .i64 0, .int .i64 0, .int .i64 0] 71 (0, 0)) (by (with_reducible repeat (first | refine blk_drewN ?_ _ | refine blk_drew ?_ | refine blk_alloc ?_ _)); exact BK109.out) hb); have n2_ := Aside0.mk (below_step (by repeat (first | (with_reducible first | exact HB.out | apply below_alloc | apply pw_below_drewN | apply below_drew1 | refine below_set ?_ GE108.out | refine below_set ?_ GE109.out) | exact HB.out)) hb); have n3_ := Aside0.mk (hbox); have n4_ := Aside0.mk ((by rw [hg]; exact (below_size (by repeat (first | (with_reducible first | exact HB.out | apply below_alloc | apply pw_below_drewN | apply below_drew1 | refine below_set ?_ GE108.out | refine below_set ?_ GE109.out) | exact HB.out))) : w.heap.size ≤ gb110)); have n5_ := Aside0.mk ((by rw [hg]; exact (below_size (by repeat (first | (with_reducible first | exact HB.out | apply below_alloc | apply pw_below_drewN | apply below_drew1 | refine below_set ?_ GE108.out | refine below_set ?_ GE109.out) | exact HB.out))) : w.heap.size ≤ gb110)); have n6_ := Aside0.mk ((by rw [hg]; exact Nat.ne_of_lt (blk_lt (g := gb108) (o := .cells #[.int .i64 a0_0, .int .i64 a0_1, .int .i64 a0_2, .int .i64 a0_3, .int .i64 a0_4, .int .i64 a0_5] 70 (0, 0)) (by (with_reducible repeat (first | refine blk_drewN ?_ _ | refine blk_drew ?_ | refine blk_alloc ?_ _)); exact BK108.out)) : gb108 ≠ gb110)); have n7_ := Aside0.mk ((by rw [hg]; exact Nat.ne_of_gt (blk_lt (g := gb108) (o := .cells #[.int .i64 a0_0, .int .i64 a0_1, .int .i64 a0_2, .int .i64 a0_3, .int .i64 a0_4, .int .i64 a0_5] 70 (0, 0)) (by (with_reducible repeat (first | refine blk_drewN ?_ _ | refine blk_drew ?_ | refine blk_alloc ?_ _)); exact BK108.out)) : gb110 ≠ gb108)); have n8_ := Aside0.mk ((by rw [hg]; exact Nat.ne_of_lt (blk_lt (g := gb109) (o := .cells #[.int .i64 0, .int .i64 0, .int .i64 0, .int .i64 0, .int .i64 0, .int .i64 0] 71 (0, 0)) (by (with_reducible repeat (first | refine blk_drewN ?_ _ | refine blk_drew ?_ | refine blk_alloc ?_ _)); exact BK109.out)) : gb109 ≠ gb110)); have n9_ := Aside0.mk ((by rw [hg]; exact Nat.ne_of_gt (blk_lt (g := gb109) (o := .cells #[.int .i64 0, .int .i64 0, .int .i64 0, .int .i64 0, .int .i64 0, .int .i64 0] 71 (0, 0)) (by (with_reducible repeat (first | refine blk_drewN ?_ _ | refine blk_drew ?_ | refine blk_alloc ?_ _)); exact BK109.out)) : gb110 ≠ gb109)); clear BK108; clear BK109; clear HB; have BK108 := n0_; have BK109 := n1_; have HB := n2_; have BK110 := n3_; have GW110 := n4_; have GE110 := n5_; have NB108_110 := n6_; have NB110_108 := n7_; have NB109_110 := n8_; have NB110_109 := n9_; clear n0_ n1_ n2_ n3_ n4_ n5_ n6_ n7_ n8_ n9_; clear hb hbox hg; have hnb5 := NB108_109.out; have hnc5 := NB109_108.out; have hnb6 := NB108_110.out; have hnc6 := NB110_108.out; have hcz7_0 : w4.cell? ⟨gb108, 0, none⟩ = some (.int .i64 a0_0) := (blk_cell BK108.out 0).trans rfl; have hcz7_1 : w4.cell? ⟨gb108, 1, none⟩ = some (.int .i64 a0_1) := (blk_cell BK108.out 1).trans rfl; have hcz7_2 : w4.cell? ⟨gb108, 2, none⟩ = some (.int .i64 a0_2) := (blk_cell BK108.out 2).trans rfl; have hcz7_3 : w4.cell? ⟨gb108, 3, none⟩ = some (.int .i64 a0_3) := (blk_cell BK108.out 3).trans rfl; have hcz7_4 : w4.cell? ⟨gb108, 4, none⟩ = some (.int .i64 a0_4) := (blk_cell BK108.out 4).trans rfl; have hcz7_5 : w4.cell? ⟨gb108, 5, none⟩ = some (.int .i64 a0_5) := (blk_cell BK108.out 5).trans rfl; have hfz7_0 := blk_frozen BK108.out 0; have hfz7_1 := blk_frozen BK108.out 1; have hfz7_2 := blk_frozen BK108.out 2; have hfz7_3 := blk_frozen BK108.out 3; have hfz7_4 := blk_frozen BK108.out 4; have hfz7_5 := blk_frozen BK108.out 5; have hnb8 := NB110_109.out; have hnc8 := NB109_110.out; have hcz9_0 : w4.cell? ⟨gb110, 0, none⟩ = some (.int .i64 0) := (blk_cell BK110.out 0).trans rfl; have hcz9_1 : w4.cell? ⟨gb110, 1, none⟩ = some (.int .i64 0) := (blk_cell BK110.out 1).trans rfl; have hcz9_2 : w4.cell? ⟨gb110, 2, none⟩ = some (.int .i64 0) := (blk_cell BK110.out 2).trans rfl; have hcz9_3 : w4.cell? ⟨gb110, 3, none⟩ = some (.int .i64 0) := (blk_cell BK110.out 3).trans rfl; have hcz9_4 : w4.cell? ⟨gb110, 4, none⟩ = some (.int .i64 0) := (blk_cell BK110.out 4).trans rfl; have hcz9_5 : w4.cell? ⟨gb110, 5, none⟩ = some (.int .i64 0) := (blk_cell BK110.out 5).trans rfl; have hfz9_0 := blk_frozen BK110.out 0; have hfz9_1 := blk_frozen BK110.out 1; have hfz9_2 := blk_frozen BK110.out 2; have hfz9_3 := blk_frozen BK110.out 3; have hfz9_4 := blk_frozen BK110.out 4; have hfz9_5 := blk_frozen BK110.out 5; have hcz10_0 : w4.cell? ⟨gb109, 0, none⟩ = some (.int .i64 0) := (blk_cell BK109.out 0).trans rfl; have hcz10_1 : w4.cell? ⟨gb109, 1, none⟩ = some (.int .i64 0) := (blk_cell BK109.out 1).trans rfl; have hcz10_2 : w4.cell? ⟨gb109, 2, none⟩ = some (.int .i64 0) := (blk_cell BK109.out 2).trans rfl; have hcz10_3 : w4.cell? ⟨gb109, 3, none⟩ = some (.int .i64 0) := (blk_cell BK109.out 3).trans rfl; have hcz10_4 : w4.cell? ⟨gb109, 4, none⟩ = some (.int .i64 0) := (blk_cell BK109.out 4).trans rfl; have hcz10_5 : w4.cell? ⟨gb109, 5, none⟩ = some (.int .i64 0) := (blk_cell BK109.out 5).trans rfl; have hfz10_0 := blk_frozen BK109.out 0; have hfz10_1 := blk_frozen BK109.out 1; have hfz10_2 := blk_frozen BK109.out 2; have hfz10_3 := blk_frozen BK109.out 3; have hfz10_4 := blk_frozen BK109.out 4; have hfz10_5 := blk_frozen BK109.out 5))
  refine bodyPost_ret (results_cell_row rfl _ _ gb109 71 #[.int .i64 a0_0, .int .i64 a0_1, .int .i64 a0_2, .int .i64 a0_3, .int .i64 a0_4, .int .i64 a0_5] (0, 0) _ rfl (by (with_reducible repeat (first | refine blk_drewN ?_ _ | refine blk_drew ?_ | refine blk_alloc ?_ _)); refine blk_put (cs := #[.int .i64 a0_0, .int .i64 a0_1, .int .i64 a0_2, .int .i64 a0_3, .int .i64 a0_4, .int .i64 0]) ?_ 5 _ rfl; (with_reducible repeat (first | refine blk_drewN ?_ _ | refine blk_drew ?_ | refine blk_alloc ?_ _)); refine blk_put (cs := #[.int .i64 a0_0, .int .i64 a0_1, .int .i64 a0_2, .int .i64 a0_3, .int .i64 0, .int .i64 0]) ?_ 4 _ rfl; (with_reducible repeat (first | refine blk_drewN ?_ _ | refine blk_drew ?_ | refine blk_alloc ?_ _)); refine blk_put (cs := #[.int .i64 a0_0, .int .i64 a0_1, .int .i64 a0_2, .int .i64 0, .int .i64 0, .int .i64 0]) ?_ 3 _ rfl; (with_reducible repeat (first | refine blk_drewN ?_ _ | refine blk_drew ?_ | refine blk_alloc ?_ _)); refine blk_put (cs := #[.int .i64 a0_0, .int .i64 a0_1, .int .i64 0, .int .i64 0, .int .i64 0, .int .i64 0]) ?_ 2 _ rfl; (with_reducible repeat (first | refine blk_drewN ?_ _ | refine blk_drew ?_ | refine blk_alloc ?_ _)); refine blk_put (cs := #[.int .i64 a0_0, .int .i64 0, .int .i64 0, .int .i64 0, .int .i64 0, .int .i64 0]) ?_ 1 _ rfl; (with_reducible repeat (first | refine blk_drewN ?_ _ | refine blk_drew ?_ | refine blk_alloc ?_ _)); refine blk_put (cs := #[.int .i64 0, .int .i64 0, .int .i64 0, .int .i64 0, .int .i64 0, .int .i64 0]) ?_ 0 _ rfl; (with_reducible repeat (first | refine blk_drewN ?_ _ | refine blk_drew ?_ | refine blk_alloc ?_ _)); refine blk_far ?_ NB109_110.out _; (with_reducible repeat (first | refine blk_drewN ?_ _ | refine blk_drew ?_ | refine blk_alloc ?_ _)); refine blk_far ?_ NB109_110.out _; (with_reducible repeat (first | refine blk_drewN ?_ _ | refine blk_drew ?_ | refine blk_alloc ?_ _)); refine blk_far ?_ NB109_110.out _; (with_reducible repeat (first | refine blk_drewN ?_ _ | refine blk_drew ?_ | refine blk_alloc ?_ _)); refine blk_far ?_ NB109_110.out _; (with_reducible repeat (first | refine blk_drewN ?_ _ | refine blk_drew ?_ | refine blk_alloc ?_ _)); refine blk_far ?_ NB109_110.out _; (with_reducible repeat (first | refine blk_drewN ?_ _ | refine blk_drew ?_ | refine blk_alloc ?_ _)); refine blk_far ?_ NB109_110.out _; (with_reducible repeat (first | refine blk_drewN ?_ _ | refine blk_drew ?_ | refine blk_alloc ?_ _)); exact BK109.out) Try.underlying71 rfl (by kernel_rfl)) rfl ?_
  exact ⟨by first | rfl | (simp [errW_none, errW_some] <;> rfl) | (simp [*, errW_none, errW_some] <;> rfl), by repeat (first | (with_reducible first | exact HB.out | apply below_alloc | apply pw_below_drewN | apply below_drew1 | refine below_set ?_ GE108.out | refine below_set ?_ GE109.out | refine below_set ?_ GE110.out) | exact HB.out)⟩

/-! ### impl_in: function 90 -/
def impl_in.f (a0 : Int) (a1 : Int) (a2 : Int) : Option (Bool) := if a0 ≥ a1 then (some (decide (a0 ≤ a2))) else (some false)
set_option maxHeartbeats 8000000 in
set_option maxRecDepth 100000 in
theorem impl_in.calls (a0 : Int) (a1 : Int) (a2 : Int) (r : Bool) (w : World) (h : impl_in.f a0 a1 a2 = some r) :
    Calls Try.prog 90 #[.int .i64 a0, .int .i64 a1, .int .i64 a2] w fun e w' => e = .returned (.bool r) ∧ Drawn0 w w' := by
  have H : (if a0 ≥ a1 then (some (decide (a0 ≤ a2))) else (some false)) = some r := h
  clear h
  by_cases c4 : a0 ≥ a1
  · rw [if_pos c4] at H
    have c4b0 : decide (a1 ≤ a0) = true := decide_eq_true c4
    clear c4
    obtain rfl := Option.some.inj H
    go_enter Try.func90, Try.ntmps90
    go_wp2
    go_ret
    exact ⟨by first | rfl | (simp; done) | (simp [*]; done), by repeat (first | exact Drawn0.refl _ | apply Drawn0.step)⟩
  · rw [if_neg c4] at H
    have c4b0 : decide (a1 ≤ a0) = false := decide_eq_false c4
    clear c4
    obtain rfl := Option.some.inj H
    go_enter Try.func90, Try.ntmps90
    go_wp2
    go_ret
    exact ⟨by first | rfl | (simp; done) | (simp [*]; done), by repeat (first | exact Drawn0.refl _ | apply Drawn0.step)⟩

end Go.Proofs.Ytnnjhhoibhpbhaa.PFnExactFollows
