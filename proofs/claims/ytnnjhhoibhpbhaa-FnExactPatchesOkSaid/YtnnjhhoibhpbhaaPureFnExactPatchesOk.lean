/- The pure statement of the law FnExactPatchesOk, proved: numbers and lists alone, no memory. It holds for all arguments that can be read. -/
import Derived.Test.YtnnjhhoibhpbhaaDFnExactPatchesOk
import Derived.Test.YtnnjhhoibhpbhaaPlain
set_option linter.unusedVariables false
set_option linter.unusedSimpArgs false
namespace Go.Proofs.Ytnnjhhoibhpbhaa.Pure.FnExactPatchesOk
open Go.RowKit Go.Proofs.Ytnnjhhoibhpbhaa.PFnExactPatchesOk Go.Proofs.YtnnjhhoibhpbhaaW.PrintWords Go.Proofs.YtnnjhhoibhpbhaaW.PrintLast Go.Proofs.Ytnnjhhoibhpbhaa.Plain
theorem in_spec (a b c : Int) : spec_l1In.f a b c = some (decide (b ≤ a ∧ a ≤ c)) := by
  unfold spec_l1In.f
  split <;> simp <;> omega
theorem in_impl (a b c : Int) : impl_in.f a b c = some (decide (b ≤ a ∧ a ≤ c)) := by
  unfold impl_in.f
  split <;> simp <;> omega
def patchGood (p : S90) : Bool := decide ((0 ≤ p.f0 ∧ p.f0 ≤ 19) ∧ (0 ≤ p.f1 ∧ p.f1 ≤ 19) ∧ p.f0 ≠ p.f1 ∧ (1 ≤ p.f2 ∧ p.f2 ≤ 100000))
def patchesGood (l : List S90) : Bool := decide (l.length ≤ 40) && l.all patchGood
theorem patches_spec (xs : List S90) (k : Nat) (hl : xs.length ≤ 9223372036854775807) (hk : xs.length < k) : spec_PatchesOk.f k xs = some (patchesGood xs) := by
  unfold spec_PatchesOk.f
  have h := loop_all xs.length (fun k i => spec_PatchesOk.l0 k xs i) (fun i => patchGood (xs.getD i z90)) (decide (xs.length ≤ 40)) false (by
    intro k i hi hki
    have hr : rd_T90 xs (i : Int) = xs.getD i z90 := by simp [rd_T90]
    simp only [spec_PatchesOk.l0, spec_l18Node.f, in_spec, hr]
    rw [if_pos (by omega), if_pos (by omega), w64n (n := xs.length) hi hl]
    simp only [Option.bind_some, decide_eq_true_eq, patchGood]
    generalize xs.getD i z90 = p
    by_cases h0 : 0 ≤ p.f0 ∧ p.f0 ≤ 19
    · rw [if_pos h0]
      by_cases h1 : 0 ≤ p.f1 ∧ p.f1 ≤ 19
      · rw [if_pos h1]
        by_cases h2 : p.f0 = p.f1
        · rw [if_pos h2, if_neg (by omega)]
        · rw [if_neg h2]
          by_cases h3 : 1 ≤ p.f2 ∧ p.f2 ≤ 100000
          · rw [if_pos h3, if_pos (by omega)]
          · rw [if_neg h3, if_neg (by omega)]
      · rw [if_neg h1, if_neg (by omega)]
    · rw [if_neg h0, if_neg (by omega)]) (by
    intro k
    simp only [spec_PatchesOk.l0]
    rw [if_neg (by omega)]
    congr 1
    rw [Bool.eq_iff_iff]; simp only [decide_eq_true_eq]; omega) k hk
  rw [h, all_range_get xs patchGood _ (fun i hi => by simp [List.getElem?_eq_getElem hi])]
  unfold patchesGood
  cases xs.all patchGood <;> simp
theorem patch_bad (p : S90) : impl_arePatches_1.f p.f0 p.f1 p.f2 = some (!patchGood p) := by
  unfold impl_arePatches_1.f impl_isNode.f
  simp only [in_impl, Option.bind_some, decide_eq_true_eq, patchGood]
  by_cases h0 : 0 ≤ p.f0 ∧ p.f0 ≤ 19
  · rw [if_pos h0]
    by_cases h1 : 0 ≤ p.f1 ∧ p.f1 ≤ 19
    · rw [if_pos h1]
      by_cases h2 : p.f0 = p.f1
      · rw [if_pos h2, decide_eq_false (by omega)]; rfl
      · rw [if_neg h2]
        congr 2
        rw [Bool.eq_iff_iff]; simp only [decide_eq_true_eq]; omega
    · rw [if_neg h1, decide_eq_false (by omega)]; rfl
  · rw [if_neg h0, decide_eq_false (by omega)]; rfl
theorem patches_impl (xs : List S90) (k : Nat) (hl : xs.length ≤ 9223372036854775807) (hk : xs.length < k) : impl_arePatches.f k xs = some (patchesGood xs) := by
  unfold impl_arePatches.f patchesGood
  by_cases h40 : xs.length ≤ 40
  · rw [if_pos (by omega)]
    unfold slices_ContainsFunc_F94.f slices_IndexFunc_F94.f
    obtain ⟨r, h1, _, _, h2, _⟩ := loop_find xs.length (fun k i => slices_IndexFunc_F94.l0 k xs (xs.length : Int) i) (fun i => !patchGood (xs.getD i z90)) (by
      intro k i hi hki
      have hr : rd_T90 xs (i : Int) = xs.getD i z90 := by simp [rd_T90]
      simp only [slices_IndexFunc_F94.l0, hr, patch_bad]
      rw [if_pos (by omega), if_pos (by omega), if_pos (by omega), w64n (n := xs.length) hi hl]
      rfl) (by
      intro k
      simp only [slices_IndexFunc_F94.l0]
      rw [if_neg (by omega)]) k hk
    try dsimp only at h1
    rw [h1]
    simp only [Option.bind_some]
    rw [h2, any_range_get xs (fun x => !patchGood x) _ (fun i hi => by simp [List.getElem?_eq_getElem hi])]
    simp [h40, List.all_eq_not_any_not]
  · rw [if_neg (by omega)]
    simp [h40]
def toPatch (p : S92) : S90 := ⟨p.f0, p.f1, p.f2⟩
theorem toPatchS_eq (xs : List S92) (k : Nat) (hl : xs.length ≤ 1048576) (hk : xs.length < k) : laws_toPatchS.f k xs = some (xs.map toPatch) := by
  unfold laws_toPatchS.f
  rw [if_pos (by omega), if_pos (by rw [Int.toNat_natCast]; omega)]
  have h := loop_fill xs.length (fun k x i => laws_toPatchS.l0 k xs x i) (fun i => toPatch (xs.getD i z92)) id (by
    intro k x i hi hki hx'
    have hr : rd_T92 xs (i : Int) = xs.getD i z92 := by simp [rd_T92]
    simp only [laws_toPatchS.l0, laws_toPatch.f, hr]
    rw [if_pos (by omega), if_pos (by omega)]
    simp only [Option.bind_some]
    rw [if_pos (by omega), w64n (n := xs.length) hi (by omega), Int.toNat_natCast]
    rfl) (by
    intro k x hx'
    simp only [laws_toPatchS.l0]
    rw [if_neg (by omega)]; rfl) k hk (List.replicate xs.length z90) (by simp)
  try dsimp only at h
  rw [Int.toNat_natCast, h]
  rw [map_range_get xs toPatch _ (fun i hi => by simp [List.getElem?_eq_getElem hi])]
  rfl
theorem eqPatchS_self (xs : List S90) (k : Nat) (hl : xs.length ≤ 1048576) (hk : xs.length < k) : laws_eqPatchS.f k xs xs = some true := by
  unfold laws_eqPatchS.f
  rw [if_pos rfl]
  have h := loop_all xs.length (fun k i => laws_eqPatchS.l0 k xs xs i) (fun _ => true) true false (by
    intro k i hi hki
    simp only [laws_eqPatchS.l0, laws_eqPatch.f]
    rw [if_pos (by omega), if_pos (by omega), if_pos (by omega), w64n (n := xs.length) hi (by omega)]
    simp) (by
    intro k
    simp only [laws_eqPatchS.l0]
    rw [if_neg (by omega)]) k hk
  rw [h]
  simp
theorem szPatchS_eq (xs : List S92) (hl : xs.length ≤ 9223372036854775807) : laws_szPatchS.f xs 1048576 = some (if (1048576 : Int) < xs.length then (-1 : Int) else 1048576 - (xs.length : Int)) := by
  unfold laws_szPatchS.f
  rw [w64 (by omega) (by omega)]
  by_cases h : (1048576 : Int) < xs.length
  · rw [if_pos (by omega), if_pos h]
  · rw [if_neg (by omega), if_neg h]
theorem holds : laws_FnExactPatchesOk.PureR := by
  intro xs hx
  obtain ⟨K, hK⟩ : ∃ K : Nat, xs.length + 1 ≤ K := ⟨_, Nat.le_refl _⟩
  refine ⟨K, ?_⟩
  unfold laws_FnExactPatchesOk.f
  rw [szPatchS_eq xs hx.1]
  simp only [Option.bind_some]
  by_cases h0 : (1048576 : Int) < xs.length
  · rw [if_pos h0]; simp
  · rw [if_neg h0, if_neg (by omega)]
    have hm : (xs.map toPatch).length = xs.length := by simp
    rw [toPatchS_eq xs K (by omega) (by omega)]
    simp only [Option.bind_some]
    unfold impl_PatchesOk.f
    rw [patches_spec _ K (by omega) (by omega), patches_impl _ K (by omega) (by omega)]
    simp only [Option.bind_some]
    rw [eqPatchS_self _ K (by omega) (by omega)]
    simp
end Go.Proofs.Ytnnjhhoibhpbhaa.Pure.FnExactPatchesOk
namespace Go.Proofs.Ytnnjhhoibhpbhaa.Pure
theorem FnExactPatchesOk : Go.Proofs.Ytnnjhhoibhpbhaa.PFnExactPatchesOk.laws_FnExactPatchesOk.PureR := FnExactPatchesOk.holds
end Go.Proofs.Ytnnjhhoibhpbhaa.Pure
