/- The pure statement of the law FnExactFollows, proved: numbers and lists alone, no memory. It holds for all arguments that can be read. -/
import Derived.Test.YtnnjhhoibhpbhaaDFnExactFollows
import Derived.Test.YtnnjhhoibhpbhaaPlain
set_option linter.unusedVariables false
set_option linter.unusedSimpArgs false
namespace Go.Proofs.Ytnnjhhoibhpbhaa.Pure.FnExactFollows
open Go.RowKit Go.Proofs.Ytnnjhhoibhpbhaa.PFnExactFollows Go.Proofs.YtnnjhhoibhpbhaaW.PrintWords Go.Proofs.YtnnjhhoibhpbhaaW.PrintLast Go.Proofs.Ytnnjhhoibhpbhaa.Plain

theorem holds : laws_FnExactFollows.PureR := by
  intro a0 a1 a2 a3 a4 a5 b0 b1 b2 _ _ _ _ _ _ _ _ _
  obtain ⟨t, ht⟩ : ∃ t, spec_Follows.f a0 a1 a2 a3 a4 a5 b0 b1 b2 = some t := ⟨_, rfl⟩
  have hi : impl_Follows.f a0 a1 a2 a3 a4 a5 b0 b1 b2 = some t := ht
  unfold laws_FnExactFollows.f laws_toBoots.f laws_toRecord.f
  simp only [Option.bind_some, ht, hi]
  unfold laws_eqBoots.f
  simp
end Go.Proofs.Ytnnjhhoibhpbhaa.Pure.FnExactFollows
namespace Go.Proofs.Ytnnjhhoibhpbhaa.Pure
theorem FnExactFollows : Go.Proofs.Ytnnjhhoibhpbhaa.PFnExactFollows.laws_FnExactFollows.PureR := FnExactFollows.holds
end Go.Proofs.Ytnnjhhoibhpbhaa.Pure
