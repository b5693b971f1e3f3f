/- The pure statement of the law FnExactRecordOk, proved: numbers and lists alone, no memory. It holds for all arguments that can be read. -/
import Derived.Test.YtnnjhhoibhpbhaaDFnExactRecordOk
namespace Go.Proofs.Ytnnjhhoibhpbhaa.Pure.FnExactRecordOk
open Go.RowKit Go.Proofs.Ytnnjhhoibhpbhaa.PFnExactRecordOk Go.Proofs.YtnnjhhoibhpbhaaW.PrintWords Go.Proofs.YtnnjhhoibhpbhaaW.PrintLast
theorem same_in (a b c : Int) : impl_in.f a b c = spec_l1In.f a b c := rfl
theorem in_some (a b c : Int) : ∃ r, spec_l1In.f a b c = some r := by
  unfold spec_l1In.f
  split <;> exact ⟨_, rfl⟩
theorem same_record (a b c : Int) : impl_isRecord.f 1 a b c = spec_RecordOk.f 1 a b c := rfl
theorem j0_some (x : Int) (y : Bool) (a b c : Int) : ∃ r, spec_RecordOk.j0 1 x y a b c = some r := by
  obtain ⟨r1, h1⟩ := in_some b 0 1
  obtain ⟨r2, h2⟩ := in_some c 0 1024
  simp only [spec_RecordOk.j0, h1, h2, Option.bind_some]
  repeat' split
  all_goals exact ⟨_, rfl⟩
theorem record_some (a b c : Int) : ∃ r, spec_RecordOk.f 1 a b c = some r := by
  obtain ⟨r1, h1⟩ := in_some c 1 1000000
  unfold spec_RecordOk.f
  simp only [h1, Option.bind_some]
  repeat' split
  all_goals first | exact ⟨_, rfl⟩ | exact j0_some _ _ _ _ _
theorem holds : laws_FnExactRecordOk.Pure := by
  intro a b c _ _ _
  refine ⟨1, ?_⟩
  obtain ⟨r, h⟩ := record_some a b c
  have h' := (same_record a b c).trans h
  unfold laws_FnExactRecordOk.f laws_toRecord.f impl_RecordOk.f
  simp only [Option.bind_some, h, h']
  simp
end Go.Proofs.Ytnnjhhoibhpbhaa.Pure.FnExactRecordOk
namespace Go.Proofs.Ytnnjhhoibhpbhaa.Pure
theorem FnExactRecordOk : Go.Proofs.Ytnnjhhoibhpbhaa.PFnExactRecordOk.laws_FnExactRecordOk.Pure := FnExactRecordOk.holds
end Go.Proofs.Ytnnjhhoibhpbhaa.Pure
