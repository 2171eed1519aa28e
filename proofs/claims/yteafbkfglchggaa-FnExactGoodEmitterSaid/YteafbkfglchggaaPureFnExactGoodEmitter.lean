/- GoodEmitter: the pure statement of the law: the program's answer is the reference's, for every emitter. -/
import Derived.Test.YteafbkfglchggaaXFnExactGoodEmitterx1
import Derived.Test.YteafbkfglchggaaXLib
namespace Go.Proofs.Yteafbkfglchggaa.Pure
open Go.RowKit Go.Proofs.Yteafbkfglchggaa.XFnExactGoodEmitter Go.Proofs.YteafbkfglchggaaW.PrintWords Go.Proofs.YteafbkfglchggaaW.PrintLast Go.Proofs.Yteafbkfglchggaa.X

theorem in_spec (a b c : Int) : spec_l1In.f a b c = some (decide (b ≤ a) && decide (a ≤ c)) := by
  unfold spec_l1In.f
  by_cases h : b ≤ a <;> simp [h]
theorem in_impl (a b c : Int) : impl_inRange.f a b c = some (decide (b ≤ a) && decide (a ≤ c)) := by
  unfold impl_inRange.f
  by_cases h : b ≤ a <;> simp [h]
theorem FnExactGoodEmitter : laws_FnExactGoodEmitter.Pure := by
  intro a0 a1 a2 a3 a4 a5 a6 _ _ _ _ _ _ _
  have e : impl_GoodEmitter.f a0 a1 a2 a3 a4 a5 a6 = spec_GoodEmitter.f a0 a1 a2 a3 a4 a5 a6 := by
    unfold impl_GoodEmitter.f spec_GoodEmitter.f impl_isFar.f
    simp only [in_impl, in_spec, Option.bind_some]
  obtain ⟨r, hr⟩ : ∃ r, spec_GoodEmitter.f a0 a1 a2 a3 a4 a5 a6 = some r := by
    unfold spec_GoodEmitter.f
    simp only [in_spec, Option.bind_some]
    repeat' (first | exact ⟨_, rfl⟩ | split)
  unfold laws_FnExactGoodEmitter.f laws_toEmitter.f
  simp only [Option.bind_some, e, hr]
  simp

end Go.Proofs.Yteafbkfglchggaa.Pure
