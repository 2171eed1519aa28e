import Derived.Test.YtbjdhmgednhdgaaXFnExactGoodFilterx1
import Derived.Test.YtbjdhmgednhdgaaXLibGoodFilter
namespace Go.Proofs.Ytbjdhmgednhdgaa.Pure
open Go.RowKit Go.Proofs.Ytbjdhmgednhdgaa.XFnExactGoodFilter Go.Proofs.YtbjdhmgednhdgaaW.PrintWords Go.Proofs.YtbjdhmgednhdgaaW.PrintLast Go.Proofs.YtbjdhmgednhdgaaW.PrintMore Go.Proofs.Ytbjdhmgednhdgaa.X
set_option linter.unusedVariables false
set_option linter.unusedSimpArgs false

def fnan (x : Int) : Bool := !feq x.toNat x.toNat
def finf (x : Int) : Bool := fgt (Go.bits .andNot .u64 (x.toNat : Int) 9223372036854775808).toNat 9218868437227405311
def fsign (x : Int) : Bool := decide (wrap64 (x.toNat : Int) < 0)
def ffin (x : Int) : Bool := !fnan x && !finf x
def fgood (x : Int) : Bool := ffin x && !(feq x.toNat 0 && fsign x)
theorem nan_ev (x : Int) : math_IsNaN.f x = some (fnan x) := rfl
theorem inf_ev (x : Int) : math_IsInf.f x 0 = some (finf x) := rfl
theorem sign_ev (x : Int) : math_Signbit.f x = some (fsign x) := rfl
theorem good_spec (x : Int) : spec_GoodReal.f x = some (fgood x) := by
  unfold spec_GoodReal.f fgood ffin
  rw [nan_ev, inf_ev, sign_ev]
  simp only [Option.bind_some]
  cases fnan x <;> cases finf x <;> cases feq x.toNat 0 <;> cases fsign x <;> rfl
theorem finite_ev (l : List Int) (hl : l.length ≤ maxLen) : Ev (fun k => impl_isFinite.f k l) (l.all ffin) := by
  have h := contains_ev (0 : Int) (fun _ z => impl_isFinite_1.f z) (fun z => !ffin z) slices_IndexFunc_float64_float64_at_impl_isFinite_1.l0 (fun k x n i => slices_IndexFunc_float64_float64_at_impl_isFinite_1.l0.eq_2 x n i k) l hl (fun z _ => Ev.mk (fun _ => by
    unfold impl_isFinite_1.f ffin
    rw [nan_ev, inf_ev]
    simp only [Option.bind_some]
    cases fnan z <;> cases finf z <;> rfl))
  unfold impl_isFinite.f
  refine Ev.bind h (Ev.cast (Ev.now _) (any_not ffin l))
theorem good_impl (x : Int) : Ev (fun k => impl_GoodReal.f k x) (fgood x) := by
  have h := finite_ev [x] (show 1 ≤ maxLen by decide)
  unfold impl_GoodReal.f fgood
  refine Ev.bind h ?_
  rw [sign_ev]
  simp only [List.all_cons, List.all_nil, Bool.and_true, Option.bind_some]
  cases ffin x <;> cases feq x.toNat 0 <;> cases fsign x <;> exact Ev.now _
theorem good_list (l : List Int) (hl : l.length ≤ maxLen) : Ev (fun k => impl_areGood.f k l) (l.all fgood) := by
  have h := contains_ev (0 : Int) (fun k z => impl_areGood_1.f k z) (fun z => !fgood z) slices_IndexFunc_float64_float64_at_impl_areGood_1.l0 (fun k x n i => slices_IndexFunc_float64_float64_at_impl_areGood_1.l0.eq_2 x n i k) l hl (fun z _ => by
    unfold impl_areGood_1.f
    exact Ev.bind (good_impl z) (Ev.now _))
  unfold impl_areGood.f
  refine Ev.bind h (Ev.cast (Ev.now _) (any_not fgood l))
theorem FnExactGoodFilter : laws_FnExactGoodFilter.Pure := by
  intro a b c d e _ _ _ _ _
  refine Ev.rounds (r := true) ?_
  unfold laws_FnExactGoodFilter.f laws_toFilter.f
  have h1 : spec_GoodFilter.f a b c d e = some (fgood a && (fgood b && (fgood c && (fgood d && fgood e)))) := by
    unfold spec_GoodFilter.f
    rw [good_spec, good_spec, good_spec, good_spec, good_spec]
    simp only [Option.bind_some]
    cases fgood a <;> cases fgood b <;> cases fgood c <;> cases fgood d <;> rfl
  have h2 : Ev (fun k => impl_GoodFilter.f k a b c d e) (fgood a && (fgood b && (fgood c && (fgood d && fgood e)))) := by
    unfold impl_GoodFilter.f
    refine Ev.bind (good_list [a, b, c, d, e] (show 5 ≤ maxLen by decide)) (Ev.cast (Ev.now _) ?_)
    simp only [List.all_cons, List.all_nil, Bool.and_true]
  simp only [Option.bind_some]
  rw [h1]
  exact Ev.some_bind (Ev.bind h2 (Ev.pos rfl (Ev.now _)))

end Go.Proofs.Ytbjdhmgednhdgaa.Pure
