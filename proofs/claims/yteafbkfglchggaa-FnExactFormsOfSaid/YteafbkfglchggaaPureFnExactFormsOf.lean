/- FormsOf: the pure statement of the law: the program's forms are the reference's, for every language's name. -/
import Derived.Test.YteafbkfglchggaaXFnExactFormsOfx2
import Derived.Test.YteafbkfglchggaaXLib
namespace Go.Proofs.Yteafbkfglchggaa.Pure
open Go.RowKit Go.Proofs.Yteafbkfglchggaa.XFnExactFormsOf Go.Proofs.YteafbkfglchggaaW.PrintWords Go.Proofs.YteafbkfglchggaaW.PrintLast Go.Proofs.Yteafbkfglchggaa.X

theorem same_j : ∀ k, (∀ x b, impl_FormsOf.j0 k x b = spec_FormsOf.j0 k x b) ∧ (∀ x b, impl_FormsOf.j1 k x b = spec_FormsOf.j1 k x b)
  | 0 => ⟨fun x b => by rw [impl_FormsOf.j0, spec_FormsOf.j0], fun x b => by rw [impl_FormsOf.j1, spec_FormsOf.j1]⟩
  | k + 1 => by
    obtain ⟨h0, h1⟩ := same_j k
    exact ⟨fun x b => by simp only [impl_FormsOf.j0, spec_FormsOf.j0, h1], fun x b => by simp only [impl_FormsOf.j1, spec_FormsOf.j1]⟩
theorem same_f (k : Nat) (a : ByteArray) : impl_FormsOf.f k a = spec_FormsOf.f k a := by
  unfold impl_FormsOf.f spec_FormsOf.f
  simp only [(same_j k).1]
theorem Ev.ex_ite {α : Type} {f f' : Nat → Option α} {P : α → Prop} {c : Prop} [Decidable c] (h : c → ∃ r, P r ∧ Ev f r) (h' : ¬ c → ∃ r, P r ∧ Ev f' r) : ∃ r, P r ∧ Ev (fun n => if c then f n else f' n) r := by
  by_cases hc : c
  · obtain ⟨r, p, e⟩ := h hc; exact ⟨r, p, Ev.pos hc e⟩
  · obtain ⟨r, p, e⟩ := h' hc; exact ⟨r, p, Ev.neg hc e⟩
theorem Ev.ex_step {α : Type} {g f : Nat → Option α} {P : α → Prop} (h : ∀ k, g (k + 1) = f k) (k : ∃ r, P r ∧ Ev f r) : ∃ r, P r ∧ Ev g r := by
  obtain ⟨r, p, e⟩ := k; exact ⟨r, p, Ev.step h e⟩
theorem forms_ev (a : ByteArray) : ∃ r : List Int, r.length ≤ 9 ∧ Ev (fun k => spec_FormsOf.f k a) r := by
  have h1 : ∀ x b, ∃ r : List Int, r.length ≤ 9 ∧ Ev (fun k => spec_FormsOf.j1 k x b) r := fun x b => by
    refine Ev.ex_step (fun k => spec_FormsOf.j1.eq_2 x b k) ?_
    repeat' (first | refine Ev.ex_ite (fun _ => ?_) (fun _ => ?_) | exact ⟨_, by decide, Ev.now _⟩)
  have h0 : ∀ x b, ∃ r : List Int, r.length ≤ 9 ∧ Ev (fun k => spec_FormsOf.j0 k x b) r := fun x b => by
    refine Ev.ex_step (fun k => spec_FormsOf.j0.eq_2 x b k) ?_
    repeat' (first | refine Ev.ex_ite (fun _ => ?_) (fun _ => ?_) | exact ⟨_, by decide, Ev.now _⟩ | exact h1 _ _)
  unfold spec_FormsOf.f
  refine Ev.ex_ite (fun _ => h0 _ _) (fun _ => h0 _ _)
theorem FnExactFormsOf : laws_FnExactFormsOf.Pure := by
  intro a ha
  obtain ⟨r, hr, hs⟩ := forms_ev a
  have hi : Ev (fun k => impl_FormsOf.f k a) r := Ev.congr (fun k => same_f k a) hs
  have hq : Ev (fun k => laws_eqIntS.f k r r) true := eqInt_ev laws_eqIntS.l0 (fun k x y i => laws_eqIntS.l0.eq_2 x y i k) r (by rw [maxLen_eq]; omega)
  have hm := markInt_ev laws_markIntS.l0 (fun k x c i => laws_markIntS.l0.eq_2 x c i k) 1 (by omega) r (by omega)
  have hh := heldInt_ev laws_heldIntS.l0 (fun k x c i => laws_heldIntS.l0.eq_2 x c i k) r.length 1 (by omega) (by omega)
  refine Ev.rounds (r := true) ?_
  unfold laws_FnExactFormsOf.f
  refine Ev.ite (fun _ => Ev.now _) (fun _ => ?_)
  refine Ev.bind hs (Ev.bind hi (Ev.bind hq (Ev.pos rfl (Ev.bind hm (Ev.bind hh (Ev.neg (by omega) (Ev.pos rfl (Ev.bind hi (Ev.bind hq (Ev.pos rfl (Ev.bind hh (Ev.neg (by omega) (Ev.pos rfl (Ev.now _))))))))))))))

end Go.Proofs.Yteafbkfglchggaa.Pure
