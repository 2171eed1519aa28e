/- GoodVoice: the pure statement of the law: the program's answer is the reference's, for every voice. -/
import Derived.Test.YthcmofhlljmccaaXFnExactGoodVoicex3
import Derived.Test.YthcmofhlljmccaaXLib
namespace Go.Proofs.Ythcmofhlljmccaa.Pure
open Go.RowKit Go.Proofs.Ythcmofhlljmccaa.XFnExactGoodVoice Go.Proofs.YthcmofhlljmccaaW.PrintWords Go.Proofs.YthcmofhlljmccaaW.PrintLast Go.Proofs.YthcmofhlljmccaaW.PrintMore Go.Proofs.Ythcmofhlljmccaa.X
set_option linter.unusedVariables false
set_option linter.unusedSimpArgs false

theorem in_spec (a b c : Int) : spec_l1In.f a b c = some (decide (b ≤ a) && decide (a ≤ c)) := by
  unfold spec_l1In.f
  by_cases h : b ≤ a <;> simp [h]
theorem in_impl (a b c : Int) : impl_inRange.f a b c = some (decide (b ≤ a) && decide (a ≤ c)) := by
  unfold impl_inRange.f
  by_cases h : b ≤ a <;> simp [h]
theorem sz_ints (l : List Int) {a : Int} (h0 : 0 ≤ a) (h1 : a ≤ 1048576) (hl : l.length ≤ maxLen) : laws_szIntS.f l a = some (roomLeft l.length a) := sz_left h0 h1 hl
theorem to_ints (l : List Int) (hl : (l.length : Int) ≤ 1048576) : Ev (fun k => laws_toIntS.f k l) l := by
  have h := toS_ev (0 : Int) (id : Int → Int) 0 laws_toIntS.l0 (fun k x y i => laws_toIntS.l0.eq_2 x y i k) l (by omega)
  rw [List.map_id] at h
  exact Ev.pos (by omega) (Ev.pos (by omega) h)
theorem eq_ints (l : List Int) (hl : (l.length : Int) ≤ 1048576) : Ev (fun k => laws_eqIntS.f k l l) true :=
  eqInt_ev laws_eqIntS.l0 (fun k x y i => laws_eqIntS.l0.eq_2 x y i k) l (by rw [maxLen_eq]; omega)
/-! voices -/
def voiceOk (l : List Int) (a1 : Int) (a3 a4 a5 : Int) : Bool :=
  (decide (1 ≤ l.length) && decide (l.length ≤ 200)) && ((l.all fun n => decide (-32767 ≤ n) && decide (n ≤ 32767)) && ((decide (0 ≤ a1) && decide (a1 ≤ (l.length : Int) - 1)) && ((decide (0 ≤ a3) && decide (a3 ≤ 65536)) && ((decide (0 ≤ a4) && decide (a4 ≤ 65536)) && (decide (0 ≤ a5) && decide (a5 ≤ 100))))))
theorem voice_spec (l : List Int) (a1 : Int) (a2 : Bool) (a3 a4 a5 : Int) (hl : l.length ≤ maxLen) : Ev (fun k => spec_GoodVoice.f k l a1 a2 a3 a4 a5) (voiceOk l a1 a3 a4 a5) := by
  have h0 := all_ev (0 : Int) (fun n => decide (-32767 ≤ n) && decide (n ≤ 32767)) spec_GoodVoice.l0 (fun k x n i => by rw [spec_GoodVoice.l0]; simp only [in_spec, Option.bind_some]; rfl) l hl
  have hj : ∀ z, Ev (fun k => spec_GoodVoice.j0 k z l a1 a2 a3 a4 a5) (!z && l.all fun n => decide (-32767 ≤ n) && decide (n ≤ 32767)) := fun z =>
    Ev.step (fun k => spec_GoodVoice.j0.eq_2 _ _ _ _ _ _ _ k) (Ev.andn (fun _ => h0))
  rw [maxLen_eq] at hl
  unfold spec_GoodVoice.f voiceOk
  simp only [in_spec, Option.bind_some]
  refine Ev.ite (fun h => Ev.cast (hj true) ?_) (fun h => Ev.ite (fun h2 => Ev.cast (hj true) ?_) (fun h2 => ?_))
  · rw [decide_eq_false (show ¬ 1 ≤ l.length by omega)]; rfl
  · rw [decide_eq_false (show ¬ l.length ≤ 200 by omega), Bool.and_false]; rfl
  · rw [decide_eq_true (show 1 ≤ l.length by omega), decide_eq_true (show l.length ≤ 200 by omega), w_pred (i := l.length) (by omega)]
    cases h1 : (decide (0 ≤ a1) && decide (a1 ≤ (l.length : Int) - 1)) with
    | false => exact Ev.neg (by decide) (Ev.cast (hj true) (by simp))
    | true =>
      cases h3 : (decide (0 ≤ a3) && decide (a3 ≤ 65536)) with
      | false => exact Ev.pos rfl (Ev.neg (by decide) (Ev.cast (hj true) (by simp)))
      | true =>
        cases h4 : (decide (0 ≤ a4) && decide (a4 ≤ 65536)) with
        | false => exact Ev.pos rfl (Ev.pos rfl (Ev.neg (by decide) (Ev.cast (hj true) (by simp))))
        | true => exact Ev.pos rfl (Ev.pos rfl (Ev.pos rfl (Ev.cast (hj _) (by simp [Bool.and_comm]))))
theorem voice_impl (l : List Int) (a1 : Int) (a2 : Bool) (a3 a4 a5 : Int) (hl : l.length ≤ maxLen) : Ev (fun k => impl_GoodVoice.f k l a1 a2 a3 a4 a5) (voiceOk l a1 a3 a4 a5) := by
  have h := contains_ev (0 : Int) (fun _ z => impl_GoodVoice_1.f z) (fun n => !(decide (-32767 ≤ n) && decide (n ≤ 32767))) slices_IndexFunc_int_int_at_impl_GoodVoice_1.l0 (fun k x n i => slices_IndexFunc_int_int_at_impl_GoodVoice_1.l0.eq_2 x n i k) l hl (fun z _ => Ev.mk (fun _ => by unfold impl_GoodVoice_1.f; rw [in_impl]; rfl))
  rw [maxLen_eq] at hl
  unfold impl_GoodVoice.f voiceOk slices_ContainsFunc_int_int_at_impl_GoodVoice_1.f slices_IndexFunc_int_int_at_impl_GoodVoice_1.f
  simp only [in_impl, Option.bind_some]
  have e : (decide (1 ≤ (l.length : Int)) && decide ((l.length : Int) ≤ 200)) = (decide (1 ≤ l.length) && decide (l.length ≤ 200)) := by congr 1 <;> exact decide_eq_decide.2 (by omega)
  rw [e]
  refine Ev.and (fun _ => Ev.bind h (Ev.cast (Ev.andn (fun _ => Ev.and (fun _ => Ev.and (fun _ => Ev.and (fun _ => Ev.now _))))) ?_))
  rw [any_not, w_pred (i := l.length) (by omega)]
theorem FnExactGoodVoice : laws_FnExactGoodVoice.Pure := by
  intro l a1 a2 a3 a4 a5 ⟨hl, _⟩ _ _ _ _
  refine Ev.rounds (r := true) ?_
  have hs : laws_szVoice.f l a1 a2 a3 a4 a5 1048576 = some (roomLeft l.length 1048576) := by
    unfold laws_szVoice.f
    rw [sz_ints l (by omega) (by omega) hl, Option.bind_some]
    unfold roomLeft
    by_cases hc : (l.length : Int) ≤ 1048576
    · rw [if_pos hc, if_neg (by omega)]
    · rw [if_neg hc]; rfl
  unfold laws_FnExactGoodVoice.f
  refine Ev.const_bind hs (Ev.ite (fun _ => Ev.now _) (fun h => ?_))
  have hn := (roomLeft_ok h).1
  have ht : Ev (fun k => laws_toVoice.f k l a1 a2 a3 a4 a5) (l, a1, a2, a3, a4, a5) := Ev.bind (to_ints l hn) (Ev.now _)
  have he : Ev (fun k => laws_eqVoice.f k l a1 a2 a3 a4 a5 l a1 a2 a3 a4 a5) true := Ev.bind (eq_ints l hn) (Ev.pos rfl (Ev.pos rfl (Ev.neg (by simp) (Ev.pos rfl (Ev.pos rfl (Ev.pos rfl (Ev.now _)))))))
  exact Ev.bind ht (Ev.bind (voice_spec l a1 a2 a3 a4 a5 hl) (Ev.bind ht (Ev.bind (voice_impl l a1 a2 a3 a4 a5 hl) (Ev.neg (by simp) (Ev.bind ht (Ev.bind he (Ev.pos rfl (Ev.now _))))))))

end Go.Proofs.Ythcmofhlljmccaa.Pure
