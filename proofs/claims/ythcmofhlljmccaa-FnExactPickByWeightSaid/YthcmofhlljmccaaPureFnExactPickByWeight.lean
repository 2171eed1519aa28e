/- PickByWeight: the pure statement of the law: the program's pick is the reference's, for all weights and seeds. -/
import Derived.Test.YthcmofhlljmccaaXFnExactPickByWeightx2
import Derived.Test.YthcmofhlljmccaaXLib
namespace Go.Proofs.Ythcmofhlljmccaa.Pure
open Go.RowKit Go.Proofs.Ythcmofhlljmccaa.XFnExactPickByWeight Go.Proofs.YthcmofhlljmccaaW.PrintWords Go.Proofs.YthcmofhlljmccaaW.PrintLast Go.Proofs.YthcmofhlljmccaaW.PrintMore Go.Proofs.Ythcmofhlljmccaa.X
set_option linter.unusedVariables false
set_option linter.unusedSimpArgs false

theorem in_spec (a b c : Int) : spec_l1In.f a b c = some (decide (b ≤ a) && decide (a ≤ c)) := by
  unfold spec_l1In.f
  by_cases h : b ≤ a <;> simp [h]
theorem in_impl (a b c : Int) : impl_inRange.f a b c = some (decide (b ≤ a) && decide (a ≤ c)) := by
  unfold impl_inRange.f
  by_cases h : b ≤ a <;> simp [h]
theorem to_ints (l : List Int) (hl : (l.length : Int) ≤ 1048576) : Ev (fun k => laws_toIntS.f k l) l := by
  have h := toS_ev (0 : Int) (id : Int → Int) 0 laws_toIntS.l0 (fun k x y i => laws_toIntS.l0.eq_2 x y i k) l (by omega)
  rw [List.map_id] at h
  exact Ev.pos (by omega) (Ev.pos (by omega) h)
theorem eq_ints (l : List Int) (hl : (l.length : Int) ≤ 1048576) : Ev (fun k => laws_eqIntS.f k l l) true :=
  eqInt_ev laws_eqIntS.l0 (fun k x y i => laws_eqIntS.l0.eq_2 x y i k) l (by rw [maxLen_eq]; omega)
theorem seed_spec (s : Int) : spec_l1Seed.f s = some (decide (0 ≤ s) && decide (s ≤ 2147483647)) := by
  unfold spec_l1Seed.f
  rw [in_spec]; rfl
theorem seed_impl (s : Int) : impl_isSeed.f s = some (decide (0 ≤ s) && decide (s ≤ 2147483647)) := by
  unfold impl_isSeed.f
  rw [in_impl]; rfl
theorem coin_impl (s : Int) (h : (decide (0 ≤ s) && decide (s ≤ 2147483647)) = true) : impl_NextCoin.f s = spec_l1Coin.f s := by
  unfold impl_NextCoin.f spec_l1Coin.f
  rw [seed_impl, Option.bind_some, if_pos h]
theorem same_l1 : ∀ k a b c x n i, impl_PickByWeight.l1 k a b c x n i = spec_PickByWeight.l1 k a b c x n i
  | 0, _, _, _, _, _, _ => by rw [impl_PickByWeight.l1, spec_PickByWeight.l1]
  | k + 1, a, b, c, x, n, i => by
    rw [impl_PickByWeight.l1, spec_PickByWeight.l1]
    simp only [same_l1 k]
theorem l1_ex (a b : Int) (l : List Int) (hl : l.length ≤ maxLen) : ∃ r, Ev (fun k => spec_PickByWeight.l1 k a b 0 l (l.length : Int) 0) r := by
  obtain ⟨r, _, h⟩ := find_ex (0 : Int) (fun i s z => if wrap64 (s + z) > b then Sum.inr (i, a, true) else Sum.inl (wrap64 (s + z))) (fun _ _ => some (0, 0, false)) (fun k s x n i => spec_PickByWeight.l1 k a b s x n i) (fun _ => True) (fun _ => True)
    (fun k s x n i h0 h1 h2 => by
      rw [spec_PickByWeight.l1, if_pos h1, if_pos h0, if_pos h2]
      by_cases hc : wrap64 (s + rdOf 0 x i) > b
      · rw [if_pos hc, if_pos (show wrap64 (s + rd x i) > b from hc)]
      · rw [if_neg hc, if_neg (show ¬ wrap64 (s + rd x i) > b from hc)]; rfl)
    (fun k s x n i h => by rw [spec_PickByWeight.l1, if_neg h]) l hl 0 trivial (fun i s z _ _ _ _ => by split <;> trivial) (fun s _ => ⟨_, trivial, Ev.now _⟩)
  exact ⟨r, h⟩
def fine (l : List Int) : Bool := l.all fun n => decide (0 ≤ n) && decide (n ≤ 1000000)
def sumW (l : List Int) : Int := l.foldl (fun s w => wrap64 (s + w)) 0
theorem both (l : List Int) (s : Int) (hl : l.length ≤ maxLen) : ∃ r, Ev (fun k => spec_PickByWeight.f k l s) r ∧ Ev (fun k => impl_PickByWeight.f k l s) r := by
  have hS : ∀ r, (fine l = true → Ev (fun k => if sumW l = 0 then (some (0, 0, false)) else ((spec_l1Coin.f s).bind fun bt => (spec_PickByWeight.l1 k bt.1 (wrap64 (Int.tdiv (wrap64 (bt.2 * sumW l)) 32768)) 0 l (l.length : Int) 0))) r) → (fine l = false → r = (0, 0, false)) → Ev (fun k => spec_PickByWeight.l0 k l s 0 l (l.length : Int) 0) r := fun r h1 h2 =>
    fold_ev (0 : Int) (fun n => decide (0 ≤ n) && decide (n ≤ 1000000)) (fun s w => wrap64 (s + w)) (0, 0, false) (fun k t => if t = 0 then (some (0, 0, false)) else ((spec_l1Coin.f s).bind fun bt => (spec_PickByWeight.l1 k bt.1 (wrap64 (Int.tdiv (wrap64 (bt.2 * t)) 32768)) 0 l (l.length : Int) 0))) (fun k t x n i => spec_PickByWeight.l0 k l s t x n i)
      (fun k t x n i => by rw [spec_PickByWeight.l0]; simp only [in_spec, Option.bind_some]; rfl) l hl 0 r h1 h2
  have hI : ∀ r, (fine l = true → Ev (fun k => ((impl_inRange.f (l.length : Int) 1 60).bind fun t119 => (if t119 = true then (if sumW l = 0 then (impl_PickByWeight.j1 k l s (sumW l) true) else ((impl_isSeed.f s).bind fun t120 => (impl_PickByWeight.j1 k l s (sumW l) (!t120)))) else (impl_PickByWeight.j1 k l s (sumW l) true)))) r) → (fine l = false → r = (0, 0, false)) → Ev (fun k => impl_PickByWeight.f k l s) r := fun r h1 h2 =>
    fold_ev (0 : Int) (fun n => decide (0 ≤ n) && decide (n ≤ 1000000)) (fun s w => wrap64 (s + w)) (0, 0, false) (fun k t => ((impl_inRange.f (l.length : Int) 1 60).bind fun t119 => (if t119 = true then (if t = 0 then (impl_PickByWeight.j1 k l s t true) else ((impl_isSeed.f s).bind fun t120 => (impl_PickByWeight.j1 k l s t (!t120)))) else (impl_PickByWeight.j1 k l s t true)))) (fun k t x n i => impl_PickByWeight.l0 k l s t x n i)
      (fun k t x n i => by rw [impl_PickByWeight.l0]; simp only [in_impl, Option.bind_some]; rfl) l hl 0 r h1 h2
  have jT : ∀ t, Ev (fun k => impl_PickByWeight.j1 k l s t true) (0, 0, false) := fun t => Ev.step (fun k => impl_PickByWeight.j1.eq_2 _ _ _ _ k) (Ev.pos rfl (Ev.now _))
  have sT : Ev (fun k => spec_PickByWeight.j0 k l s true) (0, 0, false) := Ev.step (fun k => spec_PickByWeight.j0.eq_2 _ _ _ k) (Ev.pos rfl (Ev.now _))
  have sF : ∀ r, Ev (fun k => spec_PickByWeight.l0 k l s 0 l (l.length : Int) 0) r → Ev (fun k => spec_PickByWeight.j0 k l s false) r := fun r h => Ev.step (fun k => spec_PickByWeight.j0.eq_2 _ _ _ k) (Ev.neg (by decide) h)
  by_cases hsz : 1 ≤ l.length ∧ l.length ≤ 60
  · have hin : impl_inRange.f (l.length : Int) 1 60 = some true := by rw [in_impl, decide_eq_true (by omega), decide_eq_true (by omega)]; rfl
    cases hseed : (decide (0 ≤ s) && decide (s ≤ 2147483647)) with
    | false =>
      refine ⟨(0, 0, false), ?_, hI _ (fun _ => ?_) (fun _ => rfl)⟩
      · unfold spec_PickByWeight.f
        refine Ev.neg (by omega) (Ev.neg (by omega) (Ev.const_bind (seed_spec s) ?_))
        rw [hseed]; exact sT
      · refine Ev.const_bind hin (Ev.pos rfl (Ev.ite (fun _ => jT _) (fun _ => Ev.const_bind (seed_impl s) ?_)))
        rw [hseed]; exact jT _
    | true =>
      have hspec : ∀ r, Ev (fun k => spec_PickByWeight.l0 k l s 0 l (l.length : Int) 0) r → Ev (fun k => spec_PickByWeight.f k l s) r := fun r h => by
        unfold spec_PickByWeight.f
        refine Ev.neg (by omega) (Ev.neg (by omega) (Ev.const_bind (seed_spec s) ?_))
        rw [hseed]; exact sF _ h
      cases hf : fine l with
      | false => exact ⟨(0, 0, false), hspec _ (hS _ (fun h => by rw [hf] at h; cases h) (fun _ => rfl)), hI _ (fun h => by rw [hf] at h; cases h) (fun _ => rfl)⟩
      | true =>
        by_cases hz : sumW l = 0
        · exact ⟨(0, 0, false), hspec _ (hS _ (fun _ => Ev.pos hz (Ev.now _)) (fun _ => rfl)), hI _ (fun _ => Ev.const_bind hin (Ev.pos rfl (Ev.pos hz (jT _)))) (fun _ => rfl)⟩
        · obtain ⟨c, hc⟩ : ∃ c, spec_l1Coin.f s = some c := ⟨_, rfl⟩
          obtain ⟨r, hr⟩ := l1_ex c.1 (wrap64 (Int.tdiv (wrap64 (c.2 * sumW l)) 32768)) l hl
          refine ⟨r, hspec _ (hS _ (fun _ => Ev.neg hz (Ev.const_bind hc hr)) (fun h => by rw [hf] at h; cases h)), hI _ (fun _ => Ev.const_bind hin (Ev.pos rfl (Ev.neg hz (Ev.const_bind (seed_impl s) ?_)))) (fun h => by rw [hf] at h; cases h)⟩
          rw [hseed]
          refine Ev.step (fun k => impl_PickByWeight.j1.eq_2 _ _ _ _ k) (Ev.neg (by decide) (Ev.const_bind ((coin_impl s hseed).trans hc) ?_))
          simp only [same_l1]
          exact hr
  · refine ⟨(0, 0, false), ?_, hI _ (fun _ => ?_) (fun _ => rfl)⟩
    · unfold spec_PickByWeight.f
      exact Ev.ite (fun _ => sT) (fun h => Ev.pos (by omega) sT)
    · refine Ev.const_bind (in_impl _ _ _) (Ev.neg ?_ (jT _))
      simp
      omega
theorem FnExactPickByWeight : laws_FnExactPickByWeight.Pure := by
  intro l s ⟨hl, _⟩ _
  refine Ev.rounds (r := true) ?_
  unfold laws_FnExactPickByWeight.f
  refine Ev.ite (fun _ => Ev.now _) (fun h => ?_)
  have hn : (l.length : Int) ≤ 1048576 := by omega
  obtain ⟨r, h1, h2⟩ := both l s hl
  refine Ev.bind (to_ints l hn) (Ev.bind h1 (Ev.bind (to_ints l hn) (Ev.bind h2 (Ev.pos rfl (Ev.pos rfl (Ev.step (fun k => laws_FnExactPickByWeight.j0.eq_2 _ _ _ k) (Ev.neg (by simp) (Ev.bind (to_ints l hn) (Ev.bind (eq_ints l hn) (Ev.pos rfl (Ev.now _)))))))))))

end Go.Proofs.Ythcmofhlljmccaa.Pure
