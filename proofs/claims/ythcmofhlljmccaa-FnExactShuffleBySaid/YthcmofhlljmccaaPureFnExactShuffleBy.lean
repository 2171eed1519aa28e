/- ShuffleBy: the pure statement of the law: the program's shuffle is the reference's, for all numbers and seeds. -/
import Derived.Test.YthcmofhlljmccaaXFnExactShuffleByx2
import Derived.Test.YthcmofhlljmccaaXLib
namespace Go.Proofs.Ythcmofhlljmccaa.Pure
open Go.RowKit Go.Proofs.Ythcmofhlljmccaa.XFnExactShuffleBy Go.Proofs.YthcmofhlljmccaaW.PrintWords Go.Proofs.YthcmofhlljmccaaW.PrintLast Go.Proofs.YthcmofhlljmccaaW.PrintMore Go.Proofs.Ythcmofhlljmccaa.X
set_option linter.unusedVariables false
set_option linter.unusedSimpArgs false

theorem in_spec (a b c : Int) : spec_l1In.f a b c = some (decide (b ≤ a) && decide (a ≤ c)) := by
  unfold spec_l1In.f
  by_cases h : b ≤ a <;> simp [h]
theorem in_impl (a b c : Int) : impl_inRange.f a b c = some (decide (b ≤ a) && decide (a ≤ c)) := by
  unfold impl_inRange.f
  by_cases h : b ≤ a <;> simp [h]
theorem eq_ints (l : List Int) (hl : (l.length : Int) ≤ 1048576) : Ev (fun k => laws_eqIntS.f k l l) true :=
  eqInt_ev laws_eqIntS.l0 (fun k x y i => laws_eqIntS.l0.eq_2 x y i k) l (by rw [maxLen_eq]; omega)
theorem mark_ints (l : List Int) (hl : (l.length : Int) ≤ 4611686018427387000) : Ev (fun k => laws_markIntS.f k l 1) (1 + (l.length : Int), marks l.length 1) :=
  markInt_ev laws_markIntS.l0 (fun k x c i => laws_markIntS.l0.eq_2 x c i k) 1 (by omega) l (by omega)
theorem held_ints (n : Nat) (hn : (n : Int) ≤ 4611686018427387000) : Ev (fun k => laws_heldIntS.f k (marks n 1) 1) (1 + (n : Int)) :=
  heldInt_ev laws_heldIntS.l0 (fun k x c i => laws_heldIntS.l0.eq_2 x c i k) n 1 (by omega) (by omega)
theorem seed_spec (s : Int) : spec_l1Seed.f s = some (decide (0 ≤ s) && decide (s ≤ 2147483647)) := by
  unfold spec_l1Seed.f
  rw [in_spec]; rfl
theorem seed_impl (s : Int) : impl_isSeed.f s = some (decide (0 ≤ s) && decide (s ≤ 2147483647)) := by
  unfold impl_isSeed.f
  rw [in_impl]; rfl
def nextOf (s : Int) : Int := (s * 1103515245 + 12345) % 2147483648
theorem next_range (s : Int) : 0 ≤ nextOf s ∧ nextOf s ≤ 2147483647 := by unfold nextOf; omega
theorem coin_spec (s : Int) (h0 : 0 ≤ s) (h1 : s ≤ 2147483647) : spec_l1Coin.f s = some (nextOf s, nextOf s / 65536) := by
  have hn := next_range s
  unfold spec_l1Coin.f
  rw [w64 (n := s * 1103515245) (by omega) (by omega), w64 (n := s * 1103515245 + 12345) (by omega) (by omega), Int.tmod_eq_emod_of_nonneg (by omega)]
  rw [show (s * 1103515245 + 12345) % 2147483648 = nextOf s from rfl, Int.tdiv_eq_ediv_of_nonneg hn.1, w64 (by omega) (by omega)]
theorem coin_impl (s : Int) (h0 : 0 ≤ s) (h1 : s ≤ 2147483647) : impl_NextCoin.f s = some (nextOf s, nextOf s / 65536) := by
  rw [← coin_spec s h0 h1]
  unfold impl_NextCoin.f spec_l1Coin.f
  rw [seed_impl, Option.bind_some, decide_eq_true h0, decide_eq_true h1]; rfl
/-- The swaps, from the end on. -/
theorem swaps (n : Nat) : ∀ (m : Nat) (s : Int) (l : List Int), m ≤ n → l.length = n → n ≤ 60 → 0 ≤ s → s ≤ 2147483647 →
    ∃ r : List Int × Int × Bool, r.1.length = n ∧ Ev (fun k => spec_ShuffleBy.l1 k s l ((m : Int) - 1)) r ∧ Ev (fun k => impl_ShuffleBy.l1 k s l ((m : Int) - 1)) r := by
  intro m
  induction m with
  | zero =>
    intro s l hm hl hn h0 h1
    exact ⟨(l, s, true), hl, Ev.step (fun k => spec_ShuffleBy.l1.eq_2 _ _ _ k) (Ev.neg (by omega) (Ev.now _)), Ev.step (fun k => impl_ShuffleBy.l1.eq_2 _ _ _ k) (Ev.neg (by omega) (Ev.now _))⟩
  | succ m ih =>
    intro s l hm hl hn h0 h1
    by_cases hz : m = 0
    · subst hz
      exact ⟨(l, s, true), hl, Ev.step (fun k => spec_ShuffleBy.l1.eq_2 _ _ _ k) (Ev.neg (by omega) (Ev.now _)), Ev.step (fun k => impl_ShuffleBy.l1.eq_2 _ _ _ k) (Ev.neg (by omega) (Ev.now _))⟩
    · have hr := next_range s
      have ht : Int.tmod (nextOf s / 65536) ((m : Int) + 1) = (nextOf s / 65536) % ((m : Int) + 1) := Int.tmod_eq_emod_of_nonneg (by omega)
      have hp0 : 0 ≤ (nextOf s / 65536) % ((m : Int) + 1) := Int.emod_nonneg _ (by omega)
      have hp1 : (nextOf s / 65536) % ((m : Int) + 1) < (m : Int) + 1 := Int.emod_lt_of_pos _ (by omega)
      generalize hj : (nextOf s / 65536) % ((m : Int) + 1) = j at ht hp0 hp1
      obtain ⟨r, hrl, hs, hi⟩ := ih (nextOf s) ((l.set m (rd l j)).set j.toNat (rd l m)) (by omega) (by simp [hl]) hn hr.1 hr.2
      have e1 : ((m + 1 : Nat) : Int) - 1 = m := by omega
      have e2 : wrap64 ((m : Int) + 1) = (m : Int) + 1 := w64 (by omega) (by omega)
      have e3 : wrap64 ((m : Int) - 1) = (m : Int) - 1 := w64 (by omega) (by omega)
      refine ⟨r, hrl, ?_, ?_⟩
      · rw [e1]
        refine Ev.step (fun k => spec_ShuffleBy.l1.eq_2 _ _ _ k) (Ev.pos (by omega) (Ev.const_bind (coin_spec s h0 h1) ?_))
        simp only [e2, e3, ht, Int.toNat_natCast]
        exact Ev.neg (by omega) (Ev.pos (by omega) (Ev.pos (by omega) (Ev.pos (by omega) (Ev.pos (by omega) hs))))
      · rw [e1]
        refine Ev.step (fun k => impl_ShuffleBy.l1.eq_2 _ _ _ k) (Ev.pos (by omega) (Ev.const_bind (coin_impl s h0 h1) ?_))
        simp only [e2, e3, ht, Int.toNat_natCast]
        exact Ev.neg (by omega) (Ev.pos (by omega) (Ev.pos (by omega) (Ev.pos (by omega) (Ev.pos (by omega) hi))))
def ups (n : Nat) : List Int := (List.range n).map fun (i : Nat) => (i : Int)
theorem ups_succ (n : Nat) : ups (n + 1) = ups n ++ [(n : Int)] := by unfold ups; rw [List.range_succ, List.map_append]; rfl
theorem ups_length (n : Nat) : (ups n).length = n := by simp [ups]
theorem fills (n : Nat) (hn : n ≤ 60) (s : Int) (h0 : 0 ≤ s) (h1 : s ≤ 2147483647) : ∃ r : List Int × Int × Bool, r.1.length = n ∧ Ev (fun k => spec_ShuffleBy.l0 k (n : Int) s [] 0) r ∧ Ev (fun k => impl_ShuffleBy.l0 k (n : Int) s [] (n : Int) 0) r := by
  obtain ⟨r, hr, hs, hi⟩ := swaps n n s (ups n) (Nat.le_refl _) (ups_length n) hn h0 h1
  have e3 : wrap64 ((n : Int) - 1) = (n : Int) - 1 := w64 (by omega) (by omega)
  have key : ∀ m i : Nat, i + m = n → Ev (fun k => spec_ShuffleBy.l0 k (n : Int) s (ups i) (i : Int)) r ∧ Ev (fun k => impl_ShuffleBy.l0 k (n : Int) s (ups i) (n : Int) (i : Int)) r := by
    intro m
    induction m with
    | zero =>
      intro i hi'
      obtain rfl : i = n := by omega
      refine ⟨Ev.step (fun k => spec_ShuffleBy.l0.eq_2 _ _ _ _ k) (Ev.neg (by omega) ?_), Ev.step (fun k => impl_ShuffleBy.l0.eq_2 _ _ _ _ _ k) (Ev.neg (by omega) ?_)⟩ <;> rw [e3] <;> assumption
    | succ m ih =>
      intro i hi'
      have h := ih (i + 1) (by omega)
      refine ⟨Ev.step (fun k => spec_ShuffleBy.l0.eq_2 _ _ _ _ k) (Ev.pos (by omega) (Ev.pos (by rw [ups_length]; omega) ?_)), Ev.step (fun k => impl_ShuffleBy.l0.eq_2 _ _ _ _ _ k) (Ev.pos (by omega) (Ev.pos (by rw [ups_length]; omega) ?_))⟩
      · rw [w_succ (by omega), ← ups_succ]; exact h.1
      · rw [w_succ (by omega), ← ups_succ]; exact h.2
  exact ⟨r, hr, (key n 0 (by omega)).1, (key n 0 (by omega)).2⟩
theorem both (a s : Int) : ∃ r : List Int × Int × Bool, (r.1.length : Int) ≤ 60 ∧ Ev (fun k => spec_ShuffleBy.f k a s) r ∧ Ev (fun k => impl_ShuffleBy.f k a s) r := by
  have sT : Ev (fun k => spec_ShuffleBy.j0 k a s true) ([], 0, false) := Ev.step (fun k => spec_ShuffleBy.j0.eq_2 _ _ _ k) (Ev.pos rfl (Ev.now _))
  have iT : Ev (fun k => impl_ShuffleBy.j0 k a s true) ([], 0, false) := Ev.step (fun k => impl_ShuffleBy.j0.eq_2 _ _ _ k) (Ev.pos rfl (Ev.now _))
  unfold spec_ShuffleBy.f impl_ShuffleBy.f
  simp only [in_spec, in_impl, seed_spec, seed_impl, Option.bind_some]
  by_cases ha : 0 ≤ a ∧ a ≤ 60
  · have ha' : (decide (0 ≤ a) && decide (a ≤ 60)) = true := by simp [ha]
    rw [ha']
    by_cases hs : 0 ≤ s ∧ s ≤ 2147483647
    · have hs' : (decide (0 ≤ s) && decide (s ≤ 2147483647)) = true := by simp [hs]
      rw [hs']
      obtain ⟨n, rfl⟩ := Int.eq_ofNat_of_zero_le ha.1
      obtain ⟨r, hr, h1, h2⟩ := fills n (by omega) s hs.1 hs.2
      exact ⟨r, by omega, Ev.pos rfl (Ev.step (fun k => spec_ShuffleBy.j0.eq_2 _ _ _ k) (Ev.neg (by decide) h1)), Ev.pos rfl (Ev.step (fun k => impl_ShuffleBy.j0.eq_2 _ _ _ k) (Ev.neg (by decide) h2))⟩
    · have hs' : (decide (0 ≤ s) && decide (s ≤ 2147483647)) = false := by simp; omega
      rw [hs']
      exact ⟨([], 0, false), by simp, Ev.pos rfl sT, Ev.pos rfl iT⟩
  · have ha' : (decide (0 ≤ a) && decide (a ≤ 60)) = false := by simp; omega
    rw [ha']
    exact ⟨([], 0, false), by simp, Ev.neg (by decide) sT, Ev.neg (by decide) iT⟩
theorem FnExactShuffleBy : laws_FnExactShuffleBy.Pure := by
  intro a s _ _
  refine Ev.rounds (r := true) ?_
  obtain ⟨r, hl, h1, h2⟩ := both a s
  have he := eq_ints r.1 (by omega)
  have hm := mark_ints r.1 (by omega)
  have hh := held_ints r.1.length (by omega)
  unfold laws_FnExactShuffleBy.f
  refine Ev.bind h1 (Ev.bind h2 (Ev.bind he (Ev.pos rfl (Ev.pos rfl (Ev.step (fun k => laws_FnExactShuffleBy.j0.eq_2 _ _ _ _ _ _ _ k) (Ev.neg (by simp) (Ev.bind hm (Ev.bind hh (Ev.neg (by omega) (Ev.pos rfl (Ev.bind h2 (Ev.bind he (Ev.pos rfl (Ev.pos rfl (Ev.step (fun k => laws_FnExactShuffleBy.j1.eq_2 _ _ _ k) (Ev.neg (by simp) (Ev.bind hh (Ev.neg (by omega) (Ev.pos rfl (Ev.now _))))))))))))))))))))

end Go.Proofs.Ythcmofhlljmccaa.Pure
