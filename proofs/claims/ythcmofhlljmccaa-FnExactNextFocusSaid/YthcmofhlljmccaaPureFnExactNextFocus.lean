/- NextFocus: the pure statement of the law: the program's next focus is the reference's, for all places, numbers and ways. -/
import Derived.Test.YthcmofhlljmccaaXFnExactNextFocusx5
import Derived.Test.YthcmofhlljmccaaXLib
namespace Go.Proofs.Ythcmofhlljmccaa.Pure
open Go.RowKit Go.Proofs.Ythcmofhlljmccaa.XFnExactNextFocus Go.Proofs.YthcmofhlljmccaaW.PrintWords Go.Proofs.YthcmofhlljmccaaW.PrintLast Go.Proofs.YthcmofhlljmccaaW.PrintMore Go.Proofs.Ythcmofhlljmccaa.X
set_option linter.unusedVariables false
set_option linter.unusedSimpArgs false

theorem in_spec (a b c : Int) : spec_l1In.f a b c = some (decide (b ≤ a) && decide (a ≤ c)) := by
  unfold spec_l1In.f
  by_cases h : b ≤ a <;> simp [h]
theorem in_impl (a b c : Int) : impl_inRange.f a b c = some (decide (b ≤ a) && decide (a ≤ c)) := by
  unfold impl_inRange.f
  by_cases h : b ≤ a <;> simp [h]
def placeOk (b : S100) : Bool := (decide (0 ≤ b.f0) && decide (b.f0 ≤ 40000)) && ((decide (0 ≤ b.f1) && decide (b.f1 ≤ 40000)) && ((decide (0 ≤ b.f2) && decide (b.f2 ≤ 40000)) && (decide (0 ≤ b.f3) && decide (b.f3 ≤ 40000))))
theorem place_yes {b : S100} (h : placeOk b = true) : (0 ≤ b.f0 ∧ b.f0 ≤ 40000) ∧ (0 ≤ b.f1 ∧ b.f1 ≤ 40000) ∧ (0 ≤ b.f2 ∧ b.f2 ≤ 40000) ∧ (0 ≤ b.f3 ∧ b.f3 ≤ 40000) := by
  simpa [placeOk, Bool.and_eq_true, decide_eq_true_eq] using h
theorem far_spec {a b c d : Int} (ha : 0 ≤ a ∧ a ≤ 40000) (hb : 0 ≤ b ∧ b ≤ 40000) (hc : 0 ≤ c ∧ c ≤ 40000) (hd : 0 ≤ d ∧ d ≤ 40000) :
    wrap64 (wrap64 (wrap64 (wrap64 (2 * a) + b) - wrap64 (2 * c)) - d) = 2 * a + b - 2 * c - d := by
  rw [w64 (n := 2 * a) (by omega) (by omega), w64 (n := 2 * a + b) (by omega) (by omega), w64 (n := 2 * c) (by omega) (by omega), w64 (n := 2 * a + b - 2 * c) (by omega) (by omega), w64 (by omega) (by omega)]
theorem far_impl {a b c d : Int} (ha : 0 ≤ a ∧ a ≤ 40000) (hb : 0 ≤ b ∧ b ≤ 40000) (hc : 0 ≤ c ∧ c ≤ 40000) (hd : 0 ≤ d ∧ d ≤ 40000) :
    wrap64 (wrap64 (wrap64 (2 * wrap64 (a - c)) + b) - d) = 2 * a + b - 2 * c - d := by
  rw [w64 (n := a - c) (by omega) (by omega), w64 (n := 2 * (a - c)) (by omega) (by omega), w64 (n := 2 * (a - c) + b) (by omega) (by omega), w64 (by omega) (by omega)]
  omega
theorem size_eq {x : Int} (h : -1000000 ≤ x ∧ x ≤ 1000000) : spec_l1Abs.f x = some (mx x (-x)) ∧ impl_size.f x = some (mx x (-x)) := by
  unfold spec_l1Abs.f impl_size.f
  rw [w64 (n := -x) (by omega) (by omega)]
  refine ⟨?_, rfl⟩
  unfold mx
  by_cases h0 : x < 0
  · rw [if_pos h0, if_pos (by omega)]
  · rw [if_neg h0]
    by_cases h1 : x < -x
    · omega
    · rw [if_neg h1]
theorem ways (l : List S100) (hl : l.length ≤ maxLen) (hall : l.all placeOk = true) (x1 x2 : Int) (h1 : 0 ≤ x1) (h1' : x1 < (l.length : Int)) :
    ∀ (m i : Nat) (b s : Int), i + m = l.length → Both (fun _ => True) (fun k => spec_NextFocus.l1 k l x1 x2 b s l (l.length : Int) (i : Int)) (fun k => impl_NextFocus.l1 k l x1 x2 b s l (l.length : Int) (i : Int)) := by
  rw [maxLen_eq] at hl
  have ok : ∀ j : Nat, j < l.length → placeOk (rd_T100 l (j : Int)) = true := fun j hj => by
    have : rd_T100 l (j : Int) = l[j] := rdOf_get (d := z100) hj
    rw [this]
    exact List.all_eq_true.1 hall _ (List.getElem_mem _)
  obtain ⟨j1, rfl⟩ := Int.eq_ofNat_of_zero_le h1
  intro m
  induction m with
  | zero => exact fun i b s hi => Both.step (fun k => spec_NextFocus.l1.eq_2 _ _ _ _ _ _ _ _ k) (fun k => impl_NextFocus.l1.eq_2 _ _ _ _ _ _ _ _ k) (Both.neg (by omega) (by omega) (Both.now _ trivial))
  | succ m ih =>
    intro i b s hi
    obtain ⟨a0, a1, a2, a3⟩ := place_yes (ok i (by omega))
    obtain ⟨b0, b1, b2, b3⟩ := place_yes (ok j1 (by omega))
    have hj : ∀ dx dy : Int, (-1000000 ≤ dx ∧ dx ≤ 1000000) → (-1000000 ≤ dy ∧ dy ≤ 1000000) → Both (fun _ => True) (fun k => spec_NextFocus.j3 k l (j1 : Int) x2 b s (i : Int) dx dy l (l.length : Int) (i : Int)) (fun k => impl_NextFocus.j3 k l (j1 : Int) x2 b s (i : Int) dx dy l (l.length : Int) (i : Int)) := by
      intro dx dy hx hy
      obtain ⟨e1, e2⟩ := size_eq hy
      have next : ∀ b s, Both (fun _ => True) (fun k => spec_NextFocus.l1 k l (j1 : Int) x2 b s l (l.length : Int) (wrap64 ((i : Int) + 1))) (fun k => impl_NextFocus.l1 k l (j1 : Int) x2 b s l (l.length : Int) (wrap64 ((i : Int) + 1))) := fun b s => by
        rw [w_succ (by omega)]
        exact ih (i + 1) b s (by omega)
      refine Both.step (fun k => spec_NextFocus.j3.eq_2 _ _ _ _ _ _ _ _ _ _ _ k) (fun k => impl_NextFocus.j3.eq_2 _ _ _ _ _ _ _ _ _ _ _ k) ?_
      refine Both.ite (fun _ => Both.cbind e1 e2 ?_) (fun _ => Both.cbind e1 e2 ?_)
      · exact Both.ite (fun _ => next _ _) (fun _ => Both.ite (fun _ => Both.ite (fun _ => next _ _) (fun _ => Both.ite (fun _ => next _ _) (fun _ => next _ _))) (fun _ => next _ _))
      · exact Both.ite (fun _ => next _ _) (fun _ => Both.ite (fun _ => Both.ite (fun _ => next _ _) (fun _ => Both.ite (fun _ => next _ _) (fun _ => next _ _))) (fun _ => next _ _))
    refine Both.step (fun k => spec_NextFocus.l1.eq_2 _ _ _ _ _ _ _ _ k) (fun k => impl_NextFocus.l1.eq_2 _ _ _ _ _ _ _ _ k) ?_
    refine Both.pos (by omega) (by omega) (Both.pos (by omega) (by omega) (Both.pos (by omega) (by omega) (Both.pos (by omega) (by omega) (Both.pos h1' h1' ?_))))
    rw [far_spec a1 a3 b1 b3, far_spec a0 a2 b0 b2, far_impl a1 a3 b1 b3, far_impl a0 a2 b0 b2]
    exact Both.ite (fun _ => hj _ _ (by omega) (by omega)) (fun _ => hj _ _ (by omega) (by omega))
theorem both (l : List S100) (x1 x2 : Int) (hl : l.length ≤ maxLen) : Both (fun _ => True) (fun k => spec_NextFocus.f k l x1 x2) (fun k => impl_NextFocus.f k l x1 x2) := by
  have hl' := hl
  rw [maxLen_eq] at hl
  have jT : Both (fun _ => True) (fun k => spec_NextFocus.j0 k l x1 x2 true) (fun k => impl_NextFocus.j0 k l x1 x2 true) := Both.step (fun k => spec_NextFocus.j0.eq_2 _ _ _ _ k) (fun k => impl_NextFocus.j0.eq_2 _ _ _ _ k) (Both.pos rfl rfl (Both.now _ trivial))
  have jF : 0 ≤ x1 → x1 < (l.length : Int) → Both (fun _ => True) (fun k => spec_NextFocus.j0 k l x1 x2 false) (fun k => impl_NextFocus.j0 k l x1 x2 false) := fun h1 h1' => by
    have hS : ∀ r, (l.all placeOk = true → Ev (fun k => spec_NextFocus.l1 k l x1 x2 (-1) 0 l (l.length : Int) 0) r) → (l.all placeOk = false → r = (0, false)) → Ev (fun k => spec_NextFocus.l0 k l x1 x2 l (l.length : Int) 0) r := fun r h1 h2 =>
      fold_ev z100 placeOk (fun _ _ => ()) (0, false) (fun k _ => spec_NextFocus.l1 k l x1 x2 (-1) 0 l (l.length : Int) 0) (fun k _ x n i => spec_NextFocus.l0 k l x1 x2 x n i)
        (fun k _ x n i => by rw [spec_NextFocus.l0]; simp only [in_spec, Option.bind_some, and_chain]; rfl) l hl' () r h1 h2
    have hI : ∀ r, (l.all placeOk = true → Ev (fun k => impl_NextFocus.l1 k l x1 x2 (-1) 0 l (l.length : Int) 0) r) → (l.all placeOk = false → r = (0, false)) → Ev (fun k => impl_NextFocus.l0 k l x1 x2 l (l.length : Int) 0) r := fun r h1 h2 =>
      fold_ev z100 placeOk (fun _ _ => ()) (0, false) (fun k _ => impl_NextFocus.l1 k l x1 x2 (-1) 0 l (l.length : Int) 0) (fun k _ x n i => impl_NextFocus.l0 k l x1 x2 x n i)
        (fun k _ x n i => by rw [impl_NextFocus.l0]; simp only [in_impl, Option.bind_some, and_chain]; rfl) l hl' () r h1 h2
    refine Both.step (fun k => spec_NextFocus.j0.eq_2 _ _ _ _ k) (fun k => impl_NextFocus.j0.eq_2 _ _ _ _ k) (Both.neg (by decide) (by decide) ?_)
    cases ha : l.all placeOk with
    | false => exact ⟨(0, false), trivial, hS _ (fun h => by rw [ha] at h; cases h) (fun _ => rfl), hI _ (fun h => by rw [ha] at h; cases h) (fun _ => rfl)⟩
    | true =>
      obtain ⟨r, _, k1, k2⟩ := ways l hl' ha x1 x2 h1 h1' l.length 0 (-1) 0 (by omega)
      exact ⟨r, trivial, hS _ (fun _ => k1) (fun h => by rw [ha] at h; cases h), hI _ (fun _ => k2) (fun h => by rw [ha] at h; cases h)⟩
  unfold spec_NextFocus.f impl_NextFocus.f
  simp only [in_spec, in_impl, Option.bind_some]
  refine Both.ite (fun _ => jT) (fun _ => Both.ite (fun h => ?_) (fun _ => jT))
  rw [w_pred (by omega)] at h
  simp only [Bool.and_eq_true, decide_eq_true_eq] at h
  cases (decide (0 ≤ x2) && decide (x2 ≤ 3)) with
  | false => exact jT
  | true => exact jF h.1 (by omega)
theorem FnExactNextFocus : laws_FnExactNextFocus.Pure := by
  intro l x1 x2 ⟨hl, _⟩ _ _
  refine Ev.rounds (r := true) ?_
  unfold laws_FnExactNextFocus.f laws_szPlacedS.f
  refine Ev.const_bind (sz_left (by omega) (by omega) hl) (Ev.ite (fun _ => Ev.now _) (fun h => ?_))
  have hn := (roomLeft_ok h).1
  have ht := toS_ev z100 (fun b : S102 => (⟨b.f0, b.f1, b.f2, b.f3⟩ : S100)) z102 laws_toPlacedS.l0 (fun k x y i => laws_toPlacedS.l0.eq_2 x y i k) l (by omega)
  have hT : Ev (fun k => laws_toPlacedS.f k l) (l.map fun b : S102 => (⟨b.f0, b.f1, b.f2, b.f3⟩ : S100)) := by
    unfold laws_toPlacedS.f
    exact Ev.pos (by omega) (Ev.pos (by omega) ht)
  generalize hxs : (l.map fun b : S102 => (⟨b.f0, b.f1, b.f2, b.f3⟩ : S100)) = xs at hT
  have hxl : xs.length ≤ maxLen := by rw [← hxs, List.length_map, maxLen_eq]; omega
  have he : Ev (fun k => laws_eqPlacedS.f k xs xs) true := by
    unfold laws_eqPlacedS.f
    exact eqT_ev z100 (fun a b => laws_eqPlaced.f a.f0 a.f1 a.f2 a.f3 b.f0 b.f1 b.f2 b.f3) laws_eqPlacedS.l0 (fun k x y i => laws_eqPlacedS.l0.eq_2 x y i k) (fun a => by simp [laws_eqPlaced.f]) xs hxl
  obtain ⟨r, _, h1, h2⟩ := both xs x1 x2 hxl
  exact Ev.bind hT (Ev.bind h1 (Ev.bind hT (Ev.bind h2 (Ev.pos rfl (Ev.step (fun k => laws_FnExactNextFocus.j0.eq_2 _ _ _ k) (Ev.neg (by simp) (Ev.bind hT (Ev.bind he (Ev.pos rfl (Ev.now _))))))))))

end Go.Proofs.Ythcmofhlljmccaa.Pure
