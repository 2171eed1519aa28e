/- GoodBoxes: the pure statement of the law: the program's answer is the reference's, for every list of boxes. -/
import Derived.Test.YteafbkfglchggaaXFnExactGoodBoxesx4
import Derived.Test.YteafbkfglchggaaXLib
namespace Go.Proofs.Yteafbkfglchggaa.Pure
open Go.RowKit Go.Proofs.Yteafbkfglchggaa.XFnExactGoodBoxes Go.Proofs.YteafbkfglchggaaW.PrintWords Go.Proofs.YteafbkfglchggaaW.PrintLast Go.Proofs.YteafbkfglchggaaW.PrintMore Go.Proofs.Yteafbkfglchggaa.X
set_option linter.unusedVariables false
set_option linter.unusedSimpArgs false

theorem in_spec (a b c : Int) : spec_l1In.f a b c = some (decide (b ≤ a) && decide (a ≤ c)) := by
  unfold spec_l1In.f
  by_cases h : b ≤ a <;> simp [h]
theorem in_impl (a b c : Int) : impl_inRange.f a b c = some (decide (b ≤ a) && decide (a ≤ c)) := by
  unfold impl_inRange.f
  by_cases h : b ≤ a <;> simp [h]
def boxOk (i : Nat) (b : S67) : Bool :=
  (if i = 0 then b.f0 == -1 else (decide (0 ≤ b.f0) && decide (b.f0 ≤ (i : Int) - 1))) && ((decide (1 ≤ b.f1) && decide (b.f1 ≤ 2)) && ((decide (0 ≤ b.f2) && decide (b.f2 ≤ 10000)) && ((decide (0 ≤ b.f3) && decide (b.f3 ≤ 1000)) && (decide (0 ≤ b.f4) && decide (b.f4 ≤ 100)))))
def boxesOk (l : List S67) : Bool := (decide (1 ≤ l.length) && decide (l.length ≤ 40)) && allFrom (fun i => boxOk i (rd_T67 l (i : Int))) l.length 0
theorem spec_l (l : List S67) (hl : l.length ≤ maxLen) : ∀ m i : Nat, i + m = l.length → Ev (fun k => spec_GoodBoxes.l0 k l (l.length : Int) (i : Int)) (allFrom (fun i => boxOk i (rd_T67 l (i : Int))) m i) := by
  rw [maxLen_eq] at hl
  intro m
  induction m with
  | zero => exact fun i hi => Ev.step (fun k => spec_GoodBoxes.l0.eq_2 _ _ _ k) (Ev.neg (by omega) (Ev.now _))
  | succ m ih =>
    intro i hi
    refine Ev.step (fun k => spec_GoodBoxes.l0.eq_2 _ _ _ k) (Ev.pos (by omega) (Ev.pos (by omega) (Ev.pos (by omega) ?_)))
    simp only [in_spec, Option.bind_some]
    rw [w_succ (by omega), allFrom]
    by_cases h0 : i = 0
    · refine Ev.pos (by omega) (Ev.ite (fun hu => ?_) (fun hu => Ev.cast (Ev.now _) ?_))
      · refine Ev.neg (by omega) (Ev.cast (Ev.and (fun _ => Ev.and (fun _ => Ev.and (fun _ => Ev.and (fun _ => ih (i + 1) (by omega)))))) ?_)
        simp only [boxOk, if_pos h0, hu, beq_self_eq_true, Bool.true_and, Bool.and_assoc]
      · have hu' : ((rd_T67 l (i : Int)).f0 == -1) = false := beq_eq_false_iff_ne.2 hu
        simp only [boxOk, if_pos h0, hu', Bool.false_and]
    · refine Ev.neg (by omega) (Ev.pos (by omega) ?_)
      rw [w_pred (by omega)]
      refine Ev.cast (Ev.and (fun _ => Ev.and (fun _ => Ev.and (fun _ => Ev.and (fun _ => Ev.and (fun _ => ih (i + 1) (by omega))))))) ?_
      simp only [boxOk, if_neg h0, Bool.and_assoc]
theorem spec_ev (l : List S67) (hl : l.length ≤ maxLen) : Ev (fun k => spec_GoodBoxes.f k l) (boxesOk l) := by
  have hj : ∀ b, Ev (fun k => spec_GoodBoxes.j0 k l b) (!b && allFrom (fun i => boxOk i (rd_T67 l (i : Int))) l.length 0) := fun b =>
    Ev.step (fun k => spec_GoodBoxes.j0.eq_2 _ _ k) (Ev.andn (fun _ => spec_l l hl l.length 0 (by omega)))
  unfold spec_GoodBoxes.f boxesOk
  refine Ev.ite (fun h => Ev.cast (hj _) ?_) (fun h => Ev.cast (hj _) ?_)
  · rw [decide_eq_false (show ¬ 1 ≤ l.length by omega)]; rfl
  · rw [decide_eq_true (show 1 ≤ l.length by omega), Bool.true_and]
    congr 1
    by_cases h2 : l.length ≤ 40
    · rw [decide_eq_true h2, decide_eq_false (by omega)]; rfl
    · rw [decide_eq_false h2, decide_eq_true (by omega)]; rfl
theorem impl_ev (l : List S67) (hl : l.length ≤ maxLen) : Ev (fun k => impl_GoodBoxes.f k l) (boxesOk l) := by
  rw [maxLen_eq] at hl
  unfold impl_GoodBoxes.f boxesOk
  have key : ∀ m i : Nat, i + m = l.length → Ev (fun k => impl_GoodBoxes.l0 k l l (l.length : Int) (i : Int)) ((decide (1 ≤ l.length) && decide (l.length ≤ 40)) && allFrom (fun i => boxOk i (rd_T67 l (i : Int))) m i) := by
    intro m
    induction m with
    | zero =>
      intro i hi
      refine Ev.step (fun k => impl_GoodBoxes.l0.eq_2 _ _ _ _ k) (Ev.neg (by omega) (Ev.const_bind (in_impl _ _ _) (Ev.cast (Ev.now _) ?_)))
      rw [allFrom, Bool.and_true]
      congr 1 <;> exact decide_eq_decide.2 (by omega)
    | succ m ih =>
      intro i hi
      have hj : ∀ b y0 y1 y2 y3 y4, Ev (fun k => impl_GoodBoxes.j1 k l l (l.length : Int) (i : Int) b y0 y1 y2 y3 y4) (!b && ((decide (0 ≤ y2) && decide (y2 ≤ 10000)) && ((decide (0 ≤ y3) && decide (y3 ≤ 1000)) && ((decide (0 ≤ y4) && decide (y4 ≤ 100)) && ((decide (1 ≤ l.length) && decide (l.length ≤ 40)) && allFrom (fun i => boxOk i (rd_T67 l (i : Int))) m (i + 1)))))) := by
        intro b y0 y1 y2 y3 y4
        refine Ev.step (fun k => impl_GoodBoxes.j1.eq_2 _ _ _ _ _ _ _ _ _ _ k) (Ev.andn (fun _ => ?_))
        simp only [in_impl, Option.bind_some]
        rw [w_succ (by omega)]
        exact Ev.and (fun _ => Ev.and (fun _ => Ev.and (fun _ => ih (i + 1) (by omega))))
      refine Ev.step (fun k => impl_GoodBoxes.l0.eq_2 _ _ _ _ k) (Ev.pos (by omega) (Ev.pos (by omega) (Ev.pos (by omega) ?_)))
      simp only [in_impl, Option.bind_some]
      rw [allFrom]
      generalize hL : (decide (1 ≤ l.length) && decide (l.length ≤ 40)) = L
      rw [hL] at hj
      generalize allFrom (fun i => boxOk i (rd_T67 l (i : Int))) m (i + 1) = R at hj ⊢
      have sw : ∀ x : Bool, (L && (x && R)) = (x && (L && R)) := fun x => by rw [← Bool.and_assoc, Bool.and_comm L x, Bool.and_assoc]
      rw [sw]
      by_cases h0 : i = 0
      · refine Ev.pos (by omega) (Ev.ite (fun hu => ?_) (fun hu => Ev.cast (hj _ _ _ _ _ _) ?_))
        · refine Ev.neg (by omega) (Ev.cast (hj _ _ _ _ _ _) ?_)
          simp only [boxOk, if_pos h0, hu, beq_self_eq_true, Bool.true_and, Bool.and_assoc, Bool.not_not]
        · have hu' : ((rd_T67 l (i : Int)).f0 == -1) = false := beq_eq_false_iff_ne.2 hu
          simp only [boxOk, if_pos h0, hu', Bool.false_and, Bool.not_true]
      · refine Ev.neg (by omega) (Ev.pos (by omega) ?_)
        rw [w_pred (by omega)]
        simp only [boxOk, if_neg h0]
        cases hb : (decide (0 ≤ (rd_T67 l (i : Int)).f0) && decide ((rd_T67 l (i : Int)).f0 ≤ (i : Int) - 1)) with
        | true =>
          refine Ev.pos rfl (Ev.cast (hj _ _ _ _ _ _) ?_)
          simp only [Bool.true_and, Bool.and_assoc, Bool.not_not]
        | false =>
          refine Ev.neg (by decide) (Ev.cast (hj _ _ _ _ _ _) ?_)
          simp only [Bool.false_and, Bool.not_true]
  exact key l.length 0 (by omega)
theorem FnExactGoodBoxes : laws_FnExactGoodBoxes.Pure := by
  intro l ⟨hl, _⟩
  refine Ev.rounds (r := true) ?_
  unfold laws_FnExactGoodBoxes.f laws_szBoxS.f
  rw [maxLen_eq] at hl
  refine Ev.bind (a := (if (wrap64 (1048576 - (l.length : Int))) < 0 then -1 else wrap64 (1048576 - (l.length : Int)))) (Ev.mk fun _ => by split <;> rfl) (Ev.ite (fun _ => Ev.now _) (fun h => ?_))
  have hn : l.length ≤ 1048576 := by
    by_cases hc : l.length ≤ 1048576
    · exact hc
    · rw [w64 (by omega) (by omega), if_pos (by omega)] at h; omega
  have ht := toS_ev z67 (fun b : S69 => (⟨b.f0, b.f1, b.f2, b.f3, b.f4⟩ : S67)) z69 laws_toBoxS.l0 (fun k x y i => laws_toBoxS.l0.eq_2 x y i k) l (by omega)
  have hT : Ev (fun k => laws_toBoxS.f k l) (l.map fun b : S69 => (⟨b.f0, b.f1, b.f2, b.f3, b.f4⟩ : S67)) := by
    unfold laws_toBoxS.f
    exact Ev.pos (by omega) (Ev.pos (by omega) ht)
  generalize hxs : (l.map fun b : S69 => (⟨b.f0, b.f1, b.f2, b.f3, b.f4⟩ : S67)) = xs at hT
  have hxl : xs.length ≤ maxLen := by rw [← hxs, List.length_map, maxLen_eq]; omega
  have he : Ev (fun k => laws_eqBoxS.f k xs xs) true := by
    unfold laws_eqBoxS.f
    exact eqT_ev z67 (fun a b => laws_eqBox.f a.f0 a.f1 a.f2 a.f3 a.f4 b.f0 b.f1 b.f2 b.f3 b.f4) laws_eqBoxS.l0 (fun k x y i => laws_eqBoxS.l0.eq_2 x y i k) (fun a => by simp [laws_eqBox.f]) xs hxl
  exact Ev.bind hT (Ev.bind (spec_ev xs hxl) (Ev.bind hT (Ev.bind (impl_ev xs hxl) (Ev.neg (by simp) (Ev.bind hT (Ev.bind he (Ev.pos rfl (Ev.now _))))))))

end Go.Proofs.Yteafbkfglchggaa.Pure
