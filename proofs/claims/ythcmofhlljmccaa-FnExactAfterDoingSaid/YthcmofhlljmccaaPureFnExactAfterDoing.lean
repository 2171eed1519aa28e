/- AfterDoing: the pure statement of the law: the program's facts are the reference's, for all facts and actions. -/
import Derived.Test.YthcmofhlljmccaaXFnExactAfterDoingx2
import Derived.Test.YthcmofhlljmccaaXLib
namespace Go.Proofs.Ythcmofhlljmccaa.Pure
open Go.RowKit Go.Proofs.Ythcmofhlljmccaa.XFnExactAfterDoing Go.Proofs.YthcmofhlljmccaaW.PrintWords Go.Proofs.YthcmofhlljmccaaW.PrintLast Go.Proofs.YthcmofhlljmccaaW.PrintMore Go.Proofs.Ythcmofhlljmccaa.X
set_option linter.unusedVariables false
set_option linter.unusedSimpArgs false

theorem in_spec (a b c : Int) : spec_l1In.f a b c = some (decide (b ≤ a) && decide (a ≤ c)) := by
  unfold spec_l1In.f
  by_cases h : b ≤ a <;> simp [h]
theorem in_impl (a b c : Int) : impl_inRange.f a b c = some (decide (b ≤ a) && decide (a ≤ c)) := by
  unfold impl_inRange.f
  by_cases h : b ≤ a <;> simp [h]
/-! names: letters, digits, '_', no digit first, 1 to 20 -/
def isDig (c : Int) : Bool := decide (48 ≤ c) && decide (c ≤ 57)
def isLet (c : Int) : Bool := (decide (97 ≤ c) && decide (c ≤ 122)) || (decide (65 ≤ c) && decide (c ≤ 90))
def nameOk (s : ByteArray) : Bool := (decide (1 ≤ s.size) && decide (s.size ≤ 20)) && allFrom (fun i => isLet (bt s i) || bt s i == 95 || (i != 0 && isDig (bt s i))) s.size 0
theorem dig_spec (c : Int) : spec_l1Digit.f c = some (isDig c) := by
  unfold spec_l1Digit.f isDig
  by_cases h : 48 ≤ c <;> simp [h]
theorem dig_impl (c : Int) : impl_isDigit.f c = some (isDig c) := by
  unfold impl_isDigit.f isDig
  by_cases h : 48 ≤ c <;> simp [h]
theorem let_spec (c : Int) : spec_l1Letter.f c = some (isLet c || c == 95) := by
  unfold spec_l1Letter.f isLet
  by_cases h1 : 97 ≤ c <;> by_cases h2 : c ≤ 122 <;> by_cases h3 : 65 ≤ c <;> by_cases h4 : c ≤ 90 <;> simp [h1, h2, h3, h4]
theorem let_impl (c : Int) : impl_isLetter.f c = some (isLet c) := by
  unfold impl_isLetter.f isLet
  by_cases h1 : 97 ≤ c <;> by_cases h2 : c ≤ 122 <;> by_cases h3 : 65 ≤ c <;> by_cases h4 : c ≤ 90 <;> simp [h1, h2, h3, h4]
theorem let_not_dig (c : Int) (h : isDig c = true) : (isLet c || c == 95) = false := by
  unfold isDig at h
  unfold isLet
  simp at h ⊢
  omega
theorem name_spec_l (s : ByteArray) (hs : s.size ≤ maxLen) : ∀ m i : Nat, i + m = s.size → Ev (fun k => spec_GoodName.l0 k s (i : Int)) (allFrom (fun i => isLet (bt s i) || bt s i == 95 || isDig (bt s i)) m i) := by
  rw [maxLen_eq] at hs
  intro m
  induction m with
  | zero => exact fun i hi => Ev.step (fun k => spec_GoodName.l0.eq_2 _ _ k) (Ev.neg (by omega) (Ev.now _))
  | succ m ih =>
    intro i hi
    refine Ev.step (fun k => spec_GoodName.l0.eq_2 _ _ k) (Ev.pos (by omega) (Ev.pos (by omega) (Ev.const_bind (let_spec _) ?_)))
    rw [w64 (by omega) (by omega), allFrom]
    cases h : (isLet (bt s i) || bt s i == 95) with
    | true => exact Ev.pos rfl (Ev.cast (ih (i + 1) (by omega)) (by simp))
    | false =>
      refine Ev.neg (by decide) (Ev.const_bind (dig_spec _) ?_)
      rw [Bool.false_or]
      exact Ev.and (fun _ => ih (i + 1) (by omega))
theorem name_spec (s : ByteArray) (hs : s.size ≤ maxLen) : Ev (fun k => spec_GoodName.f k s) (nameOk s) := by
  have hj : ∀ b, Ev (fun k => spec_GoodName.j0 k s b) (!b && allFrom (fun i => isLet (bt s i) || bt s i == 95 || isDig (bt s i)) s.size 0) := fun b =>
    Ev.step (fun k => spec_GoodName.j0.eq_2 _ _ k) (Ev.andn (fun _ => name_spec_l s hs s.size 0 (by omega)))
  unfold spec_GoodName.f
  refine Ev.ite (fun h => Ev.cast (hj true) ?_) (fun h => Ev.ite (fun h2 => Ev.cast (hj true) ?_) (fun h2 => Ev.pos (by omega) (Ev.const_bind (dig_spec _) (Ev.cast (hj _) ?_))))
  · simp only [nameOk, decide_eq_false (show ¬ 1 ≤ s.size by omega), Bool.false_and, Bool.not_true]
  · simp only [nameOk, decide_eq_false (show ¬ s.size ≤ 20 by omega), Bool.and_false, Bool.false_and, Bool.not_true]
  · obtain ⟨n, hn⟩ : ∃ n, s.size = n + 1 := ⟨s.size - 1, by omega⟩
    simp only [nameOk, hn, decide_eq_true (show 1 ≤ n + 1 by omega), decide_eq_true (show n + 1 ≤ 20 by omega), Bool.true_and, allFrom]
    rw [allFrom_congr (p := fun i => isLet (bt s i) || bt s i == 95 || isDig (bt s i)) (q := fun i => isLet (bt s i) || bt s i == 95 || (i != 0 && isDig (bt s i))) n (0 + 1) (fun j h1 _ => by
      have : (j != 0) = true := by rw [bne_iff_ne]; omega
      simp only [this, Bool.true_and])]
    rw [show ((0 : Nat) : Int) = 0 from rfl, show ((0 : Nat) != 0) = false from rfl, Bool.false_and, Bool.or_false, ← Bool.and_assoc]
    cases hd : isDig (bt s 0) with
    | true => rw [let_not_dig _ hd]; rfl
    | false => rw [Bool.or_false, Bool.not_false, Bool.true_and]
theorem name_impl (s : ByteArray) (hs : s.size ≤ maxLen) : Ev (fun k => impl_GoodName.f k s) (nameOk s) := by
  rw [maxLen_eq] at hs
  have key : ∀ m i : Nat, i + m = s.size → Ev (fun k => impl_GoodName.l0 k s (s.size : Int) (i : Int)) ((decide (1 ≤ s.size) && decide (s.size ≤ 20)) && allFrom (fun i => isLet (bt s i) || bt s i == 95 || (i != 0 && isDig (bt s i))) m i) := by
    intro m
    induction m with
    | zero =>
      intro i hi
      refine Ev.step (fun k => impl_GoodName.l0.eq_2 _ _ _ k) (Ev.neg (by omega) (Ev.const_bind (in_impl _ _ _) (Ev.cast (Ev.now _) ?_)))
      rw [allFrom, Bool.and_true]
      congr 1 <;> exact decide_eq_decide.2 (by omega)
    | succ m ih =>
      intro i hi
      refine Ev.step (fun k => impl_GoodName.l0.eq_2 _ _ _ k) (Ev.pos (by omega) (Ev.pos (by omega) (Ev.pos (by omega) (Ev.const_bind (let_impl _) ?_))))
      rw [w64 (by omega) (by omega), allFrom]
      cases h : isLet (bt s i) with
      | true => exact Ev.pos rfl (Ev.cast (ih (i + 1) (by omega)) (by simp))
      | false =>
        refine Ev.neg (by decide) (Ev.ite (fun h5 => Ev.cast (ih (i + 1) (by omega)) (by simp [h5])) (fun h5 => Ev.ite (fun h0 => Ev.cast (Ev.now _) ?_) (fun h0 => Ev.const_bind (dig_impl _) ?_)))
        · have h0' : (i != 0) = false := by rw [bne_eq_false_iff_eq]; omega
          have h5' : (bt s (i : Int) == 95) = false := beq_eq_false_iff_ne.2 h5
          simp only [h5', h0', Bool.false_or, Bool.false_and, Bool.and_false]
        · have h0' : (i != 0) = true := by rw [bne_iff_ne]; omega
          have h5' : (bt s (i : Int) == 95) = false := beq_eq_false_iff_ne.2 h5
          simp only [h5', Bool.false_or, h0', Bool.true_and]
          cases hd : isDig (bt s i) with
          | true => exact Ev.pos rfl (Ev.cast (ih (i + 1) (by omega)) (by simp))
          | false => exact Ev.neg (by decide) (Ev.cast (Ev.now _) (by simp))
  exact key s.size 0 (by omega)
/-! facts: 0 to 255, all of a list -/
theorem facts_impl (l : List Int) (hl : l.length ≤ maxLen) : Ev (fun k => impl_areFacts.f k l) (l.all fun n => decide (0 ≤ n) && decide (n ≤ 255)) := by
  have h := index_ev (0 : Int) (fun _ z => impl_areFacts_1.f z) (fun n => !(decide (0 ≤ n) && decide (n ≤ 255))) slices_IndexFunc_int_int_at_impl_areFacts_1.l0 (fun k x n i => slices_IndexFunc_int_int_at_impl_areFacts_1.l0.eq_2 x n i k) l hl (fun z _ => Ev.mk (fun _ => by unfold impl_areFacts_1.f; rw [in_impl]; rfl))
  unfold impl_areFacts.f slices_ContainsFunc_int_int_at_impl_areFacts_1.f slices_IndexFunc_int_int_at_impl_areFacts_1.f
  refine Ev.bind (Ev.bind h (Ev.now _)) (Ev.cast (Ev.now _) ?_)
  rw [idxP_any]
  induction l with
  | nil => rfl
  | cons x xs ih => rw [List.any_cons, List.all_cons, Bool.not_or, Bool.not_not, ih (by simp at hl; omega) (index_ev (0 : Int) (fun _ z => impl_areFacts_1.f z) (fun n => !(decide (0 ≤ n) && decide (n ≤ 255))) slices_IndexFunc_int_int_at_impl_areFacts_1.l0 (fun k x n i => slices_IndexFunc_int_int_at_impl_areFacts_1.l0.eq_2 x n i k) xs (by simp at hl; omega) (fun z _ => Ev.mk (fun _ => by unfold impl_areFacts_1.f; rw [in_impl]; rfl)))]
theorem facts_spec (a : Int) : spec_l7Facts.f a = some (decide (0 ≤ a) && decide (a ≤ 255)) := by
  unfold spec_l7Facts.f
  rw [in_spec]; rfl
/-! actions -/
def actionOk (a0 : ByteArray) (a1 a2 a3 a4 a5 : Int) : Bool :=
  nameOk a0 && ((decide (1 ≤ a1) && decide (a1 ≤ 1000)) && ((([a2, a3, a4, a5] : List Int).all fun n => decide (0 ≤ n) && decide (n ≤ 255)) && (Go.bits .and .i64 a4 a5 == 0)))
theorem action_spec (a0 : ByteArray) (a1 a2 a3 a4 a5 : Int) (h : a0.size ≤ maxLen) : Ev (fun k => spec_GoodAction.f k a0 a1 a2 a3 a4 a5) (actionOk a0 a1 a2 a3 a4 a5) := by
  unfold spec_GoodAction.f actionOk
  refine Ev.bind (name_spec a0 h) (Ev.and (fun _ => Ev.mk (fun _ => ?_)))
  simp only [in_spec, facts_spec, Option.bind_some, ite_sf, List.all_cons, List.all_nil, Bool.and_true, Bool.and_assoc]
theorem action_impl (a0 : ByteArray) (a1 a2 a3 a4 a5 : Int) (h : a0.size ≤ maxLen) : Ev (fun k => impl_GoodAction.f k a0 a1 a2 a3 a4 a5) (actionOk a0 a1 a2 a3 a4 a5) := by
  unfold impl_GoodAction.f actionOk
  refine Ev.bind (name_impl a0 h) (Ev.and (fun _ => Ev.const_bind (in_impl _ _ _) (Ev.and (fun _ => Ev.bind (facts_impl _ (by rw [maxLen_eq]; simp)) (Ev.and (fun _ => Ev.now _))))))
def mayOk (a0 : Int) (a1 : ByteArray) (a2 a3 a4 a5 a6 : Int) : Bool :=
  (decide (0 ≤ a0) && decide (a0 ≤ 255)) && (actionOk a1 a2 a3 a4 a5 a6 && (decide (Go.bits .and .i64 a0 a3 = a3) && (Go.bits .and .i64 a0 a4 == 0)))
theorem may_spec (a0 : Int) (a1 : ByteArray) (a2 a3 a4 a5 a6 : Int) (h1 : a1.size ≤ maxLen) : Ev (fun k => spec_MayDo.f k a0 a1 a2 a3 a4 a5 a6) (mayOk a0 a1 a2 a3 a4 a5 a6) := by
  unfold spec_MayDo.f mayOk
  refine Ev.const_bind (facts_spec _) (Ev.and (fun _ => Ev.bind (action_spec _ _ _ _ _ _ h1) (Ev.and (fun _ => Ev.mk (fun _ => ?_)))))
  unfold spec_l7May.f
  rw [ite_sfp]; rfl
theorem may_impl (a0 : Int) (a1 : ByteArray) (a2 a3 a4 a5 a6 : Int) (h1 : a1.size ≤ maxLen) : Ev (fun k => impl_MayDo.f k a0 a1 a2 a3 a4 a5 a6) (mayOk a0 a1 a2 a3 a4 a5 a6) := by
  unfold impl_MayDo.f mayOk
  refine Ev.bind (facts_impl _ (by rw [maxLen_eq]; simp)) ?_
  rw [show (([a0] : List Int).all fun n => decide (0 ≤ n) && decide (n ≤ 255)) = (decide (0 ≤ a0) && decide (a0 ≤ 255)) by simp]
  refine Ev.and (fun _ => Ev.bind (action_impl _ _ _ _ _ _ h1) (Ev.and (fun _ => Ev.mk (fun _ => ?_))))
  unfold impl_Action_may.f
  rw [ite_sfp]; rfl
theorem FnExactAfterDoing : laws_FnExactAfterDoing.Pure := by
  intro a0 a1 a2 a3 a4 a5 a6 _ h1 _ _ _ _ _
  have hb : Both (fun _ => True) (fun k => spec_AfterDoing.f k a0 a1 a2 a3 a4 a5 a6) (fun k => impl_AfterDoing.f k a0 a1 a2 a3 a4 a5 a6) := by
    have hf := facts_impl [a0] (by rw [maxLen_eq]; simp)
    rw [show (([a0] : List Int).all fun n => decide (0 ≤ n) && decide (n ≤ 255)) = (decide (0 ≤ a0) && decide (a0 ≤ 255)) by simp] at hf
    have hm := may_spec a0 a1 a2 a3 a4 a5 a6 h1
    have hi := may_impl a0 a1 a2 a3 a4 a5 a6 h1
    unfold spec_AfterDoing.f impl_AfterDoing.f
    cases h : mayOk a0 a1 a2 a3 a4 a5 a6 with
    | true =>
      rw [h] at hm hi
      have h0 : (decide (0 ≤ a0) && decide (a0 ≤ 255)) = true := by
        unfold mayOk at h
        exact (Bool.and_eq_true_iff.1 h).1
      refine ⟨_, trivial, Ev.const_bind (facts_spec _) ?_, Ev.bind hi (Ev.pos rfl (Ev.const_bind rfl (Ev.now _)))⟩
      rw [h0]
      exact Ev.pos rfl (Ev.bind hm (Ev.pos rfl (Ev.const_bind rfl (Ev.now _))))
    | false =>
      rw [h] at hm hi
      cases h0 : (decide (0 ≤ a0) && decide (a0 ≤ 255)) with
      | true =>
        rw [h0] at hf
        refine ⟨_, trivial, Ev.const_bind (facts_spec _) ?_, Ev.bind hi (Ev.neg (by decide) (Ev.bind hf (Ev.pos rfl (Ev.now _))))⟩
        rw [h0]
        exact Ev.pos rfl (Ev.bind hm (Ev.neg (by decide) (Ev.now _)))
      | false =>
        rw [h0] at hf
        refine ⟨_, trivial, Ev.const_bind (facts_spec _) ?_, Ev.bind hi (Ev.neg (by decide) (Ev.bind hf (Ev.neg (by decide) (Ev.now _))))⟩
        rw [h0]
        exact Ev.neg (by decide) (Ev.now _)
  obtain ⟨r, _, hs, hi⟩ := hb
  refine Ev.rounds (r := true) ?_
  unfold laws_FnExactAfterDoing.f laws_toAction.f
  refine Ev.bind (a := roomLeft a1.size 1048576) (Ev.mk fun _ => sz_left (by omega) (by omega) h1) (Ev.ite (fun _ => Ev.now _) (fun _ => Ev.some_bind (Ev.bind hs (Ev.some_bind (Ev.bind hi (Ev.pos rfl (Ev.now _)))))))

end Go.Proofs.Ythcmofhlljmccaa.Pure
