/- PlanCost: the pure statement of the law: the program's cost and facts are the reference's, for all facts, plans and actions. -/
import Derived.Test.YtjaljjdmolhhpaaXFnExactPlanCostx5
import Derived.Test.YtjaljjdmolhhpaaXLib
namespace Go.Proofs.Ytjaljjdmolhhpaa.Pure
open Go.RowKit Go.Proofs.Ytjaljjdmolhhpaa.XFnExactPlanCost Go.Proofs.YtjaljjdmolhhpaaW.PrintWords Go.Proofs.YtjaljjdmolhhpaaW.PrintLast Go.Proofs.YtjaljjdmolhhpaaW.PrintMore Go.Proofs.Ytjaljjdmolhhpaa.X
set_option linter.unusedVariables false
set_option linter.unusedSimpArgs false

theorem in_spec (a b c : Int) : spec_l1In.f a b c = some (decide (b ≤ a) && decide (a ≤ c)) := by
  unfold spec_l1In.f
  by_cases h : b ≤ a <;> simp [h]
theorem in_impl (a b c : Int) : impl_inRange.f a b c = some (decide (b ≤ a) && decide (a ≤ c)) := by
  unfold impl_inRange.f
  by_cases h : b ≤ a <;> simp [h]
/-! names: letters, digits, '_', no digit first, 1 to 20 -/
def isDig (c : Int) : Bool := decide (48 ≤ c) && decide (c ≤ 57)
def isLet (c : Int) : Bool := (decide (97 ≤ c) && decide (c ≤ 122)) || (decide (65 ≤ c) && decide (c ≤ 90))
def nameOk (s : ByteArray) : Bool := (decide (1 ≤ s.size) && decide (s.size ≤ 20)) && allFrom (fun i => isLet (bt s i) || bt s i == 95 || (i != 0 && isDig (bt s i))) s.size 0
theorem dig_spec (c : Int) : spec_l1Digit.f c = some (isDig c) := by
  unfold spec_l1Digit.f isDig
  by_cases h : 48 ≤ c <;> simp [h]
theorem dig_impl (c : Int) : impl_isDigit.f c = some (isDig c) := by
  unfold impl_isDigit.f isDig
  by_cases h : 48 ≤ c <;> simp [h]
theorem let_spec (c : Int) : spec_l1Letter.f c = some (isLet c || c == 95) := by
  unfold spec_l1Letter.f isLet
  by_cases h1 : 97 ≤ c <;> by_cases h2 : c ≤ 122 <;> by_cases h3 : 65 ≤ c <;> by_cases h4 : c ≤ 90 <;> simp [h1, h2, h3, h4]
theorem let_impl (c : Int) : impl_isLetter.f c = some (isLet c) := by
  unfold impl_isLetter.f isLet
  by_cases h1 : 97 ≤ c <;> by_cases h2 : c ≤ 122 <;> by_cases h3 : 65 ≤ c <;> by_cases h4 : c ≤ 90 <;> simp [h1, h2, h3, h4]
theorem let_not_dig (c : Int) (h : isDig c = true) : (isLet c || c == 95) = false := by
  unfold isDig at h
  unfold isLet
  simp at h ⊢
  omega
theorem name_spec_l (s : ByteArray) (hs : s.size ≤ maxLen) : ∀ m i : Nat, i + m = s.size → Ev (fun k => spec_GoodName.l0 k s (i : Int)) (allFrom (fun i => isLet (bt s i) || bt s i == 95 || isDig (bt s i)) m i) := by
  rw [maxLen_eq] at hs
  intro m
  induction m with
  | zero => exact fun i hi => Ev.step (fun k => spec_GoodName.l0.eq_2 _ _ k) (Ev.neg (by omega) (Ev.now _))
  | succ m ih =>
    intro i hi
    refine Ev.step (fun k => spec_GoodName.l0.eq_2 _ _ k) (Ev.pos (by omega) (Ev.pos (by omega) (Ev.const_bind (let_spec _) ?_)))
    rw [w64 (by omega) (by omega), allFrom]
    cases h : (isLet (bt s i) || bt s i == 95) with
    | true => exact Ev.pos rfl (Ev.cast (ih (i + 1) (by omega)) (by simp))
    | false =>
      refine Ev.neg (by decide) (Ev.const_bind (dig_spec _) ?_)
      rw [Bool.false_or]
      exact Ev.and (fun _ => ih (i + 1) (by omega))
theorem name_spec (s : ByteArray) (hs : s.size ≤ maxLen) : Ev (fun k => spec_GoodName.f k s) (nameOk s) := by
  have hj : ∀ b, Ev (fun k => spec_GoodName.j0 k s b) (!b && allFrom (fun i => isLet (bt s i) || bt s i == 95 || isDig (bt s i)) s.size 0) := fun b =>
    Ev.step (fun k => spec_GoodName.j0.eq_2 _ _ k) (Ev.andn (fun _ => name_spec_l s hs s.size 0 (by omega)))
  unfold spec_GoodName.f
  refine Ev.ite (fun h => Ev.cast (hj true) ?_) (fun h => Ev.ite (fun h2 => Ev.cast (hj true) ?_) (fun h2 => Ev.pos (by omega) (Ev.const_bind (dig_spec _) (Ev.cast (hj _) ?_))))
  · simp only [nameOk, decide_eq_false (show ¬ 1 ≤ s.size by omega), Bool.false_and, Bool.not_true]
  · simp only [nameOk, decide_eq_false (show ¬ s.size ≤ 20 by omega), Bool.and_false, Bool.false_and, Bool.not_true]
  · obtain ⟨n, hn⟩ : ∃ n, s.size = n + 1 := ⟨s.size - 1, by omega⟩
    simp only [nameOk, hn, decide_eq_true (show 1 ≤ n + 1 by omega), decide_eq_true (show n + 1 ≤ 20 by omega), Bool.true_and, allFrom]
    rw [allFrom_congr (p := fun i => isLet (bt s i) || bt s i == 95 || isDig (bt s i)) (q := fun i => isLet (bt s i) || bt s i == 95 || (i != 0 && isDig (bt s i))) n (0 + 1) (fun j h1 _ => by
      have : (j != 0) = true := by rw [bne_iff_ne]; omega
      simp only [this, Bool.true_and])]
    rw [show ((0 : Nat) : Int) = 0 from rfl, show ((0 : Nat) != 0) = false from rfl, Bool.false_and, Bool.or_false, ← Bool.and_assoc]
    cases hd : isDig (bt s 0) with
    | true => rw [let_not_dig _ hd]; rfl
    | false => rw [Bool.or_false, Bool.not_false, Bool.true_and]
theorem name_impl (s : ByteArray) (hs : s.size ≤ maxLen) : Ev (fun k => impl_GoodName.f k s) (nameOk s) := by
  rw [maxLen_eq] at hs
  have key : ∀ m i : Nat, i + m = s.size → Ev (fun k => impl_GoodName.l0 k s (s.size : Int) (i : Int)) ((decide (1 ≤ s.size) && decide (s.size ≤ 20)) && allFrom (fun i => isLet (bt s i) || bt s i == 95 || (i != 0 && isDig (bt s i))) m i) := by
    intro m
    induction m with
    | zero =>
      intro i hi
      refine Ev.step (fun k => impl_GoodName.l0.eq_2 _ _ _ k) (Ev.neg (by omega) (Ev.const_bind (in_impl _ _ _) (Ev.cast (Ev.now _) ?_)))
      rw [allFrom, Bool.and_true]
      congr 1 <;> exact decide_eq_decide.2 (by omega)
    | succ m ih =>
      intro i hi
      refine Ev.step (fun k => impl_GoodName.l0.eq_2 _ _ _ k) (Ev.pos (by omega) (Ev.pos (by omega) (Ev.pos (by omega) (Ev.const_bind (let_impl _) ?_))))
      rw [w64 (by omega) (by omega), allFrom]
      cases h : isLet (bt s i) with
      | true => exact Ev.pos rfl (Ev.cast (ih (i + 1) (by omega)) (by simp))
      | false =>
        refine Ev.neg (by decide) (Ev.ite (fun h5 => Ev.cast (ih (i + 1) (by omega)) (by simp [h5])) (fun h5 => Ev.ite (fun h0 => Ev.cast (Ev.now _) ?_) (fun h0 => Ev.const_bind (dig_impl _) ?_)))
        · have h0' : (i != 0) = false := by rw [bne_eq_false_iff_eq]; omega
          have h5' : (bt s (i : Int) == 95) = false := beq_eq_false_iff_ne.2 h5
          simp only [h5', h0', Bool.false_or, Bool.false_and, Bool.and_false]
        · have h0' : (i != 0) = true := by rw [bne_iff_ne]; omega
          have h5' : (bt s (i : Int) == 95) = false := beq_eq_false_iff_ne.2 h5
          simp only [h5', Bool.false_or, h0', Bool.true_and]
          cases hd : isDig (bt s i) with
          | true => exact Ev.pos rfl (Ev.cast (ih (i + 1) (by omega)) (by simp))
          | false => exact Ev.neg (by decide) (Ev.cast (Ev.now _) (by simp))
  exact key s.size 0 (by omega)
/-! facts: 0 to 255, all of a list -/
theorem facts_impl (l : List Int) (hl : l.length ≤ maxLen) : Ev (fun k => impl_areFacts.f k l) (l.all fun n => decide (0 ≤ n) && decide (n ≤ 255)) := by
  have h := index_ev (0 : Int) (fun _ z => impl_areFacts_1.f z) (fun n => !(decide (0 ≤ n) && decide (n ≤ 255))) slices_IndexFunc_int_int_at_impl_areFacts_1.l0 (fun k x n i => slices_IndexFunc_int_int_at_impl_areFacts_1.l0.eq_2 x n i k) l hl (fun z _ => Ev.mk (fun _ => by unfold impl_areFacts_1.f; rw [in_impl]; rfl))
  unfold impl_areFacts.f slices_ContainsFunc_int_int_at_impl_areFacts_1.f slices_IndexFunc_int_int_at_impl_areFacts_1.f
  refine Ev.bind (Ev.bind h (Ev.now _)) (Ev.cast (Ev.now _) ?_)
  rw [idxP_any]
  induction l with
  | nil => rfl
  | cons x xs ih => rw [List.any_cons, List.all_cons, Bool.not_or, Bool.not_not, ih (by simp at hl; omega) (index_ev (0 : Int) (fun _ z => impl_areFacts_1.f z) (fun n => !(decide (0 ≤ n) && decide (n ≤ 255))) slices_IndexFunc_int_int_at_impl_areFacts_1.l0 (fun k x n i => slices_IndexFunc_int_int_at_impl_areFacts_1.l0.eq_2 x n i k) xs (by simp at hl; omega) (fun z _ => Ev.mk (fun _ => by unfold impl_areFacts_1.f; rw [in_impl]; rfl)))]
theorem facts_spec (a : Int) : spec_l7Facts.f a = some (decide (0 ≤ a) && decide (a ≤ 255)) := by
  unfold spec_l7Facts.f
  rw [in_spec]; rfl
/-! actions -/
def actionOk (a0 : ByteArray) (a1 a2 a3 a4 a5 : Int) : Bool :=
  nameOk a0 && ((decide (1 ≤ a1) && decide (a1 ≤ 1000)) && ((([a2, a3, a4, a5] : List Int).all fun n => decide (0 ≤ n) && decide (n ≤ 255)) && (Go.bits .and .i64 a4 a5 == 0)))
theorem action_spec (a0 : ByteArray) (a1 a2 a3 a4 a5 : Int) (h : a0.size ≤ maxLen) : Ev (fun k => spec_GoodAction.f k a0 a1 a2 a3 a4 a5) (actionOk a0 a1 a2 a3 a4 a5) := by
  unfold spec_GoodAction.f actionOk
  refine Ev.bind (name_spec a0 h) (Ev.and (fun _ => Ev.mk (fun _ => ?_)))
  simp only [in_spec, facts_spec, Option.bind_some, ite_sf, List.all_cons, List.all_nil, Bool.and_true, Bool.and_assoc]
theorem action_impl (a0 : ByteArray) (a1 a2 a3 a4 a5 : Int) (h : a0.size ≤ maxLen) : Ev (fun k => impl_GoodAction.f k a0 a1 a2 a3 a4 a5) (actionOk a0 a1 a2 a3 a4 a5) := by
  unfold impl_GoodAction.f actionOk
  refine Ev.bind (name_impl a0 h) (Ev.and (fun _ => Ev.const_bind (in_impl _ _ _) (Ev.and (fun _ => Ev.bind (facts_impl _ (by rw [maxLen_eq]; simp)) (Ev.and (fun _ => Ev.now _))))))
abbrev Act := S134
def actOk (b : Act) : Bool := actionOk b.f0 b.f1 b.f2 b.f3 b.f4 b.f5
def actsOk (l : List Act) : Bool := decide (l.length ≤ 12) && l.all actOk
theorem acts_spec (l : List Act) (hl : l.length ≤ maxLen) (hs : ∀ z ∈ l, z.f0.size ≤ maxLen) : Ev (fun k => spec_l7Actions.f k l) (actsOk l) := by
  have h := all_evT z134 (fun k z => spec_GoodAction.f k z.f0 z.f1 z.f2 z.f3 z.f4 z.f5) actOk spec_l7Actions.l0 (fun k x n i => spec_l7Actions.l0.eq_2 x n i k) l hl (fun z hz => action_spec _ _ _ _ _ _ (hs z hz))
  unfold spec_l7Actions.f actsOk
  by_cases hn : l.length ≤ 12
  · exact Ev.neg (by omega) (Ev.cast h (by rw [decide_eq_true hn]; rfl))
  · exact Ev.pos (by omega) (Ev.cast (Ev.now _) (by rw [decide_eq_false hn]; rfl))
theorem acts_impl (l : List Act) (hl : l.length ≤ maxLen) (hs : ∀ z ∈ l, z.f0.size ≤ maxLen) : Ev (fun k => impl_areActions.f k l) (actsOk l) := by
  have h := contains_ev z134 (fun k z => impl_areActions_1.f k z.f0 z.f1 z.f2 z.f3 z.f4 z.f5) (fun z => !actOk z) slices_IndexFunc_impl_Action_impl_Action_at_impl_areActions_1.l0 (fun k x n i => slices_IndexFunc_impl_Action_impl_Action_at_impl_areActions_1.l0.eq_2 x n i k) l hl
    (fun z hz => by unfold impl_areActions_1.f; exact Ev.bind (action_impl _ _ _ _ _ _ (hs z hz)) (Ev.now _))
  unfold impl_areActions.f actsOk slices_ContainsFunc_impl_Action_impl_Action_at_impl_areActions_1.f slices_IndexFunc_impl_Action_impl_Action_at_impl_areActions_1.f
  refine Ev.cast (Ev.andp (p := (l.length : Int) ≤ 12) (fun _ => Ev.bind h (Ev.cast (Ev.now _) (any_not _ l)))) ?_
  congr 1
  exact decide_eq_decide.2 (by omega)
theorem to_ints (l : List Int) (hl : (l.length : Int) ≤ 1048576) : Ev (fun k => laws_toIntS.f k l) l := by
  have h := toS_ev (0 : Int) (id : Int → Int) 0 laws_toIntS.l0 (fun k x y i => laws_toIntS.l0.eq_2 x y i k) l (by omega)
  rw [List.map_id] at h
  exact Ev.pos (by omega) (Ev.pos (by omega) h)
theorem eq_ints (l : List Int) (hl : (l.length : Int) ≤ 1048576) : Ev (fun k => laws_eqIntS.f k l l) true :=
  eqInt_ev laws_eqIntS.l0 (fun k x y i => laws_eqIntS.l0.eq_2 x y i k) l (by rw [maxLen_eq]; omega)
theorem sz_acts (l : List S131) (hl : l.length ≤ maxLen) (hs : ∀ z ∈ l, z.f0.size ≤ maxLen) {a : Int} (h0 : 0 ≤ a) (h1 : a ≤ 1048576) : ∃ t, t ≤ 1048576 ∧ (¬ t < 0 → (l.length : Int) ≤ 1048576) ∧ Ev (fun k => laws_szActionS.f k l a) t := by
  unfold laws_szActionS.f
  have e := sz_left (n := l.length) h0 h1 hl
  rw [maxLen_eq] at hl
  by_cases hn : wrap64 (a - (l.length : Int)) < 0
  · exact ⟨-1, by omega, by omega, Ev.pos hn (Ev.now _)⟩
  · rw [if_neg hn] at e
    have e := Option.some.inj e
    rw [e] at hn ⊢
    have hr := (roomLeft_ok hn).1
    obtain ⟨t, ht, he⟩ := sizes_ev z131 (fun _ z r => laws_szAction.f z.f0 z.f1 z.f2 z.f3 z.f4 z.f5 r) laws_szActionS.l0 (fun k x r i => laws_szActionS.l0.eq_2 x r i k) l (by omega)
      (fun z hz r h0 h1 => ⟨roomLeft z.f0.size r, roomLeft_le h1, Ev.mk (fun _ => sz_left h0 h1 (hs z hz))⟩) (roomLeft l.length a) (by omega) (roomLeft_le h1)
    exact ⟨t, ht, fun _ => by omega, Ev.neg hn he⟩
def asAct (b : S131) : Act := ⟨b.f0, b.f1, b.f2, b.f3, b.f4, b.f5⟩
theorem to_acts (l : List S131) (hl : (l.length : Int) ≤ 1048576) : Ev (fun k => laws_toActionS.f k l) (l.map asAct) := by
  have ht := toS_ev z134 asAct z131 laws_toActionS.l0 (fun k x y i => by rw [laws_toActionS.l0]; simp only [laws_toAction.f, Option.bind_some]; rfl) l (by omega)
  unfold laws_toActionS.f
  exact Ev.pos (by omega) (Ev.pos (by omega) ht)
theorem eq_acts (l : List Act) (hl : (l.length : Int) ≤ 1048576) : Ev (fun k => laws_eqActionS.f k l l) true := by
  unfold laws_eqActionS.f
  exact eqT_ev z134 (fun a b => laws_eqAction.f a.f0 a.f1 a.f2 a.f3 a.f4 a.f5 b.f0 b.f1 b.f2 b.f3 b.f4 b.f5) laws_eqActionS.l0 (fun k x y i => laws_eqActionS.l0.eq_2 x y i k) (fun a => by simp [laws_eqAction.f]) l (by rw [maxLen_eq]; omega)
theorem run_both (ps : List Int) (acs : List Act) (hp : ps.length ≤ maxLen) (ha : acs.length ≤ maxLen) : ∀ (m i : Nat) (f c : Int), i + m = ps.length → Both (fun _ => True) (fun k => spec_PlanCost.l0 k f acs c ps (ps.length : Int) (i : Int)) (fun k => impl_PlanCost.l0 k f acs c ps (ps.length : Int) (i : Int)) := by
  rw [maxLen_eq] at hp ha
  intro m
  induction m with
  | zero => exact fun i f c hi => Both.step (fun k => spec_PlanCost.l0.eq_2 _ _ _ _ _ _ k) (fun k => impl_PlanCost.l0.eq_2 _ _ _ _ _ _ k) (Both.neg (by omega) (by omega) (Both.now _ trivial))
  | succ m ih =>
    intro i f c hi
    refine Both.step (fun k => spec_PlanCost.l0.eq_2 _ _ _ _ _ _ k) (fun k => impl_PlanCost.l0.eq_2 _ _ _ _ _ _ k) (Both.pos (by omega) (by omega) (Both.pos (by omega) (by omega) (Both.pos (by omega) (by omega) ?_)))
    refine Both.cbind (in_spec _ _ _) (in_impl _ _ _) (Both.ite (fun h => ?_) (fun _ => Both.now _ trivial))
    rw [w_pred (by omega)] at h
    simp only [Bool.and_eq_true, decide_eq_true_eq] at h
    refine Both.pos h.1 h.1 (Both.pos (by omega) (by omega) ?_)
    unfold spec_l7May.f impl_Action_may.f
    simp only [ite_sfp]
    refine Both.cbind rfl rfl (Both.ite (fun _ => Both.cbind rfl rfl ?_) (fun _ => Both.now _ trivial))
    rw [w_succ (by omega)]
    exact ih (i + 1) _ _ (by omega)
theorem both (f : Int) (ps : List Int) (acs : List Act) (hp : ps.length ≤ maxLen) (ha : acs.length ≤ maxLen) (hs : ∀ z ∈ acs, z.f0.size ≤ maxLen) : Both (fun _ => True) (fun k => spec_PlanCost.f k f ps acs) (fun k => impl_PlanCost.f k f ps acs) := by
  have sT : Ev (fun k => spec_PlanCost.j0 k f ps acs true) (0, 0, false) := Ev.step (fun k => spec_PlanCost.j0.eq_2 _ _ _ _ k) (Ev.pos rfl (Ev.now _))
  have iT : Ev (fun k => impl_PlanCost.j0 k f ps acs true) (0, 0, false) := Ev.step (fun k => impl_PlanCost.j0.eq_2 _ _ _ _ k) (Ev.pos rfl (Ev.now _))
  have hf := facts_impl [f] (by rw [maxLen_eq]; simp)
  rw [show (([f] : List Int).all fun n => decide (0 ≤ n) && decide (n ≤ 255)) = (decide (0 ≤ f) && decide (f ≤ 255)) by simp] at hf
  have a1 := acts_spec acs ha hs
  have a2 := acts_impl acs ha hs
  unfold spec_PlanCost.f impl_PlanCost.f
  cases h0 : (decide (0 ≤ f) && decide (f ≤ 255)) with
  | false =>
    rw [h0] at hf
    exact ⟨(0, 0, false), trivial, Ev.const_bind (facts_spec _) (by rw [h0]; exact Ev.neg (by decide) sT), Ev.bind hf (Ev.neg (by decide) iT)⟩
  | true =>
    rw [h0] at hf
    have S : ∀ {r g}, Ev g r → Ev (fun k => (spec_l7Facts.f f).bind fun t => if t = true then g k else spec_PlanCost.j0 k f ps acs true) r := fun h => Ev.const_bind (facts_spec _) (by rw [h0]; exact Ev.pos rfl h)
    by_cases hn : (ps.length : Int) > 20
    · refine ⟨(0, 0, false), trivial, S (Ev.pos hn sT), Ev.bind hf (Ev.pos rfl (Ev.bind a2 ?_))⟩
      rw [decide_eq_true hn]
      exact Ev.ite (fun _ => iT) (fun _ => iT)
    · cases hA : actsOk acs with
      | false =>
        rw [hA] at a1 a2
        exact ⟨(0, 0, false), trivial, S (Ev.neg hn (Ev.bind a1 sT)), Ev.bind hf (Ev.pos rfl (Ev.bind a2 (Ev.neg (by decide) iT)))⟩
      | true =>
        rw [hA] at a1 a2
        obtain ⟨r, _, r1, r2⟩ := run_both ps acs hp ha ps.length 0 f 0 (by omega)
        refine ⟨r, trivial, S (Ev.neg hn (Ev.bind a1 (Ev.step (fun k => spec_PlanCost.j0.eq_2 _ _ _ _ k) (Ev.neg (by decide) r1)))), Ev.bind hf (Ev.pos rfl (Ev.bind a2 (Ev.pos rfl ?_)))⟩
        rw [decide_eq_false hn]
        exact Ev.step (fun k => impl_PlanCost.j0.eq_2 _ _ _ _ k) (Ev.neg (by decide) r2)
theorem FnExactPlanCost : laws_FnExactPlanCost.Pure := by
  intro f ps acs _ ⟨hp, _⟩ ⟨ha, hs⟩
  have hs' : ∀ z ∈ acs, z.f0.size ≤ maxLen := fun z hz => (hs z hz).1
  refine Ev.rounds (r := true) ?_
  unfold laws_FnExactPlanCost.f
  obtain ⟨t, _, ht, he⟩ := sz_acts acs ha hs' (a := 1048576) (by omega) (by omega)
  refine Ev.ite (fun _ => Ev.now _) (fun hpn => Ev.bind he (Ev.ite (fun _ => Ev.now _) (fun h => ?_)))
  have hn := ht h
  have tl := to_ints ps (by omega)
  have tk := to_acts acs hn
  have hxs : ∀ z ∈ acs.map asAct, z.f0.size ≤ maxLen := by
    intro z hz
    obtain ⟨y, hy, rfl⟩ := List.mem_map.1 hz
    exact hs' y hy
  generalize hx : acs.map asAct = xs at tk hxs
  have hxl : (xs.length : Int) ≤ 1048576 := by rw [← hx, List.length_map]; omega
  obtain ⟨r, _, h1, h2⟩ := both f ps xs hp (by rw [maxLen_eq]; omega) hxs
  exact Ev.bind tl (Ev.bind tk (Ev.bind h1 (Ev.bind tl (Ev.bind tk (Ev.bind h2 (Ev.pos rfl (Ev.pos rfl (Ev.step (fun k => laws_FnExactPlanCost.j0.eq_2 _ _ _ _ _ k) (Ev.neg (by simp) (Ev.bind tl (Ev.bind (eq_ints ps (by omega)) (Ev.pos rfl (Ev.bind tk (Ev.bind (eq_acts xs hxl) (Ev.pos rfl (Ev.now _))))))))))))))))

end Go.Proofs.Ytjaljjdmolhhpaa.Pure
