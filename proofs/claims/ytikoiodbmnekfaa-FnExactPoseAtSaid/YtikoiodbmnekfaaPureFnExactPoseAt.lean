/- PoseAt: the pure statement of the law: the program's pose is the reference's, for all clips and frames. -/
import Derived.Test.YtikoiodbmnekfaaXFnExactPoseAtx11
import Derived.Test.YtikoiodbmnekfaaXLibPoseAt
namespace Go.Proofs.Ytikoiodbmnekfaa.Pure
open Go.RowKit Go.Proofs.Ytikoiodbmnekfaa.XFnExactPoseAt Go.Proofs.YtikoiodbmnekfaaW.PrintWords Go.Proofs.YtikoiodbmnekfaaW.PrintLast Go.Proofs.YtikoiodbmnekfaaW.PrintMore Go.Proofs.Ytikoiodbmnekfaa.X
set_option linter.unusedVariables false
set_option linter.unusedSimpArgs false

theorem in_spec (a b c : Int) : spec_l1In.f a b c = some (decide (b ≤ a) && decide (a ≤ c)) := by
  unfold spec_l1In.f
  by_cases h : b ≤ a <;> simp [h]
theorem in_impl (a b c : Int) : impl_inRange.f a b c = some (decide (b ≤ a) && decide (a ≤ c)) := by
  unfold impl_inRange.f
  by_cases h : b ≤ a <;> simp [h]
/-! names: letters, digits, '_', no digit first, 1 to 20 -/
def isDig (c : Int) : Bool := decide (48 ≤ c) && decide (c ≤ 57)
def isLet (c : Int) : Bool := (decide (97 ≤ c) && decide (c ≤ 122)) || (decide (65 ≤ c) && decide (c ≤ 90))
def nameOk (s : ByteArray) : Bool := (decide (1 ≤ s.size) && decide (s.size ≤ 20)) && allFrom (fun i => isLet (bt s i) || bt s i == 95 || (i != 0 && isDig (bt s i))) s.size 0
theorem dig_spec (c : Int) : spec_l1Digit.f c = some (isDig c) := by
  unfold spec_l1Digit.f isDig
  by_cases h : 48 ≤ c <;> simp [h]
theorem dig_impl (c : Int) : impl_isDigit.f c = some (isDig c) := by
  unfold impl_isDigit.f isDig
  by_cases h : 48 ≤ c <;> simp [h]
theorem let_spec (c : Int) : spec_l1Letter.f c = some (isLet c || c == 95) := by
  unfold spec_l1Letter.f isLet
  by_cases h1 : 97 ≤ c <;> by_cases h2 : c ≤ 122 <;> by_cases h3 : 65 ≤ c <;> by_cases h4 : c ≤ 90 <;> simp [h1, h2, h3, h4]
theorem let_impl (c : Int) : impl_isLetter.f c = some (isLet c) := by
  unfold impl_isLetter.f isLet
  by_cases h1 : 97 ≤ c <;> by_cases h2 : c ≤ 122 <;> by_cases h3 : 65 ≤ c <;> by_cases h4 : c ≤ 90 <;> simp [h1, h2, h3, h4]
theorem let_not_dig (c : Int) (h : isDig c = true) : (isLet c || c == 95) = false := by
  unfold isDig at h
  unfold isLet
  simp at h ⊢
  omega
theorem name_spec_l (s : ByteArray) (hs : s.size ≤ maxLen) : ∀ m i : Nat, i + m = s.size → Ev (fun k => spec_GoodName.l0 k s (i : Int)) (allFrom (fun i => isLet (bt s i) || bt s i == 95 || isDig (bt s i)) m i) := by
  rw [maxLen_eq] at hs
  intro m
  induction m with
  | zero => exact fun i hi => Ev.step (fun k => spec_GoodName.l0.eq_2 _ _ k) (Ev.neg (by omega) (Ev.now _))
  | succ m ih =>
    intro i hi
    refine Ev.step (fun k => spec_GoodName.l0.eq_2 _ _ k) (Ev.pos (by omega) (Ev.pos (by omega) (Ev.const_bind (let_spec _) ?_)))
    rw [w64 (by omega) (by omega), allFrom]
    cases h : (isLet (bt s i) || bt s i == 95) with
    | true => exact Ev.pos rfl (Ev.cast (ih (i + 1) (by omega)) (by simp))
    | false =>
      refine Ev.neg (by decide) (Ev.const_bind (dig_spec _) ?_)
      rw [Bool.false_or]
      exact Ev.and (fun _ => ih (i + 1) (by omega))
theorem name_spec (s : ByteArray) (hs : s.size ≤ maxLen) : Ev (fun k => spec_GoodName.f k s) (nameOk s) := by
  have hj : ∀ b, Ev (fun k => spec_GoodName.j0 k s b) (!b && allFrom (fun i => isLet (bt s i) || bt s i == 95 || isDig (bt s i)) s.size 0) := fun b =>
    Ev.step (fun k => spec_GoodName.j0.eq_2 _ _ k) (Ev.andn (fun _ => name_spec_l s hs s.size 0 (by omega)))
  unfold spec_GoodName.f
  refine Ev.ite (fun h => Ev.cast (hj true) ?_) (fun h => Ev.ite (fun h2 => Ev.cast (hj true) ?_) (fun h2 => Ev.pos (by omega) (Ev.const_bind (dig_spec _) (Ev.cast (hj _) ?_))))
  · simp only [nameOk, decide_eq_false (show ¬ 1 ≤ s.size by omega), Bool.false_and, Bool.not_true]
  · simp only [nameOk, decide_eq_false (show ¬ s.size ≤ 20 by omega), Bool.and_false, Bool.false_and, Bool.not_true]
  · obtain ⟨n, hn⟩ : ∃ n, s.size = n + 1 := ⟨s.size - 1, by omega⟩
    simp only [nameOk, hn, decide_eq_true (show 1 ≤ n + 1 by omega), decide_eq_true (show n + 1 ≤ 20 by omega), Bool.true_and, allFrom]
    rw [allFrom_congr (p := fun i => isLet (bt s i) || bt s i == 95 || isDig (bt s i)) (q := fun i => isLet (bt s i) || bt s i == 95 || (i != 0 && isDig (bt s i))) n (0 + 1) (fun j h1 _ => by
      have : (j != 0) = true := by rw [bne_iff_ne]; omega
      simp only [this, Bool.true_and])]
    rw [show ((0 : Nat) : Int) = 0 from rfl, show ((0 : Nat) != 0) = false from rfl, Bool.false_and, Bool.or_false, ← Bool.and_assoc]
    cases hd : isDig (bt s 0) with
    | true => rw [let_not_dig _ hd]; rfl
    | false => rw [Bool.or_false, Bool.not_false, Bool.true_and]
theorem name_impl (s : ByteArray) (hs : s.size ≤ maxLen) : Ev (fun k => impl_GoodName.f k s) (nameOk s) := by
  rw [maxLen_eq] at hs
  have key : ∀ m i : Nat, i + m = s.size → Ev (fun k => impl_GoodName.l0 k s (s.size : Int) (i : Int)) ((decide (1 ≤ s.size) && decide (s.size ≤ 20)) && allFrom (fun i => isLet (bt s i) || bt s i == 95 || (i != 0 && isDig (bt s i))) m i) := by
    intro m
    induction m with
    | zero =>
      intro i hi
      refine Ev.step (fun k => impl_GoodName.l0.eq_2 _ _ _ k) (Ev.neg (by omega) (Ev.const_bind (in_impl _ _ _) (Ev.cast (Ev.now _) ?_)))
      rw [allFrom, Bool.and_true]
      congr 1 <;> exact decide_eq_decide.2 (by omega)
    | succ m ih =>
      intro i hi
      refine Ev.step (fun k => impl_GoodName.l0.eq_2 _ _ _ k) (Ev.pos (by omega) (Ev.pos (by omega) (Ev.pos (by omega) (Ev.const_bind (let_impl _) ?_))))
      rw [w64 (by omega) (by omega), allFrom]
      cases h : isLet (bt s i) with
      | true => exact Ev.pos rfl (Ev.cast (ih (i + 1) (by omega)) (by simp))
      | false =>
        refine Ev.neg (by decide) (Ev.ite (fun h5 => Ev.cast (ih (i + 1) (by omega)) (by simp [h5])) (fun h5 => Ev.ite (fun h0 => Ev.cast (Ev.now _) ?_) (fun h0 => Ev.const_bind (dig_impl _) ?_)))
        · have h0' : (i != 0) = false := by rw [bne_eq_false_iff_eq]; omega
          have h5' : (bt s (i : Int) == 95) = false := beq_eq_false_iff_ne.2 h5
          simp only [h5', h0', Bool.false_or, Bool.false_and, Bool.and_false]
        · have h0' : (i != 0) = true := by rw [bne_iff_ne]; omega
          have h5' : (bt s (i : Int) == 95) = false := beq_eq_false_iff_ne.2 h5
          simp only [h5', Bool.false_or, h0', Bool.true_and]
          cases hd : isDig (bt s i) with
          | true => exact Ev.pos rfl (Ev.cast (ih (i + 1) (by omega)) (by simp))
          | false => exact Ev.neg (by decide) (Ev.cast (Ev.now _) (by simp))
  exact key s.size 0 (by omega)
/-! keys of a track -/
def valueOk (a : Int) : Bool := decide (-100000 ≤ a) && decide (a ≤ 100000)
theorem value_spec (a : Int) : spec_l11Value.f a = some (valueOk a) := by unfold spec_l11Value.f; rw [in_spec]; rfl
theorem value_impl (a : Int) : impl_isKeyValue.f a = some (valueOk a) := by unfold impl_isKeyValue.f; rw [in_impl]; rfl
def keyOk (n : Int) (l : List S75) (i : Nat) : Bool :=
  (decide (0 ≤ (rd_T75 l (i : Int)).f0) && decide ((rd_T75 l (i : Int)).f0 ≤ n)) && (valueOk (rd_T75 l (i : Int)).f1 && (i == 0 || decide ((rd_T75 l ((i : Int) - 1)).f0 < (rd_T75 l (i : Int)).f0)))
def keysOk (n : Int) (l : List S75) : Bool := (decide (1 ≤ l.length) && decide (l.length ≤ 60)) && allFrom (keyOk n l) l.length 0
theorem keys_spec (n : Int) (l : List S75) (hl : l.length ≤ maxLen) : Ev (fun k => spec_l11Keys.f k l n) (keysOk (wrap64 (n - 1)) l) := by
  rw [maxLen_eq] at hl
  have key : ∀ m i : Nat, i + m = l.length → Ev (fun k => spec_l11Keys.l0 k l n l (l.length : Int) (i : Int)) (allFrom (keyOk (wrap64 (n - 1)) l) m i) := by
    intro m
    induction m with
    | zero => exact fun i hi => Ev.step (fun k => spec_l11Keys.l0.eq_2 _ _ _ _ _ k) (Ev.neg (by omega) (Ev.now _))
    | succ m ih =>
      intro i hi
      refine Ev.step (fun k => spec_l11Keys.l0.eq_2 _ _ _ _ _ k) (Ev.pos (by omega) (Ev.pos (by omega) (Ev.pos (by omega) ?_)))
      simp only [in_spec, value_spec, Option.bind_some]
      rw [w_succ (by omega), allFrom, keyOk, and3]
      refine Ev.and (fun _ => Ev.and (fun _ => ?_))
      by_cases h0 : i = 0
      · subst h0
        exact Ev.neg (by omega) (Ev.cast (ih 1 (by omega)) (by simp))
      · rw [w_pred (by omega)]
        have h0' : (i == 0) = false := beq_eq_false_iff_ne.2 h0
        refine Ev.pos (by omega) (Ev.pos (by omega) (Ev.pos (by omega) ?_))
        rw [h0', Bool.false_or]
        exact Ev.ite (fun h => Ev.cast (Ev.now _) (by rw [decide_eq_false (by omega), Bool.false_and])) (fun h => Ev.cast (ih (i + 1) (by omega)) (by rw [decide_eq_true (by omega), Bool.true_and]))
  have hj : ∀ b, Ev (fun k => spec_l11Keys.j0 k l n b) (!b && allFrom (keyOk (wrap64 (n - 1)) l) l.length 0) := fun b =>
    Ev.step (fun k => spec_l11Keys.j0.eq_2 _ _ _ k) (Ev.andn (fun _ => key l.length 0 (by omega)))
  unfold spec_l11Keys.f keysOk
  refine Ev.ite (fun h => Ev.cast (hj _) ?_) (fun h => Ev.cast (hj _) ?_)
  · rw [decide_eq_false (show ¬ 1 ≤ l.length by omega)]; rfl
  · rw [decide_eq_true (show 1 ≤ l.length by omega), Bool.true_and]
    congr 1
    by_cases h2 : l.length ≤ 60
    · rw [decide_eq_true h2, decide_eq_false (by omega)]; rfl
    · rw [decide_eq_false h2, decide_eq_true (by omega)]; rfl
theorem keys_impl (n : Int) (l : List S75) (hl : l.length ≤ maxLen) : Ev (fun k => impl_areKeys.f k l n) (keysOk (wrap64 (n - 1)) l) := by
  rw [maxLen_eq] at hl
  unfold impl_areKeys.f keysOk
  generalize hL : (decide (1 ≤ l.length) && decide (l.length ≤ 60)) = L
  have sw : ∀ x y : Bool, (L && (x && y)) = (x && (L && y)) := fun x y => by rw [← Bool.and_assoc, Bool.and_comm L x, Bool.and_assoc]
  have key : ∀ m i : Nat, i + m = l.length → Ev (fun k => impl_areKeys.l0 k l n l (l.length : Int) (i : Int)) (L && allFrom (keyOk (wrap64 (n - 1)) l) m i) := by
    intro m
    induction m with
    | zero =>
      intro i hi
      refine Ev.step (fun k => impl_areKeys.l0.eq_2 _ _ _ _ _ k) (Ev.neg (by omega) (Ev.const_bind (in_impl _ _ _) (Ev.cast (Ev.now _) ?_)))
      rw [allFrom, Bool.and_true, ← hL]
      congr 1 <;> exact decide_eq_decide.2 (by omega)
    | succ m ih =>
      intro i hi
      refine Ev.step (fun k => impl_areKeys.l0.eq_2 _ _ _ _ _ k) (Ev.pos (by omega) (Ev.pos (by omega) (Ev.pos (by omega) ?_)))
      simp only [in_impl, value_impl, Option.bind_some]
      rw [w_succ (by omega), allFrom, keyOk, and3, sw, sw]
      refine Ev.and (fun _ => Ev.and (fun _ => ?_))
      by_cases h0 : i = 0
      · subst h0
        exact Ev.neg (by omega) (Ev.cast (ih 1 (by omega)) (by simp))
      · rw [w_pred (by omega)]
        have h0' : (i == 0) = false := beq_eq_false_iff_ne.2 h0
        refine Ev.pos (by omega) (Ev.pos (by omega) (Ev.pos (by omega) ?_))
        rw [h0', Bool.false_or, sw]
        exact Ev.ite (fun h => Ev.cast (Ev.now _) (by rw [decide_eq_false (by omega), Bool.false_and])) (fun h => Ev.cast (ih (i + 1) (by omega)) (by rw [decide_eq_true (by omega), Bool.true_and]))
  exact key l.length 0 (by omega)
theorem keys_yes {n : Int} {l : List S75} (h : keysOk n l = true) : (1 ≤ l.length ∧ l.length ≤ 60) ∧ ∀ i : Nat, i < l.length → (0 ≤ (rd_T75 l (i : Int)).f0 ∧ (rd_T75 l (i : Int)).f0 ≤ n) ∧ (-100000 ≤ (rd_T75 l (i : Int)).f1 ∧ (rd_T75 l (i : Int)).f1 ≤ 100000) ∧ (i = 0 ∨ (rd_T75 l ((i : Int) - 1)).f0 < (rd_T75 l (i : Int)).f0) := by
  unfold keysOk at h
  simp only [Bool.and_eq_true, decide_eq_true_eq] at h
  refine ⟨h.1, fun i hi => ?_⟩
  have := (allFrom_iff _ _ _).1 h.2 i (by omega) (by omega)
  simpa [keyOk, valueOk, Bool.and_eq_true, Bool.or_eq_true, decide_eq_true_eq, beq_iff_eq] using this
/-! a value between two keys -/
theorem down_eq {a b : Int} (hb : 0 < b) (ha : -4611686018427387904 ≤ a ∧ a ≤ 4611686018427387904) : spec_l1Down.f a b = some (a / b) ∧ impl_down.f a b = some (a / b) := by
  have hm0 : 0 ≤ a % b := Int.emod_nonneg _ (by omega)
  have hm1 : a % b < b := Int.emod_lt_of_pos _ hb
  have hd := Int.emod_add_mul_ediv a b
  have hq : -4611686018427387904 ≤ a / b ∧ a / b ≤ 4611686018427387904 := by
    constructor
    · rcases Int.lt_or_le (a / b) (-4611686018427387904) with h | h
      · have h1 : b * (a / b) ≤ b * (-4611686018427387905) := Int.mul_le_mul_of_nonneg_left (by omega) (by omega)
        omega
      · exact h
    · rcases Int.lt_or_le 4611686018427387904 (a / b) with h | h
      · have h1 : b * 4611686018427387905 ≤ b * (a / b) := Int.mul_le_mul_of_nonneg_left (by omega) (by omega)
        omega
      · exact h
  unfold spec_l1Down.f impl_down.f
  rw [if_neg (show ¬ b = 0 by omega), if_neg (show ¬ b = 0 by omega)]
  by_cases hz : 0 ≤ a ∨ b ∣ a
  · have ht : Int.tdiv a b = a / b := by rw [Int.tdiv_eq_ediv, if_pos hz, Int.add_zero]
    have hr : Int.tmod a b = a % b := by rw [Int.tmod_eq_emod, if_pos hz]; simp
    rw [ht, hr, w64 (n := a / b) (by omega) (by omega), if_neg (show ¬ a % b < 0 by omega)]
    refine ⟨?_, rfl⟩
    by_cases hmz : a % b = 0
    · rw [if_pos hmz]
    · rw [if_neg hmz]
      have ha0 : 0 ≤ a := by
        rcases hz with h | h
        · exact h
        · exact absurd (Int.emod_eq_zero_of_dvd h) hmz
      rw [decide_eq_false (show ¬ a < 0 by omega), decide_eq_false (show ¬ b < 0 by omega)]
      rfl
  · have ht : Int.tdiv a b = a / b + 1 := by rw [Int.tdiv_eq_ediv, if_neg hz, Int.sign_eq_one_of_pos hb]
    have hr : Int.tmod a b = a % b - b := by rw [Int.tmod_eq_emod, if_neg hz, Int.natAbs_of_nonneg (by omega)]
    have hmz : a % b ≠ 0 := fun h => hz (Or.inr (Int.dvd_of_emod_eq_zero h))
    have ha0 : a < 0 := by
      rcases Int.lt_or_le a 0 with h | h
      · exact h
      · exact absurd (Or.inl h) hz
    rw [ht, hr, if_neg (show ¬ a % b - b = 0 by omega), if_pos (show a % b - b < 0 by omega), decide_eq_true ha0, decide_eq_false (show ¬ b < 0 by omega), w64 (n := a / b + 1) (by omega) (by omega), w64 (n := a / b + 1 - 1) (by omega) (by omega)]
    simp
theorem mul_bound {x y X Y : Int} (hx : -X ≤ x ∧ x ≤ X) (hy : 0 ≤ y ∧ y ≤ Y) (hX : 0 ≤ X) : -(X * Y) ≤ x * y ∧ x * y ≤ X * Y := by
  have h1 : x * y ≤ X * y := Int.mul_le_mul_of_nonneg_right hx.2 hy.1
  have h2 : X * y ≤ X * Y := Int.mul_le_mul_of_nonneg_left hy.2 hX
  have h3 : -X * y ≤ x * y := Int.mul_le_mul_of_nonneg_right hx.1 hy.1
  have h4 : -X * y = -(X * y) := by rw [Int.neg_mul]
  omega
/-- Two keys and a frame between them. -/
def onKeys (f0 v0 f1 v1 f : Int) : Int := v0 + (v1 - v0) * (f - f0) / (f1 - f0)
theorem on_range {f0 v0 f1 v1 f : Int} (hf0 : 0 ≤ f0) (hf1 : f1 ≤ 1000000) (hv0 : -100000 ≤ v0 ∧ v0 ≤ 100000) (hv1 : -100000 ≤ v1 ∧ v1 ≤ 100000) (hlt : f0 < f1) (h0 : f0 ≤ f) (h1 : f ≤ f1) :
    (-200000000000 ≤ (v1 - v0) * (f - f0) ∧ (v1 - v0) * (f - f0) ≤ 200000000000) ∧ (-200000000000 ≤ (v1 - v0) * (f - f0) / (f1 - f0) ∧ (v1 - v0) * (f - f0) / (f1 - f0) ≤ 200000000000) := by
  have hb := mul_bound (x := v1 - v0) (y := f - f0) (X := 200000) (Y := 1000000) (by omega) (by omega) (by omega)
  generalize (v1 - v0) * (f - f0) = p at hb
  generalize hb' : f1 - f0 = b
  have hbp : 0 < b := by omega
  have hm0 : 0 ≤ p % b := Int.emod_nonneg _ (by omega)
  have hm1 : p % b < b := Int.emod_lt_of_pos _ hbp
  have hd := Int.emod_add_mul_ediv p b
  refine ⟨by omega, ?_, ?_⟩
  · rcases Int.lt_or_le (p / b) (-200000000000) with h | h
    · have h1 : b * (p / b) ≤ b * (-200000000001) := Int.mul_le_mul_of_nonneg_left (by omega) (by omega)
      omega
    · exact h
  · rcases Int.lt_or_le 200000000000 (p / b) with h | h
    · have h1 : b * 200000000001 ≤ b * (p / b) := Int.mul_le_mul_of_nonneg_left (by omega) (by omega)
      omega
    · exact h
theorem on_end {f0 v0 f1 v1 : Int} (h : f0 < f1) : onKeys f0 v0 f1 v1 f1 = v1 := by
  unfold onKeys
  rw [Int.mul_ediv_cancel _ (by omega)]
  omega
theorem keyval_both (n : Int) (l : List S75) (f : Int) (hn : n ≤ 1000000) (hk : keysOk n l = true) : Both (fun _ => True) (fun k => spec_l11At.f k l f) (fun k => impl_valueAt.f k l f) := by
  obtain ⟨⟨hl1, hl2⟩, hall⟩ := keys_yes hk
  have tail : Both (fun _ => True) (fun _ : Nat => if 0 ≤ (wrap64 ((l.length : Int) - 1)) then (if (wrap64 ((l.length : Int) - 1)) < (l.length : Int) then (some ((rd_T75 l (wrap64 ((l.length : Int) - 1))).f1)) else (none)) else (none)) (fun _ : Nat => if 0 ≤ (wrap64 ((l.length : Int) - 1)) then (if (wrap64 ((l.length : Int) - 1)) < (l.length : Int) then (some ((rd_T75 l (wrap64 ((l.length : Int) - 1))).f1)) else (none)) else (none)) := by
    rw [w_pred (by omega)]
    exact Both.pos (by omega) (by omega) (Both.pos (by omega) (by omega) (Both.now _ trivial))
  have key : ∀ (m i : Nat), i + m = l.length → 1 ≤ i → (rd_T75 l ((i : Int) - 1)).f0 < f → Both (fun _ => True) (fun k => spec_l11At.l0 k l f (i : Int)) (fun k => impl_valueAt.l0 k l f l (l.length : Int) (i : Int)) := by
    intro m
    induction m with
    | zero => exact fun i hi _ _ => Both.step (fun k => spec_l11At.l0.eq_2 _ _ _ k) (fun k => impl_valueAt.l0.eq_2 _ _ _ _ _ k) (Both.neg (by omega) (by omega) tail)
    | succ m ih =>
      intro i hi h1 hf
      obtain ⟨p, rfl⟩ : ∃ p : Nat, i = p + 1 := ⟨i - 1, by omega⟩
      have e : ((p + 1 : Nat) : Int) - 1 = (p : Int) := by omega
      obtain ⟨f1, v1, lt⟩ := hall (p + 1) (by omega)
      obtain ⟨f0, v0, _⟩ := hall p (by omega)
      rw [e] at lt hf
      have lt' : (rd_T75 l (p : Int)).f0 < (rd_T75 l ((p + 1 : Nat) : Int)).f0 := by
        rcases lt with h | h
        · omega
        · exact h
      refine Both.step (fun k => spec_l11At.l0.eq_2 _ _ _ k) (fun k => impl_valueAt.l0.eq_2 _ _ _ _ _ k) (Both.pos (by omega) (by omega) ?_)
      rw [w_pred (by omega), e, w_succ (by omega)]
      refine Both.lpos (by omega) (Both.lpos (by omega) (Both.pos (by omega) (by omega) (Both.rpos (by omega) ?_)))
      refine Both.ite (fun hle => Both.rneg (by omega) ?_) (fun hgt => ih (p + 1 + 1) (by omega) (by omega) (by rw [show ((p + 1 + 1 : Nat) : Int) - 1 = ((p + 1 : Nat) : Int) by omega]; omega))
      generalize rd_T75 l (p : Int) = a at *
      generalize rd_T75 l ((p + 1 : Nat) : Int) = b at *
      obtain ⟨g1, g2⟩ := on_range f0.1 (f1 := b.f0) (by omega) v0 v1 lt' (Int.le_of_lt hf) hle
      obtain ⟨d1, d2⟩ := down_eq (a := (b.f1 - a.f1) * (f - a.f0)) (b := b.f0 - a.f0) (by omega) (by omega)
      have ew : wrap64 (wrap64 (b.f1 - a.f1) * wrap64 (f - a.f0)) = (b.f1 - a.f1) * (f - a.f0) := by
        rw [w64 (n := b.f1 - a.f1) (by omega) (by omega), w64 (n := f - a.f0) (by omega) (by omega), w64 (by omega) (by omega)]
      have eb : wrap64 (b.f0 - a.f0) = b.f0 - a.f0 := w64 (by omega) (by omega)
      have eo : wrap64 (a.f1 + (b.f1 - a.f1) * (f - a.f0) / (b.f0 - a.f0)) = onKeys a.f0 a.f1 b.f0 b.f1 f := by unfold onKeys; exact w64 (by omega) (by omega)
      rw [ew, eb]
      by_cases he : f = b.f0
      · refine ⟨b.f1, trivial, Ev.const_bind d1 (Ev.cast (Ev.now _) ?_), Ev.pos he (Ev.now _)⟩
        rw [eo, he, on_end lt']
      · refine ⟨onKeys a.f0 a.f1 b.f0 b.f1 f, trivial, Ev.const_bind d1 (Ev.cast (Ev.now _) eo), Ev.neg he (Ev.pos (by omega) (Ev.pos (by omega) (Ev.const_bind (a := onKeys a.f0 a.f1 b.f0 b.f1 f) ?_ (Ev.now _))))⟩
        unfold impl_on.f
        rw [ew, eb, d2, Option.bind_some, eo]
  obtain ⟨f1, v1, _⟩ := hall 0 (by omega)
  unfold spec_l11At.f impl_valueAt.f
  refine Both.lpos (by omega) ?_
  have i0 : ∀ r, Ev (fun k => if f ≤ (rd_T75 l 0).f0 then (some ((rd_T75 l 0).f1)) else impl_valueAt.l0 k l f l (l.length : Int) 1) r → Ev (fun k => impl_valueAt.l0 k l f l (l.length : Int) 0) r := fun r h => by
    refine Ev.step (fun k => impl_valueAt.l0.eq_2 _ _ _ _ _ k) (Ev.pos (by omega) (Ev.pos (by omega) (Ev.pos (by omega) ?_)))
    by_cases hc : f ≤ (rd_T75 l 0).f0
    · simp only [if_pos hc] at h ⊢
      exact h
    · simp only [if_neg hc] at h ⊢
      rw [show wrap64 (0 + 1) = 1 from w64 (by omega) (by omega)]
      exact h
  by_cases hc : f ≤ (rd_T75 l 0).f0
  · exact ⟨_, trivial, Ev.pos hc (Ev.now _), i0 _ (Ev.pos hc (Ev.now _))⟩
  · obtain ⟨r, _, r1, r2⟩ := key (l.length - 1) 1 (by omega) (by omega) (by
      have : (rd_T75 l 0).f0 < f := by omega
      exact this)
    exact ⟨r, trivial, Ev.neg hc r1, i0 _ (Ev.neg hc r2)⟩
/-! clips -/
abbrev Tk := S53
abbrev Mk := S57
abbrev rT (l : List Tk) (i : Int) : Tk := rd_T53 l i
abbrev rM (l : List Mk) (i : Int) : Mk := rd_T57 l i
theorem rT_get {L : List Tk} {i : Nat} (h : i < L.length) : rT L (i : Int) = L[i] := rdOf_get (d := z53) h
theorem rM_get {L : List Mk} {i : Nat} (h : i < L.length) : rM L (i : Int) = L[i] := rdOf_get (d := z57) h
def tless (l : List Tk) (i : Nat) : Bool := if i = 0 then true else Op.bytesLess (rT l ((i : Int) - 1)).f0.toList (rT l (i : Int)).f0.toList
def mless (l : List Mk) (i : Nat) : Bool := if i = 0 then true else (!decide ((rM l ((i : Int) - 1)).f0 > (rM l (i : Int)).f0) && (!decide ((rM l ((i : Int) - 1)).f0 = (rM l (i : Int)).f0) || Op.bytesLess (rM l ((i : Int) - 1)).f1.toList (rM l (i : Int)).f1.toList))
def trackOk (n : Int) (l : List Tk) (i : Nat) : Bool := nameOk (rT l (i : Int)).f0 && (keysOk (wrap64 (n - 1)) (rT l (i : Int)).f1 && tless l i)
def markOk (n : Int) (l : List Mk) (i : Nat) : Bool := (decide (0 ≤ (rM l (i : Int)).f0) && decide ((rM l (i : Int)).f0 ≤ wrap64 (n - 1))) && (nameOk (rM l (i : Int)).f1 && mless l i)
def clipOk (n : Int) (ts : List Tk) (ms : List Mk) : Bool := (decide (1 ≤ n) && decide (n ≤ 60)) && ((decide (ts.length ≤ 8) && decide (ms.length ≤ 20)) && (allFrom (trackOk n ts) ts.length 0 && allFrom (markOk n ms) ms.length 0))
def COk (ts : List Tk) (ms : List Mk) : Prop := (ts.length ≤ maxLen ∧ ∀ z ∈ ts, z.f0.size ≤ maxLen ∧ z.f1.length ≤ maxLen) ∧ (ms.length ≤ maxLen ∧ ∀ z ∈ ms, z.f1.size ≤ maxLen)
/-- The order of the marks, as both ask it. -/
theorem mless_ev (ms : List Mk) (i : Nat) (hi : i < ms.length) (hl : ms.length ≤ 9223372036854775807) {g : Nat → Option Bool} {R : Bool} (hg : Ev g R) :
    Ev (fun k => if (i : Int) > 0 then (if 0 ≤ (wrap64 ((i : Int) - 1)) then (if (wrap64 ((i : Int) - 1)) < (ms.length : Int) then (if (rM ms (wrap64 ((i : Int) - 1))).f0 > (rM ms (i : Int)).f0 then (some false) else (if (rM ms (wrap64 ((i : Int) - 1))).f0 = (rM ms (i : Int)).f0 then (if ((Op.bytesLess ((rM ms (wrap64 ((i : Int) - 1))).f1.toList) (rM ms (i : Int)).f1.toList) = true) then g k else (some false)) else g k)) else (none)) else (none)) else g k) (mless ms i && R) := by
  unfold mless
  by_cases h0 : i = 0
  · subst h0
    exact Ev.neg (by omega) (Ev.cast hg (by simp))
  · rw [if_neg h0, w_pred (by omega)]
    refine Ev.pos (by omega) (Ev.pos (by omega) (Ev.pos (by omega) ?_))
    by_cases h1 : (rM ms ((i : Int) - 1)).f0 > (rM ms (i : Int)).f0
    · exact Ev.pos h1 (Ev.cast (Ev.now _) (by rw [decide_eq_true h1]; rfl))
    · refine Ev.neg h1 ?_
      rw [decide_eq_false h1, Bool.not_false, Bool.true_and]
      by_cases h2 : (rM ms ((i : Int) - 1)).f0 = (rM ms (i : Int)).f0
      · refine Ev.pos h2 ?_
        rw [decide_eq_true h2, Bool.not_true, Bool.false_or]
        exact Ev.and (fun _ => hg)
      · exact Ev.neg h2 (Ev.cast hg (by rw [decide_eq_false h2]; rfl))
theorem marks_spec (n : Int) (ts : List Tk) (ms : List Mk) (hl : ms.length ≤ maxLen) (hs : ∀ z ∈ ms, z.f1.size ≤ maxLen) : Ev (fun k => spec_GoodClip.l1 k ms (ms.length : Int) 0 n ts ms) (allFrom (markOk n ms) ms.length 0) := by
  rw [maxLen_eq] at hl
  have key : ∀ m i : Nat, i + m = ms.length → Ev (fun k => spec_GoodClip.l1 k ms (ms.length : Int) (i : Int) n ts ms) (allFrom (markOk n ms) m i) := by
    intro m
    induction m with
    | zero => exact fun i hi => Ev.step (fun k => spec_GoodClip.l1.eq_2 _ _ _ _ _ _ k) (Ev.neg (by omega) (Ev.now _))
    | succ m ih =>
      intro i hi
      have hi' : i < ms.length := by omega
      have hz := hs _ (List.getElem_mem hi')
      rw [← rM_get hi'] at hz
      have hR : Ev (fun k => spec_GoodClip.l1 k ms (ms.length : Int) (wrap64 ((i : Int) + 1)) n ts ms) (allFrom (markOk n ms) m (i + 1)) := by rw [w_succ (by omega)]; exact ih (i + 1) (by omega)
      have hj : ∀ b, Ev (fun k => spec_GoodClip.j3 k (i : Int) ms (ms.length : Int) (i : Int) b n ts ms (rM ms (i : Int)).f0 (rM ms (i : Int)).f1) (!b && (mless ms i && allFrom (markOk n ms) m (i + 1))) := fun b =>
        Ev.step (fun k => spec_GoodClip.j3.eq_2 _ _ _ _ _ _ _ _ _ _ k) (Ev.andn (fun _ => mless_ev ms i hi' hl hR))
      refine Ev.step (fun k => spec_GoodClip.l1.eq_2 _ _ _ _ _ _ k) (Ev.pos (by omega) (Ev.pos (by omega) (Ev.pos (by omega) (Ev.const_bind (in_spec _ _ _) ?_))))
      rw [allFrom, markOk]
      cases hc : (decide (0 ≤ (rM ms (i : Int)).f0) && decide ((rM ms (i : Int)).f0 ≤ wrap64 (n - 1))) with
      | false => exact Ev.neg (by decide) (Ev.cast (hj true) (by simp))
      | true => exact Ev.pos rfl (Ev.bind (name_spec _ hz) (Ev.cast (hj _) (by rw [Bool.not_not, Bool.true_and, Bool.and_assoc])))
  exact key ms.length 0 (by omega)
theorem marks_impl (n : Int) (ts : List Tk) (ms : List Mk) (hl : ms.length ≤ maxLen) (hs : ∀ z ∈ ms, z.f1.size ≤ maxLen) : Ev (fun k => impl_GoodClip.l1 k ms (ms.length : Int) 0 n ts ms) (allFrom (markOk n ms) ms.length 0) := by
  rw [maxLen_eq] at hl
  have key : ∀ m i : Nat, i + m = ms.length → Ev (fun k => impl_GoodClip.l1 k ms (ms.length : Int) (i : Int) n ts ms) (allFrom (markOk n ms) m i) := by
    intro m
    induction m with
    | zero => exact fun i hi => Ev.step (fun k => impl_GoodClip.l1.eq_2 _ _ _ _ _ _ k) (Ev.neg (by omega) (Ev.now _))
    | succ m ih =>
      intro i hi
      have hi' : i < ms.length := by omega
      have hz := hs _ (List.getElem_mem hi')
      rw [← rM_get hi'] at hz
      have hR : Ev (fun k => impl_GoodClip.l1 k ms (ms.length : Int) (wrap64 ((i : Int) + 1)) n ts ms) (allFrom (markOk n ms) m (i + 1)) := by rw [w_succ (by omega)]; exact ih (i + 1) (by omega)
      have hj : ∀ b, Ev (fun k => impl_GoodClip.j3 k (i : Int) ms (ms.length : Int) (i : Int) b n ts ms (rM ms (i : Int)).f0 (rM ms (i : Int)).f1) (!b && (mless ms i && allFrom (markOk n ms) m (i + 1))) := fun b =>
        Ev.step (fun k => impl_GoodClip.j3.eq_2 _ _ _ _ _ _ _ _ _ _ k) (Ev.andn (fun _ => mless_ev ms i hi' hl hR))
      refine Ev.step (fun k => impl_GoodClip.l1.eq_2 _ _ _ _ _ _ k) (Ev.pos (by omega) (Ev.pos (by omega) (Ev.pos (by omega) (Ev.bind (name_impl _ hz) ?_))))
      rw [allFrom, markOk]
      cases hn : nameOk (rM ms (i : Int)).f1 with
      | false => exact Ev.neg (by decide) (Ev.cast (hj true) (by simp))
      | true => exact Ev.pos rfl (Ev.const_bind (in_impl _ _ _) (Ev.cast (hj _) (by simp only [Bool.not_not, Bool.true_and, Bool.and_assoc])))
  exact key ms.length 0 (by omega)
theorem tracks_spec (n : Int) (ts : List Tk) (ms : List Mk) (ho : COk ts ms) : Ev (fun k => spec_GoodClip.l0 k ts (ts.length : Int) 0 n ts ms) (allFrom (trackOk n ts) ts.length 0 && allFrom (markOk n ms) ms.length 0) := by
  obtain ⟨⟨hl, hs⟩, h2, h3⟩ := ho
  have hE := marks_spec n ts ms h2 h3
  rw [maxLen_eq] at hl
  generalize allFrom (markOk n ms) ms.length 0 = R2 at hE ⊢
  have key : ∀ m i : Nat, i + m = ts.length → Ev (fun k => spec_GoodClip.l0 k ts (ts.length : Int) (i : Int) n ts ms) (allFrom (trackOk n ts) m i && R2) := by
    intro m
    induction m with
    | zero => exact fun i hi => Ev.step (fun k => spec_GoodClip.l0.eq_2 _ _ _ _ _ _ k) (Ev.neg (by omega) (Ev.cast hE (by simp [allFrom])))
    | succ m ih =>
      intro i hi
      have hi' : i < ts.length := by omega
      have hz := hs _ (List.getElem_mem hi')
      rw [← rT_get hi'] at hz
      have hR : Ev (fun k => spec_GoodClip.l0 k ts (ts.length : Int) (wrap64 ((i : Int) + 1)) n ts ms) (allFrom (trackOk n ts) m (i + 1) && R2) := by rw [w_succ (by omega)]; exact ih (i + 1) (by omega)
      refine Ev.step (fun k => spec_GoodClip.l0.eq_2 _ _ _ _ _ _ k) (Ev.pos (by omega) (Ev.pos (by omega) (Ev.pos (by omega) (Ev.bind (name_spec _ hz.1) ?_))))
      rw [allFrom, trackOk]
      simp only [Bool.and_assoc]
      refine Ev.and (fun _ => Ev.bind (keys_spec _ _ hz.2) (Ev.and (fun _ => ?_)))
      unfold tless
      by_cases h0 : i = 0
      · subst h0
        exact Ev.neg (by omega) (Ev.cast hR (by simp))
      · rw [if_neg h0, w_pred (by omega)]
        exact Ev.pos (by omega) (Ev.pos (by omega) (Ev.pos (by omega) (Ev.and (fun _ => hR))))
  exact key ts.length 0 (by omega)
theorem tracks_impl (n : Int) (ts : List Tk) (ms : List Mk) (ho : COk ts ms) : Ev (fun k => impl_GoodClip.l0 k ts (ts.length : Int) 0 n ts ms) (allFrom (trackOk n ts) ts.length 0 && allFrom (markOk n ms) ms.length 0) := by
  obtain ⟨⟨hl, hs⟩, h2, h3⟩ := ho
  have hE := marks_impl n ts ms h2 h3
  rw [maxLen_eq] at hl
  generalize allFrom (markOk n ms) ms.length 0 = R2 at hE ⊢
  have key : ∀ m i : Nat, i + m = ts.length → Ev (fun k => impl_GoodClip.l0 k ts (ts.length : Int) (i : Int) n ts ms) (allFrom (trackOk n ts) m i && R2) := by
    intro m
    induction m with
    | zero => exact fun i hi => Ev.step (fun k => impl_GoodClip.l0.eq_2 _ _ _ _ _ _ k) (Ev.neg (by omega) (Ev.cast hE (by simp [allFrom])))
    | succ m ih =>
      intro i hi
      have hi' : i < ts.length := by omega
      have hz := hs _ (List.getElem_mem hi')
      rw [← rT_get hi'] at hz
      have hR : Ev (fun k => impl_GoodClip.l0 k ts (ts.length : Int) (wrap64 ((i : Int) + 1)) n ts ms) (allFrom (trackOk n ts) m (i + 1) && R2) := by rw [w_succ (by omega)]; exact ih (i + 1) (by omega)
      refine Ev.step (fun k => impl_GoodClip.l0.eq_2 _ _ _ _ _ _ k) (Ev.pos (by omega) (Ev.pos (by omega) (Ev.pos (by omega) (Ev.bind (name_impl _ hz.1) ?_))))
      rw [allFrom, trackOk]
      simp only [Bool.and_assoc]
      refine Ev.and (fun _ => ?_)
      unfold tless
      by_cases h0 : i = 0
      · subst h0
        exact Ev.neg (by omega) (Ev.bind (keys_impl _ _ hz.2) (Ev.and (fun _ => Ev.cast hR (by simp))))
      · rw [if_neg h0, w_pred (by omega)]
        refine Ev.pos (by omega) (Ev.pos (by omega) (Ev.pos (by omega) ?_))
        cases hb : Op.bytesLess (rT ts ((i : Int) - 1)).f0.toList (rT ts (i : Int)).f0.toList with
        | false => exact Ev.neg (by decide) (Ev.cast (Ev.now _) (by simp))
        | true => exact Ev.pos rfl (Ev.bind (keys_impl _ _ hz.2) (Ev.and (fun _ => Ev.cast hR (by simp))))
  exact key ts.length 0 (by omega)
theorem clip_spec (n : Int) (ts : List Tk) (ms : List Mk) (ho : COk ts ms) : Ev (fun k => spec_GoodClip.f k n ts ms) (clipOk n ts ms) := by
  have hj : ∀ b, Ev (fun k => spec_GoodClip.j0 k b n ts ms) (!b && (allFrom (trackOk n ts) ts.length 0 && allFrom (markOk n ms) ms.length 0)) := fun b =>
    Ev.step (fun k => spec_GoodClip.j0.eq_2 _ _ _ _ k) (Ev.andn (fun _ => tracks_spec n ts ms ho))
  unfold spec_GoodClip.f clipOk
  refine Ev.const_bind (in_spec _ _ _) ?_
  cases hc : (decide (1 ≤ n) && decide (n ≤ 60)) with
  | false => exact Ev.neg (by decide) (Ev.cast (hj true) (by simp))
  | true =>
    refine Ev.pos rfl (Ev.ite (fun h => Ev.cast (hj true) ?_) (fun h => Ev.cast (hj _) ?_))
    · rw [decide_eq_false (show ¬ ts.length ≤ 8 by omega)]; simp
    · rw [decide_eq_true (show ts.length ≤ 8 by omega), Bool.true_and, Bool.true_and]
      congr 1
      by_cases h2 : ms.length ≤ 20
      · rw [decide_eq_true h2, decide_eq_false (by omega)]; rfl
      · rw [decide_eq_false h2, decide_eq_true (by omega)]; rfl
theorem clip_impl (n : Int) (ts : List Tk) (ms : List Mk) (ho : COk ts ms) : Ev (fun k => impl_GoodClip.f k n ts ms) (clipOk n ts ms) := by
  have hj : ∀ b, Ev (fun k => impl_GoodClip.j0 k b n ts ms) (!b && (allFrom (trackOk n ts) ts.length 0 && allFrom (markOk n ms) ms.length 0)) := fun b =>
    Ev.step (fun k => impl_GoodClip.j0.eq_2 _ _ _ _ k) (Ev.andn (fun _ => tracks_impl n ts ms ho))
  unfold impl_GoodClip.f clipOk
  refine Ev.const_bind (in_impl _ _ _) ?_
  cases hc : (decide (1 ≤ n) && decide (n ≤ 60)) with
  | false => exact Ev.neg (by decide) (Ev.cast (hj true) (by simp))
  | true =>
    refine Ev.pos rfl (Ev.ite (fun h => Ev.cast (hj true) ?_) (fun h => Ev.cast (hj _) ?_))
    · rw [decide_eq_false (show ¬ ts.length ≤ 8 by omega)]; simp
    · rw [decide_eq_true (show ts.length ≤ 8 by omega), Bool.true_and, Bool.true_and]
      congr 1
      by_cases h2 : ms.length ≤ 20
      · rw [decide_eq_true h2, decide_eq_false (by omega)]; rfl
      · rw [decide_eq_false h2, decide_eq_true (by omega)]; rfl
theorem sz_tracks (l : List S70) (hl : l.length ≤ maxLen) (hs : ∀ z ∈ l, z.f0.size ≤ maxLen ∧ z.f1.length ≤ maxLen) {a : Int} (h0 : 0 ≤ a) (h1 : a ≤ 1048576) : ∃ t, t ≤ 1048576 ∧ (¬ t < 0 → (l.length : Int) ≤ 1048576 ∧ ∀ z ∈ l, (z.f1.length : Int) ≤ 1048576) ∧ Ev (fun k => laws_szTrackS.f k l a) t := by
  unfold laws_szTrackS.f
  have e := sz_left (n := l.length) h0 h1 hl
  rw [maxLen_eq] at hl
  by_cases hn : wrap64 (a - (l.length : Int)) < 0
  · exact ⟨-1, by omega, by omega, Ev.pos hn (Ev.now _)⟩
  · rw [if_neg hn] at e
    have e := Option.some.inj e
    rw [e] at hn ⊢
    have hr := (roomLeft_ok hn).1
    obtain ⟨t, ht, hts, he⟩ := sizesP_ev (fun z : S70 => (z.f1.length : Int) ≤ 1048576) z70 (fun _ z r => laws_szTrack.f z.f0 z.f1 r) laws_szTrackS.l0 (fun k x r i => laws_szTrackS.l0.eq_2 x r i k) l (by omega)
      (fun z hz r h0 h1 => by
        have e2 := sz_left (n := z.f0.size) h0 h1 (hs z hz).1
        unfold laws_szTrack.f
        by_cases hm : wrap64 (r - (z.f0.size : Int)) < 0
        · exact ⟨-1, by omega, fun h => absurd (by omega) h, Ev.pos hm (Ev.now _)⟩
        · rw [if_neg hm] at e2
          have e2 := Option.some.inj e2
          rw [e2] at hm ⊢
          have hm' := roomLeft_ok hm
          refine ⟨roomLeft z.f1.length (roomLeft z.f0.size r), roomLeft_le (roomLeft_le h1), fun h => ?_, Ev.neg hm (Ev.const_bind (sz_left (by omega) (roomLeft_le h1) (hs z hz).2) (Ev.mk fun _ => room_again _ _))⟩
          have := (roomLeft_ok h).1
          omega) (roomLeft l.length a) (by omega) (roomLeft_le h1)
    exact ⟨t, ht, fun h => ⟨by omega, hts h⟩, Ev.neg hn he⟩
theorem sz_marks (l : List S72) (hl : l.length ≤ maxLen) (hs : ∀ z ∈ l, z.f1.size ≤ maxLen) {a : Int} (h0 : 0 ≤ a) (h1 : a ≤ 1048576) : ∃ t, t ≤ 1048576 ∧ (¬ t < 0 → (l.length : Int) ≤ 1048576) ∧ Ev (fun k => laws_szMarkS.f k l a) t := by
  unfold laws_szMarkS.f
  have e := sz_left (n := l.length) h0 h1 hl
  rw [maxLen_eq] at hl
  by_cases hn : wrap64 (a - (l.length : Int)) < 0
  · exact ⟨-1, by omega, by omega, Ev.pos hn (Ev.now _)⟩
  · rw [if_neg hn] at e
    have e := Option.some.inj e
    rw [e] at hn ⊢
    have hr := (roomLeft_ok hn).1
    obtain ⟨t, ht, he⟩ := sizes_ev z72 (fun _ z r => laws_szMark.f z.f0 z.f1 r) laws_szMarkS.l0 (fun k x r i => laws_szMarkS.l0.eq_2 x r i k) l (by omega)
      (fun z hz r h0 h1 => ⟨roomLeft z.f1.size r, roomLeft_le h1, Ev.mk fun _ => sz_left h0 h1 (hs z hz)⟩) (roomLeft l.length a) (by omega) (roomLeft_le h1)
    exact ⟨t, ht, fun _ => by omega, Ev.neg hn he⟩
theorem sz_clip (n : Int) (ts : List S70) (ms : List S72) (hl : ts.length ≤ maxLen) (hs : ∀ z ∈ ts, z.f0.size ≤ maxLen ∧ z.f1.length ≤ maxLen) (hl2 : ms.length ≤ maxLen) (hs2 : ∀ z ∈ ms, z.f1.size ≤ maxLen) :
    ∃ t, (¬ t < 0 → ((ts.length : Int) ≤ 1048576 ∧ ∀ z ∈ ts, (z.f1.length : Int) ≤ 1048576) ∧ (ms.length : Int) ≤ 1048576) ∧ Ev (fun k => laws_szClip.f k n ts ms 1048576) t := by
  obtain ⟨t, h1, h2, he⟩ := sz_tracks ts hl hs (a := 1048576) (by omega) (by omega)
  unfold laws_szClip.f
  by_cases hn : t < 0
  · exact ⟨-1, fun h => absurd (by omega) h, Ev.bind he (Ev.pos hn (Ev.now _))⟩
  · obtain ⟨t2, _, g2, ge⟩ := sz_marks ms hl2 hs2 (a := t) (by omega) h1
    exact ⟨if t2 < 0 then -1 else t2, fun h => ⟨h2 hn, g2 (by split at h <;> omega)⟩, Ev.bind he (Ev.neg hn (Ev.bind ge (Ev.mk fun _ => by split <;> rfl)))⟩
def asKey (b : S88) : S75 := ⟨b.f0, b.f1⟩
def asTrack (b : S70) : Tk := ⟨b.f0, b.f1.map asKey⟩
def asMark (b : S72) : Mk := ⟨b.f0, b.f1⟩
theorem to_keys (l : List S88) (hl : (l.length : Int) ≤ 1048576) : Ev (fun k => laws_toKeyS.f k l) (l.map asKey) := by
  have h := toS_ev z75 asKey z88 laws_toKeyS.l0 (fun k x y i => laws_toKeyS.l0.eq_2 x y i k) l (by omega)
  exact Ev.pos (by omega) (Ev.pos (by omega) h)
theorem to_tracks (l : List S70) (hl : (l.length : Int) ≤ 1048576) (hs : ∀ z ∈ l, (z.f1.length : Int) ≤ 1048576) : Ev (fun k => laws_toTrackS.f k l) (l.map asTrack) := by
  have ht := toK_ev z53 asTrack z70 (fun k z => (laws_toTrack.f k z.f0 z.f1).bind fun t => some (⟨t.1, t.2⟩ : Tk)) laws_toTrackS.l0 (fun k x y i => by
      rw [laws_toTrackS.l0]
      split
      · split
        · simp only [Option.bind_assoc, Option.bind_some]; rfl
        · rfl
      · rfl) l (by omega) (fun z hz => Ev.bind (Ev.bind (to_keys z.f1 (hs z hz)) (Ev.now _)) (Ev.now _))
  unfold laws_toTrackS.f
  exact Ev.pos (by omega) (Ev.pos (by omega) ht)
theorem to_marks (l : List S72) (hl : (l.length : Int) ≤ 1048576) : Ev (fun k => laws_toMarkS.f k l) (l.map asMark) := by
  have h := toS_ev z57 asMark z72 laws_toMarkS.l0 (fun k x y i => laws_toMarkS.l0.eq_2 x y i k) l (by omega)
  exact Ev.pos (by omega) (Ev.pos (by omega) h)
theorem to_clip (n : Int) (ts : List S70) (ms : List S72) (hl : (ts.length : Int) ≤ 1048576) (hs : ∀ z ∈ ts, (z.f1.length : Int) ≤ 1048576) (hm : (ms.length : Int) ≤ 1048576) : Ev (fun k => laws_toClip.f k n ts ms) (n, ts.map asTrack, ms.map asMark) :=
  Ev.bind (to_tracks ts hl hs) (Ev.bind (to_marks ms hm) (Ev.now _))
theorem eq_keys (l : List S75) (hl : (l.length : Int) ≤ 1048576) : Ev (fun k => laws_eqKeyS.f k l l) true := by
  unfold laws_eqKeyS.f
  exact eqT_ev z75 (fun a b => laws_eqKey.f a.f0 a.f1 b.f0 b.f1) laws_eqKeyS.l0 (fun k x y i => laws_eqKeyS.l0.eq_2 x y i k) (fun a => by unfold laws_eqKey.f; rw [if_pos rfl, if_pos rfl]) l (by rw [maxLen_eq]; omega)
theorem eq_tracks (l : List Tk) (hl : (l.length : Int) ≤ 1048576) (hs : ∀ z ∈ l, (z.f1.length : Int) ≤ 1048576) : Ev (fun k => laws_eqTrackS.f k l l) true := by
  unfold laws_eqTrackS.f
  exact eqK_ev z53 (fun k a b => laws_eqTrack.f k a.f0 a.f1 b.f0 b.f1) laws_eqTrackS.l0 (fun k x y i => laws_eqTrackS.l0.eq_2 x y i k) l (by rw [maxLen_eq]; omega) (fun a ha => Ev.pos rfl (Ev.bind (eq_keys a.f1 (hs a ha)) (Ev.pos rfl (Ev.now _))))
theorem eq_marks (l : List Mk) (hl : (l.length : Int) ≤ 1048576) : Ev (fun k => laws_eqMarkS.f k l l) true := by
  unfold laws_eqMarkS.f
  exact eqT_ev z57 (fun a b => laws_eqMark.f a.f0 a.f1 b.f0 b.f1) laws_eqMarkS.l0 (fun k x y i => laws_eqMarkS.l0.eq_2 x y i k) (fun a => by unfold laws_eqMark.f; rw [if_pos rfl, if_pos rfl]) l (by rw [maxLen_eq]; omega)
theorem eq_clip (n : Int) (ts : List Tk) (ms : List Mk) (hl : (ts.length : Int) ≤ 1048576) (hs : ∀ z ∈ ts, (z.f1.length : Int) ≤ 1048576) (hm : (ms.length : Int) ≤ 1048576) : Ev (fun k => laws_eqClip.f k n ts ms n ts ms) true :=
  Ev.pos rfl (Ev.bind (eq_tracks ts hl hs) (Ev.pos rfl (Ev.bind (eq_marks ms hm) (Ev.pos rfl (Ev.now _)))))
/-- What the law says of a clip's sizes. -/
theorem clip_sizes (ts : List S70) (ms : List S72) (hl : (ts.length : Int) ≤ 1048576) (hs : ∀ z ∈ ts, (z.f1.length : Int) ≤ 1048576) (hn : ∀ z ∈ ts, z.f0.size ≤ maxLen) (hm : (ms.length : Int) ≤ 1048576) (hn2 : ∀ z ∈ ms, z.f1.size ≤ maxLen) :
    ((ts.map asTrack).length : Int) ≤ 1048576 ∧ (∀ z ∈ ts.map asTrack, (z.f1.length : Int) ≤ 1048576) ∧ ((ms.map asMark).length : Int) ≤ 1048576 ∧ COk (ts.map asTrack) (ms.map asMark) := by
  have a1 : ∀ z ∈ ts.map asTrack, (z.f1.length : Int) ≤ 1048576 := by
    intro z hz
    obtain ⟨y, hy, rfl⟩ := List.mem_map.1 hz
    have := hs y hy
    simp only [asTrack, List.length_map]
    exact this
  refine ⟨by rw [List.length_map]; exact hl, a1, by rw [List.length_map]; exact hm, ⟨by rw [List.length_map, maxLen_eq]; omega, fun z hz => ?_⟩, by rw [List.length_map, maxLen_eq]; omega, fun z hz => ?_⟩
  · have := a1 z hz
    obtain ⟨y, hy, rfl⟩ := List.mem_map.1 hz
    exact ⟨hn y hy, by rw [maxLen_eq]; omega⟩
  · obtain ⟨y, hy, rfl⟩ := List.mem_map.1 hz
    exact hn2 y hy
theorem eq_ints (l : List Int) (hl : (l.length : Int) ≤ 1048576) : Ev (fun k => laws_eqIntS.f k l l) true :=
  eqInt_ev laws_eqIntS.l0 (fun k x y i => laws_eqIntS.l0.eq_2 x y i k) l (by rw [maxLen_eq]; omega)
theorem mark_ints (l : List Int) (hl : (l.length : Int) ≤ 4611686018427387000) : Ev (fun k => laws_markIntS.f k l 1) (1 + (l.length : Int), marks l.length 1) :=
  markInt_ev laws_markIntS.l0 (fun k x c i => laws_markIntS.l0.eq_2 x c i k) 1 (by omega) l (by omega)
theorem held_ints (n : Nat) (hn : (n : Int) ≤ 4611686018427387000) : Ev (fun k => laws_heldIntS.f k (marks n 1) 1) (1 + (n : Int)) :=
  heldInt_ev laws_heldIntS.l0 (fun k x c i => laws_heldIntS.l0.eq_2 x c i k) n 1 (by omega) (by omega)
theorem text_ev : ∃ put : Int → ByteArray, ∀ c, 1 ≤ c → c ≤ 4611686018427387904 → Ev (fun k => laws_markText.f k c) (put c) :=
  markText_ev laws_markText.l0 (fun k x s => laws_markText.l0.eq_2 x s k)
theorem mapK_ev {α : Type} (one : Nat → α → Int → Option (Int × α)) (b : Int → Prop) : ∀ (l : List α) (c : Int), 1 ≤ c → c + (l.length : Int) * 4194304 ≤ 4611686018427387000 → (∀ e ∈ l, ∀ c, 1 ≤ c → c ≤ 4611686018427387000 - 4194304 → ∃ t e', c ≤ t ∧ t ≤ c + 4194304 ∧ Ev (fun k => one k e c) (t, e')) →
    ∃ t ys, c ≤ t ∧ t ≤ c + (l.length : Int) * 4194304 ∧ Ev (fun k => mapK (one k) l c) (t, ys)
  | [], c, _, _, _ => ⟨c, [], by omega, by simp, Ev.now _⟩
  | e :: l, c, h1, h2, h => by
    rw [List.length_cons] at h2
    obtain ⟨t, e', t1, t2, he⟩ := h e (List.mem_cons_self) c h1 (by omega)
    obtain ⟨u, ys, u1, u2, hu⟩ := mapK_ev one b l t (by omega) (by omega) (fun z hz => h z (List.mem_cons_of_mem _ hz))
    exact ⟨u, e' :: ys, by omega, by rw [List.length_cons]; omega, Ev.bind he (Ev.bind hu (Ev.now _))⟩
theorem mark_keys (l : List S75) (c : Int) (hc : 1 ≤ c) (hb : c + 2 * (l.length : Int) ≤ 4611686018427387904) : ∃ ys, Ev (fun k => laws_markKeyS.f k l c) (c + 2 * (l.length : Int), ys) := by
  have key : ∀ (m i : Nat) (xs : List S75) (c : Int), i + m = xs.length → xs.length ≤ 4611686018427387904 → 1 ≤ c → c + 2 * (m : Int) ≤ 4611686018427387904 → ∃ ys, Ev (fun k => laws_markKeyS.l0 k xs c (i : Int)) (c + 2 * (m : Int), ys) := by
    intro m
    induction m with
    | zero => exact fun i xs c hi _ _ _ => ⟨xs, Ev.step (fun k => laws_markKeyS.l0.eq_2 _ _ _ k) (Ev.neg (by omega) (Ev.cast (Ev.now _) (by simp)))⟩
    | succ m ih =>
      intro i xs c hi hx h1 h2
      obtain ⟨ys, hy⟩ := ih (i + 1) ((xs.set i ⟨c, (rd_T75 xs (i : Int)).f1⟩).set i ⟨(rd_T75 (xs.set i ⟨c, (rd_T75 xs (i : Int)).f1⟩) (i : Int)).f0, c + 1⟩) (c + 2) (by simp; omega) (by simp; omega) (by omega) (by omega)
      refine ⟨ys, Ev.step (fun k => laws_markKeyS.l0.eq_2 _ _ _ k) (Ev.pos (by omega) (Ev.pos (by omega) (Ev.some_bind ?_)))⟩
      rw [w64 (n := c + 1) (by omega) (by omega), w64 (n := c + 1 + 1) (by omega) (by omega), w_succ (by omega), Int.toNat_natCast, show c + 1 + 1 = c + 2 by omega]
      exact Ev.cast hy (by rw [show c + 2 + 2 * (m : Int) = c + 2 * ((m + 1 : Nat) : Int) by omega])
  exact key l.length 0 l c (by omega) (by omega) hc hb
theorem mark_marks (l : List S57) (c : Int) (hc : 1 ≤ c) (hb : c + 2 * (l.length : Int) ≤ 4611686018427387904) : ∃ ys, Ev (fun k => laws_markMarkS.f k l c) (c + 2 * (l.length : Int), ys) := by
  obtain ⟨put, hput⟩ := text_ev
  have key : ∀ (m i : Nat) (xs : List S57) (c : Int), i + m = xs.length → xs.length ≤ 4611686018427387904 → 1 ≤ c → c + 2 * (m : Int) ≤ 4611686018427387904 → ∃ ys, Ev (fun k => laws_markMarkS.l0 k xs c (i : Int)) (c + 2 * (m : Int), ys) := by
    intro m
    induction m with
    | zero => exact fun i xs c hi _ _ _ => ⟨xs, Ev.step (fun k => laws_markMarkS.l0.eq_2 _ _ _ k) (Ev.neg (by omega) (Ev.cast (Ev.now _) (by simp)))⟩
    | succ m ih =>
      intro i xs c hi hx h1 h2
      obtain ⟨ys, hy⟩ := ih (i + 1) ((xs.set i ⟨c, (rd_T57 xs (i : Int)).f1⟩).set i ⟨(rd_T57 (xs.set i ⟨c, (rd_T57 xs (i : Int)).f1⟩) (i : Int)).f0, put (c + 1)⟩) (c + 2) (by simp; omega) (by simp; omega) (by omega) (by omega)
      refine ⟨ys, Ev.step (fun k => laws_markMarkS.l0.eq_2 _ _ _ k) (Ev.pos (by omega) (Ev.pos (by omega) (Ev.some_bind ?_)))⟩
      rw [w64 (n := c + 1) (by omega) (by omega), w64 (n := c + 1 + 1) (by omega) (by omega), w_succ (by omega), Int.toNat_natCast, show c + 1 + 1 = c + 2 by omega]
      exact Ev.bind (hput (c + 1) (by omega) (by omega)) (Ev.cast hy (by rw [show c + 2 + 2 * (m : Int) = c + 2 * ((m + 1 : Nat) : Int) by omega]))
  exact key l.length 0 l c (by omega) (by omega) hc hb
theorem mark_clip (n : Int) (ts : List Tk) (ms : List Mk) (hl : (ts.length : Int) ≤ 1048576) (hs : ∀ z ∈ ts, (z.f1.length : Int) ≤ 1048576) (hm : (ms.length : Int) ≤ 1048576) : ∃ t xs ys, 1 ≤ t ∧ Ev (fun k => laws_markClip.f k n ts ms 1) (t, xs, ys) := by
  obtain ⟨put, hput⟩ := text_ev
  obtain ⟨t, xs, h1, h2, he⟩ := mapK_ev laws_markTrackS.one (fun _ => True) ts 1 (by omega) (by omega) (fun e he c h1 h2 => by
    have hk := hs e he
    obtain ⟨ys, hy⟩ := mark_keys e.f1 (c + 1) (by omega) (by omega)
    refine ⟨c + 1 + 2 * (e.f1.length : Int), ⟨put c, ys⟩, by omega, by omega, ?_⟩
    unfold laws_markTrackS.one
    refine Ev.bind (hput c h1 (by omega)) ?_
    rw [w64 (n := c + 1) (by omega) (by omega)]
    exact Ev.bind hy (Ev.now _))
  obtain ⟨ys, hy⟩ := mark_marks ms t (by omega) (by omega)
  exact ⟨t + 2 * (ms.length : Int), xs, ys, by omega, Ev.bind he (Ev.bind hy (Ev.now _))⟩
theorem wm1 {n : Int} (h : decide (1 ≤ n) && decide (n ≤ 60)) : wrap64 (n - 1) = n - 1 := by
  simp only [Bool.and_eq_true, decide_eq_true_eq] at h
  exact w64 (by omega) (by omega)
theorem pose_both (n f : Int) (ts : List Tk) (hl : ts.length ≤ 8) (hn : wrap64 (n - 1) ≤ 1000000) (ht : allFrom (trackOk n ts) ts.length 0 = true) :
    ∀ (m i : Nat) (o : List Int), i + m = ts.length → o.length = i → Both (fun r => r.1.length = ts.length) (fun k => spec_PoseAt.l0 k f o ts (ts.length : Int) (i : Int)) (fun k => impl_PoseAt.l0 k f o ts (ts.length : Int) (i : Int)) := by
  intro m
  induction m with
  | zero => exact fun i o hi ho => Both.step (fun k => spec_PoseAt.l0.eq_2 _ _ _ _ _ k) (fun k => impl_PoseAt.l0.eq_2 _ _ _ _ _ k) (Both.neg (by omega) (by omega) (Both.now _ (show o.length = ts.length by omega)))
  | succ m ih =>
    intro i o hi ho
    have hk := (allFrom_iff _ _ _).1 ht i (by omega) (by omega)
    simp only [trackOk, Bool.and_eq_true] at hk
    refine Both.step (fun k => spec_PoseAt.l0.eq_2 _ _ _ _ _ k) (fun k => impl_PoseAt.l0.eq_2 _ _ _ _ _ k) (Both.pos (by omega) (by omega) (Both.pos (by omega) (by omega) (Both.pos (by omega) (by omega) (Both.bind (keyval_both _ _ f hn hk.2.1) (fun v _ => Both.pos (by omega) (by omega) ?_)))))
    rw [w_succ (by omega)]
    exact ih (i + 1) _ (by omega) (by simp; omega)
theorem both (n f : Int) (ts : List Tk) (ms : List Mk) (ho : COk ts ms) : Both (fun r => r.1.length ≤ 8) (fun k => spec_PoseAt.f k n ts ms f) (fun k => impl_PoseAt.f k n ts ms f) := by
  have sT : Ev (fun k => spec_PoseAt.j0 k f true n ts ms) ([], false) := Ev.step (fun k => spec_PoseAt.j0.eq_2 _ _ _ _ _ k) (Ev.pos rfl (Ev.now _))
  have c1 := clip_spec n ts ms ho
  have c2 := clip_impl n ts ms ho
  unfold spec_PoseAt.f impl_PoseAt.f impl_isFrame.f
  cases hc : clipOk n ts ms with
  | false => rw [hc] at c1 c2; exact ⟨([], false), by simp, Ev.bind c1 (Ev.neg (by decide) sT), Ev.bind (Ev.bind c2 (Ev.neg (by decide) (Ev.now _))) (Ev.neg (by decide) (Ev.now _))⟩
  | true =>
    rw [hc] at c1 c2
    have hc2 := hc
    simp only [clipOk, Bool.and_eq_true, decide_eq_true_eq] at hc2
    obtain ⟨⟨n0, n1⟩, ⟨l8, _⟩, ht, _⟩ := hc2
    have hw : wrap64 (n - 1) = n - 1 := w64 (by omega) (by omega)
    cases hf : (decide (0 ≤ f) && decide (f ≤ wrap64 (n - 1))) with
    | false => exact ⟨([], false), by simp, Ev.bind c1 (Ev.pos rfl (Ev.const_bind (in_spec _ _ _) (by rw [hf]; exact sT))), Ev.bind (Ev.bind c2 (Ev.pos rfl (Ev.const_bind (in_impl _ _ _) (by rw [hf]; exact Ev.now _)))) (Ev.neg (by decide) (Ev.now _))⟩
    | true =>
      obtain ⟨r, hr, h1, h2⟩ := pose_both n f ts l8 (by omega) ht ts.length 0 [] (by omega) rfl
      exact ⟨r, by omega, Ev.bind c1 (Ev.pos rfl (Ev.const_bind (in_spec _ _ _) (by rw [hf]; exact Ev.step (fun k => spec_PoseAt.j0.eq_2 _ _ _ _ _ k) (Ev.neg (by decide) h1)))), Ev.bind (Ev.bind c2 (Ev.pos rfl (Ev.const_bind (in_impl _ _ _) (by rw [hf]; exact Ev.now _)))) (Ev.pos rfl h2)⟩
theorem FnExactPoseAt : laws_FnExactPoseAt.Pure := by
  intro n ts ms f _ ⟨hl, hs⟩ ⟨hl2, hs2⟩ _
  have hs' : ∀ z ∈ ts, z.f0.size ≤ maxLen ∧ z.f1.length ≤ maxLen := fun z hz => ⟨(hs z hz).1, (hs z hz).2.1⟩
  have hs2' : ∀ z ∈ ms, z.f1.size ≤ maxLen := fun z hz => (hs2 z hz).2
  refine Ev.rounds (r := true) ?_
  unfold laws_FnExactPoseAt.f
  obtain ⟨t, ht, he⟩ := sz_clip n ts ms hl hs' hl2 hs2'
  refine Ev.bind he (Ev.ite (fun _ => Ev.now _) (fun h => ?_))
  obtain ⟨⟨h1, h2⟩, h3⟩ := ht h
  have tk := to_clip n ts ms h1 h2 h3
  obtain ⟨g1, g2, g3, ho⟩ := clip_sizes ts ms h1 h2 (fun z hz => (hs' z hz).1) h3 hs2'
  generalize ts.map asTrack = xs at tk g1 g2 ho
  generalize ms.map asMark = ys at tk g3 ho
  obtain ⟨⟨r0, r1⟩, hr, b1, b2⟩ := both n f xs ys ho
  have hr : r0.length ≤ 8 := hr
  have hq := eq_ints r0 (by omega)
  obtain ⟨q, us, vs, hq1, hm⟩ := mark_clip n xs ys g1 g2 g3
  have hk := mark_ints r0 (by omega)
  have hh := held_ints r0.length (by omega)
  exact Ev.bind tk (Ev.bind b1 (Ev.bind tk (Ev.bind b2 (Ev.bind hq (Ev.pos rfl (Ev.pos rfl (Ev.bind tk (Ev.bind (eq_clip n xs ys g1 g2 g3) (Ev.pos rfl (Ev.bind hm (Ev.pos (by show ¬ q < 0; omega) (Ev.bind hq (Ev.pos rfl (Ev.pos rfl (Ev.bind hk (Ev.bind hh (Ev.pos (by omega) (Ev.pos rfl (Ev.bind tk (Ev.bind b2 (Ev.bind hq (Ev.pos rfl (Ev.pos rfl (Ev.bind hh (Ev.pos (by omega) (Ev.pos rfl (Ev.now _)))))))))))))))))))))))))))

end Go.Proofs.Ytikoiodbmnekfaa.Pure
