/- WorstOf: the pure statement of the law: the program's worst difference is the reference's, for all values and keys. -/
import Derived.Test.YtjckjmhlodjmgaaXFnExactWorstOfx5
import Derived.Test.YtjckjmhlodjmgaaXLib
namespace Go.Proofs.Ytjckjmhlodjmgaa.Pure
open Go.RowKit Go.Proofs.Ytjckjmhlodjmgaa.XFnExactWorstOf Go.Proofs.YtjckjmhlodjmgaaW.PrintWords Go.Proofs.YtjckjmhlodjmgaaW.PrintLast Go.Proofs.YtjckjmhlodjmgaaW.PrintMore Go.Proofs.Ytjckjmhlodjmgaa.X
set_option linter.unusedVariables false
set_option linter.unusedSimpArgs false

theorem in_spec (a b c : Int) : spec_l1In.f a b c = some (decide (b ≤ a) && decide (a ≤ c)) := by
  unfold spec_l1In.f
  by_cases h : b ≤ a <;> simp [h]
theorem in_impl (a b c : Int) : impl_inRange.f a b c = some (decide (b ≤ a) && decide (a ≤ c)) := by
  unfold impl_inRange.f
  by_cases h : b ≤ a <;> simp [h]
theorem to_ints (l : List Int) (hl : (l.length : Int) ≤ 1048576) : Ev (fun k => laws_toIntS.f k l) l := by
  have h := toS_ev (0 : Int) (id : Int → Int) 0 laws_toIntS.l0 (fun k x y i => laws_toIntS.l0.eq_2 x y i k) l (by omega)
  rw [List.map_id] at h
  exact Ev.pos (by omega) (Ev.pos (by omega) h)
theorem eq_ints (l : List Int) (hl : (l.length : Int) ≤ 1048576) : Ev (fun k => laws_eqIntS.f k l l) true :=
  eqInt_ev laws_eqIntS.l0 (fun k x y i => laws_eqIntS.l0.eq_2 x y i k) l (by rw [maxLen_eq]; omega)
/-! keys of a track -/
def valueOk (a : Int) : Bool := decide (-100000 ≤ a) && decide (a ≤ 100000)
theorem value_spec (a : Int) : spec_l11Value.f a = some (valueOk a) := by unfold spec_l11Value.f; rw [in_spec]; rfl
theorem value_impl (a : Int) : impl_isKeyValue.f a = some (valueOk a) := by unfold impl_isKeyValue.f; rw [in_impl]; rfl
def keyOk (n : Int) (l : List S162) (i : Nat) : Bool :=
  (decide (0 ≤ (rd_T162 l (i : Int)).f0) && decide ((rd_T162 l (i : Int)).f0 ≤ n)) && (valueOk (rd_T162 l (i : Int)).f1 && (i == 0 || decide ((rd_T162 l ((i : Int) - 1)).f0 < (rd_T162 l (i : Int)).f0)))
def keysOk (n : Int) (l : List S162) : Bool := (decide (1 ≤ l.length) && decide (l.length ≤ 60)) && allFrom (keyOk n l) l.length 0
theorem keys_spec (n : Int) (l : List S162) (hl : l.length ≤ maxLen) : Ev (fun k => spec_l11Keys.f k l n) (keysOk (wrap64 (n - 1)) l) := by
  rw [maxLen_eq] at hl
  have key : ∀ m i : Nat, i + m = l.length → Ev (fun k => spec_l11Keys.l0 k l n l (l.length : Int) (i : Int)) (allFrom (keyOk (wrap64 (n - 1)) l) m i) := by
    intro m
    induction m with
    | zero => exact fun i hi => Ev.step (fun k => spec_l11Keys.l0.eq_2 _ _ _ _ _ k) (Ev.neg (by omega) (Ev.now _))
    | succ m ih =>
      intro i hi
      refine Ev.step (fun k => spec_l11Keys.l0.eq_2 _ _ _ _ _ k) (Ev.pos (by omega) (Ev.pos (by omega) (Ev.pos (by omega) ?_)))
      simp only [in_spec, value_spec, Option.bind_some]
      rw [w_succ (by omega), allFrom, keyOk, and3]
      refine Ev.and (fun _ => Ev.and (fun _ => ?_))
      by_cases h0 : i = 0
      · subst h0
        exact Ev.neg (by omega) (Ev.cast (ih 1 (by omega)) (by simp))
      · rw [w_pred (by omega)]
        have h0' : (i == 0) = false := beq_eq_false_iff_ne.2 h0
        refine Ev.pos (by omega) (Ev.pos (by omega) (Ev.pos (by omega) ?_))
        rw [h0', Bool.false_or]
        exact Ev.ite (fun h => Ev.cast (Ev.now _) (by rw [decide_eq_false (by omega), Bool.false_and])) (fun h => Ev.cast (ih (i + 1) (by omega)) (by rw [decide_eq_true (by omega), Bool.true_and]))
  have hj : ∀ b, Ev (fun k => spec_l11Keys.j0 k l n b) (!b && allFrom (keyOk (wrap64 (n - 1)) l) l.length 0) := fun b =>
    Ev.step (fun k => spec_l11Keys.j0.eq_2 _ _ _ k) (Ev.andn (fun _ => key l.length 0 (by omega)))
  unfold spec_l11Keys.f keysOk
  refine Ev.ite (fun h => Ev.cast (hj _) ?_) (fun h => Ev.cast (hj _) ?_)
  · rw [decide_eq_false (show ¬ 1 ≤ l.length by omega)]; rfl
  · rw [decide_eq_true (show 1 ≤ l.length by omega), Bool.true_and]
    congr 1
    by_cases h2 : l.length ≤ 60
    · rw [decide_eq_true h2, decide_eq_false (by omega)]; rfl
    · rw [decide_eq_false h2, decide_eq_true (by omega)]; rfl
theorem keys_impl (n : Int) (l : List S162) (hl : l.length ≤ maxLen) : Ev (fun k => impl_areKeys.f k l n) (keysOk (wrap64 (n - 1)) l) := by
  rw [maxLen_eq] at hl
  unfold impl_areKeys.f keysOk
  generalize hL : (decide (1 ≤ l.length) && decide (l.length ≤ 60)) = L
  have sw : ∀ x y : Bool, (L && (x && y)) = (x && (L && y)) := fun x y => by rw [← Bool.and_assoc, Bool.and_comm L x, Bool.and_assoc]
  have key : ∀ m i : Nat, i + m = l.length → Ev (fun k => impl_areKeys.l0 k l n l (l.length : Int) (i : Int)) (L && allFrom (keyOk (wrap64 (n - 1)) l) m i) := by
    intro m
    induction m with
    | zero =>
      intro i hi
      refine Ev.step (fun k => impl_areKeys.l0.eq_2 _ _ _ _ _ k) (Ev.neg (by omega) (Ev.const_bind (in_impl _ _ _) (Ev.cast (Ev.now _) ?_)))
      rw [allFrom, Bool.and_true, ← hL]
      congr 1 <;> exact decide_eq_decide.2 (by omega)
    | succ m ih =>
      intro i hi
      refine Ev.step (fun k => impl_areKeys.l0.eq_2 _ _ _ _ _ k) (Ev.pos (by omega) (Ev.pos (by omega) (Ev.pos (by omega) ?_)))
      simp only [in_impl, value_impl, Option.bind_some]
      rw [w_succ (by omega), allFrom, keyOk, and3, sw, sw]
      refine Ev.and (fun _ => Ev.and (fun _ => ?_))
      by_cases h0 : i = 0
      · subst h0
        exact Ev.neg (by omega) (Ev.cast (ih 1 (by omega)) (by simp))
      · rw [w_pred (by omega)]
        have h0' : (i == 0) = false := beq_eq_false_iff_ne.2 h0
        refine Ev.pos (by omega) (Ev.pos (by omega) (Ev.pos (by omega) ?_))
        rw [h0', Bool.false_or, sw]
        exact Ev.ite (fun h => Ev.cast (Ev.now _) (by rw [decide_eq_false (by omega), Bool.false_and])) (fun h => Ev.cast (ih (i + 1) (by omega)) (by rw [decide_eq_true (by omega), Bool.true_and]))
  exact key l.length 0 (by omega)
theorem keys_yes {n : Int} {l : List S162} (h : keysOk n l = true) : (1 ≤ l.length ∧ l.length ≤ 60) ∧ ∀ i : Nat, i < l.length → (0 ≤ (rd_T162 l (i : Int)).f0 ∧ (rd_T162 l (i : Int)).f0 ≤ n) ∧ (-100000 ≤ (rd_T162 l (i : Int)).f1 ∧ (rd_T162 l (i : Int)).f1 ≤ 100000) ∧ (i = 0 ∨ (rd_T162 l ((i : Int) - 1)).f0 < (rd_T162 l (i : Int)).f0) := by
  unfold keysOk at h
  simp only [Bool.and_eq_true, decide_eq_true_eq] at h
  refine ⟨h.1, fun i hi => ?_⟩
  have := (allFrom_iff _ _ _).1 h.2 i (by omega) (by omega)
  simpa [keyOk, valueOk, Bool.and_eq_true, Bool.or_eq_true, decide_eq_true_eq, beq_iff_eq] using this
/-! a value between two keys -/
theorem down_eq {a b : Int} (hb : 0 < b) (ha : -4611686018427387904 ≤ a ∧ a ≤ 4611686018427387904) : spec_l1Down.f a b = some (a / b) ∧ impl_down.f a b = some (a / b) := by
  have hm0 : 0 ≤ a % b := Int.emod_nonneg _ (by omega)
  have hm1 : a % b < b := Int.emod_lt_of_pos _ hb
  have hd := Int.emod_add_mul_ediv a b
  have hq : -4611686018427387904 ≤ a / b ∧ a / b ≤ 4611686018427387904 := by
    constructor
    · rcases Int.lt_or_le (a / b) (-4611686018427387904) with h | h
      · have h1 : b * (a / b) ≤ b * (-4611686018427387905) := Int.mul_le_mul_of_nonneg_left (by omega) (by omega)
        omega
      · exact h
    · rcases Int.lt_or_le 4611686018427387904 (a / b) with h | h
      · have h1 : b * 4611686018427387905 ≤ b * (a / b) := Int.mul_le_mul_of_nonneg_left (by omega) (by omega)
        omega
      · exact h
  unfold spec_l1Down.f impl_down.f
  rw [if_neg (show ¬ b = 0 by omega), if_neg (show ¬ b = 0 by omega)]
  by_cases hz : 0 ≤ a ∨ b ∣ a
  · have ht : Int.tdiv a b = a / b := by rw [Int.tdiv_eq_ediv, if_pos hz, Int.add_zero]
    have hr : Int.tmod a b = a % b := by rw [Int.tmod_eq_emod, if_pos hz]; simp
    rw [ht, hr, w64 (n := a / b) (by omega) (by omega), if_neg (show ¬ a % b < 0 by omega)]
    refine ⟨?_, rfl⟩
    by_cases hmz : a % b = 0
    · rw [if_pos hmz]
    · rw [if_neg hmz]
      have ha0 : 0 ≤ a := by
        rcases hz with h | h
        · exact h
        · exact absurd (Int.emod_eq_zero_of_dvd h) hmz
      rw [decide_eq_false (show ¬ a < 0 by omega), decide_eq_false (show ¬ b < 0 by omega)]
      rfl
  · have ht : Int.tdiv a b = a / b + 1 := by rw [Int.tdiv_eq_ediv, if_neg hz, Int.sign_eq_one_of_pos hb]
    have hr : Int.tmod a b = a % b - b := by rw [Int.tmod_eq_emod, if_neg hz, Int.natAbs_of_nonneg (by omega)]
    have hmz : a % b ≠ 0 := fun h => hz (Or.inr (Int.dvd_of_emod_eq_zero h))
    have ha0 : a < 0 := by
      rcases Int.lt_or_le a 0 with h | h
      · exact h
      · exact absurd (Or.inl h) hz
    rw [ht, hr, if_neg (show ¬ a % b - b = 0 by omega), if_pos (show a % b - b < 0 by omega), decide_eq_true ha0, decide_eq_false (show ¬ b < 0 by omega), w64 (n := a / b + 1) (by omega) (by omega), w64 (n := a / b + 1 - 1) (by omega) (by omega)]
    simp
theorem mul_bound {x y X Y : Int} (hx : -X ≤ x ∧ x ≤ X) (hy : 0 ≤ y ∧ y ≤ Y) (hX : 0 ≤ X) : -(X * Y) ≤ x * y ∧ x * y ≤ X * Y := by
  have h1 : x * y ≤ X * y := Int.mul_le_mul_of_nonneg_right hx.2 hy.1
  have h2 : X * y ≤ X * Y := Int.mul_le_mul_of_nonneg_left hy.2 hX
  have h3 : -X * y ≤ x * y := Int.mul_le_mul_of_nonneg_right hx.1 hy.1
  have h4 : -X * y = -(X * y) := by rw [Int.neg_mul]
  omega
/-- Two keys and a frame between them. -/
def onKeys (f0 v0 f1 v1 f : Int) : Int := v0 + (v1 - v0) * (f - f0) / (f1 - f0)
theorem on_range {f0 v0 f1 v1 f : Int} (hf0 : 0 ≤ f0) (hf1 : f1 ≤ 1000000) (hv0 : -100000 ≤ v0 ∧ v0 ≤ 100000) (hv1 : -100000 ≤ v1 ∧ v1 ≤ 100000) (hlt : f0 < f1) (h0 : f0 ≤ f) (h1 : f ≤ f1) :
    (-200000000000 ≤ (v1 - v0) * (f - f0) ∧ (v1 - v0) * (f - f0) ≤ 200000000000) ∧ (-200000000000 ≤ (v1 - v0) * (f - f0) / (f1 - f0) ∧ (v1 - v0) * (f - f0) / (f1 - f0) ≤ 200000000000) := by
  have hb := mul_bound (x := v1 - v0) (y := f - f0) (X := 200000) (Y := 1000000) (by omega) (by omega) (by omega)
  generalize (v1 - v0) * (f - f0) = p at hb
  generalize hb' : f1 - f0 = b
  have hbp : 0 < b := by omega
  have hm0 : 0 ≤ p % b := Int.emod_nonneg _ (by omega)
  have hm1 : p % b < b := Int.emod_lt_of_pos _ hbp
  have hd := Int.emod_add_mul_ediv p b
  refine ⟨by omega, ?_, ?_⟩
  · rcases Int.lt_or_le (p / b) (-200000000000) with h | h
    · have h1 : b * (p / b) ≤ b * (-200000000001) := Int.mul_le_mul_of_nonneg_left (by omega) (by omega)
      omega
    · exact h
  · rcases Int.lt_or_le 200000000000 (p / b) with h | h
    · have h1 : b * 200000000001 ≤ b * (p / b) := Int.mul_le_mul_of_nonneg_left (by omega) (by omega)
      omega
    · exact h
theorem on_end {f0 v0 f1 v1 : Int} (h : f0 < f1) : onKeys f0 v0 f1 v1 f1 = v1 := by
  unfold onKeys
  rw [Int.mul_ediv_cancel _ (by omega)]
  omega
theorem wrap_range (n : Int) : -9223372036854775808 ≤ wrap64 n ∧ wrap64 n ≤ 9223372036854775807 := by unfold wrap64; omega
theorem abs_size (x : Int) (h : -9223372036854775808 ≤ x ∧ x ≤ 9223372036854775807) : spec_l1Abs.f x = some (mx x (wrap64 (-x))) ∧ impl_size.f x = some (mx x (wrap64 (-x))) := by
  refine ⟨?_, rfl⟩
  unfold spec_l1Abs.f mx
  by_cases h0 : x = -9223372036854775808
  · subst h0
    rw [if_pos (by omega)]
    unfold wrap64
    simp
  · rw [w64 (n := -x) (by omega) (by omega)]
    by_cases h1 : x < 0
    · rw [if_pos h1, if_pos (by omega)]
    · rw [if_neg h1]
      by_cases h2 : x < -x
      · omega
      · rw [if_neg h2]
theorem keyval_both (n : Int) (l : List S162) (f : Int) (hn : n ≤ 1000000) (hk : keysOk n l = true) : Both (fun _ => True) (fun k => spec_l11At.f k l f) (fun k => impl_valueAt.f k l f) := by
  obtain ⟨⟨hl1, hl2⟩, hall⟩ := keys_yes hk
  have tail : Both (fun _ => True) (fun _ : Nat => if 0 ≤ (wrap64 ((l.length : Int) - 1)) then (if (wrap64 ((l.length : Int) - 1)) < (l.length : Int) then (some ((rd_T162 l (wrap64 ((l.length : Int) - 1))).f1)) else (none)) else (none)) (fun _ : Nat => if 0 ≤ (wrap64 ((l.length : Int) - 1)) then (if (wrap64 ((l.length : Int) - 1)) < (l.length : Int) then (some ((rd_T162 l (wrap64 ((l.length : Int) - 1))).f1)) else (none)) else (none)) := by
    rw [w_pred (by omega)]
    exact Both.pos (by omega) (by omega) (Both.pos (by omega) (by omega) (Both.now _ trivial))
  have key : ∀ (m i : Nat), i + m = l.length → 1 ≤ i → (rd_T162 l ((i : Int) - 1)).f0 < f → Both (fun _ => True) (fun k => spec_l11At.l0 k l f (i : Int)) (fun k => impl_valueAt.l0 k l f l (l.length : Int) (i : Int)) := by
    intro m
    induction m with
    | zero => exact fun i hi _ _ => Both.step (fun k => spec_l11At.l0.eq_2 _ _ _ k) (fun k => impl_valueAt.l0.eq_2 _ _ _ _ _ k) (Both.neg (by omega) (by omega) tail)
    | succ m ih =>
      intro i hi h1 hf
      obtain ⟨p, rfl⟩ : ∃ p : Nat, i = p + 1 := ⟨i - 1, by omega⟩
      have e : ((p + 1 : Nat) : Int) - 1 = (p : Int) := by omega
      obtain ⟨f1, v1, lt⟩ := hall (p + 1) (by omega)
      obtain ⟨f0, v0, _⟩ := hall p (by omega)
      rw [e] at lt hf
      have lt' : (rd_T162 l (p : Int)).f0 < (rd_T162 l ((p + 1 : Nat) : Int)).f0 := by
        rcases lt with h | h
        · omega
        · exact h
      refine Both.step (fun k => spec_l11At.l0.eq_2 _ _ _ k) (fun k => impl_valueAt.l0.eq_2 _ _ _ _ _ k) (Both.pos (by omega) (by omega) ?_)
      rw [w_pred (by omega), e, w_succ (by omega)]
      refine Both.lpos (by omega) (Both.lpos (by omega) (Both.pos (by omega) (by omega) (Both.rpos (by omega) ?_)))
      refine Both.ite (fun hle => Both.rneg (by omega) ?_) (fun hgt => ih (p + 1 + 1) (by omega) (by omega) (by rw [show ((p + 1 + 1 : Nat) : Int) - 1 = ((p + 1 : Nat) : Int) by omega]; omega))
      generalize rd_T162 l (p : Int) = a at *
      generalize rd_T162 l ((p + 1 : Nat) : Int) = b at *
      obtain ⟨g1, g2⟩ := on_range f0.1 (f1 := b.f0) (by omega) v0 v1 lt' (Int.le_of_lt hf) hle
      obtain ⟨d1, d2⟩ := down_eq (a := (b.f1 - a.f1) * (f - a.f0)) (b := b.f0 - a.f0) (by omega) (by omega)
      have ew : wrap64 (wrap64 (b.f1 - a.f1) * wrap64 (f - a.f0)) = (b.f1 - a.f1) * (f - a.f0) := by
        rw [w64 (n := b.f1 - a.f1) (by omega) (by omega), w64 (n := f - a.f0) (by omega) (by omega), w64 (by omega) (by omega)]
      have eb : wrap64 (b.f0 - a.f0) = b.f0 - a.f0 := w64 (by omega) (by omega)
      have eo : wrap64 (a.f1 + (b.f1 - a.f1) * (f - a.f0) / (b.f0 - a.f0)) = onKeys a.f0 a.f1 b.f0 b.f1 f := by unfold onKeys; exact w64 (by omega) (by omega)
      rw [ew, eb]
      by_cases he : f = b.f0
      · refine ⟨b.f1, trivial, Ev.const_bind d1 (Ev.cast (Ev.now _) ?_), Ev.pos he (Ev.now _)⟩
        rw [eo, he, on_end lt']
      · refine ⟨onKeys a.f0 a.f1 b.f0 b.f1 f, trivial, Ev.const_bind d1 (Ev.cast (Ev.now _) eo), Ev.neg he (Ev.pos (by omega) (Ev.pos (by omega) (Ev.const_bind (a := onKeys a.f0 a.f1 b.f0 b.f1 f) ?_ (Ev.now _))))⟩
        unfold impl_on.f
        rw [ew, eb, d2, Option.bind_some, eo]
  obtain ⟨f1, v1, _⟩ := hall 0 (by omega)
  unfold spec_l11At.f impl_valueAt.f
  refine Both.lpos (by omega) ?_
  have i0 : ∀ r, Ev (fun k => if f ≤ (rd_T162 l 0).f0 then (some ((rd_T162 l 0).f1)) else impl_valueAt.l0 k l f l (l.length : Int) 1) r → Ev (fun k => impl_valueAt.l0 k l f l (l.length : Int) 0) r := fun r h => by
    refine Ev.step (fun k => impl_valueAt.l0.eq_2 _ _ _ _ _ k) (Ev.pos (by omega) (Ev.pos (by omega) (Ev.pos (by omega) ?_)))
    by_cases hc : f ≤ (rd_T162 l 0).f0
    · simp only [if_pos hc] at h ⊢
      exact h
    · simp only [if_neg hc] at h ⊢
      rw [show wrap64 (0 + 1) = 1 from w64 (by omega) (by omega)]
      exact h
  by_cases hc : f ≤ (rd_T162 l 0).f0
  · exact ⟨_, trivial, Ev.pos hc (Ev.now _), i0 _ (Ev.pos hc (Ev.now _))⟩
  · obtain ⟨r, _, r1, r2⟩ := key (l.length - 1) 1 (by omega) (by omega) (by
      have : (rd_T162 l 0).f0 < f := by omega
      exact this)
    exact ⟨r, trivial, Ev.neg hc r1, i0 _ (Ev.neg hc r2)⟩
def valuesOk (l : List Int) : Bool := (decide (1 ≤ l.length) && decide (l.length ≤ 60)) && l.all valueOk
theorem values_spec (l : List Int) (hl : l.length ≤ maxLen) : Ev (fun k => spec_l11Values.f k l) (valuesOk l) := by
  have h0 := all_ev (0 : Int) valueOk spec_l11Values.l0 (fun k x n i => by rw [spec_l11Values.l0]; simp only [value_spec, Option.bind_some]; rfl) l hl
  have hj : ∀ b, Ev (fun k => spec_l11Values.j0 k l b) (!b && l.all valueOk) := fun b => Ev.step (fun k => spec_l11Values.j0.eq_2 _ _ k) (Ev.andn (fun _ => h0))
  unfold spec_l11Values.f valuesOk
  refine Ev.ite (fun h => Ev.cast (hj _) ?_) (fun h => Ev.cast (hj _) ?_)
  · rw [decide_eq_false (show ¬ 1 ≤ l.length by omega)]; rfl
  · rw [decide_eq_true (show 1 ≤ l.length by omega), Bool.true_and]
    congr 1
    by_cases h2 : l.length ≤ 60
    · rw [decide_eq_true h2, decide_eq_false (by omega)]; rfl
    · rw [decide_eq_false h2, decide_eq_true (by omega)]; rfl
theorem values_impl (l : List Int) (hl : l.length ≤ maxLen) : Ev (fun k => impl_areKeyValues.f k l) (l.all valueOk) := by
  have h := contains_ev (0 : Int) (fun _ z => impl_areKeyValues_1.f z) (fun n => !valueOk n) slices_IndexFunc_int_int_at_impl_areKeyValues_1.l0 (fun k x n i => slices_IndexFunc_int_int_at_impl_areKeyValues_1.l0.eq_2 x n i k) l hl (fun z _ => Ev.mk (fun _ => by unfold impl_areKeyValues_1.f; rw [value_impl]; rfl))
  unfold impl_areKeyValues.f slices_ContainsFunc_int_int_at_impl_areKeyValues_1.f slices_IndexFunc_int_int_at_impl_areKeyValues_1.f
  exact Ev.bind h (Ev.cast (Ev.now _) (any_not _ l))
theorem worst_both (l : List Int) (ks : List S162) (hl : l.length ≤ maxLen) (hk : keysOk 59 ks = true) : Both (fun _ => True) (fun k => spec_WorstOf.l0 k ks 0 l (l.length : Int) 0) (fun k => impl_WorstOf.l0 k ks 0 l (l.length : Int) 0) := by
  rw [maxLen_eq] at hl
  have key : ∀ (m i : Nat) (w : Int), i + m = l.length → Both (fun _ => True) (fun k => spec_WorstOf.l0 k ks w l (l.length : Int) (i : Int)) (fun k => impl_WorstOf.l0 k ks w l (l.length : Int) (i : Int)) := by
    intro m
    induction m with
    | zero => exact fun i w hi => Both.step (fun k => spec_WorstOf.l0.eq_2 _ _ _ _ _ k) (fun k => impl_WorstOf.l0.eq_2 _ _ _ _ _ k) (Both.neg (by omega) (by omega) (Both.now _ trivial))
    | succ m ih =>
      intro i w hi
      refine Both.step (fun k => spec_WorstOf.l0.eq_2 _ _ _ _ _ k) (fun k => impl_WorstOf.l0.eq_2 _ _ _ _ _ k) (Both.pos (by omega) (by omega) (Both.pos (by omega) (by omega) (Both.pos (by omega) (by omega) ?_)))
      refine Both.bind (keyval_both 59 ks (i : Int) (by omega) hk) (fun t _ => ?_)
      obtain ⟨e1, e2⟩ := abs_size (wrap64 (t - rd l (i : Int))) (wrap_range _)
      refine Both.cbind e1 e2 ?_
      rw [w_succ (by omega)]
      generalize mx (wrap64 (t - rd l (i : Int))) (wrap64 (-wrap64 (t - rd l (i : Int)))) = s
      unfold mx
      by_cases h : s > w
      · rw [if_pos (show w < s from h)]
        exact Both.lpos h (ih (i + 1) s (by omega))
      · rw [if_neg (show ¬ w < s from h)]
        exact Both.lneg h (ih (i + 1) w (by omega))
  exact key l.length 0 0 (by omega)
theorem both (l : List Int) (ks : List S162) (hl : l.length ≤ maxLen) (hk : ks.length ≤ maxLen) : Both (fun _ => True) (fun k => spec_WorstOf.f k l ks) (fun k => impl_WorstOf.f k l ks) := by
  have sT : Ev (fun k => spec_WorstOf.j0 k l ks true) (0, false) := Ev.step (fun k => spec_WorstOf.j0.eq_2 _ _ _ k) (Ev.pos rfl (Ev.now _))
  have iT : Ev (fun k => impl_WorstOf.j0 k l ks true) (0, false) := Ev.step (fun k => impl_WorstOf.j0.eq_2 _ _ _ k) (Ev.pos rfl (Ev.now _))
  have v1 := values_spec l hl
  have v2 := values_impl l hl
  have k1 := keys_spec 60 ks hk
  have k2 := keys_impl 60 ks hk
  rw [show wrap64 (60 - 1) = 59 from w64 (by omega) (by omega)] at k1 k2
  have e : (decide (1 ≤ (l.length : Int)) && decide ((l.length : Int) ≤ 60)) = (decide (1 ≤ l.length) && decide (l.length ≤ 60)) := by congr 1 <;> exact decide_eq_decide.2 (by omega)
  unfold spec_WorstOf.f impl_WorstOf.f
  simp only [in_impl, Option.bind_some, e]
  unfold valuesOk at v1
  cases hL : (decide (1 ≤ l.length) && decide (l.length ≤ 60)) with
  | false =>
    rw [hL, Bool.false_and] at v1
    exact ⟨(0, false), trivial, Ev.bind v1 (Ev.neg (by decide) sT), Ev.neg (by decide) iT⟩
  | true =>
    rw [hL, Bool.true_and] at v1
    cases hv : l.all valueOk with
    | false =>
      rw [hv] at v1 v2
      exact ⟨(0, false), trivial, Ev.bind v1 (Ev.neg (by decide) sT), Ev.pos rfl (Ev.bind v2 (Ev.neg (by decide) iT))⟩
    | true =>
      rw [hv] at v1 v2
      cases hks : keysOk 59 ks with
      | false =>
        rw [hks] at k1 k2
        exact ⟨(0, false), trivial, Ev.bind v1 (Ev.pos rfl (Ev.bind k1 sT)), Ev.pos rfl (Ev.bind v2 (Ev.pos rfl (Ev.bind k2 iT)))⟩
      | true =>
        rw [hks] at k1 k2
        obtain ⟨r, _, r1, r2⟩ := worst_both l ks hl hks
        exact ⟨r, trivial, Ev.bind v1 (Ev.pos rfl (Ev.bind k1 (Ev.step (fun k => spec_WorstOf.j0.eq_2 _ _ _ k) (Ev.neg (by decide) r1)))), Ev.pos rfl (Ev.bind v2 (Ev.pos rfl (Ev.bind k2 (Ev.step (fun k => impl_WorstOf.j0.eq_2 _ _ _ k) (Ev.neg (by decide) r2)))))⟩
theorem to_keys (l : List S164) (hl : (l.length : Int) ≤ 1048576) : Ev (fun k => laws_toKeyS.f k l) (l.map fun b : S164 => (⟨b.f0, b.f1⟩ : S162)) := by
  have ht := toS_ev z162 (fun b : S164 => (⟨b.f0, b.f1⟩ : S162)) z164 laws_toKeyS.l0 (fun k x y i => laws_toKeyS.l0.eq_2 x y i k) l (by omega)
  unfold laws_toKeyS.f
  exact Ev.pos (by omega) (Ev.pos (by omega) ht)
theorem eq_keys (l : List S162) (hl : (l.length : Int) ≤ 1048576) : Ev (fun k => laws_eqKeyS.f k l l) true :=
  eqT_ev z162 (fun a b => laws_eqKey.f a.f0 a.f1 b.f0 b.f1) laws_eqKeyS.l0 (fun k x y i => laws_eqKeyS.l0.eq_2 x y i k) (fun a => by simp [laws_eqKey.f]) l (by rw [maxLen_eq]; omega)
theorem FnExactWorstOf : laws_FnExactWorstOf.Pure := by
  intro l ks ⟨hl, _⟩ ⟨hk, _⟩
  refine Ev.rounds (r := true) ?_
  unfold laws_FnExactWorstOf.f
  refine Ev.ite (fun _ => Ev.now _) (fun hln => Ev.const_bind (sz_left (by omega) (by omega) hk) (Ev.ite (fun _ => Ev.now _) (fun h => ?_)))
  have hn := (roomLeft_ok h).1
  have tl := to_ints l (by omega)
  have tk := to_keys ks hn
  generalize hxs : (ks.map fun b : S164 => (⟨b.f0, b.f1⟩ : S162)) = xs at tk
  have hxl : (xs.length : Int) ≤ 1048576 := by rw [← hxs, List.length_map]; omega
  obtain ⟨r, _, h1, h2⟩ := both l xs hl (by rw [maxLen_eq]; omega)
  exact Ev.bind tl (Ev.bind tk (Ev.bind h1 (Ev.bind tl (Ev.bind tk (Ev.bind h2 (Ev.pos rfl (Ev.step (fun k => laws_FnExactWorstOf.j0.eq_2 _ _ _ _ _ k) (Ev.neg (by simp) (Ev.bind tl (Ev.bind (eq_ints l (by omega)) (Ev.pos rfl (Ev.bind tk (Ev.bind (eq_keys xs hxl) (Ev.pos rfl (Ev.now _)))))))))))))))

end Go.Proofs.Ytjckjmhlodjmgaa.Pure
