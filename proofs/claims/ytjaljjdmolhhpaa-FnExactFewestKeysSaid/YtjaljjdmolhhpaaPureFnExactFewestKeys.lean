/- FewestKeys: the pure statement of the law: the program's keys are the reference's, for all values and bounds. -/
import Derived.Test.YtjaljjdmolhhpaaXFnExactFewestKeysx8
import Derived.Test.YtjaljjdmolhhpaaXLibFewestKeys
namespace Go.Proofs.Ytjaljjdmolhhpaa.Pure
open Go.RowKit Go.Proofs.Ytjaljjdmolhhpaa.XFnExactFewestKeys Go.Proofs.YtjaljjdmolhhpaaW.PrintWords Go.Proofs.YtjaljjdmolhhpaaW.PrintLast Go.Proofs.YtjaljjdmolhhpaaW.PrintMore Go.Proofs.Ytjaljjdmolhhpaa.X
set_option linter.unusedVariables false
set_option linter.unusedSimpArgs false

theorem in_spec (a b c : Int) : spec_l1In.f a b c = some (decide (b ≤ a) && decide (a ≤ c)) := by
  unfold spec_l1In.f
  by_cases h : b ≤ a <;> simp [h]
theorem in_impl (a b c : Int) : impl_inRange.f a b c = some (decide (b ≤ a) && decide (a ≤ c)) := by
  unfold impl_inRange.f
  by_cases h : b ≤ a <;> simp [h]
theorem to_ints (l : List Int) (hl : (l.length : Int) ≤ 1048576) : Ev (fun k => laws_toIntS.f k l) l := by
  have h := toS_ev (0 : Int) (id : Int → Int) 0 laws_toIntS.l0 (fun k x y i => laws_toIntS.l0.eq_2 x y i k) l (by omega)
  rw [List.map_id] at h
  exact Ev.pos (by omega) (Ev.pos (by omega) h)
theorem eq_ints (l : List Int) (hl : (l.length : Int) ≤ 1048576) : Ev (fun k => laws_eqIntS.f k l l) true :=
  eqInt_ev laws_eqIntS.l0 (fun k x y i => laws_eqIntS.l0.eq_2 x y i k) l (by rw [maxLen_eq]; omega)
/-! keys of a track -/
def valueOk (a : Int) : Bool := decide (-100000 ≤ a) && decide (a ≤ 100000)
theorem value_spec (a : Int) : spec_l11Value.f a = some (valueOk a) := by unfold spec_l11Value.f; rw [in_spec]; rfl
theorem value_impl (a : Int) : impl_isKeyValue.f a = some (valueOk a) := by unfold impl_isKeyValue.f; rw [in_impl]; rfl
/-! a value between two keys -/
theorem down_eq {a b : Int} (hb : 0 < b) (ha : -4611686018427387904 ≤ a ∧ a ≤ 4611686018427387904) : spec_l1Down.f a b = some (a / b) ∧ impl_down.f a b = some (a / b) := by
  have hm0 : 0 ≤ a % b := Int.emod_nonneg _ (by omega)
  have hm1 : a % b < b := Int.emod_lt_of_pos _ hb
  have hd := Int.emod_add_mul_ediv a b
  have hq : -4611686018427387904 ≤ a / b ∧ a / b ≤ 4611686018427387904 := by
    constructor
    · rcases Int.lt_or_le (a / b) (-4611686018427387904) with h | h
      · have h1 : b * (a / b) ≤ b * (-4611686018427387905) := Int.mul_le_mul_of_nonneg_left (by omega) (by omega)
        omega
      · exact h
    · rcases Int.lt_or_le 4611686018427387904 (a / b) with h | h
      · have h1 : b * 4611686018427387905 ≤ b * (a / b) := Int.mul_le_mul_of_nonneg_left (by omega) (by omega)
        omega
      · exact h
  unfold spec_l1Down.f impl_down.f
  rw [if_neg (show ¬ b = 0 by omega), if_neg (show ¬ b = 0 by omega)]
  by_cases hz : 0 ≤ a ∨ b ∣ a
  · have ht : Int.tdiv a b = a / b := by rw [Int.tdiv_eq_ediv, if_pos hz, Int.add_zero]
    have hr : Int.tmod a b = a % b := by rw [Int.tmod_eq_emod, if_pos hz]; simp
    rw [ht, hr, w64 (n := a / b) (by omega) (by omega), if_neg (show ¬ a % b < 0 by omega)]
    refine ⟨?_, rfl⟩
    by_cases hmz : a % b = 0
    · rw [if_pos hmz]
    · rw [if_neg hmz]
      have ha0 : 0 ≤ a := by
        rcases hz with h | h
        · exact h
        · exact absurd (Int.emod_eq_zero_of_dvd h) hmz
      rw [decide_eq_false (show ¬ a < 0 by omega), decide_eq_false (show ¬ b < 0 by omega)]
      rfl
  · have ht : Int.tdiv a b = a / b + 1 := by rw [Int.tdiv_eq_ediv, if_neg hz, Int.sign_eq_one_of_pos hb]
    have hr : Int.tmod a b = a % b - b := by rw [Int.tmod_eq_emod, if_neg hz, Int.natAbs_of_nonneg (by omega)]
    have hmz : a % b ≠ 0 := fun h => hz (Or.inr (Int.dvd_of_emod_eq_zero h))
    have ha0 : a < 0 := by
      rcases Int.lt_or_le a 0 with h | h
      · exact h
      · exact absurd (Or.inl h) hz
    rw [ht, hr, if_neg (show ¬ a % b - b = 0 by omega), if_pos (show a % b - b < 0 by omega), decide_eq_true ha0, decide_eq_false (show ¬ b < 0 by omega), w64 (n := a / b + 1) (by omega) (by omega), w64 (n := a / b + 1 - 1) (by omega) (by omega)]
    simp
theorem mul_bound {x y X Y : Int} (hx : -X ≤ x ∧ x ≤ X) (hy : 0 ≤ y ∧ y ≤ Y) (hX : 0 ≤ X) : -(X * Y) ≤ x * y ∧ x * y ≤ X * Y := by
  have h1 : x * y ≤ X * y := Int.mul_le_mul_of_nonneg_right hx.2 hy.1
  have h2 : X * y ≤ X * Y := Int.mul_le_mul_of_nonneg_left hy.2 hX
  have h3 : -X * y ≤ x * y := Int.mul_le_mul_of_nonneg_right hx.1 hy.1
  have h4 : -X * y = -(X * y) := by rw [Int.neg_mul]
  omega
/-- Two keys and a frame between them. -/
def onKeys (f0 v0 f1 v1 f : Int) : Int := v0 + (v1 - v0) * (f - f0) / (f1 - f0)
theorem on_range {f0 v0 f1 v1 f : Int} (hf0 : 0 ≤ f0) (hf1 : f1 ≤ 1000000) (hv0 : -100000 ≤ v0 ∧ v0 ≤ 100000) (hv1 : -100000 ≤ v1 ∧ v1 ≤ 100000) (hlt : f0 < f1) (h0 : f0 ≤ f) (h1 : f ≤ f1) :
    (-200000000000 ≤ (v1 - v0) * (f - f0) ∧ (v1 - v0) * (f - f0) ≤ 200000000000) ∧ (-200000000000 ≤ (v1 - v0) * (f - f0) / (f1 - f0) ∧ (v1 - v0) * (f - f0) / (f1 - f0) ≤ 200000000000) := by
  have hb := mul_bound (x := v1 - v0) (y := f - f0) (X := 200000) (Y := 1000000) (by omega) (by omega) (by omega)
  generalize (v1 - v0) * (f - f0) = p at hb
  generalize hb' : f1 - f0 = b
  have hbp : 0 < b := by omega
  have hm0 : 0 ≤ p % b := Int.emod_nonneg _ (by omega)
  have hm1 : p % b < b := Int.emod_lt_of_pos _ hbp
  have hd := Int.emod_add_mul_ediv p b
  refine ⟨by omega, ?_, ?_⟩
  · rcases Int.lt_or_le (p / b) (-200000000000) with h | h
    · have h1 : b * (p / b) ≤ b * (-200000000001) := Int.mul_le_mul_of_nonneg_left (by omega) (by omega)
      omega
    · exact h
  · rcases Int.lt_or_le 200000000000 (p / b) with h | h
    · have h1 : b * 200000000001 ≤ b * (p / b) := Int.mul_le_mul_of_nonneg_left (by omega) (by omega)
      omega
    · exact h
theorem on_end {f0 v0 f1 v1 : Int} (h : f0 < f1) : onKeys f0 v0 f1 v1 f1 = v1 := by
  unfold onKeys
  rw [Int.mul_ediv_cancel _ (by omega)]
  omega
theorem wrap_range (n : Int) : -9223372036854775808 ≤ wrap64 n ∧ wrap64 n ≤ 9223372036854775807 := by unfold wrap64; omega
theorem abs_size (x : Int) (h : -9223372036854775808 ≤ x ∧ x ≤ 9223372036854775807) : spec_l1Abs.f x = some (mx x (wrap64 (-x))) ∧ impl_size.f x = some (mx x (wrap64 (-x))) := by
  refine ⟨?_, rfl⟩
  unfold spec_l1Abs.f mx
  by_cases h0 : x = -9223372036854775808
  · subst h0
    rw [if_pos (by omega)]
    unfold wrap64
    simp
  · rw [w64 (n := -x) (by omega) (by omega)]
    by_cases h1 : x < 0
    · rw [if_pos h1, if_pos (by omega)]
    · rw [if_neg h1]
      by_cases h2 : x < -x
      · omega
      · rw [if_neg h2]
def valuesOk (l : List Int) : Bool := (decide (1 ≤ l.length) && decide (l.length ≤ 60)) && l.all valueOk
theorem values_spec (l : List Int) (hl : l.length ≤ maxLen) : Ev (fun k => spec_l11Values.f k l) (valuesOk l) := by
  have h0 := all_ev (0 : Int) valueOk spec_l11Values.l0 (fun k x n i => by rw [spec_l11Values.l0]; simp only [value_spec, Option.bind_some]; rfl) l hl
  have hj : ∀ b, Ev (fun k => spec_l11Values.j0 k l b) (!b && l.all valueOk) := fun b => Ev.step (fun k => spec_l11Values.j0.eq_2 _ _ k) (Ev.andn (fun _ => h0))
  unfold spec_l11Values.f valuesOk
  refine Ev.ite (fun h => Ev.cast (hj _) ?_) (fun h => Ev.cast (hj _) ?_)
  · rw [decide_eq_false (show ¬ 1 ≤ l.length by omega)]; rfl
  · rw [decide_eq_true (show 1 ≤ l.length by omega), Bool.true_and]
    congr 1
    by_cases h2 : l.length ≤ 60
    · rw [decide_eq_true h2, decide_eq_false (by omega)]; rfl
    · rw [decide_eq_false h2, decide_eq_true (by omega)]; rfl
theorem values_impl (l : List Int) (hl : l.length ≤ maxLen) : Ev (fun k => impl_areKeyValues.f k l) (l.all valueOk) := by
  have h := contains_ev (0 : Int) (fun _ z => impl_areKeyValues_1.f z) (fun n => !valueOk n) slices_IndexFunc_int_int_at_impl_areKeyValues_1.l0 (fun k x n i => slices_IndexFunc_int_int_at_impl_areKeyValues_1.l0.eq_2 x n i k) l hl (fun z _ => Ev.mk (fun _ => by unfold impl_areKeyValues_1.f; rw [value_impl]; rfl))
  unfold impl_areKeyValues.f slices_ContainsFunc_int_int_at_impl_areKeyValues_1.f slices_IndexFunc_int_int_at_impl_areKeyValues_1.f
  exact Ev.bind h (Ev.cast (Ev.now _) (any_not _ l))
theorem mark_ints (l : List Int) (hl : (l.length : Int) ≤ 4611686018427387000) : Ev (fun k => laws_markIntS.f k l 1) (1 + (l.length : Int), marks l.length 1) :=
  markInt_ev laws_markIntS.l0 (fun k x c i => laws_markIntS.l0.eq_2 x c i k) 1 (by omega) l (by omega)
abbrev Ky := S164
theorem allFrom_snoc (p : Nat → Bool) : ∀ m i, allFrom p (m + 1) i = (allFrom p m i && p (i + m))
  | 0, i => by simp [allFrom]
  | m + 1, i => by
    rw [allFrom, allFrom_snoc p m (i + 1), allFrom, Bool.and_assoc, show i + 1 + m = i + (m + 1) by omega]
/-- Between two frames: is a value near enough at a frame? -/
def fitV (V : List Int) (a b : Nat) (most : Int) (f : Nat) : Bool :=
  !decide (mx (wrap64 (onKeys a (rd V (a : Int)) b (rd V (b : Int)) f - rd V (f : Int))) (wrap64 (-wrap64 (onKeys a (rd V (a : Int)) b (rd V (b : Int)) f - rd V (f : Int)))) > most)
def fitB (V : List Int) (a b : Nat) (most : Int) : Bool := allFrom (fitV V a b most) (b - (a + 1)) (a + 1)
def VOk (V : List Int) : Prop := V.length ≤ 60 ∧ ∀ i : Nat, i < V.length → -100000 ≤ rd V (i : Int) ∧ rd V (i : Int) ≤ 100000
theorem on_ok (V : List Int) (hV : VOk V) (a : Nat) (b : Nat) (hab : a < b) (hb : b < V.length) (f : Nat) (h0 : a < f) (h1 : f ≤ b) : spec_l1Down.f (wrap64 (wrap64 (rd V (b : Int) - rd V (a : Int)) * wrap64 ((f : Int) - (a : Int)))) (wrap64 ((b : Int) - (a : Int))) = some ((rd V (b : Int) - rd V (a : Int)) * ((f : Int) - a) / ((b : Int) - a))
    ∧ impl_on.f (a : Int) (rd V (a : Int)) (b : Int) (rd V (b : Int)) (f : Int) = some (onKeys a (rd V (a : Int)) b (rd V (b : Int)) f)
    ∧ wrap64 (rd V (a : Int) + (rd V (b : Int) - rd V (a : Int)) * ((f : Int) - a) / ((b : Int) - a)) = onKeys a (rd V (a : Int)) b (rd V (b : Int)) f := by
  have v0 := hV.2 a (by omega)
  have v1 := hV.2 b hb
  have hl := hV.1
  obtain ⟨g1, g2⟩ := on_range (f0 := (a : Int)) (f1 := (b : Int)) (f := (f : Int)) (by omega) (by omega) v0 v1 (by omega) (by omega) (by omega)
  obtain ⟨d1, d2⟩ := down_eq (a := (rd V (b : Int) - rd V (a : Int)) * ((f : Int) - a)) (b := (b : Int) - a) (by omega) (by omega)
  have ew : wrap64 (wrap64 (rd V (b : Int) - rd V (a : Int)) * wrap64 ((f : Int) - (a : Int))) = (rd V (b : Int) - rd V (a : Int)) * ((f : Int) - a) := by
    rw [w64 (n := rd V (b : Int) - rd V (a : Int)) (by omega) (by omega), w64 (n := (f : Int) - (a : Int)) (by omega) (by omega), w64 (by omega) (by omega)]
  have eb : wrap64 ((b : Int) - (a : Int)) = (b : Int) - a := w64 (by omega) (by omega)
  have eo : wrap64 (rd V (a : Int) + (rd V (b : Int) - rd V (a : Int)) * ((f : Int) - a) / ((b : Int) - a)) = onKeys a (rd V (a : Int)) b (rd V (b : Int)) f := by unfold onKeys; exact w64 (by omega) (by omega)
  refine ⟨by rw [ew, eb]; exact d1, ?_, eo⟩
  unfold impl_on.f
  rw [ew, eb, d2, Option.bind_some, eo]
theorem fits_impl (V : List Int) (hV : VOk V) (a : Nat) (b : Nat) (most : Int) (hab : a < b) (hb : b < V.length) : Ev (fun k => impl_fits.f k V (a : Int) (b : Int) most) (fitB V a b most) := by
  have hl := hV.1
  have key : ∀ m i : Nat, i + m = b → a < i → Ev (fun k => impl_fits.l0 k V (b : Int) most (i : Int) (a : Int) (rd V (a : Int)) (b : Int) (rd V (b : Int))) (allFrom (fitV V a b most) m i) := by
    intro m
    induction m with
    | zero => exact fun i hi _ => Ev.step (fun k => impl_fits.l0.eq_2 _ _ _ _ _ _ _ _ k) (Ev.neg (by omega) (Ev.now _))
    | succ m ih =>
      intro i hi hai
      refine Ev.step (fun k => impl_fits.l0.eq_2 _ _ _ _ _ _ _ _ k) (Ev.pos (by omega) (Ev.const_bind (on_ok V hV a b hab hb i hai (by omega)).2.1 (Ev.pos (by omega) (Ev.pos (by omega) (Ev.const_bind (abs_size _ (wrap_range _)).2 ?_)))))
      rw [allFrom, fitV, w_succ (by omega)]
      generalize mx _ _ = s
      by_cases h : s > most
      · rw [decide_eq_true h]; exact Ev.pos h (Ev.now _)
      · rw [decide_eq_false h]; exact Ev.neg h (ih (i + 1) (by omega) (by omega))
  unfold impl_fits.f fitB
  refine Ev.pos (by omega) (Ev.pos (by omega) (Ev.pos (by omega) (Ev.pos (by omega) ?_)))
  rw [w_succ (by omega)]
  exact key (b - (a + 1)) (a + 1) (by omega) (by omega)
theorem fit_end (V : List Int) (hV : VOk V) (a : Nat) (b : Nat) (most : Int) (hm : 0 ≤ most) (hab : a < b) (hb : b < V.length) : fitV V a b most b = true := by
  have _ := hV
  have _ := hb
  unfold fitV
  rw [on_end (by omega), Int.sub_self]
  have e : mx (wrap64 0) (wrap64 (-wrap64 0)) = 0 := by rw [w64 (n := 0) (by omega) (by omega), w64 (n := -0) (by omega) (by omega)]; rfl
  rw [e, decide_eq_false (by omega)]
  rfl
theorem spans_spec (V : List Int) (hV : VOk V) (a : Nat) (b : Nat) (most : Int) (hm : 0 ≤ most) (hab : a < b) (hb : b < V.length) : Ev (fun k => spec_l11Spans.f k V (a : Int) (b : Int) most) (fitB V a b most) := by
  have hl := hV.1
  generalize hK : ([(⟨(a : Int), rd V (a : Int)⟩ : Ky), (⟨(b : Int), rd V (b : Int)⟩ : Ky)] : List Ky) = K
  have k0 : rd_T164 K 0 = ⟨(a : Int), rd V (a : Int)⟩ := by rw [← hK]; rfl
  have k1 : rd_T164 K 1 = ⟨(b : Int), rd V (b : Int)⟩ := by rw [← hK]; rfl
  have kl : (K.length : Int) = 2 := by rw [← hK]; rfl
  have w0 : wrap64 (1 - 1) = 0 := w64 (by omega) (by omega)
  have at0 : Ev (fun k => spec_l11At.f k K (a : Int)) (rd V (a : Int)) := by
    unfold spec_l11At.f
    rw [k0]
    exact Ev.pos (by omega) (Ev.pos (Int.le_refl _) (Ev.now _))
  have at1 : ∀ f : Nat, a < f → f ≤ b → Ev (fun k => spec_l11At.f k K (f : Int)) (onKeys a (rd V (a : Int)) b (rd V (b : Int)) f) := by
    intro f h0 h1
    obtain ⟨d1, _, eo⟩ := on_ok V hV a b hab hb f h0 h1
    unfold spec_l11At.f
    rw [k0]
    refine Ev.pos (by omega) (Ev.neg (by show ¬ (f : Int) ≤ (a : Int); omega) (Ev.step (fun k => spec_l11At.l0.eq_2 _ _ _ k) (Ev.pos (by omega) ?_)))
    rw [w0, k0, k1]
    exact Ev.pos (by omega) (Ev.pos (by omega) (Ev.pos (by omega) (Ev.pos (by show (f : Int) ≤ (b : Int); omega) (Ev.const_bind d1 (Ev.cast (Ev.now _) eo)))))
  have key : ∀ m i : Nat, i + m = b + 1 → a < i → Ev (fun k => spec_l11Spans.l0 k V (b : Int) most K (i : Int)) (allFrom (fitV V a b most) m i) := by
    intro m
    induction m with
    | zero => exact fun i hi _ => Ev.step (fun k => spec_l11Spans.l0.eq_2 _ _ _ _ _ k) (Ev.neg (by omega) (Ev.now _))
    | succ m ih =>
      intro i hi hai
      refine Ev.step (fun k => spec_l11Spans.l0.eq_2 _ _ _ _ _ k) (Ev.pos (by omega) (Ev.bind (at1 i hai (by omega)) (Ev.pos (by omega) (Ev.pos (by omega) (Ev.const_bind (abs_size _ (wrap_range _)).1 ?_)))))
      rw [allFrom, fitV, w_succ (by omega)]
      generalize mx _ _ = s
      by_cases h : s > most
      · rw [decide_eq_true h]; exact Ev.pos h (Ev.now _)
      · rw [decide_eq_false h]; exact Ev.neg h (ih (i + 1) (by omega) (by omega))
  have hk := key (b - a) (a + 1) (by omega) (by omega)
  obtain ⟨m, hmm⟩ : ∃ m, b - a = m + 1 := ⟨b - a - 1, by omega⟩
  rw [hmm, allFrom_snoc, show a + 1 + m = b by omega, fit_end V hV a b most hm hab hb, Bool.and_true] at hk
  unfold spec_l11Spans.f fitB
  rw [hK]
  refine Ev.pos (by omega) (Ev.pos (by omega) (Ev.pos (by omega) (Ev.pos (by omega) (Ev.step (fun k => spec_l11Spans.l0.eq_2 _ _ _ _ _ k) (Ev.pos (by omega) (Ev.bind at0 (Ev.pos (by omega) (Ev.pos (by omega) (Ev.const_bind (abs_size _ (wrap_range _)).1 ?_)))))))))
  rw [Int.sub_self, w_succ (by omega), show b - (a + 1) = m by omega]
  have e : mx (wrap64 0) (wrap64 (-wrap64 0)) = 0 := by rw [w64 (n := 0) (by omega) (by omega), w64 (n := -0) (by omega) (by omega)]; rfl
  rw [e]
  exact Ev.neg (by omega) hk
theorem fit_next (V : List Int) (a : Nat) (most : Int) : fitB V a (a + 1) most = true := by
  unfold fitB
  rw [show a + 1 - (a + 1) = 0 by omega]
  rfl
theorem rd_set {L : List Int} {i : Nat} (v : Int) (j : Nat) (hi : i < L.length) (hj : j < L.length) : rd (L.set i v) (j : Int) = if i = j then v else rd L (j : Int) := by
  rw [rd_get (by rw [List.length_set]; exact hj), List.getElem_set, rd_get hj]
abbrev RK := List Ky × Bool
/-- The keys' own loops. -/
theorem out_both (V N : List Int) (hV : V.length ≤ 60) (h1 : 1 ≤ V.length) (hN : N.length = V.length) (hnx : ∀ j : Nat, j + 1 < V.length → (j : Int) < rd N (j : Int) ∧ rd N (j : Int) < (V.length : Int)) :
    ∀ (d at_ : Nat) (o : List Ky), at_ + d + 1 = V.length → o.length ≤ at_ → Both (fun r : RK => r.1.length ≤ 60) (fun k => spec_FewestKeys.l2 k V (V.length : Int) N o (at_ : Int)) (fun k => impl_FewestKeys.l2 k V (V.length : Int) N (o ++ [(⟨(at_ : Int), rd V (at_ : Int)⟩ : Ky)]) (at_ : Int)) := by
  intro d
  induction d using Nat.strongRecOn with
  | _ d ih =>
    intro at_ o hd ho
    refine Both.step (fun k => spec_FewestKeys.l2.eq_2 _ _ _ _ _ k) (fun k => impl_FewestKeys.l2.eq_2 _ _ _ _ _ k) ?_
    rw [w_pred (by omega)]
    refine Both.lpos (by omega) (Both.lpos (by omega) (Both.lpos (by omega) ?_))
    by_cases he : (at_ : Int) = (V.length : Int) - 1
    · exact ⟨(o ++ [(⟨(at_ : Int), rd V (at_ : Int)⟩ : Ky)], true), by show (o ++ _).length ≤ 60; simp; omega, Ev.some_bind (Ev.pos he (Ev.now _)), Ev.neg (by omega) (Ev.now _)⟩
    · obtain ⟨g1, g2⟩ := hnx at_ (by omega)
      obtain ⟨p, hp⟩ := Int.eq_ofNat_of_zero_le (show 0 ≤ rd N (at_ : Int) by omega)
      have hlen : (o ++ [(⟨(at_ : Int), rd V (at_ : Int)⟩ : Ky)]).length ≤ at_ + 1 := by simp; omega
      generalize hO : o ++ [(⟨(at_ : Int), rd V (at_ : Int)⟩ : Ky)] = O at hlen
      obtain ⟨r, hr, s, t⟩ := ih (V.length - 1 - p) (by omega) p O (by omega) (by omega)
      refine ⟨r, hr, Ev.some_bind (Ev.neg he (Ev.pos (by omega) ?_)), Ev.pos (by omega) (Ev.pos (by omega) (Ev.pos (by omega) (Ev.pos (by omega) (Ev.pos (by omega) (Ev.pos (by omega) ?_)))))⟩
      · rw [hp]; exact s
      · rw [hp]; exact t
/-- What holds where row a is under way: the program's counts are the reference's plus one. -/
structure Row (n : Nat) (a : Nat) (E M N : List Int) : Prop where
  le : E.length = n
  lm : M.length = n
  ln : N.length = n
  eq : ∀ j : Nat, a ≤ j → j < n → rd M (j : Int) = rd E (j : Int) + 1
  lo : ∀ j : Nat, a < j → j < n → 0 ≤ rd E (j : Int)
  hi : ∀ j : Nat, a ≤ j → j < n → rd E (j : Int) ≤ (n : Int) - 1 - j
  now : a < n → -1 ≤ rd E (a : Int)
  old : ∀ j : Nat, j < a → rd M (j : Int) = 0
  nx : ∀ j : Nat, a < j → j + 1 < n → (j : Int) < rd N (j : Int) ∧ rd N (j : Int) < (n : Int)
  nxa : a + 1 < n → 0 ≤ rd E (a : Int) → (a : Int) < rd N (a : Int) ∧ rd N (a : Int) < (n : Int)
theorem row_both (V : List Int) (most : Int) (hV : VOk V) (hm : 0 ≤ most) (a : Nat) (ha : a + 1 < V.length) (K : ∀ E M N, Row V.length a E M N → 0 ≤ rd E (a : Int) → Both (fun r : RK => r.1.length ≤ 60) (fun k => spec_FewestKeys.l0 k V most (V.length : Int) E N (wrap64 ((a : Int) - 1))) (fun k => impl_FewestKeys.l0 k V most (V.length : Int) M N (wrap64 ((a : Int) - 1)))) :
    ∀ (m b : Nat) (E M N : List Int), b + m = V.length → a < b → Row V.length a E M N → (a + 1 < b → 0 ≤ rd E (a : Int)) →
      Both (fun r : RK => r.1.length ≤ 60) (fun k => spec_FewestKeys.l1 k V most (V.length : Int) E N (a : Int) (b : Int)) (fun k => impl_FewestKeys.l1 k V most (V.length : Int) M N (a : Int) (b : Int)) := by
  have hl := hV.1
  intro m
  induction m with
  | zero => exact fun b E M N hb hab R hE => Both.step (fun k => spec_FewestKeys.l1.eq_2 _ _ _ _ _ _ _ k) (fun k => impl_FewestKeys.l1.eq_2 _ _ _ _ _ _ _ k) (Both.neg (by omega) (by omega) (K E M N R (hE (by omega))))
  | succ m ih =>
    intro b E M N hb hab R hE
    have hle := R.le
    have hlm := R.lm
    have hln := R.ln
    have ea := R.eq a (Nat.le_refl _) (by omega)
    have eb := R.eq b (by omega) (by omega)
    have lb := R.lo b hab (by omega)
    have hib := R.hi b (by omega) (by omega)
    have hia := R.hi a (Nat.le_refl _) (by omega)
    have na := R.now (by omega)
    have s := spans_spec V hV a b most hm hab (by omega)
    have t := fits_impl V hV a b most hab (by omega)
    refine Both.step (fun k => spec_FewestKeys.l1.eq_2 _ _ _ _ _ _ _ k) (fun k => impl_FewestKeys.l1.eq_2 _ _ _ _ _ _ _ k) (Both.pos (by omega) (by omega) (Both.pos (by omega) (by omega) (Both.pos (by omega) (by omega) ?_)))
    rw [w_succ (by omega), w64 (n := rd E (b : Int) + 1) (by omega) (by omega), w64 (n := rd M (b : Int) + 1) (by omega) (by omega), eb]
    -- the row with a new way
    have R2 : rd E (b : Int) + 1 ≤ (V.length : Int) - 1 - a → Row V.length a (E.set a (rd E (b : Int) + 1)) (M.set a (rd E (b : Int) + 1 + 1)) (N.set a (b : Int)) := fun hnew => by
      refine ⟨by rw [List.length_set]; exact hle, by rw [List.length_set]; exact hlm, by rw [List.length_set]; exact hln, fun j h1 h2 => ?_, fun j h1 h2 => ?_, fun j h1 h2 => ?_, fun h => ?_, fun j h => ?_, fun j h1 h2 => ?_, fun h1 h2 => ?_⟩
      · rw [rd_set _ j (by omega) (by omega), rd_set _ j (by omega) (by omega)]
        by_cases h : a = j
        · rw [if_pos h, if_pos h]
        · rw [if_neg h, if_neg h]; exact R.eq j h1 h2
      · rw [rd_set _ j (by omega) (by omega), if_neg (by omega)]; exact R.lo j h1 h2
      · rw [rd_set _ j (by omega) (by omega)]
        by_cases h : a = j
        · subst h; rw [if_pos rfl]; exact hnew
        · rw [if_neg h]; exact R.hi j h1 h2
      · rw [rd_set _ a (by omega) (by omega), if_pos rfl]; omega
      · rw [rd_set _ j (by omega) (by omega), if_neg (by omega)]; exact R.old j h
      · rw [rd_set _ j (by omega) (by omega), if_neg (by omega)]; exact R.nx j h1 h2
      · rw [rd_set _ a (by omega) (by omega), if_pos rfl]; omega
    have R2a : 0 ≤ rd (E.set a (rd E (b : Int) + 1)) (a : Int) := by rw [rd_set _ a (by omega) (by omega), if_pos rfl]; omega
    have go : rd E (b : Int) + 1 ≤ (V.length : Int) - 1 - a → Both (fun r : RK => r.1.length ≤ 60) (fun k => spec_FewestKeys.l1 k V most (V.length : Int) (E.set (a : Int).toNat (rd E (b : Int) + 1)) (N.set (a : Int).toNat (b : Int)) (a : Int) ((b + 1 : Nat) : Int)) (fun k => impl_FewestKeys.l1 k V most (V.length : Int) (M.set (a : Int).toNat (rd E (b : Int) + 1 + 1)) (N.set (a : Int).toNat (b : Int)) (a : Int) ((b + 1 : Nat) : Int)) := fun hnew => by
      rw [Int.toNat_natCast]
      exact ih (b + 1) _ _ _ (by omega) (by omega) (R2 hnew) (fun _ => R2a)
    by_cases hn : rd E (a : Int) < 0
    · have hba : b = a + 1 := by
        by_cases h : a + 1 < b
        · have := hE h; omega
        · omega
      have hf : fitB V a b most = true := by rw [hba]; exact fit_next V a most
      rw [hf] at s t
      obtain ⟨r, hr, g1, g2⟩ := go (by omega)
      refine ⟨r, hr, Ev.pos hn (Ev.bind s (Ev.pos rfl (Ev.pos (by omega) (Ev.pos (by omega) (Ev.pos (by omega) g1))))), Ev.pos (by omega) (Ev.bind t (Ev.pos rfl (Ev.pos (by omega) (Ev.pos (by omega) (Ev.pos (by omega) g2)))))⟩
    · have same : Both (fun r : RK => r.1.length ≤ 60) (fun k => spec_FewestKeys.l1 k V most (V.length : Int) E N (a : Int) ((b + 1 : Nat) : Int)) (fun k => impl_FewestKeys.l1 k V most (V.length : Int) M N (a : Int) ((b + 1 : Nat) : Int)) := ih (b + 1) E M N (by omega) (by omega) R (fun _ => by omega)
      refine Both.neg hn (by omega) (Both.pos (by omega) (by omega) (Both.pos (by omega) (by omega) ?_))
      by_cases hlt : rd E (b : Int) + 1 < rd E (a : Int)
      · cases hf : fitB V a b most with
        | true =>
          rw [hf] at s t
          obtain ⟨r, hr, g1, g2⟩ := go (by omega)
          exact ⟨r, hr, Ev.pos hlt (Ev.bind s (Ev.pos rfl (Ev.pos (by omega) g1))), Ev.pos (by omega) (Ev.bind t (Ev.pos rfl (Ev.pos (by omega) g2)))⟩
        | false =>
          rw [hf] at s t
          obtain ⟨r, hr, g1, g2⟩ := same
          exact ⟨r, hr, Ev.pos hlt (Ev.bind s (Ev.neg (by decide) g1)), Ev.pos (by omega) (Ev.bind t (Ev.neg (by decide) g2))⟩
      · exact Both.neg hlt (by omega) same
theorem rows_both (V : List Int) (most : Int) (hV : VOk V) (h1 : 1 ≤ V.length) (hm : 0 ≤ most) : ∀ (a : Nat) (E M N : List Int), a + 1 ≤ V.length → Row V.length a E M N → 0 ≤ rd E (a : Int) →
    Both (fun r : RK => r.1.length ≤ 60) (fun k => spec_FewestKeys.l0 k V most (V.length : Int) E N ((a : Int) - 1)) (fun k => impl_FewestKeys.l0 k V most (V.length : Int) M N ((a : Int) - 1)) := by
  have hl := hV.1
  intro a
  induction a with
  | zero =>
    intro E M N _ R h0
    refine Both.step (fun k => spec_FewestKeys.l0.eq_2 _ _ _ _ _ _ k) (fun k => impl_FewestKeys.l0.eq_2 _ _ _ _ _ _ k) (Both.neg (by omega) (by omega) (Both.rpos (by omega) ?_))
    exact out_both V N hl h1 R.ln (fun j hj => by
      by_cases e : j = 0
      · subst e; exact R.nxa hj h0
      · exact R.nx j (by omega) hj) (V.length - 1) 0 [] (by omega) (Nat.le_refl _)
  | succ a ih =>
    intro E M N ha R h0
    have hle := R.le
    have e : ((a + 1 : Nat) : Int) - 1 = (a : Int) := by omega
    rw [e]
    refine Both.step (fun k => spec_FewestKeys.l0.eq_2 _ _ _ _ _ _ k) (fun k => impl_FewestKeys.l0.eq_2 _ _ _ _ _ _ k) (Both.pos (by omega) (by omega) (Both.lpos (by omega) (Both.lpos (by omega) ?_)))
    rw [w_succ (by omega), Int.toNat_natCast]
    refine row_both V most hV hm a (by omega) (fun E M N R h => by rw [w_pred (by omega)]; exact ih E M N (by omega) R h) (V.length - (a + 1)) (a + 1) _ M N (by omega) (by omega) ?_ (by omega)
    refine ⟨by rw [List.length_set]; exact hle, R.lm, R.ln, fun j h1 h2 => ?_, fun j h1 h2 => ?_, fun j h1 h2 => ?_, fun h => ?_, fun j h => R.old j (by omega), fun j h1 h2 => ?_, fun h1 h2 => ?_⟩
    · rw [rd_set _ j (by omega) (by omega)]
      by_cases h : a = j
      · subst h; rw [if_pos rfl, R.old a (by omega)]; omega
      · rw [if_neg h]; exact R.eq j (by omega) h2
    · rw [rd_set _ j (by omega) (by omega), if_neg (by omega)]
      by_cases h : j = a + 1
      · subst h; exact h0
      · exact R.lo j (by omega) h2
    · rw [rd_set _ j (by omega) (by omega)]
      by_cases h : a = j
      · subst h; rw [if_pos rfl]; omega
      · rw [if_neg h]; exact R.hi j (by omega) h2
    · rw [rd_set _ a (by omega) (by omega), if_pos rfl]; omega
    · by_cases h : j = a + 1
      · subst h; exact R.nxa h2 h0
      · exact R.nx j (by omega) h2
    · rw [rd_set _ a (by omega) (by omega), if_pos rfl] at h2; omega
theorem values_yes {l : List Int} (h : l.all valueOk = true) (h60 : l.length ≤ 60) : VOk l := by
  refine ⟨h60, fun i hi => ?_⟩
  rw [List.all_eq_true] at h
  have := h _ (List.getElem_mem hi)
  rw [rd_get hi]
  simpa [valueOk] using this
theorem both (V : List Int) (most : Int) (hVl : V.length ≤ maxLen) : Both (fun r : RK => r.1.length ≤ 60) (fun k => spec_FewestKeys.f k V most) (fun k => impl_FewestKeys.f k V most) := by
  have no : ([] : List Ky).length ≤ 60 := by simp
  have sT : Ev (fun k => spec_FewestKeys.j0 k V most true) ([], false) := Ev.step (fun k => spec_FewestKeys.j0.eq_2 _ _ _ k) (Ev.pos rfl (Ev.now _))
  have iT : Ev (fun k => impl_FewestKeys.j0 k V most (V.length : Int) true) ([], false) := Ev.step (fun k => impl_FewestKeys.j0.eq_2 _ _ _ _ k) (Ev.pos rfl (Ev.now _))
  have v1 := values_spec V hVl
  have v2 := values_impl V hVl
  unfold spec_FewestKeys.f impl_FewestKeys.f
  have hin := in_impl (V.length : Int) 1 60
  by_cases hl : 1 ≤ V.length ∧ V.length ≤ 60
  · have e : (decide (1 ≤ (V.length : Int)) && decide ((V.length : Int) ≤ 60)) = true := by rw [decide_eq_true (by omega), decide_eq_true (by omega)]; rfl
    rw [e] at hin
    have ev : valuesOk V = V.all valueOk := by unfold valuesOk; rw [decide_eq_true hl.1, decide_eq_true hl.2]; rfl
    rw [ev] at v1
    cases hv : V.all valueOk with
    | false =>
      rw [hv] at v1 v2
      exact ⟨([], false), no, Ev.bind v1 (Ev.neg (by decide) sT), Ev.const_bind hin (Ev.pos rfl (Ev.bind v2 (Ev.neg (by decide) iT)))⟩
    | true =>
      rw [hv] at v1 v2
      have hV := values_yes hv hl.2
      cases hm : (decide (0 ≤ most) && decide (most ≤ 100000)) with
      | false =>
        refine ⟨([], false), no, Ev.bind v1 (Ev.pos rfl (Ev.const_bind (in_spec _ _ _) ?_)), Ev.const_bind hin (Ev.pos rfl (Ev.bind v2 (Ev.pos rfl (Ev.const_bind (in_impl _ _ _) ?_))))⟩
        · rw [hm]; exact sT
        · rw [hm]; exact iT
      | true =>
        have hm0 : 0 ≤ most := by
          rw [Bool.and_eq_true] at hm; exact of_decide_eq_true hm.1
        obtain ⟨n, hn⟩ : ∃ n, V.length = n + 1 := ⟨V.length - 1, by omega⟩
        have rep : ∀ j : Nat, j < V.length → rd (List.replicate (V.length : Int).toNat (0 : Int)) (j : Int) = 0 := fun j hj => by rw [rd_get (by rw [List.length_replicate]; omega)]; simp
        have R : Row V.length n (List.replicate (V.length : Int).toNat 0) ((List.replicate (V.length : Int).toNat 0).set n 1) (List.replicate (V.length : Int).toNat 0) := by
          refine ⟨by simp, by simp, by simp, fun j h1 h2 => ?_, fun j h1 h2 => ?_, fun j h1 h2 => ?_, fun h => ?_, fun j h => ?_, fun j h1 h2 => ?_, fun h1 h2 => ?_⟩
          · obtain rfl : j = n := by omega
            rw [rd_set _ j (by simp; omega) (by simp; omega), if_pos rfl, rep j h2]; rfl
          · rw [rep j h2]; omega
          · rw [rep j h2]; omega
          · rw [rep n h]; omega
          · rw [rd_set _ j (by simp; omega) (by simp; omega), if_neg (by omega), rep j (by omega)]
          · omega
          · omega
        obtain ⟨r, hr, s, t⟩ := rows_both V most hV hl.1 hm0 n _ _ _ (by omega) R (by rw [rep n (by omega)]; omega)
        have e2 : wrap64 ((V.length : Int) - 2) = (n : Int) - 1 := by rw [w64 (by omega) (by omega)]; omega
        have e1 : wrap64 ((V.length : Int) - 1) = (n : Int) := by rw [w64 (by omega) (by omega)]; omega
        refine ⟨r, hr, Ev.bind v1 (Ev.pos rfl (Ev.const_bind (in_spec _ _ _) ?_)), Ev.const_bind hin (Ev.pos rfl (Ev.bind v2 (Ev.pos rfl (Ev.const_bind (in_impl _ _ _) ?_))))⟩
        · rw [hm]
          refine Ev.step (fun k => spec_FewestKeys.j0.eq_2 _ _ _ k) (Ev.neg (by decide) (Ev.pos (by omega) (Ev.pos (by rw [Int.toNat_natCast]; omega) ?_)))
          rw [e2]; exact s
        · rw [hm]
          refine Ev.step (fun k => impl_FewestKeys.j0.eq_2 _ _ _ _ k) (Ev.neg (by decide) (Ev.pos (by omega) (Ev.pos (by rw [Int.toNat_natCast]; omega) (Ev.some_bind ?_))))
          rw [e1, e2]
          exact Ev.pos (by omega) (Ev.pos (by simp; omega) (by rw [Int.toNat_natCast]; exact t))
  · have e : (decide (1 ≤ (V.length : Int)) && decide ((V.length : Int) ≤ 60)) = false := by
      by_cases h : 1 ≤ V.length
      · rw [decide_eq_true (by omega), decide_eq_false (by omega)]; rfl
      · rw [decide_eq_false (by omega)]; rfl
    have ev : valuesOk V = false := by
      unfold valuesOk
      by_cases h : 1 ≤ V.length
      · rw [decide_eq_true h, decide_eq_false (by omega)]; rfl
      · rw [decide_eq_false h]; rfl
    rw [e] at hin
    rw [ev] at v1
    exact ⟨_, no, Ev.bind v1 (Ev.neg (by decide) sT), Ev.const_bind hin (Ev.neg (by decide) iT)⟩
/-- The marks of n keys. -/
def markK : Nat → Int → List Ky
  | 0, _ => []
  | n + 1, c => ⟨c, c + 1⟩ :: markK n (c + 2)
theorem markK_len : ∀ n c, (markK n c).length = n
  | 0, _ => rfl
  | n + 1, c => by simp [markK, markK_len n]
theorem markK_get : ∀ (n : Nat) (c : Int) (i : Nat) (h : i < (markK n c).length), (markK n c)[i] = ⟨c + 2 * i, c + 2 * i + 1⟩
  | 0, _, _, h => by simp [markK] at h
  | n + 1, c, 0, _ => by simp [markK]
  | n + 1, c, i + 1, h => by
    simp only [markK, List.getElem_cons_succ]
    rw [markK_get n (c + 2) i]
    congr 1 <;> omega
theorem mark_keys (L : List Ky) (hL : L.length ≤ 60) : Ev (fun k => laws_markKeyS.f k L 1) (1 + 2 * (L.length : Int), markK L.length 1) := by
  have key : ∀ (m i : Nat) (X : List Ky), i + m = X.length → X.length ≤ 60 → Ev (fun k => laws_markKeyS.l0 k X (1 + 2 * (i : Int)) (i : Int)) (1 + 2 * (X.length : Int), X.take i ++ markK m (1 + 2 * (i : Int))) := by
    intro m
    induction m with
    | zero =>
      intro i X hi hX
      refine Ev.step (fun k => laws_markKeyS.l0.eq_2 _ _ _ k) (Ev.neg (by omega) (Ev.cast (Ev.now _) ?_))
      rw [List.take_of_length_le (by omega), markK, List.append_nil, show (i : Int) = (X.length : Int) by omega]
    | succ m ih =>
      intro i X hi hX
      have hi' : i < X.length := by omega
      refine Ev.step (fun k => laws_markKeyS.l0.eq_2 _ _ _ k) (Ev.pos (by omega) (Ev.pos (by omega) (Ev.some_bind ?_)))
      rw [w64 (n := 1 + 2 * (i : Int) + 1) (by omega) (by omega), w64 (n := 1 + 2 * (i : Int) + 1 + 1) (by omega) (by omega), w_succ (by omega), Int.toNat_natCast]
      have e : rd_T164 (X.set i (⟨1 + 2 * (i : Int), (rd_T164 X (i : Int)).f1⟩ : Ky)) (i : Int) = ⟨1 + 2 * (i : Int), (rd_T164 X (i : Int)).f1⟩ := by
        have h : rdOf z164 (X.set i (⟨1 + 2 * (i : Int), (rd_T164 X (i : Int)).f1⟩ : Ky)) (i : Int) = _ := rdOf_get (by rw [List.length_set]; exact hi')
        rw [List.getElem_set, if_pos rfl] at h
        exact h
      rw [e, List.set_set]
      have h := ih (i + 1) (X.set i (⟨1 + 2 * (i : Int), 1 + 2 * (i : Int) + 1⟩ : Ky)) (by rw [List.length_set]; omega) (by rw [List.length_set]; exact hX)
      rw [List.length_set] at h
      rw [show (1 + 2 * ((i + 1 : Nat) : Int)) = 1 + 2 * (i : Int) + 1 + 1 by omega] at h
      refine Ev.cast h ?_
      rw [markK, List.take_succ_eq_append_getElem (by rw [List.length_set]; exact hi'), List.getElem_set, if_pos rfl, List.take_set_of_le (Nat.le_refl _), List.append_assoc]
      rw [show (1 + 2 * (i : Int) + 2) = 1 + 2 * (i : Int) + 1 + 1 by omega]
      rfl
  have h := key L.length 0 L (by omega) hL
  unfold laws_markKeyS.f
  simpa using h
theorem held_keys (n : Nat) (hn : n ≤ 60) : Ev (fun k => laws_heldKeyS.f k (markK n 1) 1) (1 + 2 * (n : Int)) := by
  have hL := markK_len n 1
  have key : ∀ (m i : Nat), i + m = n → Ev (fun k => laws_heldKeyS.l0 k (markK n 1) (1 + 2 * (i : Int)) (i : Int)) (1 + 2 * (n : Int)) := by
    intro m
    induction m with
    | zero => exact fun i hi => Ev.step (fun k => laws_heldKeyS.l0.eq_2 _ _ _ k) (Ev.neg (by omega) (Ev.cast (Ev.now _) (by rw [show i = n by omega])))
    | succ m ih =>
      intro i hi
      have e : rd_T164 (markK n 1) (i : Int) = ⟨1 + 2 * (i : Int), 1 + 2 * (i : Int) + 1⟩ := by
        have h : rdOf z164 (markK n 1) (i : Int) = _ := rdOf_get (by omega)
        rw [markK_get] at h
        exact h
      refine Ev.step (fun k => laws_heldKeyS.l0.eq_2 _ _ _ k) (Ev.pos (by omega) (Ev.pos (by omega) ?_))
      rw [e, w64 (n := 1 + 2 * (i : Int) + 1) (by omega) (by omega), w64 (n := 1 + 2 * (i : Int) + 1 + 1) (by omega) (by omega), w_succ (by omega)]
      have h := ih (i + 1) (by omega)
      rw [show (1 + 2 * ((i + 1 : Nat) : Int)) = 1 + 2 * (i : Int) + 1 + 1 by omega] at h
      exact Ev.pos rfl (Ev.pos rfl h)
  exact key n 0 (by omega)
theorem eq_keys (L : List Ky) (hL : L.length ≤ 60) : Ev (fun k => laws_eqKeyS.f k L L) true := by
  unfold laws_eqKeyS.f
  exact eqK_ev z164 (fun _ a b => laws_eqKey.f a.f0 a.f1 b.f0 b.f1) laws_eqKeyS.l0 (fun k x y i => laws_eqKeyS.l0.eq_2 x y i k) L (by rw [maxLen_eq]; omega) (fun a _ => Ev.mk fun _ => by unfold laws_eqKey.f; rw [if_pos rfl, if_pos rfl])
theorem FnExactFewestKeys : laws_FnExactFewestKeys.Pure := by
  intro V most ⟨hl, _⟩ _
  refine Ev.rounds (r := true) ?_
  unfold laws_FnExactFewestKeys.f
  refine Ev.ite (fun _ => Ev.now _) (fun hn => ?_)
  have tv := to_ints V (by omega)
  obtain ⟨⟨r0, r1⟩, hr, h1, h2⟩ := both V most hl
  have hr : r0.length ≤ 60 := hr
  have he := eq_keys r0 hr
  have hm := mark_keys r0 hr
  have hh := held_keys r0.length hr
  exact Ev.bind tv (Ev.bind h1 (Ev.bind tv (Ev.bind h2 (Ev.bind he (Ev.pos rfl (Ev.step (fun k => laws_FnExactFewestKeys.j0.eq_2 _ _ _ _ _ _ _ _ k) (Ev.neg (by simp) (Ev.bind tv (Ev.bind (eq_ints V (by omega)) (Ev.pos rfl
    (Ev.bind (mark_ints V (by omega)) (Ev.neg (by first | (simp; done) | (simp; omega)) (Ev.bind he (Ev.pos rfl (Ev.step (fun k => laws_FnExactFewestKeys.j1.eq_2 _ _ _ _ _ _ k) (Ev.neg (by simp)
    (Ev.bind hm (Ev.bind hh (Ev.neg (by omega) (Ev.pos rfl (Ev.bind tv (Ev.bind h2 (Ev.bind he (Ev.pos rfl (Ev.step (fun k => laws_FnExactFewestKeys.j2.eq_2 _ _ _ k) (Ev.neg (by simp) (Ev.bind hh (Ev.neg (by omega) (Ev.pos rfl (Ev.now _))))))))))))))))))))))))))))))

end Go.Proofs.Ytjaljjdmolhhpaa.Pure
