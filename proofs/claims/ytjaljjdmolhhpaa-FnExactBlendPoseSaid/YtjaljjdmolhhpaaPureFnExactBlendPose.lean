/- BlendPose: the pure statement of the law: the program's pose is the reference's, for all poses, parts and masks. -/
import Derived.Test.YtjaljjdmolhhpaaXFnExactBlendPosex5
import Derived.Test.YtjaljjdmolhhpaaXLibBlendPose
namespace Go.Proofs.Ytjaljjdmolhhpaa.Pure
open Go.RowKit Go.Proofs.Ytjaljjdmolhhpaa.XFnExactBlendPose Go.Proofs.YtjaljjdmolhhpaaW.PrintWords Go.Proofs.YtjaljjdmolhhpaaW.PrintLast Go.Proofs.YtjaljjdmolhhpaaW.PrintMore Go.Proofs.Ytjaljjdmolhhpaa.X
set_option linter.unusedVariables false
set_option linter.unusedSimpArgs false

theorem in_spec (a b c : Int) : spec_l1In.f a b c = some (decide (b ≤ a) && decide (a ≤ c)) := by
  unfold spec_l1In.f
  by_cases h : b ≤ a <;> simp [h]
theorem in_impl (a b c : Int) : impl_inRange.f a b c = some (decide (b ≤ a) && decide (a ≤ c)) := by
  unfold impl_inRange.f
  by_cases h : b ≤ a <;> simp [h]
theorem to_ints (l : List Int) (hl : (l.length : Int) ≤ 1048576) : Ev (fun k => laws_toIntS.f k l) l := by
  have h := toS_ev (0 : Int) (id : Int → Int) 0 laws_toIntS.l0 (fun k x y i => laws_toIntS.l0.eq_2 x y i k) l (by omega)
  rw [List.map_id] at h
  exact Ev.pos (by omega) (Ev.pos (by omega) h)
theorem eq_ints (l : List Int) (hl : (l.length : Int) ≤ 1048576) : Ev (fun k => laws_eqIntS.f k l l) true :=
  eqInt_ev laws_eqIntS.l0 (fun k x y i => laws_eqIntS.l0.eq_2 x y i k) l (by rw [maxLen_eq]; omega)
theorem mark_ints (l : List Int) (hl : (l.length : Int) ≤ 4611686018427387000) : Ev (fun k => laws_markIntS.f k l 1) (1 + (l.length : Int), marks l.length 1) :=
  markInt_ev laws_markIntS.l0 (fun k x c i => laws_markIntS.l0.eq_2 x c i k) 1 (by omega) l (by omega)
theorem held_ints (n : Nat) (hn : (n : Int) ≤ 4611686018427387000) : Ev (fun k => laws_heldIntS.f k (marks n 1) 1) (1 + (n : Int)) :=
  heldInt_ev laws_heldIntS.l0 (fun k x c i => laws_heldIntS.l0.eq_2 x c i k) n 1 (by omega) (by omega)
/-! keys of a track -/
def valueOk (a : Int) : Bool := decide (-100000 ≤ a) && decide (a ≤ 100000)
theorem value_spec (a : Int) : spec_l11Value.f a = some (valueOk a) := by unfold spec_l11Value.f; rw [in_spec]; rfl
theorem value_impl (a : Int) : impl_isKeyValue.f a = some (valueOk a) := by unfold impl_isKeyValue.f; rw [in_impl]; rfl
theorem vals_impl (l : List Int) (hl : l.length ≤ maxLen) : Ev (fun k => impl_areKeyValues.f k l) (l.all valueOk) := by
  have h := contains_ev (0 : Int) (fun _ z => impl_areKeyValues_1.f z) (fun n => !valueOk n) slices_IndexFunc_int_int_at_impl_areKeyValues_1.l0 (fun k x n i => slices_IndexFunc_int_int_at_impl_areKeyValues_1.l0.eq_2 x n i k) l hl (fun z _ => Ev.mk (fun _ => by unfold impl_areKeyValues_1.f; rw [value_impl]; rfl))
  unfold impl_areKeyValues.f slices_ContainsFunc_int_int_at_impl_areKeyValues_1.f slices_IndexFunc_int_int_at_impl_areKeyValues_1.f
  exact Ev.bind h (Ev.cast (Ev.now _) (any_not _ l))
/-! wide numbers that are small -/
theorem u64w {n : Int} (h0 : 0 ≤ n) (h1 : n < 18446744073709551616) : IntKind.u64.wrap n = n := impl_FixMul.u64w h0 h1
theorem or_wide (q r : Int) (hq : 0 ≤ q) (hq2 : q < 4294967296) (hr : 0 ≤ r) (hr2 : r < 4294967296) : Go.bits .or .u64 (q * 4294967296) r = q * 4294967296 + r := by
  obtain ⟨Q, rfl⟩ := Int.eq_ofNat_of_zero_le hq
  obtain ⟨R, rfl⟩ := Int.eq_ofNat_of_zero_le hr
  unfold Go.bits
  have e : ((BitVec.ofInt IntKind.u64.bits ((Q : Int) * 4294967296)) ||| (BitVec.ofInt IntKind.u64.bits (R : Int))).toNat = Q * 4294967296 + R := by
    rw [BitVec.toNat_or, BitVec.toNat_ofInt, BitVec.toNat_ofInt]
    have e1 : (((Q : Int) * 4294967296) % ((2 ^ IntKind.u64.bits : Nat) : Int)).toNat = Q * 4294967296 := by
      simp [IntKind.bits]; omega
    have e2 : ((R : Int) % ((2 ^ IntKind.u64.bits : Nat) : Int)).toNat = R := by
      simp [IntKind.bits]; omega
    rw [e1, e2]
    have h := Nat.shiftLeft_add_eq_or_of_lt (i := 32) (b := R) (by omega) Q
    rw [Nat.shiftLeft_eq] at h
    exact h.symm
  show IntKind.u64.wrap _ = _
  rw [e, u64w (by omega) (by omega)]
  omega
theorem times_small (a b : Int) (ha : 0 ≤ a) (ha1 : a ≤ 4398046511104) (hb : 0 ≤ b) (hb1 : b ≤ 262144) : spec_l1Times.f a b = some (0, a * b) := by
  have ta : Int.tdiv a 4294967296 = a / 4294967296 := Int.tdiv_eq_ediv_of_nonneg ha
  have ma : Int.tmod a 4294967296 = a % 4294967296 := Int.tmod_eq_emod_of_nonneg ha
  have tb : Int.tdiv b 4294967296 = 0 := by rw [Int.tdiv_eq_ediv_of_nonneg hb]; omega
  have mb : Int.tmod b 4294967296 = b := by rw [Int.tmod_eq_emod_of_nonneg hb]; omega
  have hY0 : 0 ≤ a / 4294967296 := by omega
  have hY1 : a / 4294967296 ≤ 1024 := by omega
  have hX0 : 0 ≤ a % 4294967296 := by omega
  have hX1 : a % 4294967296 ≤ 4294967295 := by omega
  have e : a = a / 4294967296 * 4294967296 + a % 4294967296 := by omega
  unfold spec_l1Times.f
  rw [ta, ma, tb, mb]
  generalize a / 4294967296 = Y at *
  generalize a % 4294967296 = X at *
  have p0 : 0 ≤ X * b := Int.mul_nonneg hX0 hb
  have p1 : X * b ≤ 4294967295 * 262144 := Int.mul_le_mul hX1 hb1 hb (by omega)
  have q0 : 0 ≤ Y * b := Int.mul_nonneg hY0 hb
  have q1 : Y * b ≤ 1024 * 262144 := Int.mul_le_mul hY1 hb1 hb (by omega)
  have eab : a * b = Y * b * 4294967296 + X * b := by rw [e, Int.add_mul, Int.mul_right_comm]
  rw [eab]
  rw [u64w (n := Y) hY0 (by omega), u64w (n := 0) (by omega) (by omega), Int.mul_zero, Int.mul_zero, u64w (n := 0) (by omega) (by omega), Int.zero_add, Int.zero_add]
  generalize X * b = P at *
  generalize Y * b = Q at *
  rw [u64w (n := P) p0 (by omega), u64w (n := Q) q0 (by omega), Int.tdiv_eq_ediv_of_nonneg p0, u64w (n := P / 4294967296) (by omega) (by omega), Int.tmod_eq_emod_of_nonneg p0]
  rw [u64w (n := Q + P / 4294967296) (by omega) (by omega)]
  rw [Int.tdiv_eq_ediv_of_nonneg (a := Q + P / 4294967296) (by omega), Int.tmod_eq_emod_of_nonneg (a := Q + P / 4294967296) (by omega)]
  rw [show (Q + P / 4294967296) / 4294967296 = 0 by omega, show (Q + P / 4294967296) % 4294967296 = Q + P / 4294967296 by omega]
  rw [u64w (n := Q + P / 4294967296) (by omega) (by omega), u64w (n := 0) (by omega) (by omega), u64w (n := 0) (by omega) (by omega)]
  rw [Int.tdiv_eq_ediv_of_nonneg (a := Q + P / 4294967296) (by omega), show (Q + P / 4294967296) / 4294967296 = 0 by omega, u64w (n := 0) (by omega) (by omega), Int.add_zero, u64w (n := 0) (by omega) (by omega)]
  rw [u64w (n := (Q + P / 4294967296) * 4294967296) (by omega) (by omega), or_wide _ _ (by omega) (by omega) (by omega) (by omega)]
  congr 2
  omega
theorem plus_small (a b : Int) (ha : 0 ≤ a) (ha1 : a ≤ 1000000000000) (hb : 0 ≤ b) (hb1 : b ≤ 1000000000000) : spec_l1Plus.f 0 a b = some (0, a + b) := by
  unfold spec_l1Plus.f
  rw [u64w (n := a + b) (by omega) (by omega), if_neg (by omega)]
theorem over_ev (T : Int) (hT : 0 ≤ T) (hT1 : T ≤ 1000000000000) : ∀ (d : Nat) (lo hi : Int), hi - lo ≤ (d : Int) → 0 ≤ lo → lo ≤ T / 131072 → T / 131072 ≤ hi → hi ≤ 4398046511104 → Ev (fun k => spec_l1Over.l0 k 131072 lo hi 0 T) (T / 131072) := by
  intro d
  induction d using Nat.strongRecOn with
  | _ d ih =>
    intro lo hi hd h0 h1 h2 h3
    refine Ev.step (fun k => spec_l1Over.l0.eq_2 _ _ _ _ _ k) ?_
    by_cases hlt : lo < hi
    · refine Ev.pos hlt ?_
      rw [u64w (n := hi - lo) (by omega) (by omega), u64w (n := hi - lo + 1) (by omega) (by omega), Int.tdiv_eq_ediv_of_nonneg (a := hi - lo + 1) (by omega), u64w (n := (hi - lo + 1) / 2) (by omega) (by omega), u64w (n := lo + (hi - lo + 1) / 2) (by omega) (by omega)]
      have c0 : lo < lo + (hi - lo + 1) / 2 := by omega
      have c1 : lo + (hi - lo + 1) / 2 ≤ hi := by omega
      generalize lo + (hi - lo + 1) / 2 = c at c0 c1 ⊢
      refine Ev.const_bind (times_small c 131072 (by omega) (by omega) (by omega) (by omega)) ?_
      have hless : spec_l1Less.f 0 T 0 (c * 131072) = some (decide (T < c * 131072)) := by
        unfold spec_l1Less.f
        rw [if_neg (by omega), if_pos rfl]
      refine Ev.const_bind hless ?_
      by_cases hc : T < c * 131072
      · rw [decide_eq_true hc, u64w (n := c - 1) (by omega) (by omega)]
        exact Ev.pos rfl (ih (c - 1 - lo).toNat (by omega) lo (c - 1) (by omega) h0 h1 (by omega) (by omega))
      · rw [decide_eq_false hc]
        exact Ev.neg (by decide) (ih (hi - c).toNat (by omega) c hi (by omega) (by omega) (by omega) h2 h3)
    · exact Ev.neg hlt (Ev.cast (Ev.now _) (by omega))
theorem cut_small (q : Int) (h0 : -1000000 ≤ q) (h1 : q ≤ 1000000) : spec_l1Cut.f q = some q := by
  unfold spec_l1Cut.f
  rw [if_neg (by omega), if_neg (by omega)]
theorem near_ev (neg : Bool) (P : Int) (h0 : 0 ≤ P) (h1 : P ≤ 200000 * 65536) : Ev (fun k => spec_l1Near.f k neg 0 P 65536) (if neg = true then -((P + 32767) / 65536) else (P + 32768) / 65536) := by
  have hsum : spec_l1Sum.f 0 P 0 P = some (0, P + P) := by
    unfold spec_l1Sum.f
    rw [plus_small P P h0 (by omega) h0 (by omega), Option.bind_some]
    rw [u64w (n := 0 + 0) (by omega) (by omega)]
    rfl
  have ho : ∀ T : Int, 0 ≤ T → T ≤ 1000000000000 → Ev (fun k => spec_l1Over.f k 0 T 131072 4398046511104) (T / 131072) := fun T g0 g1 => by
    unfold spec_l1Over.f
    exact over_ev T g0 g1 4398046511104 0 4398046511104 (by omega) (by omega) (by omega) (by omega) (by omega)
  have e2 : IntKind.u64.wrap (2 * 65536) = 131072 := u64w (by omega) (by omega)
  unfold spec_l1Near.f
  refine Ev.const_bind hsum (Ev.const_bind (plus_small (P + P) 65536 (by omega) (by omega) (by omega) (by omega)) ?_)
  cases neg with
  | true =>
    refine Ev.pos rfl (Ev.neg (by show ¬ P + P + 65536 = 0; omega) ?_)
    show Ev (fun k => spec_l1Near.j0 k true 65536 0 (IntKind.u64.wrap (P + P + 65536 - 1))) _
    rw [u64w (n := P + P + 65536 - 1) (by omega) (by omega)]
    refine Ev.step (fun k => spec_l1Near.j0.eq_2 _ _ _ _ k) ?_
    rw [e2]
    refine Ev.bind (ho (P + P + 65536 - 1) (by omega) (by omega)) (Ev.pos rfl ?_)
    rw [show (P + P + 65536 - 1) / 131072 = (P + 32767) / 65536 by omega, w64 (n := (P + 32767) / 65536) (by omega) (by omega), w64 (n := -((P + 32767) / 65536)) (by omega) (by omega)]
    exact Ev.const_bind (cut_small _ (by omega) (by omega)) (Ev.now _)
  | false =>
    refine Ev.neg (by decide) ?_
    show Ev (fun k => spec_l1Near.j0 k false 65536 0 (P + P + 65536)) _
    refine Ev.step (fun k => spec_l1Near.j0.eq_2 _ _ _ _ k) ?_
    rw [e2]
    refine Ev.bind (ho (P + P + 65536) (by omega) (by omega)) (Ev.neg (by decide) ?_)
    rw [show (P + P + 65536) / 131072 = (P + 32768) / 65536 by omega, w64 (n := (P + 32768) / 65536) (by omega) (by omega)]
    exact Ev.const_bind (cut_small _ (by omega) (by omega)) (Ev.now _)
theorem good_small (x : Int) (h0 : -200000 ≤ x) (h1 : x ≤ 200000) : spec_GoodFixed.f x = some true := by
  unfold spec_GoodFixed.f
  rw [in_spec, decide_eq_true (by omega), decide_eq_true (by omega)]
  rfl
theorem abs_small (x : Int) (h0 : -200000 ≤ x) (h1 : x ≤ 200000) : spec_l1Abs.f x = some (if x < 0 then -x else x) := by
  unfold spec_l1Abs.f
  by_cases h : x < 0
  · rw [if_pos h, if_pos h, w64 (n := -x) (by omega) (by omega)]
  · rw [if_neg h, if_neg h]
theorem mul_spec (x p : Int) (h0 : -200000 ≤ x) (h1 : x ≤ 200000) (p0 : 0 ≤ p) (p1 : p ≤ 65536) : Ev (fun k => spec_FixMul.f k x p) (impl_FixMul.near x p) := by
  unfold spec_FixMul.f
  refine Ev.const_bind (good_small x h0 h1) (Ev.pos rfl (Ev.const_bind (good_small p (by omega) (by omega)) ?_))
  refine Ev.step (fun k => spec_FixMul.j0.eq_2 _ _ _ k) (Ev.neg (by decide) (Ev.const_bind (abs_small x h0 h1) (Ev.const_bind (abs_small p (by omega) (by omega)) ?_)))
  rw [if_neg (show ¬ p < 0 by omega), u64w (n := p) p0 (by omega), decide_eq_false (show ¬ p < 0 by omega)]
  unfold impl_FixMul.near
  by_cases h : x < 0
  · rw [if_pos h, if_pos h, u64w (n := -x) (by omega) (by omega), decide_eq_true h]
    have g0 : 0 ≤ -x * p := Int.mul_nonneg (by omega) p0
    have g1 : -x * p ≤ 200000 * 65536 := Int.mul_le_mul (by omega) p1 p0 (by omega)
    exact Ev.const_bind (times_small (-x) p (by omega) (by omega) p0 (by omega)) (Ev.bind (near_ev true (-x * p) g0 g1) (Ev.now _))
  · rw [if_neg h, if_neg h, u64w (n := x) (by omega) (by omega), decide_eq_false h]
    have g0 : 0 ≤ x * p := Int.mul_nonneg (by omega) p0
    have g1 : x * p ≤ 200000 * 65536 := Int.mul_le_mul (by omega) p1 p0 (by omega)
    exact Ev.const_bind (times_small x p (by omega) (by omega) p0 (by omega)) (Ev.bind (near_ev false (x * p) g0 g1) (Ev.now _))
theorem mul_impl (x p : Int) (h0 : -200000 ≤ x) (h1 : x ≤ 200000) (p0 : 0 ≤ p) (p1 : p ≤ 65536) : impl_FixMul.f x p = some (impl_FixMul.near x p) := by
  unfold impl_FixMul.f
  rw [if_pos ⟨⟨h0, h1⟩, p0, p1⟩]
/-! the poses -/
def both2 (a b : List Int) (i : Nat) : Bool := valueOk (rd a (i : Int)) && valueOk (rd b (i : Int))
abbrev R2 := List Int × Bool
theorem blend_ok (a : List Int) (b : List Int) (p : Int) (m : List Bool) (ha : a.length ≤ 8) (hb : b.length = a.length) (hm : m.length = a.length) (p0 : 0 ≤ p) (p1 : p ≤ 65536) : ∀ (n i : Nat) (o : List Int), i + n = a.length → o.length = i → allFrom (both2 a b) n i = true →
    Both (fun r : R2 => (r.1.length : Int) ≤ 1048576) (fun k => spec_BlendPose.l0 k b p m o a (a.length : Int) (i : Int)) (fun k => impl_BlendPose.l0 k b p m o a (a.length : Int) (i : Int)) := by
  intro n
  induction n with
  | zero => exact fun i o hi ho _ => Both.step (fun k => spec_BlendPose.l0.eq_2 _ _ _ _ _ _ _ k) (fun k => impl_BlendPose.l0.eq_2 _ _ _ _ _ _ _ k) (Both.neg (by omega) (by omega) (Both.now (o, true) (by show (o.length : Int) ≤ _; omega)))
  | succ n ih =>
    intro i o hi ho hall
    rw [allFrom, Bool.and_eq_true] at hall
    obtain ⟨h1, hall⟩ := hall
    have h2 := h1
    unfold both2 at h1
    rw [Bool.and_eq_true] at h1
    obtain ⟨va, vb⟩ := h1
    have ra : -100000 ≤ rd a (i : Int) ∧ rd a (i : Int) ≤ 100000 := by simpa [valueOk] using va
    have rb : -100000 ≤ rd b (i : Int) ∧ rd b (i : Int) ≤ 100000 := by simpa [valueOk] using vb
    refine Both.step (fun k => spec_BlendPose.l0.eq_2 _ _ _ _ _ _ _ k) (fun k => impl_BlendPose.l0.eq_2 _ _ _ _ _ _ _ k) (Both.pos (by omega) (by omega) (Both.pos (by omega) (by omega) (Both.pos (by omega) (by omega) ?_)))
    rw [value_spec, value_spec, va, vb, w_succ (by omega), w64 (n := rd b (i : Int) - rd a (i : Int)) (by omega) (by omega)]
    have nx : ∀ v : Int, Both (fun r : R2 => (r.1.length : Int) ≤ 1048576) (fun k => spec_BlendPose.l0 k b p m (o ++ [v]) a (a.length : Int) ((i + 1 : Nat) : Int)) (fun k => impl_BlendPose.l0 k b p m (o ++ [v]) a (a.length : Int) ((i + 1 : Nat) : Int)) := fun v => ih (i + 1) _ (by omega) (by rw [List.length_append, List.length_singleton]; omega) hall
    have ms := mul_spec (rd b (i : Int) - rd a (i : Int)) p (by omega) (by omega) p0 p1
    have mi := mul_impl (rd b (i : Int) - rd a (i : Int)) p (by omega) (by omega) p0 p1
    cases hk : rdOf false m (i : Int) with
    | true =>
      obtain ⟨r, hr, s, t⟩ := nx (wrap64 (rd a (i : Int) + impl_FixMul.near (rd b (i : Int) - rd a (i : Int)) p))
      refine ⟨r, hr, Ev.some_bind (Ev.pos rfl (Ev.pos (by omega) (Ev.some_bind (Ev.step (fun k => spec_BlendPose.j2.eq_2 _ _ _ _ _ _ _ _ _ _ k) (Ev.neg (by decide) (Ev.pos (by omega) (Ev.pos (by omega) ?_))))))), Ev.pos (by omega) (Ev.pos rfl (Ev.pos (by omega) (Ev.const_bind mi (Ev.pos (by omega) t))))⟩
      rw [hk, w_succ (by omega), w64 (n := rd b (i : Int) - rd a (i : Int)) (by omega) (by omega)]
      exact Ev.pos rfl (Ev.pos (by omega) (Ev.bind ms (Ev.pos (by omega) s)))
    | false =>
      obtain ⟨r, hr, s, t⟩ := nx (rd a (i : Int))
      refine ⟨r, hr, Ev.some_bind (Ev.pos rfl (Ev.pos (by omega) (Ev.some_bind (Ev.step (fun k => spec_BlendPose.j2.eq_2 _ _ _ _ _ _ _ _ _ _ k) (Ev.neg (by decide) (Ev.pos (by omega) (Ev.pos (by omega) ?_))))))), Ev.pos (by omega) (Ev.neg (by decide) (Ev.pos (by omega) t))⟩
      rw [hk, w_succ (by omega)]
      exact Ev.neg (by decide) (Ev.pos (by omega) s)
theorem blend_bad (a : List Int) (b : List Int) (p : Int) (m : List Bool) (ha : a.length ≤ 8) (hb : b.length = a.length) (hm : m.length = a.length) (p0 : 0 ≤ p) (p1 : p ≤ 65536) : ∀ (n i : Nat) (o : List Int), i + n = a.length → o.length = i → allFrom (both2 a b) n i = false → Ev (fun k => spec_BlendPose.l0 k b p m o a (a.length : Int) (i : Int)) ([], false) := by
  intro n
  induction n with
  | zero => exact fun i o hi ho h => absurd h (by simp [allFrom])
  | succ n ih =>
    intro i o hi ho hall
    have jT : ∀ o x y, Ev (fun k => spec_BlendPose.j2 k b p m o x y a (a.length : Int) (i : Int) true) ([], false) := fun o x y => Ev.step (fun k => spec_BlendPose.j2.eq_2 _ _ _ _ _ _ _ _ _ _ k) (Ev.pos rfl (Ev.now _))
    refine Ev.step (fun k => spec_BlendPose.l0.eq_2 _ _ _ _ _ _ _ k) (Ev.pos (by omega) (Ev.pos (by omega) (Ev.pos (by omega) ?_)))
    rw [value_spec, value_spec]
    cases va : valueOk (rd a (i : Int)) with
    | false => exact Ev.some_bind (Ev.neg (by decide) (jT _ _ _))
    | true =>
      refine Ev.some_bind (Ev.pos rfl (Ev.pos (by omega) (Ev.some_bind ?_)))
      cases vb : valueOk (rd b (i : Int)) with
      | false => exact jT _ _ _
      | true =>
        have hn : allFrom (both2 a b) n (i + 1) = false := by
          rw [allFrom] at hall
          unfold both2 at hall ⊢
          rwa [va, vb, Bool.true_and, Bool.true_and] at hall
        have ra : -100000 ≤ rd a (i : Int) ∧ rd a (i : Int) ≤ 100000 := by simpa [valueOk] using va
        have rb : -100000 ≤ rd b (i : Int) ∧ rd b (i : Int) ≤ 100000 := by simpa [valueOk] using vb
        have ms := mul_spec (rd b (i : Int) - rd a (i : Int)) p (by omega) (by omega) p0 p1
        have nx : ∀ v : Int, Ev (fun k => spec_BlendPose.l0 k b p m (o ++ [v]) a (a.length : Int) ((i + 1 : Nat) : Int)) ([], false) := fun v => ih (i + 1) _ (by omega) (by rw [List.length_append, List.length_singleton]; omega) hn
        refine Ev.step (fun k => spec_BlendPose.j2.eq_2 _ _ _ _ _ _ _ _ _ _ k) (Ev.neg (by decide) (Ev.pos (by omega) (Ev.pos (by omega) ?_)))
        rw [w_succ (by omega), w64 (n := rd b (i : Int) - rd a (i : Int)) (by omega) (by omega)]
        exact Ev.ite (fun _ => Ev.pos (by omega) (Ev.bind ms (Ev.pos (by omega) (nx _)))) (fun _ => Ev.pos (by omega) (nx _))
theorem all_rd (l : List Int) (n i : Nat) (h : i + n = l.length) : allFrom (fun j => valueOk (rd l (j : Int))) n i = (l.drop i).all valueOk := by
  rw [← all_drop valueOk l 0 n i h]
  exact allFrom_congr n i (fun j h1 h2 => by rw [rd_get (by omega), List.getD_eq_getElem?_getD, List.getElem?_eq_getElem (by omega), Option.getD_some])
theorem allFrom_and (p q : Nat → Bool) : ∀ n i, allFrom (fun j => p j && q j) n i = (allFrom p n i && allFrom q n i)
  | 0, _ => rfl
  | n + 1, i => by
    simp only [allFrom]
    rw [allFrom_and p q n (i + 1)]
    cases p i <;> cases q i <;> simp
theorem both (a b : List Int) (p : Int) (m : List Bool) (hla : a.length ≤ maxLen) (hlb : b.length ≤ maxLen) : Both (fun r : R2 => (r.1.length : Int) ≤ 1048576) (fun k => spec_BlendPose.f k a b p m) (fun k => impl_BlendPose.f k a b p m) := by
  have no : (([] : List Int).length : Int) ≤ 1048576 := by simp
  have sT : Ev (fun k => spec_BlendPose.j0 k a b p m true) ([], false) := Ev.step (fun k => spec_BlendPose.j0.eq_2 _ _ _ _ _ k) (Ev.pos rfl (Ev.now _))
  have iT : Ev (fun k => impl_BlendPose.j0 k a b p m true) ([], false) := Ev.step (fun k => impl_BlendPose.j0.eq_2 _ _ _ _ _ k) (Ev.pos rfl (Ev.now _))
  have va := vals_impl a hla
  have vb := vals_impl b hlb
  unfold spec_BlendPose.f impl_BlendPose.f
  by_cases h8 : (a.length : Int) > 8
  · exact ⟨([], false), no, Ev.pos h8 sT, Ev.pos h8 iT⟩
  by_cases hb : (b.length : Int) = (a.length : Int)
  · by_cases hm : (m.length : Int) = (a.length : Int)
    · have e : allFrom (both2 a b) a.length 0 = (a.all valueOk && b.all valueOk) := by
        show allFrom (fun j => valueOk (rd a (j : Int)) && valueOk (rd b (j : Int))) a.length 0 = _
        rw [allFrom_and, all_rd a a.length 0 (by omega), all_rd b a.length 0 (by omega), List.drop_zero, List.drop_zero]
      cases hp : (decide (0 ≤ p) && decide (p ≤ 65536)) with
      | false =>
        refine ⟨([], false), no, Ev.neg h8 (Ev.pos hb (Ev.pos hm (Ev.const_bind (in_spec _ _ _) ?_))), Ev.neg h8 (Ev.pos hb (Ev.pos hm (Ev.bind va (Ev.ite (fun _ => Ev.bind vb (Ev.ite (fun _ => Ev.const_bind (in_impl _ _ _) ?_) (fun _ => iT))) (fun _ => iT)))))⟩
        · rw [hp]; exact sT
        · rw [hp]; exact iT
      | true =>
        have hp2 := hp
        rw [Bool.and_eq_true, decide_eq_true_eq, decide_eq_true_eq] at hp2
        cases hall : allFrom (both2 a b) a.length 0 with
        | true =>
          rw [hall] at e
          have e2 := e.symm
          rw [Bool.and_eq_true] at e2
          rw [e2.1] at va
          rw [e2.2] at vb
          obtain ⟨r, hr, s, t⟩ := blend_ok a b p m (by omega) (by omega) (by omega) hp2.1 hp2.2 a.length 0 [] (by omega) rfl hall
          refine ⟨r, hr, Ev.neg h8 (Ev.pos hb (Ev.pos hm (Ev.const_bind (in_spec _ _ _) ?_))), Ev.neg h8 (Ev.pos hb (Ev.pos hm (Ev.bind va (Ev.pos rfl (Ev.bind vb (Ev.pos rfl (Ev.const_bind (in_impl _ _ _) ?_)))))))⟩
          · rw [hp]; exact Ev.step (fun k => spec_BlendPose.j0.eq_2 _ _ _ _ _ k) (Ev.neg (by decide) s)
          · rw [hp]; exact Ev.step (fun k => impl_BlendPose.j0.eq_2 _ _ _ _ _ k) (Ev.neg (by decide) t)
        | false =>
          rw [hall] at e
          have s := blend_bad a b p m (by omega) (by omega) (by omega) hp2.1 hp2.2 a.length 0 [] (by omega) rfl hall
          refine ⟨([], false), no, Ev.neg h8 (Ev.pos hb (Ev.pos hm (Ev.const_bind (in_spec _ _ _) ?_))), Ev.neg h8 (Ev.pos hb (Ev.pos hm ?_))⟩
          · rw [hp]; exact Ev.step (fun k => spec_BlendPose.j0.eq_2 _ _ _ _ _ k) (Ev.neg (by decide) s)
          · refine Ev.bind va (Ev.ite (fun g1 => Ev.bind vb (Ev.neg (fun g2 => ?_) iT)) (fun _ => iT))
            rw [g1, g2] at e
            exact absurd e (by decide)
    · exact ⟨([], false), no, Ev.neg h8 (Ev.pos hb (Ev.neg hm sT)), Ev.neg h8 (Ev.pos hb (Ev.neg hm iT))⟩
  · exact ⟨([], false), no, Ev.neg h8 (Ev.neg hb sT), Ev.neg h8 (Ev.neg hb iT)⟩
/-! rows of Bools -/
theorem to_bools (l : List Bool) (hl : (l.length : Int) ≤ 1048576) : Ev (fun k => laws_toBoolS.f k l) l := by
  have h := toS_ev false (id : Bool → Bool) false laws_toBoolS.l0 (fun k x y i => laws_toBoolS.l0.eq_2 x y i k) l (by omega)
  rw [List.map_id] at h
  exact Ev.pos (by omega) (Ev.pos (by omega) h)
theorem eq_bools (l : List Bool) (hl : (l.length : Int) ≤ 1048576) : Ev (fun k => laws_eqBoolS.f k l l) true := by
  have key : ∀ m i : Nat, i + m = l.length → Ev (fun k => laws_eqBoolS.l0 k l l (i : Int)) true := by
    intro m
    induction m with
    | zero => exact fun i hi => Ev.step (fun k => laws_eqBoolS.l0.eq_2 _ _ _ k) (Ev.neg (by omega) (Ev.now _))
    | succ m ih =>
      intro i hi
      refine Ev.step (fun k => laws_eqBoolS.l0.eq_2 _ _ _ k) (Ev.pos (by omega) (Ev.pos (by omega) (Ev.pos (by omega) (Ev.neg (by simp) ?_))))
      rw [w_succ (by omega)]
      exact ih (i + 1) (by omega)
  exact Ev.pos rfl (key l.length 0 (by omega))
theorem FnExactBlendPose : laws_FnExactBlendPose.Pure := by
  intro a b p m ⟨hla, _⟩ ⟨hlb, _⟩ _ ⟨hlm, _⟩
  refine Ev.rounds (r := true) ?_
  unfold laws_FnExactBlendPose.f
  refine Ev.ite (fun _ => Ev.now _) (fun ga => Ev.ite (fun _ => Ev.now _) (fun gb => Ev.ite (fun _ => Ev.now _) (fun gm => ?_)))
  have ha : (a.length : Int) ≤ 1048576 := by omega
  have hb : (b.length : Int) ≤ 1048576 := by omega
  have hm : (m.length : Int) ≤ 1048576 := by omega
  have ta := to_ints a ha
  have tb := to_ints b hb
  have tm := to_bools m hm
  obtain ⟨⟨r0, r1⟩, hr, h1, h2⟩ := both a b p m hla hlb
  have hr : (r0.length : Int) ≤ 1048576 := hr
  have he := eq_ints r0 hr
  have hmk := mark_ints r0 (by omega)
  have hh := held_ints r0.length (by omega)
  have ka := mark_ints a (by omega)
  have kb : Ev (fun k => laws_markIntS.f k b (1 + (a.length : Int))) (1 + (a.length : Int) + (b.length : Int), marks b.length (1 + (a.length : Int))) := markInt_ev laws_markIntS.l0 (fun k x c i => laws_markIntS.l0.eq_2 x c i k) (1 + (a.length : Int)) (by omega) b (by omega)
  have km : Ev (fun k => laws_markBoolS.f k m (1 + (a.length : Int) + (b.length : Int))) (1 + (a.length : Int) + (b.length : Int) + (m.length : Int), (marks m.length (1 + (a.length : Int) + (b.length : Int))).map fun c => (Int.tmod c 3) == 0) := mark_ev (fun _ c => some ((Int.tmod c 3) == 0)) (fun c => (Int.tmod c 3) == 0) laws_markBoolS.l0 (fun k x c i => laws_markBoolS.l0.eq_2 x c i k) (fun c _ _ => Ev.now _) (1 + (a.length : Int) + (b.length : Int)) (by omega) m (by omega)
  refine Ev.bind ta (Ev.bind tb (Ev.bind tm (Ev.bind h1 (Ev.bind ta (Ev.bind tb (Ev.bind tm (Ev.bind h2 (Ev.bind he (Ev.pos rfl ?_)))))))))
  refine Ev.step (fun k => laws_FnExactBlendPose.j0.eq_2 _ _ _ _ _ _ _ _ _ _ _ _ k) (Ev.neg (by simp) (Ev.bind ta (Ev.bind (eq_ints a ha) (Ev.pos rfl (Ev.bind tb (Ev.bind (eq_ints b hb) (Ev.pos rfl (Ev.bind tm (Ev.bind (eq_bools m hm) (Ev.pos rfl (Ev.bind ka (Ev.bind kb (Ev.bind km (Ev.neg (by first | (simp; done) | (simp; omega)) (Ev.bind he (Ev.pos rfl ?_))))))))))))))))
  refine Ev.step (fun k => laws_FnExactBlendPose.j1.eq_2 _ _ _ _ _ _ _ _ k) (Ev.neg (by simp) (Ev.bind hmk (Ev.bind hh (Ev.neg (by omega) (Ev.pos rfl (Ev.bind ta (Ev.bind tb (Ev.bind tm (Ev.bind h2 (Ev.bind he (Ev.pos rfl ?_)))))))))))
  exact Ev.step (fun k => laws_FnExactBlendPose.j2.eq_2 _ _ _ k) (Ev.neg (by simp) (Ev.bind hh (Ev.neg (by omega) (Ev.pos rfl (Ev.now _)))))

end Go.Proofs.Ytjaljjdmolhhpaa.Pure
