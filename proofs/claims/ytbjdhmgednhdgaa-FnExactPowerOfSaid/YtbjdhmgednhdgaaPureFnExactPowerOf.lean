import Derived.Test.YtbjdhmgednhdgaaXFnExactPowerOfx2
import Derived.Test.YtbjdhmgednhdgaaXLibPowerOf
namespace Go.Proofs.Ytbjdhmgednhdgaa.Pure
open Go.RowKit Go.Proofs.Ytbjdhmgednhdgaa.XFnExactPowerOf Go.Proofs.YtbjdhmgednhdgaaW.PrintWords Go.Proofs.YtbjdhmgednhdgaaW.PrintLast Go.Proofs.YtbjdhmgednhdgaaW.PrintMore Go.Proofs.Ytbjdhmgednhdgaa.X
set_option linter.unusedVariables false
set_option linter.unusedSimpArgs false

def fnan (x : Int) : Bool := !feq x.toNat x.toNat
def finf (x : Int) : Bool := fgt (Go.bits .andNot .u64 (x.toNat : Int) 9223372036854775808).toNat 9218868437227405311
def fsign (x : Int) : Bool := decide (wrap64 (x.toNat : Int) < 0)
def ffin (x : Int) : Bool := !fnan x && !finf x
def fgood (x : Int) : Bool := ffin x && !(feq x.toNat 0 && fsign x)
theorem nan_ev (x : Int) : math_IsNaN.f x = some (fnan x) := rfl
theorem inf_ev (x : Int) : math_IsInf.f x 0 = some (finf x) := rfl
theorem sign_ev (x : Int) : math_Signbit.f x = some (fsign x) := rfl
theorem good_spec (x : Int) : spec_GoodReal.f x = some (fgood x) := by
  unfold spec_GoodReal.f fgood ffin
  rw [nan_ev, inf_ev, sign_ev]
  simp only [Option.bind_some]
  cases fnan x <;> cases finf x <;> cases feq x.toNat 0 <;> cases fsign x <;> rfl
theorem finite_ev (l : List Int) (hl : l.length ≤ maxLen) : Ev (fun k => impl_isFinite.f k l) (l.all ffin) := by
  have h := contains_ev (0 : Int) (fun _ z => impl_isFinite_1.f z) (fun z => !ffin z) slices_IndexFunc_float64_float64_at_impl_isFinite_1.l0 (fun k x n i => slices_IndexFunc_float64_float64_at_impl_isFinite_1.l0.eq_2 x n i k) l hl (fun z _ => Ev.mk (fun _ => by
    unfold impl_isFinite_1.f ffin
    rw [nan_ev, inf_ev]
    simp only [Option.bind_some]
    cases fnan z <;> cases finf z <;> rfl))
  unfold impl_isFinite.f
  refine Ev.bind h (Ev.cast (Ev.now _) (any_not ffin l))
theorem good_impl (x : Int) : Ev (fun k => impl_GoodReal.f k x) (fgood x) := by
  have h := finite_ev [x] (show 1 ≤ maxLen by decide)
  unfold impl_GoodReal.f fgood
  refine Ev.bind h ?_
  rw [sign_ev]
  simp only [List.all_cons, List.all_nil, Bool.and_true, Option.bind_some]
  cases ffin x <;> cases feq x.toNat 0 <;> cases fsign x <;> exact Ev.now _
theorem good_list (l : List Int) (hl : l.length ≤ maxLen) : Ev (fun k => impl_areGood.f k l) (l.all fgood) := by
  have h := contains_ev (0 : Int) (fun k z => impl_areGood_1.f k z) (fun z => !fgood z) slices_IndexFunc_float64_float64_at_impl_areGood_1.l0 (fun k x n i => slices_IndexFunc_float64_float64_at_impl_areGood_1.l0.eq_2 x n i k) l hl (fun z _ => by
    unfold impl_areGood_1.f
    exact Ev.bind (good_impl z) (Ev.now _))
  unfold impl_areGood.f
  refine Ev.bind h (Ev.cast (Ev.now _) (any_not fgood l))
-- doubles: which words are finite
theorem fmt_eq : FloatKind.f64.format = Ieee.double := rfl
theorem d_sign : Ieee.double.signWeight = 9223372036854775808 := by decide
theorem d_binade : Ieee.double.binade = 4503599627370496 := by decide
theorem d_inf : Ieee.double.infRung = 9218868437227405312 := by decide
theorem d_least : Ieee.double.leastPlace = -1074 := by decide
theorem read_def (n : Nat) : Ieee.double.read n = if n % 9223372036854775808 < 4503599627370496 then .number (n / 9223372036854775808 % 2 == 1) (n % 9223372036854775808) (-1074) else if n % 9223372036854775808 < 9218868437227405312 then .number (n / 9223372036854775808 % 2 == 1) (4503599627370496 + n % 9223372036854775808 % 4503599627370496) (-1074 + ((n % 9223372036854775808 / 4503599627370496 - 1 : Nat) : Int)) else if n % 9223372036854775808 = 9218868437227405312 then .infinity (n / 9223372036854775808 % 2 == 1) else .nan (n / 9223372036854775808 % 2 == 1) (n % 9223372036854775808 - 9218868437227405312) := by
  unfold Ieee.Format.read
  rw [d_sign, d_binade, d_inf, d_least]
theorem read_num {n : Nat} (h : n % 9223372036854775808 < 9218868437227405312) : ∃ m i, Ieee.double.read n = .number (n / 9223372036854775808 % 2 == 1) m i ∧ m < 9007199254740992 ∧ -1074 ≤ i ∧ i ≤ 971 := by
  rw [read_def]
  split
  · exact ⟨_, _, rfl, by omega, by omega, by omega⟩
  · exact ⟨_, _, rfl, by omega, by omega, by omega⟩
theorem read_inf {n : Nat} (h : n % 9223372036854775808 = 9218868437227405312) : Ieee.double.read n = .infinity (n / 9223372036854775808 % 2 == 1) := by
  rw [read_def, if_neg (by omega), if_neg (by omega), if_pos h]
theorem read_nan {n : Nat} (h : 9218868437227405312 < n % 9223372036854775808) : ∃ s f, Ieee.double.read n = .nan s f := by
  rw [read_def, if_neg (by omega), if_neg (by omega), if_neg (by omega)]
  exact ⟨_, _, rfl⟩
theorem feq_def (a b : Nat) : feq a b = ((Ieee.double.read a).order (Ieee.double.read b) == some .eq) := rfl
theorem fgt_def (a b : Nat) : fgt a b = ((Ieee.double.read a).order (Ieee.double.read b) == some .gt) := rfl
theorem feq_self (n : Nat) : feq n n = decide (n % 9223372036854775808 ≤ 9218868437227405312) := by
  rw [feq_def]
  rcases Nat.lt_trichotomy (n % 9223372036854775808) 9218868437227405312 with h | h | h
  · obtain ⟨m, i, e, _⟩ := read_num h
    rw [e, decide_eq_true (by omega)]
    simp [Ieee.Datum.order]
  · rw [read_inf h, decide_eq_true (by omega)]
    simp [Ieee.Datum.order]
  · obtain ⟨s, f, e⟩ := read_nan h
    rw [e, decide_eq_false (by omega)]
    rfl
theorem not63 (n : Nat) (h : n < 18446744073709551616) : (Go.bits .andNot .u64 (n : Int) 9223372036854775808).toNat = n % 9223372036854775808 := by
  unfold Go.bits
  have e : ((BitVec.ofInt IntKind.u64.bits (n : Int)) &&& ~~~ (BitVec.ofInt IntKind.u64.bits 9223372036854775808)).toNat = n % 9223372036854775808 := by
    rw [BitVec.toNat_and, BitVec.toNat_not, BitVec.toNat_ofInt, BitVec.toNat_ofInt]
    have e1 : ((n : Int) % ((2 ^ IntKind.u64.bits : Nat) : Int)).toNat = n := by
      simp [IntKind.bits]; omega
    have e2 : 2 ^ IntKind.u64.bits - 1 - ((9223372036854775808 : Int) % ((2 ^ IntKind.u64.bits : Nat) : Int)).toNat = 2 ^ 63 - 1 := by decide
    rw [e1, e2, Nat.and_two_pow_sub_one_eq_mod]
  show (IntKind.u64.wrap _).toNat = _
  rw [e]
  simp [IntKind.wrap, IntKind.bits, IntKind.signed]
  omega
theorem int_le_gt {a b : Int} (h : a ≤ b) : (some (compare a b) == some Ordering.gt) = false := by
  show (some (compareOfLessAndEq a b) == some Ordering.gt) = false
  unfold compareOfLessAndEq
  split
  · rfl
  · rw [if_pos (by omega)]
    rfl
theorem fgt_max (r : Nat) (h : r < 9223372036854775808) : fgt r 9218868437227405311 = decide (r = 9218868437227405312) := by
  rw [fgt_def]
  have em : r % 9223372036854775808 = r := Nat.mod_eq_of_lt h
  have emax : Ieee.double.read 9218868437227405311 = .number false 9007199254740991 971 := by decide
  rw [emax]
  rcases Nat.lt_trichotomy r 9218868437227405312 with g | g | g
  · obtain ⟨m, i, e, h1, h2, h3⟩ := read_num (n := r) (by omega)
    have hs : (r / 9223372036854775808 % 2 == 1) = false := by
      rw [Nat.div_eq_of_lt h]
      rfl
    rw [e, hs, decide_eq_false (by omega)]
    unfold Ieee.Datum.order
    simp only
    apply int_le_gt
    unfold Ieee.signed
    rw [if_neg (by decide), if_neg (by decide), show min i 971 = i by omega, show (i - i).toNat = 0 by omega, Nat.shiftLeft_zero, Nat.shiftLeft_eq]
    have hp : 1 ≤ 2 ^ (971 - i).toNat := Nat.one_le_two_pow
    have : 9007199254740991 * 1 ≤ 9007199254740991 * 2 ^ (971 - i).toNat := Nat.mul_le_mul_left _ hp
    omega
  · rw [read_inf (by omega), decide_eq_true g]
    have hs : (r / 9223372036854775808 % 2 == 1) = false := by
      rw [Nat.div_eq_of_lt h]
      rfl
    rw [hs]
    rfl
  · obtain ⟨s, f, e⟩ := read_nan (n := r) (by omega)
    rw [e, decide_eq_false (by omega)]
    rfl
theorem fin_iff (x : Int) (h : x.toNat < 18446744073709551616) : ffin x = decide (x.toNat % 9223372036854775808 < 9218868437227405312) := by
  unfold ffin fnan finf
  rw [feq_self, not63 _ h, fgt_max _ (by omega)]
  rcases Nat.lt_trichotomy (x.toNat % 9223372036854775808) 9218868437227405312 with g | g | g
  · rw [decide_eq_true (by omega), decide_eq_false (by omega), decide_eq_true g]
    rfl
  · rw [decide_eq_true (by omega), decide_eq_true g, decide_eq_false (by omega)]
    rfl
  · rw [decide_eq_false (by omega), decide_eq_false (by omega), decide_eq_false (by omega)]
    rfl
theorem word_lt (s : Bool) {r : Nat} (h : r < 9223372036854775808) : Ieee.double.word s r < 18446744073709551616 := by
  unfold Ieee.Format.word
  rw [d_sign]
  split <;> omega
theorem nearest_word (s : Bool) (m : Nat) (i : Int) : ∃ r, r ≤ 9218868437227405312 ∧ Ieee.double.nearest s m i = Ieee.double.word s r := by
  unfold Ieee.Format.nearest
  split
  · exact ⟨0, by omega, rfl⟩
  · rw [d_inf]
    exact ⟨_, Nat.min_le_right _ _, rfl⟩
theorem write_lt (d : Ieee.Datum) : Ieee.double.write d < 18446744073709551616 := by
  cases d with
  | number s m i =>
    obtain ⟨r, hr, e⟩ := nearest_word s m i
    show Ieee.double.nearest s m i < _
    rw [e]
    exact word_lt s (by omega)
  | infinity s =>
    show Ieee.double.word s Ieee.double.infRung < _
    rw [d_inf]
    exact word_lt s (by omega)
  | nan s f =>
    show Ieee.double.word s (Ieee.double.infRung + f % Ieee.double.binade) < _
    rw [d_inf, d_binade]
    exact word_lt s (by omega)
theorem op_lt (o : Option Ieee.Datum) : ((o.map Ieee.double.write).getD 0) < 18446744073709551616 := by
  cases o with
  | none => decide
  | some d => exact write_lt d
theorem fmul_lt (a b : Nat) : (fmul a b).toNat < 18446744073709551616 := by
  unfold fmul
  rw [Int.toNat_natCast]
  exact op_lt _
theorem fadd_lt (a b : Nat) : (fadd a b).toNat < 18446744073709551616 := by
  unfold fadd
  rw [Int.toNat_natCast]
  exact op_lt _
theorem mul_fin {a b : Nat} (ha : a % 9223372036854775808 < 9218868437227405312) (hb : b % 9223372036854775808 < 9218868437227405312) : fmulOk a b = true := by
  obtain ⟨m, i, e, _⟩ := read_num ha
  obtain ⟨n, j, e2, _⟩ := read_num hb
  show (((Ieee.double.read a).product (Ieee.double.read b)).map Ieee.double.write).isSome = true
  rw [e, e2]
  rfl
theorem square_pos {a : Nat} (ha : a % 9223372036854775808 < 9218868437227405312) : (fmul a a).toNat ≤ 9218868437227405312 := by
  obtain ⟨m, i, e, _⟩ := read_num ha
  unfold fmul
  rw [Int.toNat_natCast]
  show (((Ieee.double.read a).product (Ieee.double.read a)).map Ieee.double.write).getD 0 ≤ _
  rw [e]
  show Ieee.double.nearest ((a / 9223372036854775808 % 2 == 1) ^^ (a / 9223372036854775808 % 2 == 1)) (m * m) (i + i) ≤ _
  rw [Bool.xor_self]
  obtain ⟨r, hr, e2⟩ := nearest_word false (m * m) (i + i)
  rw [e2]
  exact hr
theorem read_pos {p : Nat} (h : p ≤ 9218868437227405312) : (p = 9218868437227405312 ∧ Ieee.double.read p = .infinity false) ∨ (p < 9218868437227405312 ∧ ∃ m i, Ieee.double.read p = .number false m i) := by
  have hs : (p / 9223372036854775808 % 2 == 1) = false := by
    rw [Nat.div_eq_of_lt (by omega)]
    rfl
  by_cases g : p = 9218868437227405312
  · left
    rw [read_inf (by omega), hs]
    exact ⟨g, rfl⟩
  · right
    obtain ⟨m, i, e, _⟩ := read_num (n := p) (by omega)
    exact ⟨by omega, m, i, by rw [e, hs]⟩
theorem write_inf : Ieee.double.write (.infinity false) = 9218868437227405312 := by
  show Ieee.double.word false Ieee.double.infRung = _
  rw [d_inf]
  rfl
theorem add_def (p q : Nat) : FloatKind.f64.format.add p q = ((Ieee.double.read p).sum (Ieee.double.read q)).map Ieee.double.write := rfl
theorem add_pos {p q : Nat} (hp : p ≤ 9218868437227405312) (hq : q ≤ 9218868437227405312) : faddOk p q = true ∧ (p = 9218868437227405312 ∨ q = 9218868437227405312 → (fadd p q).toNat = 9218868437227405312) := by
  unfold faddOk fadd
  rw [Int.toNat_natCast, add_def]
  have si : ∀ d : Ieee.Datum, (∃ m i, d = .number false m i) ∨ d = .infinity false → (Ieee.Datum.infinity false).sum d = some (.infinity false) ∧ d.sum (Ieee.Datum.infinity false) = some (.infinity false) := fun d h => by
    rcases h with ⟨m, i, rfl⟩ | rfl <;> simp [Ieee.Datum.sum]
  rcases read_pos hp with ⟨g, e⟩ | ⟨g, m, i, e⟩
  · have h2 : (∃ m i, Ieee.double.read q = .number false m i) ∨ Ieee.double.read q = .infinity false := by
      rcases read_pos hq with ⟨_, e2⟩ | ⟨_, n, j, e2⟩
      · exact Or.inr e2
      · exact Or.inl ⟨n, j, e2⟩
    rw [e, (si _ h2).1, Option.map_some, Option.getD_some, write_inf]
    exact ⟨Option.isSome_some, fun _ => Eq.refl _⟩
  · rcases read_pos hq with ⟨g2, e2⟩ | ⟨g2, n, j, e2⟩
    · rw [e2, (si _ (Or.inl ⟨m, i, e⟩)).2, Option.map_some, Option.getD_some, write_inf]
      exact ⟨Option.isSome_some, fun _ => Eq.refl _⟩
    · refine ⟨?_, fun h => by omega⟩
      rw [e, e2]
      simp only [Ieee.Datum.sum, Option.map_some, Option.isSome_some]
theorem finite_spec (x : Int) : spec_l2Finite.f x = some (ffin x) := by
  unfold spec_l2Finite.f ffin
  rw [nan_ev, inf_ev]
  simp only [Option.bind_some]
  cases fnan x <;> rfl
theorem good_fin {x : Int} (h : fgood x = true) : ffin x = true := by
  unfold fgood at h
  cases hf : ffin x with
  | true => rfl
  | false =>
    rw [hf] at h
    simp at h
theorem turn_impl (x y : Int) : Ev (fun k => impl_areTurns.f k [(⟨x, y⟩ : S33)]) (fgood x && fgood y) := by
  have h := contains_ev z33 (fun k z => impl_areTurns_1.f k z.f0 z.f1) (fun z => !(fgood z.f0 && fgood z.f1)) slices_IndexFunc_impl_Turn_impl_Turn_at_impl_areTurns_1.l0 (fun k x n i => slices_IndexFunc_impl_Turn_impl_Turn_at_impl_areTurns_1.l0.eq_2 x n i k) [(⟨x, y⟩ : S33)] (show 1 ≤ maxLen by decide) (fun z _ => by
    unfold impl_areTurns_1.f
    refine Ev.bind (good_list [z.f0, z.f1] (show 2 ≤ maxLen by decide)) (Ev.cast (Ev.now _) ?_)
    simp only [List.all_cons, List.all_nil, Bool.and_true])
  unfold impl_areTurns.f
  refine Ev.bind h (Ev.cast (Ev.now _) ?_)
  simp only [List.any_cons, List.any_nil, Bool.or_false, Bool.not_not]
theorem same_ev (r : Int) (h : r.toNat % 9223372036854775808 < 9218868437227405312) : Ev (fun k => laws_sameFloat.f k r r) true := by
  have hs : feq r.toNat r.toNat = true := by
    rw [feq_self]
    exact decide_eq_true (by omega)
  have hd : fdivOk 4607182418800017408 r.toNat = true := by
    obtain ⟨m, i, e, _⟩ := read_num h
    have e1 : Ieee.double.read 4607182418800017408 = .number false 4503599627370496 (-52) := by decide
    show (((Ieee.double.read 4607182418800017408).quotient (Ieee.double.fractionBits + 2) (Ieee.double.read r.toNat)).map Ieee.double.write).isSome = true
    rw [e, e1]
    unfold Ieee.Datum.quotient
    simp only
    by_cases c : m = 0
    · rw [if_pos c]
      rfl
    · rw [if_neg c]
      rfl
  unfold laws_sameFloat.f
  rw [hs]
  refine Ev.neg (by decide) (Ev.step (fun k => laws_sameFloat.j0.eq_2 _ _ _ k) (Ev.neg (by decide) ?_))
  rw [hs]
  exact Ev.ite (fun h0 => Ev.pos h0 (Ev.pos hd (Ev.pos hd (Ev.cast (Ev.now _) (by simp))))) (fun _ => Ev.now _)
theorem FnExactPowerOf : laws_FnExactPowerOf.Pure := by
  intro x y hx hy
  refine Ev.rounds (r := true) ?_
  unfold laws_FnExactPowerOf.f laws_toTurn.f
  simp only [Option.bind_some]
  suffices h : ∃ r : Int × Bool, r.1.toNat % 9223372036854775808 < 9218868437227405312 ∧ spec_PowerOf.f x y = some r ∧ Ev (fun k => impl_PowerOf.f k x y) r by
    obtain ⟨r, hr, h1, h2⟩ := h
    rw [h1]
    exact Ev.some_bind (Ev.bind h2 (Ev.bind (same_ev r.1 hr) (Ev.pos rfl (Ev.pos rfl (Ev.now _)))))
  have hg : spec_l2Good.f x y = some (fgood x && fgood y) := by
    unfold spec_l2Good.f
    rw [good_spec, good_spec]
    simp only [Option.bind_some]
    cases fgood x <;> rfl
  unfold spec_PowerOf.f impl_PowerOf.f
  rw [hg]
  have ht := turn_impl x y
  cases hb : (fgood x && fgood y) with
  | false =>
    rw [hb] at ht
    exact ⟨(0, false), by decide, rfl, Ev.bind ht (Ev.neg (by decide) (Ev.now _))⟩
  | true =>
    rw [hb] at ht
    rw [Bool.and_eq_true] at hb
    have wx : x.toNat < 18446744073709551616 := by
      have := of_decide_eq_true hx
      exact this
    have wy : y.toNat < 18446744073709551616 := by
      have := of_decide_eq_true hy
      exact this
    have fx := good_fin hb.1
    have fy := good_fin hb.2
    rw [fin_iff x wx] at fx
    rw [fin_iff y wy] at fy
    have fx := of_decide_eq_true fx
    have fy := of_decide_eq_true fy
    have px := square_pos fx
    have py := square_pos fy
    have ox := mul_fin fx fx
    have oy := mul_fin fy fy
    have lx := fmul_lt x.toNat x.toNat
    have ly := fmul_lt y.toNat y.toNat
    generalize fmul x.toNat x.toNat = p at *
    generalize fmul y.toNat y.toNat = q at *
    obtain ⟨oa, hi⟩ := add_pos px py
    have la := fadd_lt p.toNat q.toNat
    have hf := finite_ev [p, q, fadd p.toNat q.toNat] (show 3 ≤ maxLen by decide)
    generalize fadd p.toNat q.toNat = s at *
    have hall : [p, q, s].all ffin = ffin s := by
      simp only [List.all_cons, List.all_nil, Bool.and_true]
      cases hs : ffin s with
      | false => simp
      | true =>
        rw [fin_iff s la] at hs
        have hs := of_decide_eq_true hs
        have h1 : ffin p = true := by
          rw [fin_iff p lx]
          exact decide_eq_true (by omega)
        have h2 : ffin q = true := by
          rw [fin_iff q ly]
          exact decide_eq_true (by omega)
        rw [h1, h2]
        rfl
    rw [hall] at hf
    simp only [Option.bind_some, if_true, if_pos ox, if_pos oy, if_pos oa, finite_spec]
    cases hs : ffin s with
    | false =>
      rw [hs] at hf
      refine ⟨(0, false), by decide, rfl, Ev.bind ht (Ev.pos rfl ?_)⟩
      exact Ev.bind hf (Ev.neg (by decide) (Ev.now _))
    | true =>
      rw [hs] at hf
      have hs2 := hs
      rw [fin_iff s la] at hs2
      have hs2 := of_decide_eq_true hs2
      refine ⟨(if feq s.toNat 0 = true then 0 else s, true), ?_, ?_, Ev.bind ht (Ev.pos rfl ?_)⟩
      · simp only
        split
        · decide
        · exact hs2
      · rw [if_pos rfl]
        unfold spec_l2Plain.f
        split <;> rfl
      · refine Ev.bind hf (Ev.pos rfl ?_)
        unfold impl_plain.f
        split <;> exact Ev.now _

end Go.Proofs.Ytbjdhmgednhdgaa.Pure
