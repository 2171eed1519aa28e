import Derived.Test.YtbjdhmgednhdgaaXFnExactSpectrumx4
import Derived.Test.YtbjdhmgednhdgaaXLibSpectrum
namespace Go.Proofs.Ytbjdhmgednhdgaa.Pure
open Go.RowKit Go.Proofs.Ytbjdhmgednhdgaa.XFnExactSpectrum Go.Proofs.YtbjdhmgednhdgaaW.PrintWords Go.Proofs.YtbjdhmgednhdgaaW.PrintLast Go.Proofs.YtbjdhmgednhdgaaW.PrintMore Go.Proofs.Ytbjdhmgednhdgaa.X
set_option linter.unusedVariables false
set_option linter.unusedSimpArgs false

def fnan (x : Int) : Bool := !feq x.toNat x.toNat
def finf (x : Int) : Bool := fgt (Go.bits .andNot .u64 (x.toNat : Int) 9223372036854775808).toNat 9218868437227405311
def fsign (x : Int) : Bool := decide (wrap64 (x.toNat : Int) < 0)
def ffin (x : Int) : Bool := !fnan x && !finf x
def fgood (x : Int) : Bool := ffin x && !(feq x.toNat 0 && fsign x)
theorem nan_ev (x : Int) : math_IsNaN.f x = some (fnan x) := rfl
theorem inf_ev (x : Int) : math_IsInf.f x 0 = some (finf x) := rfl
theorem sign_ev (x : Int) : math_Signbit.f x = some (fsign x) := rfl
theorem good_spec (x : Int) : spec_GoodReal.f x = some (fgood x) := by
  unfold spec_GoodReal.f fgood ffin
  rw [nan_ev, inf_ev, sign_ev]
  simp only [Option.bind_some]
  cases fnan x <;> cases finf x <;> cases feq x.toNat 0 <;> cases fsign x <;> rfl
theorem finite_ev (l : List Int) (hl : l.length ≤ maxLen) : Ev (fun k => impl_isFinite.f k l) (l.all ffin) := by
  have h := contains_ev (0 : Int) (fun _ z => impl_isFinite_1.f z) (fun z => !ffin z) slices_IndexFunc_float64_float64_at_impl_isFinite_1.l0 (fun k x n i => slices_IndexFunc_float64_float64_at_impl_isFinite_1.l0.eq_2 x n i k) l hl (fun z _ => Ev.mk (fun _ => by
    unfold impl_isFinite_1.f ffin
    rw [nan_ev, inf_ev]
    simp only [Option.bind_some]
    cases fnan z <;> cases finf z <;> rfl))
  unfold impl_isFinite.f
  refine Ev.bind h (Ev.cast (Ev.now _) (any_not ffin l))
theorem good_impl (x : Int) : Ev (fun k => impl_GoodReal.f k x) (fgood x) := by
  have h := finite_ev [x] (show 1 ≤ maxLen by decide)
  unfold impl_GoodReal.f fgood
  refine Ev.bind h ?_
  rw [sign_ev]
  simp only [List.all_cons, List.all_nil, Bool.and_true, Option.bind_some]
  cases ffin x <;> cases feq x.toNat 0 <;> cases fsign x <;> exact Ev.now _
theorem good_list (l : List Int) (hl : l.length ≤ maxLen) : Ev (fun k => impl_areGood.f k l) (l.all fgood) := by
  have h := contains_ev (0 : Int) (fun k z => impl_areGood_1.f k z) (fun z => !fgood z) slices_IndexFunc_float64_float64_at_impl_areGood_1.l0 (fun k x n i => slices_IndexFunc_float64_float64_at_impl_areGood_1.l0.eq_2 x n i k) l hl (fun z _ => by
    unfold impl_areGood_1.f
    exact Ev.bind (good_impl z) (Ev.now _))
  unfold impl_areGood.f
  refine Ev.bind h (Ev.cast (Ev.now _) (any_not fgood l))
-- doubles: which words are finite
theorem fmt_eq : FloatKind.f64.format = Ieee.double := rfl
theorem d_sign : Ieee.double.signWeight = 9223372036854775808 := by decide
theorem d_binade : Ieee.double.binade = 4503599627370496 := by decide
theorem d_inf : Ieee.double.infRung = 9218868437227405312 := by decide
theorem d_least : Ieee.double.leastPlace = -1074 := by decide
theorem read_def (n : Nat) : Ieee.double.read n = if n % 9223372036854775808 < 4503599627370496 then .number (n / 9223372036854775808 % 2 == 1) (n % 9223372036854775808) (-1074) else if n % 9223372036854775808 < 9218868437227405312 then .number (n / 9223372036854775808 % 2 == 1) (4503599627370496 + n % 9223372036854775808 % 4503599627370496) (-1074 + ((n % 9223372036854775808 / 4503599627370496 - 1 : Nat) : Int)) else if n % 9223372036854775808 = 9218868437227405312 then .infinity (n / 9223372036854775808 % 2 == 1) else .nan (n / 9223372036854775808 % 2 == 1) (n % 9223372036854775808 - 9218868437227405312) := by
  unfold Ieee.Format.read
  rw [d_sign, d_binade, d_inf, d_least]
theorem read_num {n : Nat} (h : n % 9223372036854775808 < 9218868437227405312) : ∃ m i, Ieee.double.read n = .number (n / 9223372036854775808 % 2 == 1) m i ∧ m < 9007199254740992 ∧ -1074 ≤ i ∧ i ≤ 971 := by
  rw [read_def]
  split
  · exact ⟨_, _, rfl, by omega, by omega, by omega⟩
  · exact ⟨_, _, rfl, by omega, by omega, by omega⟩
theorem read_inf {n : Nat} (h : n % 9223372036854775808 = 9218868437227405312) : Ieee.double.read n = .infinity (n / 9223372036854775808 % 2 == 1) := by
  rw [read_def, if_neg (by omega), if_neg (by omega), if_pos h]
theorem read_nan {n : Nat} (h : 9218868437227405312 < n % 9223372036854775808) : ∃ s f, Ieee.double.read n = .nan s f := by
  rw [read_def, if_neg (by omega), if_neg (by omega), if_neg (by omega)]
  exact ⟨_, _, rfl⟩
theorem feq_def (a b : Nat) : feq a b = ((Ieee.double.read a).order (Ieee.double.read b) == some .eq) := rfl
theorem fgt_def (a b : Nat) : fgt a b = ((Ieee.double.read a).order (Ieee.double.read b) == some .gt) := rfl
theorem feq_self (n : Nat) : feq n n = decide (n % 9223372036854775808 ≤ 9218868437227405312) := by
  rw [feq_def]
  rcases Nat.lt_trichotomy (n % 9223372036854775808) 9218868437227405312 with h | h | h
  · obtain ⟨m, i, e, _⟩ := read_num h
    rw [e, decide_eq_true (by omega)]
    simp [Ieee.Datum.order]
  · rw [read_inf h, decide_eq_true (by omega)]
    simp [Ieee.Datum.order]
  · obtain ⟨s, f, e⟩ := read_nan h
    rw [e, decide_eq_false (by omega)]
    rfl
theorem not63 (n : Nat) (h : n < 18446744073709551616) : (Go.bits .andNot .u64 (n : Int) 9223372036854775808).toNat = n % 9223372036854775808 := by
  unfold Go.bits
  have e : ((BitVec.ofInt IntKind.u64.bits (n : Int)) &&& ~~~ (BitVec.ofInt IntKind.u64.bits 9223372036854775808)).toNat = n % 9223372036854775808 := by
    rw [BitVec.toNat_and, BitVec.toNat_not, BitVec.toNat_ofInt, BitVec.toNat_ofInt]
    have e1 : ((n : Int) % ((2 ^ IntKind.u64.bits : Nat) : Int)).toNat = n := by
      simp [IntKind.bits]; omega
    have e2 : 2 ^ IntKind.u64.bits - 1 - ((9223372036854775808 : Int) % ((2 ^ IntKind.u64.bits : Nat) : Int)).toNat = 2 ^ 63 - 1 := by decide
    rw [e1, e2, Nat.and_two_pow_sub_one_eq_mod]
  show (IntKind.u64.wrap _).toNat = _
  rw [e]
  simp [IntKind.wrap, IntKind.bits, IntKind.signed]
  omega
theorem int_le_gt {a b : Int} (h : a ≤ b) : (some (compare a b) == some Ordering.gt) = false := by
  show (some (compareOfLessAndEq a b) == some Ordering.gt) = false
  unfold compareOfLessAndEq
  split
  · rfl
  · rw [if_pos (by omega)]
    rfl
theorem fgt_max (r : Nat) (h : r < 9223372036854775808) : fgt r 9218868437227405311 = decide (r = 9218868437227405312) := by
  rw [fgt_def]
  have em : r % 9223372036854775808 = r := Nat.mod_eq_of_lt h
  have emax : Ieee.double.read 9218868437227405311 = .number false 9007199254740991 971 := by decide
  rw [emax]
  rcases Nat.lt_trichotomy r 9218868437227405312 with g | g | g
  · obtain ⟨m, i, e, h1, h2, h3⟩ := read_num (n := r) (by omega)
    have hs : (r / 9223372036854775808 % 2 == 1) = false := by
      rw [Nat.div_eq_of_lt h]
      rfl
    rw [e, hs, decide_eq_false (by omega)]
    unfold Ieee.Datum.order
    simp only
    apply int_le_gt
    unfold Ieee.signed
    rw [if_neg (by decide), if_neg (by decide), show min i 971 = i by omega, show (i - i).toNat = 0 by omega, Nat.shiftLeft_zero, Nat.shiftLeft_eq]
    have hp : 1 ≤ 2 ^ (971 - i).toNat := Nat.one_le_two_pow
    have : 9007199254740991 * 1 ≤ 9007199254740991 * 2 ^ (971 - i).toNat := Nat.mul_le_mul_left _ hp
    omega
  · rw [read_inf (by omega), decide_eq_true g]
    have hs : (r / 9223372036854775808 % 2 == 1) = false := by
      rw [Nat.div_eq_of_lt h]
      rfl
    rw [hs]
    rfl
  · obtain ⟨s, f, e⟩ := read_nan (n := r) (by omega)
    rw [e, decide_eq_false (by omega)]
    rfl
theorem fin_iff (x : Int) (h : x.toNat < 18446744073709551616) : ffin x = decide (x.toNat % 9223372036854775808 < 9218868437227405312) := by
  unfold ffin fnan finf
  rw [feq_self, not63 _ h, fgt_max _ (by omega)]
  rcases Nat.lt_trichotomy (x.toNat % 9223372036854775808) 9218868437227405312 with g | g | g
  · rw [decide_eq_true (by omega), decide_eq_false (by omega), decide_eq_true g]
    rfl
  · rw [decide_eq_true (by omega), decide_eq_true g, decide_eq_false (by omega)]
    rfl
  · rw [decide_eq_false (by omega), decide_eq_false (by omega), decide_eq_false (by omega)]
    rfl
theorem word_lt (s : Bool) {r : Nat} (h : r < 9223372036854775808) : Ieee.double.word s r < 18446744073709551616 := by
  unfold Ieee.Format.word
  rw [d_sign]
  split <;> omega
theorem nearest_word (s : Bool) (m : Nat) (i : Int) : ∃ r, r ≤ 9218868437227405312 ∧ Ieee.double.nearest s m i = Ieee.double.word s r := by
  unfold Ieee.Format.nearest
  split
  · exact ⟨0, by omega, rfl⟩
  · rw [d_inf]
    exact ⟨_, Nat.min_le_right _ _, rfl⟩
theorem write_lt (d : Ieee.Datum) : Ieee.double.write d < 18446744073709551616 := by
  cases d with
  | number s m i =>
    obtain ⟨r, hr, e⟩ := nearest_word s m i
    show Ieee.double.nearest s m i < _
    rw [e]
    exact word_lt s (by omega)
  | infinity s =>
    show Ieee.double.word s Ieee.double.infRung < _
    rw [d_inf]
    exact word_lt s (by omega)
  | nan s f =>
    show Ieee.double.word s (Ieee.double.infRung + f % Ieee.double.binade) < _
    rw [d_inf, d_binade]
    exact word_lt s (by omega)
theorem op_lt (o : Option Ieee.Datum) : ((o.map Ieee.double.write).getD 0) < 18446744073709551616 := by
  cases o with
  | none => decide
  | some d => exact write_lt d
theorem fmul_lt (a b : Nat) : (fmul a b).toNat < 18446744073709551616 := by
  unfold fmul
  rw [Int.toNat_natCast]
  exact op_lt _
theorem fadd_lt (a b : Nat) : (fadd a b).toNat < 18446744073709551616 := by
  unfold fadd
  rw [Int.toNat_natCast]
  exact op_lt _
theorem cut_one (s : Bool) (n : Nat) : Ieee.Toward.even.cut s n 0 = n := by
  have h : (1 <<< min 0 (n.log2 + 2) : Nat) = 1 := by simp
  unfold Ieee.Toward.cut
  rw [h]
  simp [Nat.mod_one]
theorem cut_le (s : Bool) (n d B : Nat) (h : n < B * 2 ^ d) : Ieee.Toward.even.cut s n d ≤ B := by
  unfold Ieee.Toward.cut
  simp only [Nat.shiftLeft_eq, Nat.one_mul]
  have hm : n / 2 ^ min d (n.log2 + 2) < B := by
    by_cases hd : d ≤ n.log2 + 2
    · rw [Nat.min_eq_left hd]
      exact Nat.div_lt_of_lt_mul (by rw [Nat.mul_comm]; exact h)
    · rw [Nat.min_eq_right (by omega)]
      have h1 : n < 2 ^ (n.log2 + 1) := Nat.lt_log2_self
      have h2 : 2 ^ (n.log2 + 1) ≤ 2 ^ (n.log2 + 2) := Nat.pow_le_pow_right (by decide) (by omega)
      rw [Nat.div_eq_of_lt (by omega)]
      rcases Nat.eq_zero_or_pos B with hB | hB
      · rw [hB, Nat.zero_mul] at h
        omega
      · exact hB
  have hb : ∀ b : Bool, b.toNat ≤ 1 := fun b => by cases b <;> decide
  have := hb (decide (2 ^ min d (n.log2 + 2) < 2 * (n % 2 ^ min d (n.log2 + 2))) || (2 ^ min d (n.log2 + 2) == 2 * (n % 2 ^ min d (n.log2 + 2)) && n / 2 ^ min d (n.log2 + 2) % 2 == 1))
  omega
theorem cut_exact (s : Bool) (n d B : Nat) (hd : d ≤ n.log2 + 2) (h : n ≤ B * 2 ^ d) : Ieee.Toward.even.cut s n d ≤ B := by
  by_cases he : n = B * 2 ^ d
  · unfold Ieee.Toward.cut
    simp only [Nat.shiftLeft_eq, Nat.one_mul, Nat.min_eq_left hd]
    have hp : 0 < 2 ^ d := Nat.two_pow_pos d
    have h1 : n / 2 ^ d = B := by rw [he]; exact Nat.mul_div_cancel _ hp
    have h2 : n % 2 ^ d = 0 := by rw [he]; exact Nat.mul_mod_left _ _
    have hz : (2 ^ d == 2 * 0) = false := beq_false_of_ne (by omega)
    have hz2 : decide (2 ^ d < 2 * 0) = false := decide_eq_false (by omega)
    rw [h1, h2, hz, hz2]
    simp
  · exact cut_le s n d B (by omega)
theorem nearest_fin (s : Bool) (mag : Nat) (place : Int) (D : Nat) (h : mag ≤ 9007199254740991 * 2 ^ D) (hp : place + D ≤ 971) : ∃ r, r < 9218868437227405312 ∧ Ieee.double.nearest s mag place = Ieee.double.word s r := by
  unfold Ieee.Format.nearest
  split
  · exact ⟨0, by decide, rfl⟩
  · rename_i h0
    rw [d_least, d_binade, d_inf]
    have hf : ((Ieee.double.fractionBits : Nat) : Int) = 52 := by decide
    rw [hf]
    refine ⟨_, ?_, rfl⟩
    have hlog : mag.log2 ≤ 52 + D := by
      have : mag.log2 < 53 + D := (Nat.log2_lt h0).2 (by
        have e : 2 ^ (53 + D) = 9007199254740992 * 2 ^ D := by rw [Nat.pow_add]
        have hq : 0 < 2 ^ D := Nat.two_pow_pos D
        rw [e]
        omega)
      omega
    have hself : mag < 2 ^ (mag.log2 + 1) := Nat.lt_log2_self
    generalize hL : max (place + (mag.log2 : Int) - 52) (-1074) = last
    have hl1 : last ≤ 971 := by omega
    have hl2 : -1074 ≤ last := by omega
    have hl3 : place + (mag.log2 : Int) - 52 ≤ last := by omega
    have fin : ∀ kept : Nat, kept ≤ 9007199254740992 → (last = 971 → kept ≤ 9007199254740991) → min ((last - -1074).toNat * 4503599627370496 + kept) 9218868437227405312 < 9218868437227405312 := fun kept k1 k2 => by
      refine Nat.lt_of_le_of_lt (Nat.min_le_left _ _) ?_
      by_cases h9 : last = 971
      · have k3 := k2 h9
        rw [show (last - -1074).toNat = 2045 by omega]
        exact Nat.lt_of_le_of_lt (Nat.add_le_add_left k3 _) (by decide)
      · have hA : (last - -1074).toNat ≤ 2044 := by omega
        have hB := Nat.mul_le_mul_right 4503599627370496 hA
        exact Nat.lt_of_le_of_lt (Nat.add_le_add hB k1) (by decide)
    by_cases hc : last ≤ place
    · rw [show (last - place).toNat = 0 by omega, cut_one, Nat.shiftLeft_eq]
      have hk : mag * 2 ^ (place - last).toNat < 9007199254740992 := by
        have h1 : mag * 2 ^ (place - last).toNat < 2 ^ (mag.log2 + 1) * 2 ^ (place - last).toNat := Nat.mul_lt_mul_of_pos_right hself (Nat.two_pow_pos _)
        have h2 : 2 ^ (mag.log2 + 1) * 2 ^ (place - last).toNat = 2 ^ (mag.log2 + 1 + (place - last).toNat) := (Nat.pow_add _ _ _).symm
        have h3 : 2 ^ (mag.log2 + 1 + (place - last).toNat) ≤ 2 ^ 53 := Nat.pow_le_pow_right (by decide) (by omega)
        rw [h2] at h1
        exact Nat.lt_of_lt_of_le h1 h3
      exact fin _ (Nat.le_of_lt hk) (fun _ => Nat.le_of_lt_succ hk)
    · rw [show (place - last).toNat = 0 by omega, Nat.shiftLeft_zero]
      refine fin _ ?_ (fun h9 => ?_)
      · refine cut_le s mag (last - place).toNat 9007199254740992 ?_
        have h3 : 2 ^ (mag.log2 + 1) ≤ 2 ^ 53 * 2 ^ (last - place).toNat := by
          rw [← Nat.pow_add]
          exact Nat.pow_le_pow_right (by decide) (by omega)
        exact Nat.lt_of_lt_of_le hself h3
      · have hlD : mag.log2 = 52 + D ∧ (last - place).toNat = D := by omega
        exact cut_exact s mag (last - place).toNat 9007199254740991 (by omega) (by rw [hlD.2]; exact h)
theorem word_rung (s : Bool) {r : Nat} (h : r < 9223372036854775808) : Ieee.double.word s r % 9223372036854775808 = r := by
  unfold Ieee.Format.word
  rw [d_sign]
  split <;> omega
/-- a weight whose size is one at most -/
def isW (w : Nat) : Prop := ∃ (t : Bool) (n : Nat) (j : Int) (D : Nat), Ieee.double.read w = .number t n j ∧ n ≤ 2 ^ (D : Nat) ∧ j + (D : Int) ≤ 0
theorem mul_def (p q : Nat) : FloatKind.f64.format.mul p q = ((Ieee.double.read p).product (Ieee.double.read q)).map Ieee.double.write := rfl
theorem add_def' (p q : Nat) : FloatKind.f64.format.add p q = ((Ieee.double.read p).sum (Ieee.double.read q)).map Ieee.double.write := rfl
theorem mul_small {v w : Nat} (hv : v % 9223372036854775808 < 9218868437227405312) (hw : isW w) : fmulOk v w = true ∧ (fmul v w).toNat % 9223372036854775808 < 9218868437227405312 := by
  obtain ⟨m, i, e, h1, h2, h3⟩ := read_num hv
  obtain ⟨t, n, j, D, e2, h4, h5⟩ := hw
  unfold fmulOk fmul
  rw [Int.toNat_natCast, mul_def, e, e2]
  have hpr : (Ieee.Datum.number (v / 9223372036854775808 % 2 == 1) m i).product (Ieee.Datum.number t n j) = some (.number ((v / 9223372036854775808 % 2 == 1) ^^ t) (m * n) (i + j)) := rfl
  rw [hpr, Option.map_some, Option.getD_some]
  refine ⟨Option.isSome_some, ?_⟩
  obtain ⟨r, hr, e3⟩ := nearest_fin ((v / 9223372036854775808 % 2 == 1) ^^ t) (m * n) (i + j) D (Nat.mul_le_mul (by omega) h4) (by omega)
  show Ieee.double.nearest _ (m * n) (i + j) % _ < _
  rw [e3, word_rung _ (by omega)]
  exact hr
theorem add_num {a p : Nat} (ha : a % 9223372036854775808 ≤ 9218868437227405312) (hp : p % 9223372036854775808 < 9218868437227405312) : faddOk a p = true ∧ (fadd a p).toNat % 9223372036854775808 ≤ 9218868437227405312 ∧ (a % 9223372036854775808 = 9218868437227405312 → (fadd a p).toNat % 9223372036854775808 = 9218868437227405312) := by
  obtain ⟨n, j, e2, _⟩ := read_num hp
  unfold faddOk fadd
  rw [Int.toNat_natCast, add_def', e2]
  rcases Nat.lt_or_ge (a % 9223372036854775808) 9218868437227405312 with g | g
  · obtain ⟨m, i, e, _⟩ := read_num g
    rw [e]
    simp only [Ieee.Datum.sum, Option.map_some, Option.isSome_some, Option.getD_some]
    refine ⟨trivial, ?_, fun h => by omega⟩
    obtain ⟨r, hr, e3⟩ := nearest_word (if Ieee.signed (a / 9223372036854775808 % 2 == 1) m (i - min i j).toNat + Ieee.signed (p / 9223372036854775808 % 2 == 1) n (j - min i j).toNat = 0 then (a / 9223372036854775808 % 2 == 1) && (p / 9223372036854775808 % 2 == 1) else decide (Ieee.signed (a / 9223372036854775808 % 2 == 1) m (i - min i j).toNat + Ieee.signed (p / 9223372036854775808 % 2 == 1) n (j - min i j).toNat < 0)) (Ieee.signed (a / 9223372036854775808 % 2 == 1) m (i - min i j).toNat + Ieee.signed (p / 9223372036854775808 % 2 == 1) n (j - min i j).toNat).natAbs (min i j)
    show Ieee.double.nearest _ _ _ % _ ≤ _
    rw [e3, word_rung _ (by omega)]
    exact hr
  · rw [read_inf (by omega)]
    have hs : (Ieee.Datum.infinity (a / 9223372036854775808 % 2 == 1)).sum (Ieee.Datum.number (p / 9223372036854775808 % 2 == 1) n j) = some (.infinity (a / 9223372036854775808 % 2 == 1)) := rfl
    have hw : Ieee.double.write (.infinity (a / 9223372036854775808 % 2 == 1)) % 9223372036854775808 = 9218868437227405312 := by
      show Ieee.double.word _ Ieee.double.infRung % _ = _
      rw [d_inf, word_rung _ (by omega)]
    rw [hs, Option.map_some, Option.getD_some]
    exact ⟨Option.isSome_some, by omega, fun _ => hw⟩
theorem finite_spec (x : Int) : spec_l2Finite.f x = some (ffin x) := by
  unfold spec_l2Finite.f ffin
  rw [nan_ev, inf_ev]
  simp only [Option.bind_some]
  cases fnan x <;> rfl
theorem good_fin {x : Int} (h : fgood x = true) : ffin x = true := by
  unfold fgood at h
  cases hf : ffin x with
  | true => rfl
  | false =>
    rw [hf] at h
    simp at h
theorem same_ev (r : Int) : Ev (fun k => laws_sameFloat.f k r r) true := by
  unfold laws_sameFloat.f
  rcases Nat.lt_trichotomy (r.toNat % 9223372036854775808) 9218868437227405312 with h | h | h
  · have hs : feq r.toNat r.toNat = true := by
      rw [feq_self]
      exact decide_eq_true (by omega)
    have hd : fdivOk 4607182418800017408 r.toNat = true := by
      obtain ⟨m, i, e, _⟩ := read_num h
      have e1 : Ieee.double.read 4607182418800017408 = .number false 4503599627370496 (-52) := by decide
      show (((Ieee.double.read 4607182418800017408).quotient (Ieee.double.fractionBits + 2) (Ieee.double.read r.toNat)).map Ieee.double.write).isSome = true
      rw [e, e1]
      unfold Ieee.Datum.quotient
      simp only
      by_cases c : m = 0
      · rw [if_pos c]
        rfl
      · rw [if_neg c]
        rfl
    rw [hs]
    refine Ev.neg (by decide) (Ev.step (fun k => laws_sameFloat.j0.eq_2 _ _ _ k) (Ev.neg (by decide) ?_))
    rw [hs]
    exact Ev.ite (fun h0 => Ev.pos h0 (Ev.pos hd (Ev.pos hd (Ev.cast (Ev.now _) (by simp))))) (fun _ => Ev.now _)
  · have hs : feq r.toNat r.toNat = true := by
      rw [feq_self]
      exact decide_eq_true (by omega)
    have h0 : ¬ feq r.toNat 0 = true := by
      have e1 : Ieee.double.read 0 = .number false 0 (-1074) := by decide
      rw [feq_def, read_inf h, e1]
      cases (r.toNat / 9223372036854775808 % 2 == 1) <;> decide
    rw [hs]
    refine Ev.neg (by decide) (Ev.step (fun k => laws_sameFloat.j0.eq_2 _ _ _ k) (Ev.neg (by decide) ?_))
    rw [hs]
    exact Ev.neg h0 (Ev.now _)
  · have hs : feq r.toNat r.toNat = false := by
      rw [feq_self]
      exact decide_eq_false (by omega)
    rw [hs]
    refine Ev.pos rfl (Ev.step (fun k => laws_sameFloat.j0.eq_2 _ _ _ k) (Ev.pos rfl ?_))
    rw [hs]
    exact Ev.pos rfl (Ev.now _)
abbrev rung (x : Int) : Nat := x.toNat % 9223372036854775808
theorem weight_ok (j : Nat) (h : j < 8) : isW (impl_Spectrum.wre j).toNat ∧ isW (impl_Spectrum.wim j).toNat := by
  have one : isW 4607182418800017408 := ⟨false, 4503599627370496, -52, 52, by decide, by decide, by decide⟩
  have mone : isW 13830554455654793216 := ⟨true, 4503599627370496, -52, 52, by decide, by decide, by decide⟩
  have c : isW 4604544271217802189 := ⟨false, 6369051672525773, -53, 53, by decide, by decide, by decide⟩
  have mc : isW 13827916308072577997 := ⟨true, 6369051672525773, -53, 53, by decide, by decide, by decide⟩
  have z : isW 0 := ⟨false, 0, -1074, 0, by decide, by decide, by decide⟩
  have hj : j = 0 ∨ j = 1 ∨ j = 2 ∨ j = 3 ∨ j = 4 ∨ j = 5 ∨ j = 6 ∨ j = 7 := by omega
  rcases hj with rfl | rfl | rfl | rfl | rfl | rfl | rfl | rfl
  · exact ⟨one, z⟩
  · exact ⟨c, mc⟩
  · exact ⟨z, mone⟩
  · exact ⟨mc, mc⟩
  · exact ⟨mone, z⟩
  · exact ⟨mc, c⟩
  · exact ⟨z, one⟩
  · exact ⟨c, c⟩
theorem weight_spec (k n : Nat) (hk : k < 8) (hn : n < 8) : spec_l16W.f (wrap64 ((k : Int) * (n : Int))) = some (impl_Spectrum.wre (k * n % 8), impl_Spectrum.wim (k * n % 8)) := by
  have hb : k * n ≤ 7 * 7 := Nat.mul_le_mul (by omega) (by omega)
  have hp : (k : Int) * (n : Int) = ((k * n : Nat) : Int) := by simp
  have hm : Int.tmod ((k * n : Nat) : Int) 8 = ((k * n % 8 : Nat) : Int) := by
    rw [Int.tmod_eq_emod_of_nonneg (by omega)]
    omega
  rw [hp, w64 (by omega) (by omega)]
  unfold spec_l16W.f
  rw [hm]
  generalize hj : k * n % 8 = j
  have h : j < 8 := by omega
  have hj : j = 0 ∨ j = 1 ∨ j = 2 ∨ j = 3 ∨ j = 4 ∨ j = 5 ∨ j = 6 ∨ j = 7 := by omega
  rcases hj with rfl | rfl | rfl | rfl | rfl | rfl | rfl | rfl <;> rfl
def pRe (x : List Int) (k n : Nat) : Int := fmul (rd x n).toNat (impl_Spectrum.wre (k * n % 8)).toNat
def pIm (x : List Int) (k n : Nat) : Int := fmul (rd x n).toNat (impl_Spectrum.wim (k * n % 8)).toNat
def acc (x : List Int) (k : Nat) : Nat → Nat → Int → Int → Int × Int
  | 0, _, re, im => (re, im)
  | m + 1, n, re, im => acc x k m (n + 1) (fadd re.toNat (pRe x k n).toNat) (fadd im.toNat (pIm x k n).toNat)
def okX (x : List Int) : Prop := x.length = 8 ∧ ∀ n : Nat, n < 8 → rung (rd x n) < 9218868437227405312
theorem p_ok {x : List Int} (h : okX x) (k n : Nat) (hn : n < 8) : fmulOk (rd x n).toNat (impl_Spectrum.wre (k * n % 8)).toNat = true ∧ fmulOk (rd x n).toNat (impl_Spectrum.wim (k * n % 8)).toNat = true ∧ rung (pRe x k n) < 9218868437227405312 ∧ rung (pIm x k n) < 9218868437227405312 := by
  obtain ⟨w1, w2⟩ := weight_ok (k * n % 8) (by omega)
  obtain ⟨a1, a2⟩ := mul_small (h.2 n hn) w1
  obtain ⟨b1, b2⟩ := mul_small (h.2 n hn) w2
  exact ⟨a1, b1, a2, b2⟩
theorem acc_inf {x : List Int} (h : okX x) (k : Nat) : ∀ (m n : Nat) (re im : Int), n + m = 8 → rung re ≤ 9218868437227405312 → rung im ≤ 9218868437227405312 → rung (acc x k m n re im).1 ≤ 9218868437227405312 ∧ rung (acc x k m n re im).2 ≤ 9218868437227405312 ∧ (rung re = 9218868437227405312 → rung (acc x k m n re im).1 = 9218868437227405312) ∧ (rung im = 9218868437227405312 → rung (acc x k m n re im).2 = 9218868437227405312)
  | 0, n, re, im, hn, h1, h2 => ⟨h1, h2, id, id⟩
  | m + 1, n, re, im, hn, h1, h2 => by
    obtain ⟨_, _, p1, p2⟩ := p_ok h k n (by omega)
    obtain ⟨_, a1, a2⟩ := add_num h1 p1
    obtain ⟨_, b1, b2⟩ := add_num h2 p2
    obtain ⟨i1, i2, i3, i4⟩ := acc_inf h k m (n + 1) (fadd re.toNat (pRe x k n).toNat) (fadd im.toNat (pIm x k n).toNat) (by omega) a1 b1
    exact ⟨i1, i2, fun e => i3 (a2 e), fun e => i4 (b2 e)⟩
theorem spec_inner {x : List Int} (h : okX x) (k : Nat) (hk : k < 8) (o : List S33) (r : List S33 × Bool) : ∀ (m n : Nat) (re im : Int), n + m = 8 → rung re ≤ 9218868437227405312 → rung im ≤ 9218868437227405312 → Ev (fun K => spec_Spectrum.l1 K x o (k : Int) (acc x k m n re im).1 (acc x k m n re im).2 x (x.length : Int) ((8 : Nat) : Int)) r → Ev (fun K => spec_Spectrum.l1 K x o (k : Int) re im x (x.length : Int) (n : Int)) r
  | 0, n, re, im, hn, h1, h2, he => by
    have e : n = 8 := by omega
    rw [e]
    exact he
  | m + 1, n, re, im, hn, h1, h2, he => by
    obtain ⟨q1, q2, p1, p2⟩ := p_ok h k n (by omega)
    obtain ⟨a0, a1, a2⟩ := add_num h1 p1
    obtain ⟨b0, b1, b2⟩ := add_num h2 p2
    have hl := h.1
    refine Ev.step (fun K => spec_Spectrum.l1.eq_2 _ _ _ _ _ _ _ _ K) (Ev.pos (by omega) (Ev.pos (by omega) (Ev.pos (by omega) ?_)))
    rw [weight_spec k n hk (by omega)]
    refine Ev.some_bind (Ev.pos q1 (Ev.pos q2 (Ev.pos a0 (Ev.pos b0 ?_))))
    rw [w_succ (by omega)]
    exact spec_inner h k hk o r m (n + 1) _ _ (by omega) a1 b1 he
def good2 (p : Int × Int) : Bool := ffin p.1 && ffin p.2
theorem fin_rung {x : Int} (h : x.toNat < 18446744073709551616) (hx : rung x ≤ 9218868437227405312) : ffin x = true ↔ ¬ rung x = 9218868437227405312 := by
  rw [fin_iff x h]
  have : rung x = x.toNat % 9223372036854775808 := rfl
  constructor
  · intro q
    have := of_decide_eq_true q
    omega
  · intro q
    exact decide_eq_true (by omega)
theorem impl_inner {x : List Int} (h : okX x) (k : Nat) : ∀ (m n : Nat) (re im : Int), n + m = 8 → rung re < 9218868437227405312 → rung im < 9218868437227405312 → re.toNat < 18446744073709551616 → im.toNat < 18446744073709551616 → (acc x k m n re im).1.toNat < 18446744073709551616 ∧ (acc x k m n re im).2.toNat < 18446744073709551616 ∧ Ev (fun K => impl_Spectrum.inner K x k m n re im) (if good2 (acc x k m n re im) = true then some (acc x k m n re im) else none)
  | 0, n, re, im, hn, h1, h2, l1, l2 => by
    refine ⟨l1, l2, Ev.cast (Ev.now _) ?_⟩
    have g : good2 (re, im) = true := by
      unfold good2
      rw [Bool.and_eq_true]
      exact ⟨(fin_rung l1 (by omega)).2 (by omega), (fin_rung l2 (by omega)).2 (by omega)⟩
    rw [acc, if_pos g]
  | m + 1, n, re, im, hn, h1, h2, l1, l2 => by
    obtain ⟨q1, q2, p1, p2⟩ := p_ok h k n (by omega)
    obtain ⟨a0, a1, a2⟩ := add_num (Nat.le_of_lt h1) p1
    obtain ⟨b0, b1, b2⟩ := add_num (Nat.le_of_lt h2) p2
    have lp1 : (pRe x k n).toNat < 18446744073709551616 := fmul_lt _ _
    have lp2 : (pIm x k n).toNat < 18446744073709551616 := fmul_lt _ _
    have la := fadd_lt re.toNat (pRe x k n).toNat
    have lb := fadd_lt im.toNat (pIm x k n).toNat
    have hf := finite_ev [pRe x k n, pIm x k n, fadd re.toNat (pRe x k n).toNat, fadd im.toNat (pIm x k n).toNat] (show 4 ≤ maxLen by decide)
    have f1 : ffin (pRe x k n) = true := (fin_rung lp1 (by omega)).2 (by omega)
    have f2 : ffin (pIm x k n) = true := (fin_rung lp2 (by omega)).2 (by omega)
    simp only [List.all_cons, List.all_nil, Bool.and_true, f1, f2, Bool.true_and] at hf
    have hm := acc_inf h k m (n + 1) (fadd re.toNat (pRe x k n).toNat) (fadd im.toNat (pIm x k n).toNat) (by omega) a1 b1
    rw [acc]
    have hun : ∀ K, impl_Spectrum.inner K x k (m + 1) n re im = (impl_isFinite.f K [pRe x k n, pIm x k n, fadd re.toNat (pRe x k n).toNat, fadd im.toNat (pIm x k n).toNat]).bind fun t => if t = true then impl_Spectrum.inner K x k m (n + 1) (fadd re.toNat (pRe x k n).toNat) (fadd im.toNat (pIm x k n).toNat) else some none := fun K => by
      rw [impl_Spectrum.inner, if_pos ⟨q1, q2, a0, b0⟩]
      rfl
    cases hg : (ffin (fadd re.toNat (pRe x k n).toNat) && ffin (fadd im.toNat (pIm x k n).toNat)) with
    | true =>
      rw [hg] at hf
      rw [Bool.and_eq_true] at hg
      have g1 := (fin_rung la a1).1 hg.1
      have g2 := (fin_rung lb b1).1 hg.2
      have ih := impl_inner h k m (n + 1) _ _ (by omega) (Nat.lt_of_le_of_ne a1 g1) (Nat.lt_of_le_of_ne b1 g2) la lb
      exact ⟨ih.1, ih.2.1, Ev.congr hun (Ev.bind hf (Ev.pos rfl ih.2.2))⟩
    | false =>
      rw [hg] at hf
      have lim : ∀ (m n : Nat) (re im : Int), re.toNat < 18446744073709551616 → im.toNat < 18446744073709551616 → (acc x k m n re im).1.toNat < 18446744073709551616 ∧ (acc x k m n re im).2.toNat < 18446744073709551616 := fun m => by
        induction m with
        | zero => exact fun n re im a b => ⟨a, b⟩
        | succ m ih => exact fun n re im a b => ih _ _ _ (fadd_lt _ _) (fadd_lt _ _)
      have hl := lim m (n + 1) _ _ la lb
      have hb : ¬ good2 (acc x k m (n + 1) (fadd re.toNat (pRe x k n).toNat) (fadd im.toNat (pIm x k n).toNat)) = true := by
        unfold good2
        rw [Bool.and_eq_true]
        rintro ⟨z1, z2⟩
        have y1 := (fin_rung hl.1 hm.1).1 z1
        have y2 := (fin_rung hl.2 hm.2.1).1 z2
        have u1 : ffin (fadd re.toNat (pRe x k n).toNat) = true := (fin_rung la a1).2 (fun e => y1 (hm.2.2.1 e))
        have u2 : ffin (fadd im.toNat (pIm x k n).toNat) = true := (fin_rung lb b1).2 (fun e => y2 (hm.2.2.2 e))
        rw [u1, u2] at hg
        exact absurd hg (by decide)
      refine ⟨hl.1, hl.2, ?_⟩
      rw [if_neg hb]
      exact Ev.congr hun (Ev.bind hf (Ev.neg (by decide) (Ev.now _)))
theorem plain_both (x : Int) : ∃ r, spec_l2Plain.f x = some r ∧ impl_plain.f x = some r := by
  unfold spec_l2Plain.f impl_plain.f
  split
  · exact ⟨_, rfl, rfl⟩
  · exact ⟨_, rfl, rfl⟩
theorem outer_both {x : List Int} (h : okX x) : ∀ (m k : Nat) (o : List S33), k + m = 8 → o.length ≤ k → Both (fun r => r.1.length ≤ 8) (fun K => spec_Spectrum.l0 K x o (k : Int)) (fun K => impl_Spectrum.outer K x m k o)
  | 0, k, o, hk, ho => by
    refine Both.lstep (fun K => spec_Spectrum.l0.eq_2 _ _ _ K) (Both.lneg (by omega) ?_)
    exact Both.now (o, true) (by simp only; omega)
  | m + 1, k, o, hk, ho => by
    obtain ⟨la, lb, he⟩ := impl_inner h k 8 0 0 0 (by omega) (by decide) (by decide) (by decide) (by decide)
    have hm := acc_inf h k 8 0 0 0 (by omega) (by decide) (by decide)
    have hl := h.1
    cases hg : good2 (acc x k 8 0 0 0) with
    | false =>
      rw [hg, if_neg (by decide)] at he
      refine ⟨([], false), by decide, ?_, ?_⟩
      · refine Ev.step (fun K => spec_Spectrum.l0.eq_2 _ _ _ K) (Ev.pos (by omega) ?_)
        refine spec_inner h k (by omega) o _ 8 0 0 0 (by omega) (by decide) (by decide) ?_
        refine Ev.step (fun K => spec_Spectrum.l1.eq_2 _ _ _ _ _ _ _ _ K) (Ev.neg (by omega) ?_)
        have ht : Ev (fun K => spec_l2Turn.f K (acc x k 8 0 0 0).1 (acc x k 8 0 0 0).2) (0, 0, false) := by
          unfold spec_l2Turn.f
          rw [finite_spec, finite_spec]
          unfold good2 at hg
          refine Ev.some_bind (Ev.ite (fun c => Ev.some_bind ?_) (fun c => ?_))
          · rw [c, Bool.true_and] at hg
            rw [hg]
            exact Ev.step (fun K => spec_l2Turn.j0.eq_2 _ _ _ K) (Ev.pos rfl (Ev.now _))
          · exact Ev.step (fun K => spec_l2Turn.j0.eq_2 _ _ _ K) (Ev.pos rfl (Ev.now _))
        exact Ev.bind ht (Ev.neg (by decide) (Ev.now _))
      · rw [show (fun K => impl_Spectrum.outer K x (m + 1) k o) = fun K => (impl_Spectrum.inner K x k 8 0 0 0).bind fun r => match r with
          | none => some ([], false)
          | some p => (impl_plain.f p.1).bind fun a => (impl_plain.f p.2).bind fun b => impl_Spectrum.outer K x m (k + 1) (o ++ [(⟨a, b⟩ : S33)]) from rfl]
        exact Ev.bind he (Ev.now _)
    | true =>
      rw [hg, if_pos rfl] at he
      obtain ⟨a, sa, ia⟩ := plain_both (acc x k 8 0 0 0).1
      obtain ⟨b, sb, ib⟩ := plain_both (acc x k 8 0 0 0).2
      obtain ⟨r, hr, e1, e2⟩ := outer_both h m (k + 1) (o ++ [(⟨a, b⟩ : S33)]) (by omega) (by rw [List.length_append, List.length_singleton]; omega)
      refine ⟨r, hr, ?_, ?_⟩
      · refine Ev.step (fun K => spec_Spectrum.l0.eq_2 _ _ _ K) (Ev.pos (by omega) ?_)
        refine spec_inner h k (by omega) o _ 8 0 0 0 (by omega) (by decide) (by decide) ?_
        refine Ev.step (fun K => spec_Spectrum.l1.eq_2 _ _ _ _ _ _ _ _ K) (Ev.neg (by omega) ?_)
        have ht : Ev (fun K => spec_l2Turn.f K (acc x k 8 0 0 0).1 (acc x k 8 0 0 0).2) (a, b, true) := by
          unfold spec_l2Turn.f
          rw [finite_spec, finite_spec]
          unfold good2 at hg
          rw [Bool.and_eq_true] at hg
          rw [hg.1, hg.2]
          refine Ev.some_bind (Ev.pos rfl (Ev.some_bind (Ev.step (fun K => spec_l2Turn.j0.eq_2 _ _ _ K) (Ev.neg (by decide) ?_))))
          rw [sa, sb]
          exact Ev.now _
        refine Ev.bind ht (Ev.pos rfl (Ev.pos (by omega) ?_))
        rw [w_succ (by omega)]
        exact e1
      · rw [show (fun K => impl_Spectrum.outer K x (m + 1) k o) = fun K => (impl_Spectrum.inner K x k 8 0 0 0).bind fun r => match r with
          | none => some ([], false)
          | some p => (impl_plain.f p.1).bind fun a => (impl_plain.f p.2).bind fun b => impl_Spectrum.outer K x m (k + 1) (o ++ [(⟨a, b⟩ : S33)]) from rfl]
        refine Ev.bind he ?_
        show Ev (fun K => (impl_plain.f (acc x k 8 0 0 0).1).bind fun a => (impl_plain.f (acc x k 8 0 0 0).2).bind fun b => impl_Spectrum.outer K x m (k + 1) (o ++ [(⟨a, b⟩ : S33)])) r
        rw [ia, ib]
        exact e2
theorem reals_ev (x : List Int) (hl : x.length = 8) : Ev (fun k => spec_l16Reals.f k x) (x.all fgood) := by
  unfold spec_l16Reals.f
  refine Ev.neg (by omega) ?_
  exact all_ev (0 : Int) fgood spec_l16Reals.l0 (fun k x n i => by
    rw [spec_l16Reals.l0.eq_2]
    simp only [good_spec, Option.bind_some]
    rfl) x (by rw [maxLen_eq]; omega)
theorem spectrum_both (x : List Int) (hw : ∀ z ∈ x, (Lit.float .f64 z.toNat).wf = true) : Both (fun r => r.1.length ≤ 8) (fun k => spec_Spectrum.f k x) (fun k => impl_Spectrum.f k x) := by
  unfold spec_Spectrum.f impl_Spectrum.f
  by_cases hl : x.length = 8
  · have hr := reals_ev x hl
    have hg := good_list x (by rw [maxLen_eq]; omega)
    cases ha : x.all fgood with
    | false =>
      rw [ha] at hr hg
      refine ⟨([], false), by decide, Ev.pos (by omega) (Ev.bind hr (Ev.step (fun k => spec_Spectrum.j0.eq_2 _ _ k) (Ev.pos rfl (Ev.now _)))), Ev.pos hl (Ev.bind hg (Ev.neg (by decide) (Ev.now _)))⟩
    | true =>
      rw [ha] at hr hg
      have hok : okX x := ⟨hl, fun n hn => by
        have hi : n < x.length := by omega
        have hz : x[n] ∈ x := List.getElem_mem hi
        have h1 := good_fin (List.all_eq_true.1 ha _ hz)
        have h2 := of_decide_eq_true (hw _ hz)
        rw [fin_iff _ h2] at h1
        rw [rd_get hi]
        exact of_decide_eq_true h1⟩
      obtain ⟨r, q, e1, e2⟩ := outer_both hok 8 0 [] (by omega) (by simp)
      exact ⟨r, q, Ev.pos (by omega) (Ev.bind hr (Ev.step (fun k => spec_Spectrum.j0.eq_2 _ _ k) (Ev.neg (by decide) e1))), Ev.pos hl (Ev.bind hg (Ev.pos rfl e2))⟩
  · exact ⟨([], false), by decide, Ev.neg (by omega) (Ev.step (fun k => spec_Spectrum.j0.eq_2 _ _ k) (Ev.pos rfl (Ev.now _))), Ev.neg hl (Ev.now _)⟩
theorem to_floats (l : List Int) (hl : (l.length : Int) ≤ 1048576) : Ev (fun k => laws_toFloat64S.f k l) l := by
  have h := toS_ev (0 : Int) (id : Int → Int) 0 laws_toFloat64S.l0 (fun k x y i => laws_toFloat64S.l0.eq_2 x y i k) l (by omega)
  rw [List.map_id] at h
  exact Ev.pos (by omega) (Ev.pos (by omega) h)
theorem eq_floats (l : List Int) (hl : (l.length : Int) ≤ 1048576) : Ev (fun k => laws_eqFloat64S.f k l l) true :=
  eqK_ev (0 : Int) (fun k a b => laws_sameFloat.f k a b) laws_eqFloat64S.l0 (fun k x y i => laws_eqFloat64S.l0.eq_2 x y i k) l (by rw [maxLen_eq]; omega) (fun a _ => same_ev a)
theorem eq_turns (l : List S33) (hl : l.length ≤ 8) : Ev (fun k => laws_eqTurnS.f k l l) true :=
  eqK_ev z33 (fun k a b => laws_eqTurn.f k a.f0 a.f1 b.f0 b.f1) laws_eqTurnS.l0 (fun k x y i => laws_eqTurnS.l0.eq_2 x y i k) l (by rw [maxLen_eq]; omega) (fun a _ => by
    unfold laws_eqTurn.f
    exact Ev.bind (same_ev _) (Ev.pos rfl (Ev.bind (same_ev _) (Ev.pos rfl (Ev.now _)))))
theorem mark_floats (l : List Int) (hl : (l.length : Int) ≤ 1048576) : ∃ r : List Int, Ev (fun k => laws_markFloat64S.f k l 1) (1 + (l.length : Int), r) :=
  ⟨_, mark_ev (fun _ c => some (fofI c)) fofI laws_markFloat64S.l0 (fun k x c i => laws_markFloat64S.l0.eq_2 x c i k) (fun c _ _ => Ev.now _) 1 (by omega) l (by omega)⟩
def turns : Nat → Int → List S33
  | 0, _ => []
  | n + 1, c => (⟨fofI c, fofI (c + 1)⟩ : S33) :: turns n (c + 2)
theorem mark_turns : ∀ (l P : List S33) (c : Int), 1 ≤ c → c + 2 * l.length ≤ 1000 → P.length + l.length ≤ 8 → Ev (fun k => laws_markTurnS.l0 k (P ++ l) c (P.length : Int)) (c + 2 * (l.length : Int), P ++ turns l.length c)
  | [], P, c, h1, h2, h3 => by
    refine Ev.step (fun k => laws_markTurnS.l0.eq_2 _ _ _ k) (Ev.neg (by simp) (Ev.cast (Ev.now _) ?_))
    simp [turns]
  | z :: l, P, c, h1, h2, h3 => by
    rw [List.length_cons] at h2 h3
    refine Ev.step (fun k => laws_markTurnS.l0.eq_2 _ _ _ k) (Ev.pos (by rw [List.length_append, List.length_cons]; omega) (Ev.pos (by omega) (Ev.some_bind ?_)))
    have s1 : ∀ y : S33, (P ++ z :: l).set P.length y = P ++ y :: l := fun y => by
      rw [List.set_append, if_neg (by omega), Nat.sub_self]
      rfl
    have g1 : ∀ y : S33, rd_T33 (P ++ y :: l) (P.length : Int) = y := fun y => by
      unfold rd_T33
      rw [Int.toNat_natCast, List.getD_eq_getElem?_getD, List.getElem?_append_right (by omega), Nat.sub_self]
      rfl
    simp only [Int.toNat_natCast, s1, g1]
    have s2 : ∀ y y' : S33, (P ++ y :: l).set P.length y' = P ++ y' :: l := fun y y' => by
      rw [List.set_append, if_neg (by omega), Nat.sub_self]
      rfl
    rw [s2, w64 (n := c + 1) (by omega) (by omega), w64 (n := c + 1 + 1) (by omega) (by omega), w_succ (by omega)]
    have ih := mark_turns l (P ++ [(⟨fofI c, fofI (c + 1)⟩ : S33)]) (c + 2) (by omega) (by omega) (by rw [List.length_append, List.length_singleton]; omega)
    rw [List.append_assoc, List.append_assoc, List.length_append, List.length_singleton] at ih
    rw [show c + 1 + 1 = c + 2 by omega]
    refine Ev.cast ih ?_
    rw [List.length_cons, turns]
    congr 1
    omega
theorem fof_eq (c : Int) : feq (fofI c).toNat (fofI c).toNat = true := by
  rw [feq_self]
  obtain ⟨r, hr, e⟩ := nearest_word (decide (c < 0)) c.natAbs 0
  have h : (fofI c).toNat = Ieee.double.word (decide (c < 0)) r := e
  rw [h, word_rung _ (by omega)]
  exact decide_eq_true hr
theorem turns_length : ∀ n c, (turns n c).length = n
  | 0, _ => rfl
  | n + 1, c => by rw [turns, List.length_cons, turns_length n]
theorem held_turns : ∀ (n : Nat) (P : List S33) (c : Int), 1 ≤ c → c + 2 * n ≤ 1000 → P.length + n ≤ 8 → Ev (fun k => laws_heldTurnS.l0 k (P ++ turns n c) c (P.length : Int)) (c + 2 * (n : Int))
  | 0, P, c, h1, h2, h3 => by
    refine Ev.step (fun k => laws_heldTurnS.l0.eq_2 _ _ _ k) (Ev.neg (by simp [turns]) (Ev.cast (Ev.now _) (by simp)))
  | n + 1, P, c, h1, h2, h3 => by
    have g1 : rd_T33 (P ++ turns (n + 1) c) (P.length : Int) = (⟨fofI c, fofI (c + 1)⟩ : S33) := by
      unfold rd_T33
      rw [Int.toNat_natCast, List.getD_eq_getElem?_getD, List.getElem?_append_right (by omega), Nat.sub_self]
      rfl
    refine Ev.step (fun k => laws_heldTurnS.l0.eq_2 _ _ _ k) (Ev.pos (by rw [List.length_append, turns_length]; omega) (Ev.pos (by omega) ?_))
    rw [g1, w64 (n := c + 1) (by omega) (by omega), w64 (n := c + 1 + 1) (by omega) (by omega), w_succ (by omega)]
    refine Ev.neg (by simp only [fof_eq]; decide) (Ev.neg (by simp only [fof_eq]; decide) ?_)
    have ih := held_turns n (P ++ [(⟨fofI c, fofI (c + 1)⟩ : S33)]) (c + 2) (by omega) (by omega) (by rw [List.length_append, List.length_singleton]; omega)
    rw [List.append_assoc, List.length_append, List.length_singleton] at ih
    rw [show c + 1 + 1 = c + 2 by omega]
    refine Ev.cast ih ?_
    omega
theorem FnExactSpectrum : laws_FnExactSpectrum.Pure := by
  intro l ⟨hl0, hw⟩
  refine Ev.rounds (r := true) ?_
  unfold laws_FnExactSpectrum.f
  refine Ev.ite (fun _ => Ev.now _) (fun hL => ?_)
  have hl : (l.length : Int) ≤ 1048576 := by omega
  have ht := to_floats l hl
  have he := eq_floats l hl
  obtain ⟨ml, hm⟩ := mark_floats l hl
  obtain ⟨⟨r, b⟩, hr, h1, h2⟩ := spectrum_both l hw
  have hr : r.length ≤ 8 := hr
  have hq := eq_turns r hr
  have hmt : Ev (fun k => laws_markTurnS.f k r 1) (1 + 2 * (r.length : Int), turns r.length 1) := mark_turns r [] 1 (by omega) (by omega) (by simpa using hr)
  have hht : Ev (fun k => laws_heldTurnS.f k (turns r.length 1) 1) (1 + 2 * (r.length : Int)) := held_turns r.length [] 1 (by omega) (by omega) (by simpa using hr)
  exact Ev.bind ht (Ev.bind h1 (Ev.bind ht (Ev.bind h2 (Ev.bind hq (Ev.pos rfl (Ev.pos rfl (Ev.bind ht (Ev.bind he (Ev.pos rfl (Ev.bind hm (Ev.pos (by simp only; omega) (Ev.bind hq (Ev.pos rfl (Ev.pos rfl (Ev.bind hmt (Ev.bind hht (Ev.pos (by omega) (Ev.pos rfl (Ev.bind ht (Ev.bind h2 (Ev.bind hq (Ev.pos rfl (Ev.pos rfl (Ev.bind hht (Ev.pos (by omega) (Ev.pos rfl (Ev.now _)))))))))))))))))))))))))))

end Go.Proofs.Ytbjdhmgednhdgaa.Pure
