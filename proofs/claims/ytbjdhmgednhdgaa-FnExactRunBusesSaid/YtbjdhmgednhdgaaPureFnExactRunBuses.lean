/- RunBuses: the pure statement of the law: what the program's buses give is what the reference's give; sums may differ in a zero's sign on the way. -/
import Derived.Test.YtbjdhmgednhdgaaXFnExactRunBusesx7
import Derived.Test.YtbjdhmgednhdgaaXLibRunBuses
namespace Go.Proofs.Ytbjdhmgednhdgaa.Pure
open Go.RowKit Go.Proofs.Ytbjdhmgednhdgaa.XFnExactRunBuses Go.Proofs.YtbjdhmgednhdgaaW.PrintWords Go.Proofs.YtbjdhmgednhdgaaW.PrintLast Go.Proofs.YtbjdhmgednhdgaaW.PrintMore Go.Proofs.Ytbjdhmgednhdgaa.X
set_option linter.unusedVariables false
set_option linter.unusedSimpArgs false

theorem in_spec (a b c : Int) : spec_l1In.f a b c = some (decide (b ≤ a) && decide (a ≤ c)) := by
  unfold spec_l1In.f
  by_cases h : b ≤ a <;> simp [h]
theorem in_impl (a b c : Int) : impl_inRange.f a b c = some (decide (b ≤ a) && decide (a ≤ c)) := by
  unfold impl_inRange.f
  by_cases h : b ≤ a <;> simp [h]
def fnan (x : Int) : Bool := !feq x.toNat x.toNat
def finf (x : Int) : Bool := fgt (Go.bits .andNot .u64 (x.toNat : Int) 9223372036854775808).toNat 9218868437227405311
def fsign (x : Int) : Bool := decide (wrap64 (x.toNat : Int) < 0)
def ffin (x : Int) : Bool := !fnan x && !finf x
def fgood (x : Int) : Bool := ffin x && !(feq x.toNat 0 && fsign x)
theorem nan_ev (x : Int) : math_IsNaN.f x = some (fnan x) := rfl
theorem inf_ev (x : Int) : math_IsInf.f x 0 = some (finf x) := rfl
theorem sign_ev (x : Int) : math_Signbit.f x = some (fsign x) := rfl
theorem good_spec (x : Int) : spec_GoodReal.f x = some (fgood x) := by
  unfold spec_GoodReal.f fgood ffin
  rw [nan_ev, inf_ev, sign_ev]
  simp only [Option.bind_some]
  cases fnan x <;> cases finf x <;> cases feq x.toNat 0 <;> cases fsign x <;> rfl
theorem finite_ev (l : List Int) (hl : l.length ≤ maxLen) : Ev (fun k => impl_isFinite.f k l) (l.all ffin) := by
  have h := contains_ev (0 : Int) (fun _ z => impl_isFinite_1.f z) (fun z => !ffin z) slices_IndexFunc_float64_float64_at_impl_isFinite_1.l0 (fun k x n i => slices_IndexFunc_float64_float64_at_impl_isFinite_1.l0.eq_2 x n i k) l hl (fun z _ => Ev.mk (fun _ => by
    unfold impl_isFinite_1.f ffin
    rw [nan_ev, inf_ev]
    simp only [Option.bind_some]
    cases fnan z <;> cases finf z <;> rfl))
  unfold impl_isFinite.f
  refine Ev.bind h (Ev.cast (Ev.now _) (any_not ffin l))
theorem good_impl (x : Int) : Ev (fun k => impl_GoodReal.f k x) (fgood x) := by
  have h := finite_ev [x] (show 1 ≤ maxLen by decide)
  unfold impl_GoodReal.f fgood
  refine Ev.bind h ?_
  rw [sign_ev]
  simp only [List.all_cons, List.all_nil, Bool.and_true, Option.bind_some]
  cases ffin x <;> cases feq x.toNat 0 <;> cases fsign x <;> exact Ev.now _
theorem good_list (l : List Int) (hl : l.length ≤ maxLen) : Ev (fun k => impl_areGood.f k l) (l.all fgood) := by
  have h := contains_ev (0 : Int) (fun k z => impl_areGood_1.f k z) (fun z => !fgood z) slices_IndexFunc_float64_float64_at_impl_areGood_1.l0 (fun k x n i => slices_IndexFunc_float64_float64_at_impl_areGood_1.l0.eq_2 x n i k) l hl (fun z _ => by
    unfold impl_areGood_1.f
    exact Ev.bind (good_impl z) (Ev.now _))
  unfold impl_areGood.f
  refine Ev.bind h (Ev.cast (Ev.now _) (any_not fgood l))
-- doubles: which words are finite
theorem fmt_eq : FloatKind.f64.format = Ieee.double := rfl
theorem d_sign : Ieee.double.signWeight = 9223372036854775808 := by decide
theorem d_binade : Ieee.double.binade = 4503599627370496 := by decide
theorem d_inf : Ieee.double.infRung = 9218868437227405312 := by decide
theorem d_least : Ieee.double.leastPlace = -1074 := by decide
theorem read_def (n : Nat) : Ieee.double.read n = if n % 9223372036854775808 < 4503599627370496 then .number (n / 9223372036854775808 % 2 == 1) (n % 9223372036854775808) (-1074) else if n % 9223372036854775808 < 9218868437227405312 then .number (n / 9223372036854775808 % 2 == 1) (4503599627370496 + n % 9223372036854775808 % 4503599627370496) (-1074 + ((n % 9223372036854775808 / 4503599627370496 - 1 : Nat) : Int)) else if n % 9223372036854775808 = 9218868437227405312 then .infinity (n / 9223372036854775808 % 2 == 1) else .nan (n / 9223372036854775808 % 2 == 1) (n % 9223372036854775808 - 9218868437227405312) := by
  unfold Ieee.Format.read
  rw [d_sign, d_binade, d_inf, d_least]
theorem read_num {n : Nat} (h : n % 9223372036854775808 < 9218868437227405312) : ∃ m i, Ieee.double.read n = .number (n / 9223372036854775808 % 2 == 1) m i ∧ m < 9007199254740992 ∧ -1074 ≤ i ∧ i ≤ 971 := by
  rw [read_def]
  split
  · exact ⟨_, _, rfl, by omega, by omega, by omega⟩
  · exact ⟨_, _, rfl, by omega, by omega, by omega⟩
theorem read_inf {n : Nat} (h : n % 9223372036854775808 = 9218868437227405312) : Ieee.double.read n = .infinity (n / 9223372036854775808 % 2 == 1) := by
  rw [read_def, if_neg (by omega), if_neg (by omega), if_pos h]
theorem read_nan {n : Nat} (h : 9218868437227405312 < n % 9223372036854775808) : ∃ s f, Ieee.double.read n = .nan s f := by
  rw [read_def, if_neg (by omega), if_neg (by omega), if_neg (by omega)]
  exact ⟨_, _, rfl⟩
theorem feq_def (a b : Nat) : feq a b = ((Ieee.double.read a).order (Ieee.double.read b) == some .eq) := rfl
theorem fgt_def (a b : Nat) : fgt a b = ((Ieee.double.read a).order (Ieee.double.read b) == some .gt) := rfl
theorem feq_self (n : Nat) : feq n n = decide (n % 9223372036854775808 ≤ 9218868437227405312) := by
  rw [feq_def]
  rcases Nat.lt_trichotomy (n % 9223372036854775808) 9218868437227405312 with h | h | h
  · obtain ⟨m, i, e, _⟩ := read_num h
    rw [e, decide_eq_true (by omega)]
    simp [Ieee.Datum.order]
  · rw [read_inf h, decide_eq_true (by omega)]
    simp [Ieee.Datum.order]
  · obtain ⟨s, f, e⟩ := read_nan h
    rw [e, decide_eq_false (by omega)]
    rfl
theorem not63 (n : Nat) (h : n < 18446744073709551616) : (Go.bits .andNot .u64 (n : Int) 9223372036854775808).toNat = n % 9223372036854775808 := by
  unfold Go.bits
  have e : ((BitVec.ofInt IntKind.u64.bits (n : Int)) &&& ~~~ (BitVec.ofInt IntKind.u64.bits 9223372036854775808)).toNat = n % 9223372036854775808 := by
    rw [BitVec.toNat_and, BitVec.toNat_not, BitVec.toNat_ofInt, BitVec.toNat_ofInt]
    have e1 : ((n : Int) % ((2 ^ IntKind.u64.bits : Nat) : Int)).toNat = n := by
      simp [IntKind.bits]; omega
    have e2 : 2 ^ IntKind.u64.bits - 1 - ((9223372036854775808 : Int) % ((2 ^ IntKind.u64.bits : Nat) : Int)).toNat = 2 ^ 63 - 1 := by decide
    rw [e1, e2, Nat.and_two_pow_sub_one_eq_mod]
  show (IntKind.u64.wrap _).toNat = _
  rw [e]
  simp [IntKind.wrap, IntKind.bits, IntKind.signed]
  omega
theorem int_le_gt {a b : Int} (h : a ≤ b) : (some (compare a b) == some Ordering.gt) = false := by
  show (some (compareOfLessAndEq a b) == some Ordering.gt) = false
  unfold compareOfLessAndEq
  split
  · rfl
  · rw [if_pos (by omega)]
    rfl
theorem fgt_max (r : Nat) (h : r < 9223372036854775808) : fgt r 9218868437227405311 = decide (r = 9218868437227405312) := by
  rw [fgt_def]
  have em : r % 9223372036854775808 = r := Nat.mod_eq_of_lt h
  have emax : Ieee.double.read 9218868437227405311 = .number false 9007199254740991 971 := by decide
  rw [emax]
  rcases Nat.lt_trichotomy r 9218868437227405312 with g | g | g
  · obtain ⟨m, i, e, h1, h2, h3⟩ := read_num (n := r) (by omega)
    have hs : (r / 9223372036854775808 % 2 == 1) = false := by
      rw [Nat.div_eq_of_lt h]
      rfl
    rw [e, hs, decide_eq_false (by omega)]
    unfold Ieee.Datum.order
    simp only
    apply int_le_gt
    unfold Ieee.signed
    rw [if_neg (by decide), if_neg (by decide), show min i 971 = i by omega, show (i - i).toNat = 0 by omega, Nat.shiftLeft_zero, Nat.shiftLeft_eq]
    have hp : 1 ≤ 2 ^ (971 - i).toNat := Nat.one_le_two_pow
    have : 9007199254740991 * 1 ≤ 9007199254740991 * 2 ^ (971 - i).toNat := Nat.mul_le_mul_left _ hp
    omega
  · rw [read_inf (by omega), decide_eq_true g]
    have hs : (r / 9223372036854775808 % 2 == 1) = false := by
      rw [Nat.div_eq_of_lt h]
      rfl
    rw [hs]
    rfl
  · obtain ⟨s, f, e⟩ := read_nan (n := r) (by omega)
    rw [e, decide_eq_false (by omega)]
    rfl
theorem fin_iff (x : Int) (h : x.toNat < 18446744073709551616) : ffin x = decide (x.toNat % 9223372036854775808 < 9218868437227405312) := by
  unfold ffin fnan finf
  rw [feq_self, not63 _ h, fgt_max _ (by omega)]
  rcases Nat.lt_trichotomy (x.toNat % 9223372036854775808) 9218868437227405312 with g | g | g
  · rw [decide_eq_true (by omega), decide_eq_false (by omega), decide_eq_true g]
    rfl
  · rw [decide_eq_true (by omega), decide_eq_true g, decide_eq_false (by omega)]
    rfl
  · rw [decide_eq_false (by omega), decide_eq_false (by omega), decide_eq_false (by omega)]
    rfl
theorem word_lt (s : Bool) {r : Nat} (h : r < 9223372036854775808) : Ieee.double.word s r < 18446744073709551616 := by
  unfold Ieee.Format.word
  rw [d_sign]
  split <;> omega
theorem nearest_word (s : Bool) (m : Nat) (i : Int) : ∃ r, r ≤ 9218868437227405312 ∧ Ieee.double.nearest s m i = Ieee.double.word s r := by
  unfold Ieee.Format.nearest
  split
  · exact ⟨0, by omega, rfl⟩
  · rw [d_inf]
    exact ⟨_, Nat.min_le_right _ _, rfl⟩
theorem write_lt (d : Ieee.Datum) : Ieee.double.write d < 18446744073709551616 := by
  cases d with
  | number s m i =>
    obtain ⟨r, hr, e⟩ := nearest_word s m i
    show Ieee.double.nearest s m i < _
    rw [e]
    exact word_lt s (by omega)
  | infinity s =>
    show Ieee.double.word s Ieee.double.infRung < _
    rw [d_inf]
    exact word_lt s (by omega)
  | nan s f =>
    show Ieee.double.word s (Ieee.double.infRung + f % Ieee.double.binade) < _
    rw [d_inf, d_binade]
    exact word_lt s (by omega)
theorem op_lt (o : Option Ieee.Datum) : ((o.map Ieee.double.write).getD 0) < 18446744073709551616 := by
  cases o with
  | none => decide
  | some d => exact write_lt d
theorem fmul_lt (a b : Nat) : (fmul a b).toNat < 18446744073709551616 := by
  unfold fmul
  rw [Int.toNat_natCast]
  exact op_lt _
theorem fadd_lt (a b : Nat) : (fadd a b).toNat < 18446744073709551616 := by
  unfold fadd
  rw [Int.toNat_natCast]
  exact op_lt _
theorem cut_one (s : Bool) (n : Nat) : Ieee.Toward.even.cut s n 0 = n := by
  have h : (1 <<< min 0 (n.log2 + 2) : Nat) = 1 := by simp
  unfold Ieee.Toward.cut
  rw [h]
  simp [Nat.mod_one]
theorem cut_le (s : Bool) (n d B : Nat) (h : n < B * 2 ^ d) : Ieee.Toward.even.cut s n d ≤ B := by
  unfold Ieee.Toward.cut
  simp only [Nat.shiftLeft_eq, Nat.one_mul]
  have hm : n / 2 ^ min d (n.log2 + 2) < B := by
    by_cases hd : d ≤ n.log2 + 2
    · rw [Nat.min_eq_left hd]
      exact Nat.div_lt_of_lt_mul (by rw [Nat.mul_comm]; exact h)
    · rw [Nat.min_eq_right (by omega)]
      have h1 : n < 2 ^ (n.log2 + 1) := Nat.lt_log2_self
      have h2 : 2 ^ (n.log2 + 1) ≤ 2 ^ (n.log2 + 2) := Nat.pow_le_pow_right (by decide) (by omega)
      rw [Nat.div_eq_of_lt (by omega)]
      rcases Nat.eq_zero_or_pos B with hB | hB
      · rw [hB, Nat.zero_mul] at h
        omega
      · exact hB
  have hb : ∀ b : Bool, b.toNat ≤ 1 := fun b => by cases b <;> decide
  have := hb (decide (2 ^ min d (n.log2 + 2) < 2 * (n % 2 ^ min d (n.log2 + 2))) || (2 ^ min d (n.log2 + 2) == 2 * (n % 2 ^ min d (n.log2 + 2)) && n / 2 ^ min d (n.log2 + 2) % 2 == 1))
  omega
theorem cut_exact (s : Bool) (n d B : Nat) (hd : d ≤ n.log2 + 2) (h : n ≤ B * 2 ^ d) : Ieee.Toward.even.cut s n d ≤ B := by
  by_cases he : n = B * 2 ^ d
  · unfold Ieee.Toward.cut
    simp only [Nat.shiftLeft_eq, Nat.one_mul, Nat.min_eq_left hd]
    have hp : 0 < 2 ^ d := Nat.two_pow_pos d
    have h1 : n / 2 ^ d = B := by rw [he]; exact Nat.mul_div_cancel _ hp
    have h2 : n % 2 ^ d = 0 := by rw [he]; exact Nat.mul_mod_left _ _
    have hz : (2 ^ d == 2 * 0) = false := beq_false_of_ne (by omega)
    have hz2 : decide (2 ^ d < 2 * 0) = false := decide_eq_false (by omega)
    rw [h1, h2, hz, hz2]
    simp
  · exact cut_le s n d B (by omega)
theorem nearest_fin (s : Bool) (mag : Nat) (place : Int) (D : Nat) (h : mag ≤ 9007199254740991 * 2 ^ D) (hp : place + D ≤ 971) : ∃ r, r < 9218868437227405312 ∧ Ieee.double.nearest s mag place = Ieee.double.word s r := by
  unfold Ieee.Format.nearest
  split
  · exact ⟨0, by decide, rfl⟩
  · rename_i h0
    rw [d_least, d_binade, d_inf]
    have hf : ((Ieee.double.fractionBits : Nat) : Int) = 52 := by decide
    rw [hf]
    refine ⟨_, ?_, rfl⟩
    have hlog : mag.log2 ≤ 52 + D := by
      have : mag.log2 < 53 + D := (Nat.log2_lt h0).2 (by
        have e : 2 ^ (53 + D) = 9007199254740992 * 2 ^ D := by rw [Nat.pow_add]
        have hq : 0 < 2 ^ D := Nat.two_pow_pos D
        rw [e]
        omega)
      omega
    have hself : mag < 2 ^ (mag.log2 + 1) := Nat.lt_log2_self
    generalize hL : max (place + (mag.log2 : Int) - 52) (-1074) = last
    have hl1 : last ≤ 971 := by omega
    have hl2 : -1074 ≤ last := by omega
    have hl3 : place + (mag.log2 : Int) - 52 ≤ last := by omega
    have fin : ∀ kept : Nat, kept ≤ 9007199254740992 → (last = 971 → kept ≤ 9007199254740991) → min ((last - -1074).toNat * 4503599627370496 + kept) 9218868437227405312 < 9218868437227405312 := fun kept k1 k2 => by
      refine Nat.lt_of_le_of_lt (Nat.min_le_left _ _) ?_
      by_cases h9 : last = 971
      · have k3 := k2 h9
        rw [show (last - -1074).toNat = 2045 by omega]
        exact Nat.lt_of_le_of_lt (Nat.add_le_add_left k3 _) (by decide)
      · have hA : (last - -1074).toNat ≤ 2044 := by omega
        have hB := Nat.mul_le_mul_right 4503599627370496 hA
        exact Nat.lt_of_le_of_lt (Nat.add_le_add hB k1) (by decide)
    by_cases hc : last ≤ place
    · rw [show (last - place).toNat = 0 by omega, cut_one, Nat.shiftLeft_eq]
      have hk : mag * 2 ^ (place - last).toNat < 9007199254740992 := by
        have h1 : mag * 2 ^ (place - last).toNat < 2 ^ (mag.log2 + 1) * 2 ^ (place - last).toNat := Nat.mul_lt_mul_of_pos_right hself (Nat.two_pow_pos _)
        have h2 : 2 ^ (mag.log2 + 1) * 2 ^ (place - last).toNat = 2 ^ (mag.log2 + 1 + (place - last).toNat) := (Nat.pow_add _ _ _).symm
        have h3 : 2 ^ (mag.log2 + 1 + (place - last).toNat) ≤ 2 ^ 53 := Nat.pow_le_pow_right (by decide) (by omega)
        rw [h2] at h1
        exact Nat.lt_of_lt_of_le h1 h3
      exact fin _ (Nat.le_of_lt hk) (fun _ => Nat.le_of_lt_succ hk)
    · rw [show (place - last).toNat = 0 by omega, Nat.shiftLeft_zero]
      refine fin _ ?_ (fun h9 => ?_)
      · refine cut_le s mag (last - place).toNat 9007199254740992 ?_
        have h3 : 2 ^ (mag.log2 + 1) ≤ 2 ^ 53 * 2 ^ (last - place).toNat := by
          rw [← Nat.pow_add]
          exact Nat.pow_le_pow_right (by decide) (by omega)
        exact Nat.lt_of_lt_of_le hself h3
      · have hlD : mag.log2 = 52 + D ∧ (last - place).toNat = D := by omega
        exact cut_exact s mag (last - place).toNat 9007199254740991 (by omega) (by rw [hlD.2]; exact h)
theorem word_rung (s : Bool) {r : Nat} (h : r < 9223372036854775808) : Ieee.double.word s r % 9223372036854775808 = r := by
  unfold Ieee.Format.word
  rw [d_sign]
  split <;> omega
/-- a weight whose size is one at most -/
def isW (w : Nat) : Prop := ∃ (t : Bool) (n : Nat) (j : Int) (D : Nat), Ieee.double.read w = .number t n j ∧ n ≤ 2 ^ (D : Nat) ∧ j + (D : Int) ≤ 0
theorem mul_def (p q : Nat) : FloatKind.f64.format.mul p q = ((Ieee.double.read p).product (Ieee.double.read q)).map Ieee.double.write := rfl
theorem add_def' (p q : Nat) : FloatKind.f64.format.add p q = ((Ieee.double.read p).sum (Ieee.double.read q)).map Ieee.double.write := rfl
theorem mul_small {v w : Nat} (hv : v % 9223372036854775808 < 9218868437227405312) (hw : isW w) : fmulOk v w = true ∧ (fmul v w).toNat % 9223372036854775808 < 9218868437227405312 := by
  obtain ⟨m, i, e, h1, h2, h3⟩ := read_num hv
  obtain ⟨t, n, j, D, e2, h4, h5⟩ := hw
  unfold fmulOk fmul
  rw [Int.toNat_natCast, mul_def, e, e2]
  have hpr : (Ieee.Datum.number (v / 9223372036854775808 % 2 == 1) m i).product (Ieee.Datum.number t n j) = some (.number ((v / 9223372036854775808 % 2 == 1) ^^ t) (m * n) (i + j)) := rfl
  rw [hpr, Option.map_some, Option.getD_some]
  refine ⟨Option.isSome_some, ?_⟩
  obtain ⟨r, hr, e3⟩ := nearest_fin ((v / 9223372036854775808 % 2 == 1) ^^ t) (m * n) (i + j) D (Nat.mul_le_mul (by omega) h4) (by omega)
  show Ieee.double.nearest _ (m * n) (i + j) % _ < _
  rw [e3, word_rung _ (by omega)]
  exact hr
theorem add_num {a p : Nat} (ha : a % 9223372036854775808 ≤ 9218868437227405312) (hp : p % 9223372036854775808 < 9218868437227405312) : faddOk a p = true ∧ (fadd a p).toNat % 9223372036854775808 ≤ 9218868437227405312 ∧ (a % 9223372036854775808 = 9218868437227405312 → (fadd a p).toNat % 9223372036854775808 = 9218868437227405312) := by
  obtain ⟨n, j, e2, _⟩ := read_num hp
  unfold faddOk fadd
  rw [Int.toNat_natCast, add_def', e2]
  rcases Nat.lt_or_ge (a % 9223372036854775808) 9218868437227405312 with g | g
  · obtain ⟨m, i, e, _⟩ := read_num g
    rw [e]
    simp only [Ieee.Datum.sum, Option.map_some, Option.isSome_some, Option.getD_some]
    refine ⟨trivial, ?_, fun h => by omega⟩
    obtain ⟨r, hr, e3⟩ := nearest_word (if Ieee.signed (a / 9223372036854775808 % 2 == 1) m (i - min i j).toNat + Ieee.signed (p / 9223372036854775808 % 2 == 1) n (j - min i j).toNat = 0 then (a / 9223372036854775808 % 2 == 1) && (p / 9223372036854775808 % 2 == 1) else decide (Ieee.signed (a / 9223372036854775808 % 2 == 1) m (i - min i j).toNat + Ieee.signed (p / 9223372036854775808 % 2 == 1) n (j - min i j).toNat < 0)) (Ieee.signed (a / 9223372036854775808 % 2 == 1) m (i - min i j).toNat + Ieee.signed (p / 9223372036854775808 % 2 == 1) n (j - min i j).toNat).natAbs (min i j)
    show Ieee.double.nearest _ _ _ % _ ≤ _
    rw [e3, word_rung _ (by omega)]
    exact hr
  · rw [read_inf (by omega)]
    have hs : (Ieee.Datum.infinity (a / 9223372036854775808 % 2 == 1)).sum (Ieee.Datum.number (p / 9223372036854775808 % 2 == 1) n j) = some (.infinity (a / 9223372036854775808 % 2 == 1)) := rfl
    have hw : Ieee.double.write (.infinity (a / 9223372036854775808 % 2 == 1)) % 9223372036854775808 = 9218868437227405312 := by
      show Ieee.double.word _ Ieee.double.infRung % _ = _
      rw [d_inf, word_rung _ (by omega)]
    rw [hs, Option.map_some, Option.getD_some]
    exact ⟨Option.isSome_some, by omega, fun _ => hw⟩
theorem finite_spec (x : Int) : spec_l2Finite.f x = some (ffin x) := by
  unfold spec_l2Finite.f ffin
  rw [nan_ev, inf_ev]
  simp only [Option.bind_some]
  cases fnan x <;> rfl
theorem good_fin {x : Int} (h : fgood x = true) : ffin x = true := by
  unfold fgood at h
  cases hf : ffin x with
  | true => rfl
  | false =>
    rw [hf] at h
    simp at h
-- doubles: sums with a zero give the word itself; what differs in a zero's sign alone
theorem cut_eq (s : Bool) (B d : Nat) (hB : 0 < B) : Ieee.Toward.even.cut s (B * 2 ^ d) d = B := by
  have hp : 0 < 2 ^ d := Nat.two_pow_pos d
  have hd : d ≤ (B * 2 ^ d).log2 + 2 := by
    have : d ≤ (B * 2 ^ d).log2 := (Nat.le_log2 (by have := Nat.mul_pos hB hp; omega)).2 (Nat.le_mul_of_pos_left _ hB)
    omega
  unfold Ieee.Toward.cut
  simp only [Nat.shiftLeft_eq, Nat.one_mul, Nat.min_eq_left hd]
  have h1 : B * 2 ^ d / 2 ^ d = B := Nat.mul_div_cancel _ hp
  have h2 : B * 2 ^ d % 2 ^ d = 0 := Nat.mul_mod_left _ _
  have hz : (2 ^ d == 2 * 0) = false := beq_false_of_ne (by omega)
  have hz2 : decide (2 ^ d < 2 * 0) = false := decide_eq_false (by omega)
  rw [h1, h2, hz, hz2]
  simp
theorem word_eq {n : Nat} (h : n < 18446744073709551616) : Ieee.double.word (n / 9223372036854775808 % 2 == 1) (n % 9223372036854775808) = n := by
  unfold Ieee.Format.word
  rw [d_sign]
  by_cases c : n / 9223372036854775808 = 0
  · rw [c]
    simp
    omega
  · have c1 : n / 9223372036854775808 = 1 := by omega
    rw [c1]
    simp
    omega
theorem near_unf (s : Bool) (mag : Nat) (h : mag ≠ 0) (L : Nat) (hL : mag.log2 = L) : Ieee.double.nearest s mag (-1074) = Ieee.double.word s (min ((L - 52) * 4503599627370496 + Ieee.Toward.even.cut s mag (L - 52)) 9218868437227405312) := by
  have hf : ((Ieee.double.fractionBits : Nat) : Int) = 52 := by decide
  unfold Ieee.Format.nearest
  rw [if_neg h, d_least, d_binade, d_inf, hf, hL]
  have e1 : max ((-1074 : Int) + (L : Int) - 52) (-1074) = -1074 + ((L - 52 : Nat) : Int) := by omega
  simp only [e1]
  rw [show ((-1074 : Int) - (-1074 + ((L - 52 : Nat) : Int))).toNat = 0 by omega, show (-1074 + ((L - 52 : Nat) : Int) - -1074).toNat = L - 52 by omega, Nat.shiftLeft_zero]
theorem round_trip {n : Nat} (h : n % 9223372036854775808 < 9218868437227405312) (h0 : n % 9223372036854775808 ≠ 0) (hn : n < 18446744073709551616) : ∃ m d : Nat, Ieee.double.read n = .number (n / 9223372036854775808 % 2 == 1) m (-1074 + (d : Int)) ∧ 0 < m ∧ Ieee.double.nearest (n / 9223372036854775808 % 2 == 1) (m * 2 ^ d) (-1074) = n := by
  have hw := word_eq hn
  rw [read_def]
  generalize (n / 9223372036854775808 % 2 == 1) = s at hw ⊢
  generalize hr : n % 9223372036854775808 = r at h h0 hw ⊢
  by_cases c : r < 4503599627370496
  · refine ⟨r, 0, ?_, by omega, ?_⟩
    · rw [if_pos c]
      rfl
    · have hlog : r.log2 < 52 := (Nat.log2_lt h0).2 (by omega)
      rw [Nat.pow_zero, Nat.mul_one, near_unf s r h0 r.log2 rfl, show r.log2 - 52 = 0 by omega, cut_one, Nat.zero_mul, Nat.zero_add, Nat.min_eq_left (by omega)]
      exact hw
  · refine ⟨4503599627370496 + r % 4503599627370496, r / 4503599627370496 - 1, ?_, by omega, ?_⟩
    · rw [if_neg c, if_pos h]
    · generalize hd : r / 4503599627370496 - 1 = d
      generalize hm : 4503599627370496 + r % 4503599627370496 = m
      have hm1 : 4503599627370496 ≤ m := by omega
      have hm2 : m < 9007199254740992 := by omega
      have hp : 0 < 2 ^ d := Nat.two_pow_pos d
      have hne : m * 2 ^ d ≠ 0 := by have := Nat.mul_pos (show 0 < m by omega) hp; omega
      have hlog : (m * 2 ^ d).log2 = 52 + d := by
        have h1 : (m * 2 ^ d).log2 < 52 + d + 1 := (Nat.log2_lt hne).2 (by
          have e : 2 ^ (52 + d + 1) = 9007199254740992 * 2 ^ d := by rw [show 52 + d + 1 = 53 + d by omega, Nat.pow_add]
          rw [e]
          exact Nat.mul_lt_mul_of_pos_right hm2 hp)
        have h2 : 52 + d ≤ (m * 2 ^ d).log2 := (Nat.le_log2 hne).2 (by
          have e : 2 ^ (52 + d) = 4503599627370496 * 2 ^ d := by rw [Nat.pow_add]
          rw [e]
          exact Nat.mul_le_mul_right _ hm1)
        omega
      rw [near_unf s _ hne (52 + d) hlog, show 52 + d - 52 = d by omega, cut_eq s m d (by omega)]
      have e : d * 4503599627370496 + m = r := by omega
      rw [e, Nat.min_eq_left (by omega)]
      exact hw
theorem read_zero {n : Nat} (h : n % 9223372036854775808 = 0) : Ieee.double.read n = .number (n / 9223372036854775808 % 2 == 1) 0 (-1074) := by
  rw [read_def, h]
  rfl
theorem near_zero (s : Bool) (p : Int) : Ieee.double.nearest s 0 p % 9223372036854775808 = 0 := by
  have : Ieee.double.nearest s 0 p = Ieee.double.word s 0 := by
    unfold Ieee.Format.nearest
    rw [if_pos rfl]
  rw [this]
  exact word_rung s (by decide)
theorem sum_one (s t : Bool) (m d : Nat) (hm : 0 < m) : (Ieee.Datum.number s m (-1074 + (d : Int))).sum (.number t 0 (-1074)) = some (.number s (m * 2 ^ d) (-1074)) ∧ (Ieee.Datum.number t 0 (-1074)).sum (.number s m (-1074 + (d : Int))) = some (.number s (m * 2 ^ d) (-1074)) := by
  have hp : 0 < m * 2 ^ d := Nat.mul_pos hm (Nat.two_pow_pos d)
  have e1 : (-1074 + (d : Int) - -1074).toNat = d := by omega
  have e2 : ((-1074 : Int) - -1074).toNat = 0 := by decide
  have e3 : min (-1074 + (d : Int)) (-1074) = -1074 := by omega
  have f3 : min (-1074) (-1074 + (d : Int)) = -1074 := by omega
  have z : Ieee.signed t 0 0 = 0 := by cases t <;> rfl
  have hs : Ieee.signed s m d = if s = true then -((m * 2 ^ d : Nat) : Int) else ((m * 2 ^ d : Nat) : Int) := by
    unfold Ieee.signed
    rw [Nat.shiftLeft_eq]
  have hne : Ieee.signed s m d ≠ 0 := by rw [hs]; split <;> omega
  have hab : (Ieee.signed s m d).natAbs = m * 2 ^ d := by rw [hs]; split <;> omega
  have hsg : decide (Ieee.signed s m d < 0) = s := by
    rw [hs]
    cases s
    · simp only [Bool.false_eq_true, if_false]
      exact decide_eq_false (by omega)
    · simp only [if_true]
      exact decide_eq_true (by omega)
  constructor
  · unfold Ieee.Datum.sum
    simp only [e3, e1, e2, z, Int.add_zero, if_neg hne, hab, hsg]
  · unfold Ieee.Datum.sum
    simp only [f3, e1, e2, z, Int.zero_add, if_neg hne, hab, hsg]
/-- a zero added to what is no NaN and no zero -/
theorem add_zero {a z : Nat} (ha : a % 9223372036854775808 ≤ 9218868437227405312) (h0 : a % 9223372036854775808 ≠ 0) (hn : a < 18446744073709551616) (hz : z % 9223372036854775808 = 0) : (fadd a z).toNat = a ∧ (fadd z a).toNat = a := by
  rcases Nat.lt_or_ge (a % 9223372036854775808) 9218868437227405312 with g | g
  · obtain ⟨m, d, e, hm, hr⟩ := round_trip g h0 hn
    obtain ⟨s1, s2⟩ := sum_one (a / 9223372036854775808 % 2 == 1) (z / 9223372036854775808 % 2 == 1) m d hm
    unfold fadd
    rw [Int.toNat_natCast, Int.toNat_natCast, add_def', add_def', e, read_zero hz, s1, s2]
    exact ⟨hr, hr⟩
  · have e := word_eq hn
    rw [show a % 9223372036854775808 = 9218868437227405312 by omega] at e
    unfold fadd
    rw [Int.toNat_natCast, Int.toNat_natCast, add_def', add_def', read_inf (by omega), read_zero hz]
    have hw : Ieee.double.write (.infinity (a / 9223372036854775808 % 2 == 1)) = a := by
      show Ieee.double.word _ Ieee.double.infRung = a
      rw [d_inf]
      exact e
    exact ⟨hw, hw⟩
theorem add_zeros {a z : Nat} (ha : a % 9223372036854775808 = 0) (hz : z % 9223372036854775808 = 0) : (fadd a z).toNat % 9223372036854775808 = 0 := by
  unfold fadd
  rw [Int.toNat_natCast, add_def', read_zero ha, read_zero hz]
  have e : (Ieee.Datum.number (a / 9223372036854775808 % 2 == 1) 0 (-1074)).sum (.number (z / 9223372036854775808 % 2 == 1) 0 (-1074)) = some (.number ((a / 9223372036854775808 % 2 == 1) && (z / 9223372036854775808 % 2 == 1)) 0 (-1074)) := by
    cases (a / 9223372036854775808 % 2 == 1) <;> cases (z / 9223372036854775808 % 2 == 1) <;> rfl
  rw [e]
  exact near_zero ((a / 9223372036854775808 % 2 == 1) && (z / 9223372036854775808 % 2 == 1)) (-1074)
/-- the same, or both a zero -/
def sz (a b : Nat) : Prop := a = b ∨ (a % 9223372036854775808 = 0 ∧ b % 9223372036854775808 = 0)
theorem sz_rung {a b : Nat} (h : sz a b) : a % 9223372036854775808 = b % 9223372036854775808 := by
  rcases h with rfl | ⟨h1, h2⟩
  · rfl
  · omega
theorem add_sz {x x' y y' : Nat} (hx : sz x x') (hy : sz y y') (gx : x % 9223372036854775808 ≤ 9218868437227405312) (gy : y % 9223372036854775808 ≤ 9218868437227405312) (wx : x < 18446744073709551616) (wy : y < 18446744073709551616) (wx' : x' < 18446744073709551616) (wy' : y' < 18446744073709551616) : sz (fadd x y).toNat (fadd x' y').toNat := by
  have rx := sz_rung hx
  have ry := sz_rung hy
  by_cases cx : x % 9223372036854775808 = 0
  · by_cases cy : y % 9223372036854775808 = 0
    · exact .inr ⟨add_zeros cx cy, add_zeros (by omega) (by omega)⟩
    · have e : y = y' := hy.elim id (fun h => absurd h.1 cy)
      refine .inl ?_
      rw [(add_zero gy cy wy cx).2, (add_zero (by omega) (by omega) wy' (show x' % 9223372036854775808 = 0 by omega)).2, e]
  · have e : x = x' := hx.elim id (fun h => absurd h.1 cx)
    by_cases cy : y % 9223372036854775808 = 0
    · refine .inl ?_
      rw [(add_zero gx cx wx cy).1, (add_zero (by omega) (by omega) wx' (show y' % 9223372036854775808 = 0 by omega)).1, e]
    · have e2 : y = y' := hy.elim id (fun h => absurd h.1 cy)
      exact .inl (by rw [e, e2])
theorem mul_fin {a b : Nat} (ha : a % 9223372036854775808 < 9218868437227405312) (hb : b % 9223372036854775808 < 9218868437227405312) : fmulOk a b = true ∧ (fmul a b).toNat % 9223372036854775808 ≤ 9218868437227405312 := by
  obtain ⟨m, i, e, _⟩ := read_num ha
  obtain ⟨n, j, e2, _⟩ := read_num hb
  unfold fmulOk fmul
  rw [Int.toNat_natCast, mul_def, e, e2]
  refine ⟨rfl, ?_⟩
  obtain ⟨r, hr, e3⟩ := nearest_word ((a / 9223372036854775808 % 2 == 1) ^^ (b / 9223372036854775808 % 2 == 1)) (m * n) (i + j)
  show Ieee.double.nearest _ (m * n) (i + j) % _ ≤ _
  rw [e3, word_rung _ (by omega)]
  exact hr
theorem mul_zero {a b : Nat} (ha : a % 9223372036854775808 = 0) (hb : b % 9223372036854775808 < 9218868437227405312) : (fmul a b).toNat % 9223372036854775808 = 0 ∧ (fmul b a).toNat % 9223372036854775808 = 0 := by
  obtain ⟨n, j, e2, _⟩ := read_num hb
  unfold fmul
  rw [Int.toNat_natCast, Int.toNat_natCast, mul_def, mul_def, e2, read_zero ha]
  constructor
  · show Ieee.double.nearest ((a / 9223372036854775808 % 2 == 1) ^^ (b / 9223372036854775808 % 2 == 1)) (0 * n) (-1074 + j) % _ = 0
    rw [Nat.zero_mul]
    exact near_zero _ _
  · show Ieee.double.nearest ((b / 9223372036854775808 % 2 == 1) ^^ (a / 9223372036854775808 % 2 == 1)) (n * 0) (j + -1074) % _ = 0
    rw [Nat.mul_zero]
    exact near_zero _ _
theorem mul_inf {b w : Nat} (hw : w % 9223372036854775808 = 9218868437227405312) (hb : b % 9223372036854775808 < 9218868437227405312) : (fmulOk b w = true ↔ b % 9223372036854775808 ≠ 0) ∧ (fmulOk b w = true → (fmul b w).toNat % 9223372036854775808 = 9218868437227405312) := by
  by_cases c : b % 9223372036854775808 = 0
  · have : fmulOk b w = false := by
      unfold fmulOk
      rw [mul_def, read_zero c, read_inf hw]
      rfl
    exact ⟨⟨fun h => absurd (this.symm.trans h) (by decide), fun h => absurd c h⟩, fun h => absurd (this.symm.trans h) (by decide)⟩
  · obtain ⟨m, i, e, hm⟩ : ∃ m i, Ieee.double.read b = .number (b / 9223372036854775808 % 2 == 1) m i ∧ m ≠ 0 := by
      rw [read_def]
      split
      · exact ⟨_, _, rfl, c⟩
      · exact ⟨_, _, rfl, by omega⟩
    have hp : (Ieee.Datum.number (b / 9223372036854775808 % 2 == 1) m i).product (.infinity (w / 9223372036854775808 % 2 == 1)) = some (.infinity ((w / 9223372036854775808 % 2 == 1) ^^ (b / 9223372036854775808 % 2 == 1))) := by
      unfold Ieee.Datum.product
      simp only [if_neg hm]
    unfold fmulOk fmul
    rw [Int.toNat_natCast, mul_def, e, read_inf hw, hp]
    refine ⟨⟨fun _ => c, fun _ => rfl⟩, fun _ => ?_⟩
    show Ieee.double.word _ Ieee.double.infRung % _ = _
    rw [d_inf, word_rung _ (by omega)]
theorem feq_zero {n : Nat} (h : n % 9223372036854775808 ≤ 9218868437227405312) : feq n 0 = decide (n % 9223372036854775808 = 0) := by
  have e0 : Ieee.double.read 0 = .number false 0 (-1074) := by decide
  rw [feq_def, e0]
  by_cases c : n % 9223372036854775808 = 0
  · rw [read_zero c, decide_eq_true c]
    cases (n / 9223372036854775808 % 2 == 1) <;> rfl
  · rw [decide_eq_false c]
    rcases Nat.lt_or_ge (n % 9223372036854775808) 9218868437227405312 with g | g
    · obtain ⟨m, i, e, hm, hi⟩ : ∃ m i, Ieee.double.read n = .number (n / 9223372036854775808 % 2 == 1) m i ∧ m ≠ 0 ∧ -1074 ≤ i := by
        rw [read_def]
        split
        · exact ⟨_, _, rfl, c, by omega⟩
        · exact ⟨_, _, rfl, by omega, by omega⟩
      rw [e]
      unfold Ieee.Datum.order
      simp only
      have z : ∀ q, Ieee.signed false 0 q = 0 := fun q => by simp [Ieee.signed]
      rw [z]
      have hne : Ieee.signed (n / 9223372036854775808 % 2 == 1) m (i - min i (-1074)).toNat ≠ 0 := by
        have hp : 0 < m * 2 ^ (i - min i (-1074)).toNat := Nat.mul_pos (by omega) (Nat.two_pow_pos _)
        unfold Ieee.signed
        rw [Nat.shiftLeft_eq]
        split <;> omega
      generalize Ieee.signed (n / 9223372036854775808 % 2 == 1) m (i - min i (-1074)).toNat = q at hne
      show (some (compareOfLessAndEq q 0) == some Ordering.eq) = false
      unfold compareOfLessAndEq
      by_cases h1 : q < 0
      · rw [if_pos h1]
        rfl
      · rw [if_neg h1, if_neg hne]
        rfl
    · rw [read_inf (by omega)]
      cases (n / 9223372036854775808 % 2 == 1) <;> rfl
theorem same_ev (r : Int) : Ev (fun k => laws_sameFloat.f k r r) true := by
  unfold laws_sameFloat.f
  rcases Nat.lt_trichotomy (r.toNat % 9223372036854775808) 9218868437227405312 with h | h | h
  · have hs : feq r.toNat r.toNat = true := by
      rw [feq_self]
      exact decide_eq_true (by omega)
    have hd : fdivOk 4607182418800017408 r.toNat = true := by
      obtain ⟨m, i, e, _⟩ := read_num h
      have e1 : Ieee.double.read 4607182418800017408 = .number false 4503599627370496 (-52) := by decide
      show (((Ieee.double.read 4607182418800017408).quotient (Ieee.double.fractionBits + 2) (Ieee.double.read r.toNat)).map Ieee.double.write).isSome = true
      rw [e, e1]
      unfold Ieee.Datum.quotient
      simp only
      by_cases c : m = 0
      · rw [if_pos c]
        rfl
      · rw [if_neg c]
        rfl
    rw [hs]
    refine Ev.neg (by decide) (Ev.step (fun k => laws_sameFloat.j0.eq_2 _ _ _ k) (Ev.neg (by decide) ?_))
    rw [hs]
    exact Ev.ite (fun h0 => Ev.pos h0 (Ev.pos hd (Ev.pos hd (Ev.cast (Ev.now _) (by simp))))) (fun _ => Ev.now _)
  · have hs : feq r.toNat r.toNat = true := by
      rw [feq_self]
      exact decide_eq_true (by omega)
    have h0 : ¬ feq r.toNat 0 = true := by
      have e1 : Ieee.double.read 0 = .number false 0 (-1074) := by decide
      rw [feq_def, read_inf h, e1]
      cases (r.toNat / 9223372036854775808 % 2 == 1) <;> decide
    rw [hs]
    refine Ev.neg (by decide) (Ev.step (fun k => laws_sameFloat.j0.eq_2 _ _ _ k) (Ev.neg (by decide) ?_))
    rw [hs]
    exact Ev.neg h0 (Ev.now _)
  · have hs : feq r.toNat r.toNat = false := by
      rw [feq_self]
      exact decide_eq_false (by omega)
    rw [hs]
    refine Ev.pos rfl (Ev.step (fun k => laws_sameFloat.j0.eq_2 _ _ _ k) (Ev.pos rfl ?_))
    rw [hs]
    exact Ev.pos rfl (Ev.now _)
theorem to_floats (l : List Int) (hl : (l.length : Int) ≤ 1048576) : Ev (fun k => laws_toFloat64S.f k l) l := by
  have h := toS_ev (0 : Int) (id : Int → Int) 0 laws_toFloat64S.l0 (fun k x y i => laws_toFloat64S.l0.eq_2 x y i k) l (by omega)
  rw [List.map_id] at h
  exact Ev.pos (by omega) (Ev.pos (by omega) h)
theorem eq_floats (l : List Int) (hl : (l.length : Int) ≤ 1048576) : Ev (fun k => laws_eqFloat64S.f k l l) true :=
  eqK_ev (0 : Int) (fun k a b => laws_sameFloat.f k a b) laws_eqFloat64S.l0 (fun k x y i => laws_eqFloat64S.l0.eq_2 x y i k) l (by rw [maxLen_eq]; omega) (fun a _ => same_ev a)
theorem mark_floats (l : List Int) (c : Int) (h1 : 1 ≤ c) (h2 : c ≤ 100000000) (hl : (l.length : Int) ≤ 1048576) : ∃ r : List Int, Ev (fun k => laws_markFloat64S.f k l c) (c + (l.length : Int), r) :=
  ⟨_, mark_ev (fun _ c => some (fofI c)) fofI laws_markFloat64S.l0 (fun k x c i => laws_markFloat64S.l0.eq_2 x c i k) (fun c _ _ => Ev.now _) c h1 l (by omega)⟩
def floats : Nat → Int → List Int
  | 0, _ => []
  | n + 1, c => fofI c :: floats n (c + 1)
theorem mark_to : ∀ (l P : List Int) (c : Int), 1 ≤ c → c + l.length ≤ 1000 → P.length + l.length ≤ 8 → Ev (fun k => laws_markFloat64S.l0 k (P ++ l) c (P.length : Int)) (c + (l.length : Int), P ++ floats l.length c)
  | [], P, c, h1, h2, h3 => by
    refine Ev.step (fun k => laws_markFloat64S.l0.eq_2 _ _ _ k) (Ev.neg (by simp) (Ev.cast (Ev.now _) (by simp [floats])))
  | z :: l, P, c, h1, h2, h3 => by
    rw [List.length_cons] at h2 h3
    have ih := mark_to l (P ++ [fofI c]) (c + 1) (by omega) (by omega) (by rw [List.length_append, List.length_singleton]; omega)
    refine Ev.step (fun k => laws_markFloat64S.l0.eq_2 _ _ _ k) (Ev.pos (by rw [List.length_append, List.length_cons]; omega) (Ev.pos (by omega) ?_))
    rw [Int.toNat_natCast, List.set_append_right _ _ (Nat.le_refl _), Nat.sub_self, List.set_cons_zero, w64 (n := c + 1) (by omega) (by omega), w_succ (by omega)]
    rw [List.length_append, List.length_singleton, List.append_assoc, List.append_assoc] at ih
    refine Ev.cast ih ?_
    rw [List.length_cons, floats]
    congr 1
    omega
theorem fof_eq (c : Int) : feq (fofI c).toNat (fofI c).toNat = true := by
  rw [feq_self]
  obtain ⟨r, hr, e⟩ := nearest_word (decide (c < 0)) c.natAbs 0
  have h : (fofI c).toNat = Ieee.double.word (decide (c < 0)) r := e
  rw [h, word_rung _ (by omega)]
  exact decide_eq_true hr
theorem held_to : ∀ (n : Nat) (P : List Int) (c : Int), 1 ≤ c → c + n ≤ 1000 → P.length + n ≤ 8 → Ev (fun k => laws_heldFloat64S.l0 k (P ++ floats n c) c (P.length : Int)) (c + (n : Int))
  | 0, P, c, h1, h2, h3 => by
    refine Ev.step (fun k => laws_heldFloat64S.l0.eq_2 _ _ _ k) (Ev.neg (by simp [floats]) (Ev.cast (Ev.now _) (by simp)))
  | n + 1, P, c, h1, h2, h3 => by
    have ih := held_to n (P ++ [fofI c]) (c + 1) (by omega) (by omega) (by rw [List.length_append, List.length_singleton]; omega)
    have hl : (P ++ floats (n + 1) c).length = P.length + ((floats n (c + 1)).length + 1) := by simp [floats]
    have er : rd (P ++ floats (n + 1) c) (P.length : Int) = fofI c := by
      unfold rd
      rw [Int.toNat_natCast, List.getD_eq_getElem?_getD, List.getElem?_append_right (Nat.le_refl _), Nat.sub_self]
      rfl
    refine Ev.step (fun k => laws_heldFloat64S.l0.eq_2 _ _ _ k) (Ev.pos (by rw [hl]; omega) (Ev.pos (by omega) ?_))
    rw [er, fof_eq, w64 (n := c + 1) (by omega) (by omega), w_succ (by omega)]
    rw [List.length_append, List.length_singleton, List.append_assoc] at ih
    refine Ev.neg (by decide) (Ev.cast ih (by omega))
theorem mark_held (l : List Int) (hl : l.length ≤ 8) : ∃ r : List Int, Ev (fun k => laws_markFloat64S.f k l 1) (1 + (l.length : Int), r) ∧ Ev (fun k => laws_heldFloat64S.f k r 1) (1 + (l.length : Int)) :=
  ⟨floats l.length 1, mark_to l [] 1 (by omega) (by omega) (by simpa using hl), held_to l.length [] 1 (by omega) (by omega) (by simpa using hl)⟩
/-! buses -/
abbrev Bu := S76
abbrev rB (l : List Bu) (i : Int) : Bu := rd_T76 l i
theorem rB_get {L : List Bu} {i : Nat} (h : i < L.length) : rB L (i : Int) = L[i] := rdOf_get (d := z76) h
def fOk (b : Bu) : Bool := fgood b.f1.f0 && (fgood b.f1.f1 && (fgood b.f1.f2 && (fgood b.f1.f3 && fgood b.f1.f4)))
theorem filter_spec (b : Bu) : spec_GoodFilter.f b.f1.f0 b.f1.f1 b.f1.f2 b.f1.f3 b.f1.f4 = some (fOk b) := by
  unfold spec_GoodFilter.f fOk
  rw [good_spec, good_spec, good_spec, good_spec, good_spec]
  simp only [Option.bind_some]
  cases fgood b.f1.f0 <;> cases fgood b.f1.f1 <;> cases fgood b.f1.f2 <;> cases fgood b.f1.f3 <;> rfl
theorem filter_impl (b : Bu) : Ev (fun k => impl_GoodFilter.f k b.f1.f0 b.f1.f1 b.f1.f2 b.f1.f3 b.f1.f4) (fOk b) := by
  unfold impl_GoodFilter.f fOk
  refine Ev.bind (good_list [b.f1.f0, b.f1.f1, b.f1.f2, b.f1.f3, b.f1.f4] (show 5 ≤ maxLen by decide)) (Ev.cast (Ev.now _) ?_)
  simp only [List.all_cons, List.all_nil, Bool.and_true]
abbrev RB := List Int × Int × Bool
def ROk (r : RB) : Prop := r.1.length ≤ 8
theorem bad_ok : ROk ([], 0, false) := by show 0 ≤ 8; omega
def okB (n i : Int) (b : Bu) : Prop := fgood b.f0 = true ∧ fOk b = true ∧ (b.f2 = -1 ∨ (i + 1 ≤ b.f2 ∧ b.f2 ≤ n - 1))
theorem valid (bs : List Bu) (ins : List Int) (hl : bs.length ≤ 8) (hi : ins.length ≤ 8)
    (cont : (∀ j : Nat, j < bs.length → okB bs.length j (rB bs j)) → Both ROk (fun k => spec_RunBuses.l1 k ins [] 0 bs (bs.length : Int) 0) (fun k => impl_RunBuses.l1 k ins [] 0 bs (bs.length : Int) 0)) :
    ∀ (m i : Nat), i + m = bs.length → (∀ j : Nat, j < i → okB bs.length j (rB bs j)) → Both ROk (fun k => spec_RunBuses.l0 k bs ins bs (bs.length : Int) (i : Int)) (fun k => impl_RunBuses.l0 k bs ins bs (bs.length : Int) (i : Int)) := by
  intro m
  induction m with
  | zero =>
    intro i hm ho
    obtain ⟨r, hr, e1, e2⟩ := cont (fun j hj => ho j (by omega))
    refine ⟨r, hr, Ev.step (fun k => spec_RunBuses.l0.eq_2 _ _ _ _ _ k) (Ev.neg (by omega) (Ev.some_bind (Ev.pos (by simp; omega) e1))), Ev.step (fun k => impl_RunBuses.l0.eq_2 _ _ _ _ _ k) (Ev.neg (by omega) (Ev.const_bind (a := ins) ?_ e2))⟩
    unfold slices_Clone_float64_float64.f
    rw [Option.bind_some, if_pos (by simp; omega), List.nil_append]
  | succ m ih =>
    intro i hm ho
    have hin : i < bs.length := by omega
    obtain ⟨b, hb⟩ : ∃ b, b = rB bs (i : Int) := ⟨_, rfl⟩
    have sp : ∀ {r : RB}, Ev (fun k => (spec_GoodReal.f b.f0).bind fun t126 => (if t126 = true then ((spec_GoodFilter.f b.f1.f0 b.f1.f1 b.f1.f2 b.f1.f3 b.f1.f4).bind fun t127 => (if t127 = true then (if b.f2 = (-1) then (spec_RunBuses.l0 k bs ins bs (bs.length : Int) (wrap64 ((i : Int) + 1))) else ((spec_l1In.f b.f2 (wrap64 ((i : Int) + 1)) (wrap64 ((bs.length : Int) - 1))).bind fun t128 => (if t128 = true then (spec_RunBuses.l0 k bs ins bs (bs.length : Int) (wrap64 ((i : Int) + 1))) else (some (([] : List Int), 0, false))))) else (some (([] : List Int), 0, false)))) else (some (([] : List Int), 0, false)))) r → Ev (fun k => spec_RunBuses.l0 k bs ins bs (bs.length : Int) (i : Int)) r := by
      intro r h
      refine Ev.step (fun k => spec_RunBuses.l0.eq_2 _ _ _ _ _ k) ?_
      rw [hb] at h
      exact Ev.pos (by omega) (Ev.pos (by omega) (Ev.pos (by omega) h))
    have im : ∀ {r : RB}, Ev (fun k => (impl_GoodReal.f k b.f0).bind fun t202 => (if t202 = true then ((impl_GoodFilter.f k b.f1.f0 b.f1.f1 b.f1.f2 b.f1.f3 b.f1.f4).bind fun t203 => (if t203 = true then (if b.f2 = (-1) then (impl_RunBuses.l0 k bs ins bs (bs.length : Int) (wrap64 ((i : Int) + 1))) else ((impl_inRange.f b.f2 (wrap64 ((i : Int) + 1)) (wrap64 ((bs.length : Int) - 1))).bind fun t204 => (if t204 = true then (impl_RunBuses.l0 k bs ins bs (bs.length : Int) (wrap64 ((i : Int) + 1))) else (some (([] : List Int), 0, false))))) else (some (([] : List Int), 0, false)))) else (some (([] : List Int), 0, false)))) r → Ev (fun k => impl_RunBuses.l0 k bs ins bs (bs.length : Int) (i : Int)) r := by
      intro r h
      refine Ev.step (fun k => impl_RunBuses.l0.eq_2 _ _ _ _ _ k) ?_
      rw [hb] at h
      exact Ev.pos (by omega) (Ev.pos (by omega) (Ev.pos (by omega) h))
    rw [w_succ (by omega), w64 (n := (bs.length : Int) - 1) (by omega) (by omega)] at sp im
    have g1 := good_spec b.f0
    have g2 := good_impl b.f0
    have f1 := filter_spec b
    have f2 := filter_impl b
    have go : okB bs.length i b → ∃ r, ROk r ∧ Ev (fun k => spec_RunBuses.l0 k bs ins bs (bs.length : Int) ((i + 1 : Nat) : Int)) r ∧ Ev (fun k => impl_RunBuses.l0 k bs ins bs (bs.length : Int) ((i + 1 : Nat) : Int)) r := fun h => ih (i + 1) (by omega) (fun j hj => by
      rcases Nat.lt_or_ge j i with h2 | h2
      · exact ho j h2
      · have : j = i := by omega
        subst this
        rw [← hb]
        exact h)
    cases c1 : fgood b.f0 with
    | false =>
      rw [c1] at g1 g2
      exact ⟨_, bad_ok, sp (Ev.const_bind g1 (Ev.neg (by decide) (Ev.now _))), im (Ev.bind g2 (Ev.neg (by decide) (Ev.now _)))⟩
    | true =>
      rw [c1] at g1 g2
      cases c2 : fOk b with
      | false =>
        rw [c2] at f1 f2
        exact ⟨_, bad_ok, sp (Ev.const_bind g1 (Ev.pos rfl (Ev.const_bind f1 (Ev.neg (by decide) (Ev.now _))))), im (Ev.bind g2 (Ev.pos rfl (Ev.bind f2 (Ev.neg (by decide) (Ev.now _)))))⟩
      | true =>
        rw [c2] at f1 f2
        by_cases c3 : b.f2 = -1
        · obtain ⟨r, hr, e1, e2⟩ := go ⟨c1, c2, .inl c3⟩
          exact ⟨r, hr, sp (Ev.const_bind g1 (Ev.pos rfl (Ev.const_bind f1 (Ev.pos rfl (Ev.pos c3 e1))))), im (Ev.bind g2 (Ev.pos rfl (Ev.bind f2 (Ev.pos rfl (Ev.pos c3 e2)))))⟩
        · have i1 := in_spec b.f2 ((i + 1 : Nat) : Int) ((bs.length : Int) - 1)
          have i2 := in_impl b.f2 ((i + 1 : Nat) : Int) ((bs.length : Int) - 1)
          cases c4 : (decide (((i + 1 : Nat) : Int) ≤ b.f2) && decide (b.f2 ≤ (bs.length : Int) - 1)) with
          | false =>
            rw [c4] at i1 i2
            exact ⟨_, bad_ok, sp (Ev.const_bind g1 (Ev.pos rfl (Ev.const_bind f1 (Ev.pos rfl (Ev.neg c3 (Ev.const_bind i1 (Ev.neg (by decide) (Ev.now _)))))))), im (Ev.bind g2 (Ev.pos rfl (Ev.bind f2 (Ev.pos rfl (Ev.neg c3 (Ev.const_bind i2 (Ev.neg (by decide) (Ev.now _))))))))⟩
          | true =>
            rw [c4] at i1 i2
            simp only [Bool.and_eq_true, decide_eq_true_eq] at c4
            obtain ⟨r, hr, e1, e2⟩ := go ⟨c1, c2, .inr ⟨by omega, c4.2⟩⟩
            exact ⟨r, hr, sp (Ev.const_bind g1 (Ev.pos rfl (Ev.const_bind f1 (Ev.pos rfl (Ev.neg c3 (Ev.const_bind i1 (Ev.pos rfl e1))))))), im (Ev.bind g2 (Ev.pos rfl (Ev.bind f2 (Ev.pos rfl (Ev.neg c3 (Ev.const_bind i2 (Ev.pos rfl e2)))))))⟩
/-! the run -/
theorem fadd_nn (a b : Nat) : fadd a b = ((fadd a b).toNat : Int) := by unfold fadd; rw [Int.toNat_natCast]
theorem fmul_nn (a b : Nat) : fmul a b = ((fmul a b).toNat : Int) := by unfold fmul; rw [Int.toNat_natCast]
def wd (x : Int) : Prop := x.toNat < 18446744073709551616 ∧ x.toNat % 9223372036854775808 ≤ 9218868437227405312
theorem fin_wd {x : Int} (h : wd x) : ffin x = decide (x.toNat % 9223372036854775808 < 9218868437227405312) := fin_iff x h.1
theorem zero_wd : wd 0 := ⟨by decide, by decide⟩
def pl (x : Int) : Int := if feq x.toNat 0 = true then 0 else x
theorem plain_spec (x : Int) : spec_l2Plain.f x = some (pl x) := by unfold spec_l2Plain.f pl; split <;> rfl
theorem plain_impl (x : Int) : impl_plain.f x = some (pl x) := by unfold impl_plain.f pl; split <;> rfl
theorem pl_wd {x : Int} (h : wd x) : wd (pl x) := by
  unfold pl
  split
  · exact zero_wd
  · exact h
theorem pl_sz {x : Int} (h : wd x) : sz x.toNat (pl x).toNat := by
  unfold pl
  rw [feq_zero h.2]
  split
  · rename_i c
    exact .inr ⟨of_decide_eq_true c, rfl⟩
  · exact .inl rfl
theorem pl_eq {x y : Int} (hx : wd x) (hy : wd y) (nx : 0 ≤ x) (ny : 0 ≤ y) (h : sz x.toNat y.toNat) : pl x = pl y := by
  have hr := sz_rung h
  unfold pl
  rw [feq_zero hx.2, feq_zero hy.2, hr]
  split
  · rfl
  · rename_i c
    rcases h with h | h
    · omega
    · exact absurd (decide_eq_true h.2) c
theorem add_wd {x y : Int} (hx : wd x) (hy : y.toNat % 9223372036854775808 < 9218868437227405312) : faddOk x.toNat y.toNat = true ∧ wd (fadd x.toNat y.toNat) ∧ 0 ≤ fadd x.toNat y.toNat := by
  obtain ⟨h1, h2, _⟩ := add_num hx.2 hy
  exact ⟨h1, ⟨fadd_lt _ _, h2⟩, by unfold fadd; omega⟩
theorem mul_wd {x y : Int} (hx : x.toNat % 9223372036854775808 < 9218868437227405312) (hy : y.toNat % 9223372036854775808 < 9218868437227405312) : fmulOk x.toNat y.toNat = true ∧ wd (fmul x.toNat y.toNat) ∧ 0 ≤ fmul x.toNat y.toNat := by
  obtain ⟨h1, h2⟩ := mul_fin hx hy
  exact ⟨h1, ⟨fmul_lt _ _, h2⟩, by unfold fmul; omega⟩
def Rel (n : Nat) (came at_ : List Int) : Prop := came.length = n ∧ at_.length = n ∧ ∀ j : Nat, j < n → wd (rd came j) ∧ wd (rd at_ j) ∧ sz (rd came j).toNat (rd at_ j).toNat
theorem rd_set {l : List Int} {j i : Nat} (v : Int) (hj : j < l.length) : rd (l.set j v) (i : Int) = if i = j then v else rd l (i : Int) := by
  unfold rd
  rw [Int.toNat_natCast, List.getD_eq_getElem?_getD, List.getD_eq_getElem?_getD, List.getElem?_set]
  by_cases c : j = i
  · subst c
    rw [if_pos rfl, if_pos hj, if_pos rfl]
    rfl
  · rw [if_neg c, if_neg (fun e => c e.symm)]
theorem Rel.set {n : Nat} {came at_ : List Int} (h : Rel n came at_) {j : Nat} (hj : j < n) {v v' : Int} (hv : wd v) (hv' : wd v') (hs : sz v.toNat v'.toNat) : Rel n (came.set j v) (at_.set j v') := by
  obtain ⟨h1, h2, h3⟩ := h
  refine ⟨by rw [List.length_set]; exact h1, by rw [List.length_set]; exact h2, fun i hi => ?_⟩
  rw [rd_set v (by omega), rd_set v' (by omega)]
  by_cases c : i = j
  · rw [if_pos c, if_pos c]
    exact ⟨hv, hv', hs⟩
  · rw [if_neg c, if_neg c]
    exact h3 i hi
theorem fin1 (m : Int) : Ev (fun k => impl_isFinite.f k [m]) (ffin m) := by
  have h := finite_ev [m] (show 1 ≤ maxLen by decide)
  simpa using h
theorem run (bs : List Bu) (hl : bs.length ≤ 8) (hok : ∀ j : Nat, j < bs.length → okB bs.length j (rB bs j)) (hw : ∀ j : Nat, j < bs.length → (rB bs j).f0.toNat < 18446744073709551616 ∧ (rB bs j).f1.f0.toNat < 18446744073709551616) :
    ∀ (m i : Nat) (came at_ out : List Int) (mi ms : Int), i + m = bs.length → Rel bs.length came at_ → out.length ≤ i → wd mi → wd ms → 0 ≤ mi → 0 ≤ ms → sz mi.toNat ms.toNat →
      Both ROk (fun k => spec_RunBuses.l1 k at_ out ms bs (bs.length : Int) (i : Int)) (fun k => impl_RunBuses.l1 k came out mi bs (bs.length : Int) (i : Int)) := by
  intro m
  induction m with
  | zero =>
    intro i came at_ out mi ms hm hR ho wi ws ni ns hz
    have e1 : spec_l2Finite.f ms = some (ffin ms) := finite_spec ms
    have e2 := fin1 mi
    have ef : ffin mi = ffin ms := by rw [fin_wd wi, fin_wd ws, sz_rung hz]
    have ep := pl_eq wi ws ni ns hz
    rw [ef] at e2
    cases c : ffin ms with
    | false =>
      rw [c] at e1 e2
      exact ⟨_, bad_ok, Ev.step (fun k => spec_RunBuses.l1.eq_2 _ _ _ _ _ _ k) (Ev.neg (by omega) (Ev.const_bind e1 (Ev.neg (by decide) (Ev.now _)))), Ev.step (fun k => impl_RunBuses.l1.eq_2 _ _ _ _ _ _ k) (Ev.neg (by omega) (Ev.bind e2 (Ev.neg (by decide) (Ev.now _))))⟩
    | true =>
      rw [c] at e1 e2
      refine ⟨(out, pl ms, true), by show out.length ≤ 8; omega, Ev.step (fun k => spec_RunBuses.l1.eq_2 _ _ _ _ _ _ k) (Ev.neg (by omega) (Ev.const_bind e1 (Ev.pos rfl (Ev.const_bind (plain_spec ms) (Ev.now _))))), Ev.step (fun k => impl_RunBuses.l1.eq_2 _ _ _ _ _ _ k) (Ev.neg (by omega) (Ev.bind e2 (Ev.pos rfl (Ev.const_bind (plain_impl mi) ?_))))⟩
      rw [ep]
      exact Ev.now _
  | succ m ih =>
    intro i came at_ out mi ms hm hR ho wi ws ni ns hz
    have hin : i < bs.length := by omega
    obtain ⟨hR1, hR2, hR3⟩ := hR
    obtain ⟨wa', wa, hsz⟩ := hR3 i hin
    obtain ⟨hb1, hb2, hb3⟩ := hok i hin
    obtain ⟨hw1, hw2⟩ := hw i hin
    obtain ⟨b, hb⟩ : ∃ b, b = rB bs (i : Int) := ⟨_, rfl⟩
    obtain ⟨a, ha⟩ : ∃ a, a = rd at_ (i : Int) := ⟨_, rfl⟩
    obtain ⟨a', ha'⟩ : ∃ a', a' = rd came (i : Int) := ⟨_, rfl⟩
    rw [← ha] at wa hsz
    rw [← ha'] at wa' hsz
    rw [← hb] at hb1 hb2 hb3 hw1 hw2
    have gg : b.f0.toNat % 9223372036854775808 < 9218868437227405312 := by
      have := good_fin hb1
      rw [fin_iff _ hw1] at this
      exact of_decide_eq_true this
    have gB : b.f1.f0.toNat % 9223372036854775808 < 9218868437227405312 := by
      have h : fgood b.f1.f0 = true := by
        unfold fOk at hb2
        rw [Bool.and_eq_true] at hb2
        exact hb2.1
      have := good_fin h
      rw [fin_iff _ hw2] at this
      exact of_decide_eq_true this
    have hrung := sz_rung hsz
    -- the reference's step, with its letters
    have sp : ∀ {r : RB}, Ev (fun k => (if rbS a b.f0 b.f1.f0 = true then (if fmulOk a.toNat b.f0.toNat = true then (if fmulOk b.f1.f0.toNat (fmul a.toNat b.f0.toNat).toNat = true then (if faddOk (fmul b.f1.f0.toNat (fmul a.toNat b.f0.toNat).toNat).toNat 0 = true then ((spec_l2Finite.f a).bind fun t139 => (if t139 = true then ((spec_l2Finite.f (fadd (fmul b.f1.f0.toNat (fmul a.toNat b.f0.toNat).toNat).toNat 0)).bind fun t140 => (spec_RunBuses.j3 k at_ out ms (fadd (fmul b.f1.f0.toNat (fmul a.toNat b.f0.toNat).toNat).toNat 0) bs (bs.length : Int) (i : Int) (!t140) b.f0 b.f1.f0 b.f1.f1 b.f1.f2 b.f1.f3 b.f1.f4 b.f2)) else (spec_RunBuses.j3 k at_ out ms (fadd (fmul b.f1.f0.toNat (fmul a.toNat b.f0.toNat).toNat).toNat 0) bs (bs.length : Int) (i : Int) true b.f0 b.f1.f0 b.f1.f1 b.f1.f2 b.f1.f3 b.f1.f4 b.f2))) else (none)) else (none)) else (none)) else (if rbbadS a b.f0 b.f1.f0 = true then (some (([] : List Int), 0, false)) else none))) r → Ev (fun k => spec_RunBuses.l1 k at_ out ms bs (bs.length : Int) (i : Int)) r := by
      intro r h
      refine Ev.step (fun k => spec_RunBuses.l1.eq_2 _ _ _ _ _ _ k) ?_
      rw [ha, hb] at h
      exact Ev.pos (by omega) (Ev.pos (by omega) (Ev.pos (by omega) (Ev.pos (by omega) h)))
    have im : ∀ {r : RB}, Ev (fun k => (if rbI a' b.f0 b.f1.f0 = true then ((impl_mul.f a' b.f0).bind fun t214 => ((impl_mul.f b.f1.f0 t214).bind fun t215 => ((impl_plain.f t215).bind fun t221 => (if out.length < 17592186044416 then ((some (out ++ [t221] : List Int)).bind fun y222 => (if b.f2 < 0 then (if faddOk mi.toNat t215.toNat = true then (impl_RunBuses.l1 k came y222 (fadd mi.toNat t215.toNat) bs (bs.length : Int) (wrap64 ((i : Int) + 1))) else (none)) else (if 0 ≤ b.f2 then (if b.f2 < (came.length : Int) then (if faddOk (rd came b.f2).toNat t215.toNat = true then (impl_RunBuses.l1 k (came.set (b.f2 : Int).toNat (fadd (rd came b.f2).toNat t215.toNat)) y222 mi bs (bs.length : Int) (wrap64 ((i : Int) + 1))) else (none)) else (none)) else (none)))) else (none))))) else (if rbbadI a' b.f0 b.f1.f0 = true then (some (([] : List Int), 0, false)) else none))) r → Ev (fun k => impl_RunBuses.l1 k came out mi bs (bs.length : Int) (i : Int)) r := by
      intro r h
      refine Ev.step (fun k => impl_RunBuses.l1.eq_2 _ _ _ _ _ _ k) ?_
      rw [ha', hb] at h
      exact Ev.pos (by omega) (Ev.pos (by omega) (Ev.pos (by omega) (Ev.pos (by omega) h)))
    rw [w_succ (by omega)] at im
    have fa : rbfin a = ffin a := rfl
    have fa' : rbfin a' = ffin a' := rfl
    have impBad : rbI a' b.f0 b.f1.f0 = false → rbbadI a' b.f0 b.f1.f0 = true → Ev (fun k => impl_RunBuses.l1 k came out mi bs (bs.length : Int) (i : Int)) ([], 0, false) := fun h1 h2 => im (Ev.neg (by rw [h1]; decide) (Ev.pos h2 (Ev.now _)))
    have j3bad : ∀ y : Int, Ev (fun k => spec_RunBuses.j3 k at_ out ms y bs (bs.length : Int) (i : Int) true b.f0 b.f1.f0 b.f1.f1 b.f1.f2 b.f1.f3 b.f1.f4 b.f2) ([], 0, false) := fun y => Ev.step (fun k => spec_RunBuses.j3.eq_2 _ _ _ _ _ _ _ _ _ _ _ _ _ _ _ k) (Ev.pos rfl (Ev.now _))
    by_cases c1 : a.toNat % 9223372036854775808 < 9218868437227405312
    case neg =>
      have n1 : ffin a = false := by rw [fin_wd wa]; exact decide_eq_false c1
      have n2 : ffin a' = false := by rw [fin_wd wa', hrung]; exact decide_eq_false c1
      refine ⟨_, bad_ok, ?_, impBad (by unfold rbI; rw [fa', n2]; rfl) (by unfold rbbadI; rw [fa', n2]; rfl)⟩
      cases cS : rbS a b.f0 b.f1.f0 with
      | false => exact sp (Ev.neg (by rw [cS]; decide) (Ev.pos (by unfold rbbadS; rw [fa, n1]; rfl) (Ev.now _)))
      | true =>
        have cS2 := cS
        unfold rbS at cS2
        simp only [Bool.and_eq_true] at cS2
        exact sp (Ev.pos cS (Ev.pos cS2.1 (Ev.pos cS2.2.1 (Ev.pos cS2.2.2 (Ev.const_bind ((finite_spec a).trans (by rw [n1])) (Ev.neg (by decide) (j3bad _)))))))
    have c1' : a'.toNat % 9223372036854775808 < 9218868437227405312 := by omega
    have y1 : ffin a = true := by rw [fin_wd wa]; exact decide_eq_true c1
    have y2 : ffin a' = true := by rw [fin_wd wa']; exact decide_eq_true c1'
    obtain ⟨ok1, wv, nv⟩ := mul_wd c1 gg
    obtain ⟨ok1', wv', nv'⟩ := mul_wd c1' gg
    have svv : sz (fmul a'.toNat b.f0.toNat).toNat (fmul a.toNat b.f0.toNat).toNat := by
      rcases hsz with h | ⟨h1, h2⟩
      · rw [h]; exact .inl rfl
      · exact .inr ⟨(mul_zero h1 gg).1, (mul_zero h2 gg).1⟩
    have rv := sz_rung svv
    obtain ⟨v, hv⟩ : ∃ v, v = fmul a.toNat b.f0.toNat := ⟨_, rfl⟩
    obtain ⟨v', hv'⟩ : ∃ v', v' = fmul a'.toNat b.f0.toNat := ⟨_, rfl⟩
    rw [← hv] at wv nv svv rv sp
    rw [← hv'] at wv' nv' svv rv
    have m1' : impl_mul.f a' b.f0 = some v' := by unfold impl_mul.f; rw [if_pos ok1', hv']
    by_cases c2 : v.toNat % 9223372036854775808 < 9218868437227405312
    case neg =>
      have i1 : v.toNat % 9223372036854775808 = 9218868437227405312 := by have := wv.2; omega
      have i1' : v'.toNat % 9223372036854775808 = 9218868437227405312 := by omega
      have nf : rbfin (fmul a'.toNat b.f0.toNat) = false := by
        rw [← hv']
        exact (fin_wd wv').trans (decide_eq_false (by omega))
      refine ⟨_, bad_ok, ?_, impBad (by unfold rbI; rw [fa', y2, ok1', nf]; rfl) (by unfold rbbadI; rw [fa', y2, ok1', nf]; rfl)⟩
      obtain ⟨mi1, mi2⟩ := mul_inf i1 gB
      cases cp : fmulOk b.f1.f0.toNat v.toNat with
      | false =>
        have cS : rbS a b.f0 b.f1.f0 = false := by unfold rbS; rw [← hv, ok1, cp]; rfl
        exact sp (Ev.neg (by rw [cS]; decide) (Ev.pos (by unfold rbbadS; rw [fa, y1, ok1, ← hv, cp]; rfl) (Ev.now _)))
      | true =>
        have ip := mi2 cp
        obtain ⟨ao, ag, ai⟩ := add_num (a := (fmul b.f1.f0.toNat v.toNat).toNat) (p := 0) (by omega) (by decide)
        have iy := ai ip
        have cS : rbS a b.f0 b.f1.f0 = true := by unfold rbS; rw [← hv, ok1, cp, ao]; rfl
        have fy : ffin (fadd (fmul b.f1.f0.toNat v.toNat).toNat 0) = false := (fin_iff _ (fadd_lt _ _)).trans (decide_eq_false (by omega))
        exact sp (Ev.pos cS (Ev.pos ok1 (Ev.pos cp (Ev.pos ao (Ev.const_bind ((finite_spec a).trans (by rw [y1])) (Ev.pos rfl (Ev.const_bind ((finite_spec _).trans (by rw [fy])) (j3bad _))))))))
    have c2' : v'.toNat % 9223372036854775808 < 9218868437227405312 := by omega
    obtain ⟨ok2, wp, np⟩ := mul_wd gB c2
    obtain ⟨ok2', wp', np'⟩ := mul_wd gB c2'
    have spp : sz (fmul b.f1.f0.toNat v'.toNat).toNat (fmul b.f1.f0.toNat v.toNat).toNat := by
      rcases svv with h | ⟨h1, h2⟩
      · rw [h]; exact .inl rfl
      · exact .inr ⟨(mul_zero h1 gB).2, (mul_zero h2 gB).2⟩
    obtain ⟨p, hp⟩ : ∃ p, p = fmul b.f1.f0.toNat v.toNat := ⟨_, rfl⟩
    obtain ⟨p', hp'⟩ : ∃ p', p' = fmul b.f1.f0.toNat v'.toNat := ⟨_, rfl⟩
    rw [← hp] at wp np spp sp
    rw [← hp'] at wp' np' spp
    have rp := sz_rung spp
    have m2' : impl_mul.f b.f1.f0 v' = some p' := by unfold impl_mul.f; rw [if_pos ok2', hp']
    obtain ⟨ao, ag, ai⟩ := add_num (a := p.toNat) (p := 0) wp.2 (by decide)
    have cS : rbS a b.f0 b.f1.f0 = true := by unfold rbS; rw [← hv, ok1, ok2, ← hp, ao]; rfl
    have fv' : rbfin (fmul a'.toNat b.f0.toNat) = true := by
      rw [← hv']
      exact (fin_wd wv').trans (decide_eq_true c2')
    by_cases c3 : p.toNat % 9223372036854775808 < 9218868437227405312
    case neg =>
      have ip : p.toNat % 9223372036854775808 = 9218868437227405312 := by have := wp.2; omega
      have iy := ai ip
      have fy : ffin (fadd p.toNat 0) = false := (fin_iff _ (fadd_lt _ _)).trans (decide_eq_false (by omega))
      have np2 : rbfin (fmul b.f1.f0.toNat (fmul a'.toNat b.f0.toNat).toNat) = false := by
        rw [← hv', ← hp']
        exact (fin_wd wp').trans (decide_eq_false (by omega))
      have ok2b : fmulOk b.f1.f0.toNat (fmul a'.toNat b.f0.toNat).toNat = true := by rw [← hv']; exact ok2'
      exact ⟨_, bad_ok, sp (Ev.pos cS (Ev.pos ok1 (Ev.pos ok2 (Ev.pos ao (Ev.const_bind ((finite_spec a).trans (by rw [y1])) (Ev.pos rfl (Ev.const_bind ((finite_spec _).trans (by rw [fy])) (j3bad _)))))))), impBad (by unfold rbI; rw [fa', y2, ok1', fv', ok2b, np2]; rfl) (by unfold rbbadI; rw [fa', y2, ok1', fv', ok2b, np2]; rfl)⟩
    have c3' : p'.toNat % 9223372036854775808 < 9218868437227405312 := by omega
    have cI : rbI a' b.f0 b.f1.f0 = true := by
      have ok2b : fmulOk b.f1.f0.toNat (fmul a'.toNat b.f0.toNat).toNat = true := by rw [← hv']; exact ok2'
      have fp : rbfin (fmul b.f1.f0.toNat (fmul a'.toNat b.f0.toNat).toNat) = true := by
        rw [← hv', ← hp']
        exact (fin_wd wp').trans (decide_eq_true c3')
      unfold rbI
      rw [fa', y2, ok1', fv', ok2b, fp]
      rfl
    -- y = p + 0
    have wy : wd (fadd p.toNat 0) := ⟨fadd_lt _ _, ag⟩
    have ny : 0 ≤ fadd p.toNat 0 := by unfold fadd; omega
    have sy : sz (fadd p.toNat 0).toNat p.toNat := by
      by_cases z : p.toNat % 9223372036854775808 = 0
      · exact .inr ⟨add_zeros z (by decide), z⟩
      · exact .inl (add_zero wp.2 z wp.1 (by decide)).1
    obtain ⟨y, hy⟩ : ∃ y, y = fadd p.toNat 0 := ⟨_, rfl⟩
    rw [← hy] at wy ny sy sp
    have ry := sz_rung sy
    have fy : ffin y = true := (fin_wd wy).trans (decide_eq_true (by omega))
    have spy : sz p'.toNat y.toNat := by
      rcases sy with h | h
      · rw [h]; exact spp
      · rcases spp with h2 | h2
        · exact .inr ⟨by omega, h.1⟩
        · exact .inr ⟨h2.1, h.1⟩
    have ep : pl p' = pl y := pl_eq wp' wy np' ny spy
    have sq : sz p'.toNat (pl y).toNat := by rw [← ep]; exact pl_sz wp'
    have wq := pl_wd wy
    have rq := sz_rung sq
    have hlo : (out ++ [pl y]).length ≤ i + 1 := by rw [List.length_append]; exact Nat.add_le_add_right ho 1
    have s2 : ∀ {r : RB}, Ev (fun k => (if b.f2 < 0 then (if faddOk ms.toNat (pl y).toNat = true then (spec_RunBuses.l1 k at_ (out ++ [pl y]) (fadd ms.toNat (pl y).toNat) bs (bs.length : Int) (wrap64 ((i : Int) + 1))) else (none)) else (if 0 ≤ b.f2 then (if b.f2 < (at_.length : Int) then (if faddOk (rd at_ b.f2).toNat (pl y).toNat = true then (spec_RunBuses.l1 k (at_.set (b.f2 : Int).toNat (fadd (rd at_ b.f2).toNat (pl y).toNat)) (out ++ [pl y]) ms bs (bs.length : Int) (wrap64 ((i : Int) + 1))) else (none)) else (none)) else (none)))) r → Ev (fun k => spec_RunBuses.l1 k at_ out ms bs (bs.length : Int) (i : Int)) r := by
      intro r h
      refine sp (Ev.pos cS (Ev.pos ok1 (Ev.pos ok2 (Ev.pos ao (Ev.const_bind ((finite_spec a).trans (by rw [y1])) (Ev.pos rfl (Ev.const_bind ((finite_spec _).trans (by rw [fy])) ?_)))))))
      exact Ev.step (fun k => spec_RunBuses.j3.eq_2 _ _ _ _ _ _ _ _ _ _ _ _ _ _ _ k) (Ev.neg (by decide) (Ev.const_bind (plain_spec y) (Ev.pos (by omega) (Ev.some_bind h))))
    have i2 : ∀ {r : RB}, Ev (fun k => (if b.f2 < 0 then (if faddOk mi.toNat p'.toNat = true then (impl_RunBuses.l1 k came (out ++ [pl y]) (fadd mi.toNat p'.toNat) bs (bs.length : Int) ((i + 1 : Nat) : Int)) else (none)) else (if 0 ≤ b.f2 then (if b.f2 < (came.length : Int) then (if faddOk (rd came b.f2).toNat p'.toNat = true then (impl_RunBuses.l1 k (came.set (b.f2 : Int).toNat (fadd (rd came b.f2).toNat p'.toNat)) (out ++ [pl y]) mi bs (bs.length : Int) ((i + 1 : Nat) : Int)) else (none)) else (none)) else (none)))) r → Ev (fun k => impl_RunBuses.l1 k came out mi bs (bs.length : Int) (i : Int)) r := by
      intro r h
      refine im (Ev.pos cI (Ev.const_bind m1' (Ev.const_bind m2' (Ev.const_bind ((plain_impl p').trans (by rw [ep])) (Ev.pos (by omega) (Ev.some_bind h))))))
    rw [w_succ (by omega)] at s2
    by_cases c4 : b.f2 < 0
    · obtain ⟨o1, w1, n1⟩ := add_wd ws (y := pl y) (by omega)
      obtain ⟨o2, w2, n2⟩ := add_wd wi (y := p') c3'
      obtain ⟨r, hr, e1, e2⟩ := ih (i + 1) came at_ (out ++ [pl y]) (fadd mi.toNat p'.toNat) (fadd ms.toNat (pl y).toNat) (by omega) ⟨hR1, hR2, hR3⟩ hlo w2 w1 n2 n1 (add_sz hz sq wi.2 wp'.2 wi.1 wp'.1 ws.1 wq.1)
      exact ⟨r, hr, s2 (Ev.pos c4 (Ev.pos o1 e1)), i2 (Ev.pos c4 (Ev.pos o2 e2))⟩
    · obtain ⟨q, hq⟩ := Int.eq_ofNat_of_zero_le (show 0 ≤ b.f2 by omega)
      have hqn : q < bs.length := by omega
      obtain ⟨wc', wc, sc⟩ := hR3 q hqn
      rw [← hq] at wc' wc sc
      obtain ⟨o1, w1, n1⟩ := add_wd wc (y := pl y) (by omega)
      obtain ⟨o2, w2, n2⟩ := add_wd wc' (y := p') c3'
      have hset := Rel.set ⟨hR1, hR2, hR3⟩ hqn w2 w1 (add_sz sc sq wc'.2 wp'.2 wc'.1 wp'.1 wc.1 wq.1)
      obtain ⟨r, hr, e1, e2⟩ := ih (i + 1) _ _ (out ++ [pl y]) mi ms (by omega) hset hlo wi ws ni ns hz
      have hqt : b.f2.toNat = q := by omega
      rw [← hqt] at e1 e2
      exact ⟨r, hr, s2 (Ev.neg c4 (Ev.pos (by omega) (Ev.pos (by omega) (Ev.pos o1 e1)))), i2 (Ev.neg c4 (Ev.pos (by omega) (Ev.pos (by omega) (Ev.pos o2 e2))))⟩
theorem reals_ev (x : List Int) (hl : x.length ≤ 64) : Ev (fun k => spec_l16Reals.f k x) (x.all fgood) := by
  unfold spec_l16Reals.f
  refine Ev.neg (by omega) ?_
  exact all_ev (0 : Int) fgood spec_l16Reals.l0 (fun k x n i => by
    rw [spec_l16Reals.l0.eq_2]
    simp only [good_spec, Option.bind_some]
    rfl) x (by rw [maxLen_eq]; omega)
theorem both (bs : List Bu) (ins : List Int) (hb : ∀ b ∈ bs, b.f0.toNat < 18446744073709551616 ∧ b.f1.f0.toNat < 18446744073709551616) (hw : ∀ z ∈ ins, z.toNat < 18446744073709551616) : Both ROk (fun k => spec_RunBuses.f k bs ins) (fun k => impl_RunBuses.f k bs ins) := by
  have sT : Ev (fun k => spec_RunBuses.j0 k bs ins true) ([], 0, false) := Ev.step (fun k => spec_RunBuses.j0.eq_2 _ _ _ k) (Ev.pos rfl (Ev.now _))
  have iT : Ev (fun k => impl_RunBuses.j0 k bs ins true) ([], 0, false) := Ev.step (fun k => impl_RunBuses.j0.eq_2 _ _ _ k) (Ev.pos rfl (Ev.now _))
  unfold spec_RunBuses.f impl_RunBuses.f
  by_cases h8 : (bs.length : Int) > 8
  · exact ⟨_, bad_ok, Ev.pos h8 sT, Ev.pos h8 iT⟩
  · by_cases hn : (ins.length : Int) = (bs.length : Int)
    · have hr := reals_ev ins (by omega)
      have hg := good_list ins (by rw [maxLen_eq]; omega)
      cases ha : ins.all fgood with
      | false =>
        rw [ha] at hr hg
        exact ⟨_, bad_ok, Ev.neg h8 (Ev.pos hn (Ev.bind hr sT)), Ev.neg h8 (Ev.pos hn (Ev.bind hg iT))⟩
      | true =>
        rw [ha] at hr hg
        have hR : Rel bs.length ins ins := ⟨by omega, by omega, fun j hj => by
          have hi : j < ins.length := by omega
          have hz : ins[j] ∈ ins := List.getElem_mem hi
          have h1 := good_fin (List.all_eq_true.1 ha _ hz)
          have h2 := hw _ hz
          rw [fin_iff _ h2] at h1
          have h3 := of_decide_eq_true h1
          rw [rd_get hi]
          exact ⟨⟨h2, by omega⟩, ⟨h2, by omega⟩, .inl rfl⟩⟩
        have hbw : ∀ j : Nat, j < bs.length → (rB bs j).f0.toNat < 18446744073709551616 ∧ (rB bs j).f1.f0.toNat < 18446744073709551616 := fun j hj => by
          rw [rB_get hj]
          exact hb _ (List.getElem_mem hj)
        obtain ⟨r, q, e1, e2⟩ := valid bs ins (by omega) (by omega) (fun hok => run bs (by omega) hok hbw bs.length 0 ins ins [] 0 0 (by omega) hR (by simp) zero_wd zero_wd (by omega) (by omega) (.inl rfl)) bs.length 0 (by omega) (fun j hj => by omega)
        exact ⟨r, q, Ev.neg h8 (Ev.pos hn (Ev.bind hr (Ev.step (fun k => spec_RunBuses.j0.eq_2 _ _ _ k) (Ev.neg (by decide) e1)))), Ev.neg h8 (Ev.pos hn (Ev.bind hg (Ev.step (fun k => impl_RunBuses.j0.eq_2 _ _ _ k) (Ev.neg (by decide) e2))))⟩
    · exact ⟨_, bad_ok, Ev.neg h8 (Ev.neg hn sT), Ev.neg h8 (Ev.neg hn iT)⟩
/-! the law -/
def asBus (b : S80) : Bu := ⟨b.f0, ⟨b.f1.f0, b.f1.f1, b.f1.f2, b.f1.f3, b.f1.f4⟩, b.f2⟩
theorem to_buses (l : List S80) (hl : (l.length : Int) ≤ 1048576) : Ev (fun k => laws_toBusS.f k l) (l.map asBus) := by
  have ht := toK_ev z76 asBus z80 (fun _ z => some (asBus z)) laws_toBusS.l0 (fun k x y i => by
      rw [laws_toBusS.l0]
      split
      · split
        · simp only [laws_toBus.f, laws_toFilter.f, Option.bind_some]; rfl
        · rfl
      · rfl) l (by omega) (fun z _ => Ev.now _)
  unfold laws_toBusS.f
  exact Ev.pos (by omega) (Ev.pos (by omega) ht)
theorem eq_buses (l : List Bu) (hl : (l.length : Int) ≤ 1048576) : Ev (fun k => laws_eqBusS.f k l l) true := by
  unfold laws_eqBusS.f
  exact eqK_ev z76 (fun k a b => laws_eqBus.f k a.f0 a.f1.f0 a.f1.f1 a.f1.f2 a.f1.f3 a.f1.f4 a.f2 b.f0 b.f1.f0 b.f1.f1 b.f1.f2 b.f1.f3 b.f1.f4 b.f2) laws_eqBusS.l0 (fun k x y i => laws_eqBusS.l0.eq_2 x y i k) l (by rw [maxLen_eq]; omega) (fun a _ => by
    unfold laws_eqBus.f laws_eqFilter.f
    exact Ev.bind (same_ev _) (Ev.pos rfl (Ev.bind (Ev.bind (same_ev _) (Ev.pos rfl (Ev.bind (same_ev _) (Ev.pos rfl (Ev.bind (same_ev _) (Ev.pos rfl (Ev.bind (same_ev _) (Ev.pos rfl (Ev.bind (same_ev _) (Ev.pos rfl (Ev.now _))))))))))) (Ev.pos rfl (Ev.pos rfl (Ev.now _))))))
def Gd (n : Nat) (F : Nat → Option (Int × List Bu)) : Prop := ∃ r d, 1 ≤ d ∧ d ≤ 1 + 7 * (n : Int) ∧ Ev F (d, r)
theorem Gd.some {n : Nat} {Y : List Bu} {F : List Bu → Nat → Option (Int × List Bu)} (hY : Y.length = n) (h : ∀ y : List Bu, y.length = n → Gd n (F y)) : Gd n (fun k => (Option.some Y).bind (fun y => F y k)) := by
  obtain ⟨r, d, h1, h2, e⟩ := h Y hY
  exact ⟨r, d, h1, h2, Ev.some_bind e⟩
theorem wq (c : Int) (h : 1 ≤ c ∧ c ≤ 100000000) : wrap64 (c + 1) = c + 1 ∧ wrap64 (wrap64 (c + 1) + 1) = c + 2 ∧ wrap64 (wrap64 (wrap64 (c + 1) + 1) + 1) = c + 3 ∧ wrap64 (wrap64 (wrap64 (wrap64 (c + 1) + 1) + 1) + 1) = c + 4 ∧ wrap64 (wrap64 (wrap64 (wrap64 (wrap64 (c + 1) + 1) + 1) + 1) + 1) = c + 5 ∧ wrap64 (wrap64 (wrap64 (wrap64 (wrap64 (wrap64 (c + 1) + 1) + 1) + 1) + 1) + 1) = c + 6 ∧ wrap64 (wrap64 (wrap64 (wrap64 (wrap64 (wrap64 (wrap64 (c + 1) + 1) + 1) + 1) + 1) + 1) + 1) = c + 7 := by
  have st : ∀ (x : Int) (k : Int), 0 ≤ k → k ≤ 10 → x = c + k → wrap64 (x + 1) = c + (k + 1) := fun x k h0 h1 hx => by
    subst hx
    rw [w64 (by omega) (by omega), Int.add_assoc]
  have s1 := st c 0 (by decide) (by decide) (Int.add_zero c).symm
  have s2 := st _ 1 (by decide) (by decide) s1
  have s3 := st _ 2 (by decide) (by decide) s2
  have s4 := st _ 3 (by decide) (by decide) s3
  have s5 := st _ 4 (by decide) (by decide) s4
  have s6 := st _ 5 (by decide) (by decide) s5
  have s7 := st _ 6 (by decide) (by decide) s6
  exact ⟨s1, s2, s3, s4, s5, s6, s7⟩
theorem mark_buses (n : Nat) (hn : (n : Int) ≤ 1048576) : ∀ (m i : Nat) (l : List Bu) (c : Int), l.length = n → i + m = n → 1 ≤ c → c ≤ 1 + 7 * (i : Int) → Gd n (fun k => laws_markBusS.l0 k l c (i : Int)) := by
  intro m
  induction m with
  | zero => exact fun i l c hl hi h1 h2 => ⟨l, c, h1, by omega, Ev.step (fun k => laws_markBusS.l0.eq_2 _ _ _ k) (Ev.neg (by omega) (Ev.now _))⟩
  | succ m ih =>
    intro i l c hl hi h1 h2
    suffices h : Gd n (fun k => laws_markBusS.l0 (k + 1) l c (i : Int)) by
      obtain ⟨r, d, h3, h4, h5⟩ := h
      exact ⟨r, d, h3, h4, Ev.step (fun k => rfl) h5⟩
    have hin : (i : Int) < (l.length : Int) := by omega
    have h0 : (0 : Int) ≤ (i : Int) := by omega
    have hun : (fun k => laws_markBusS.l0 (k + 1) l c (i : Int)) = fun k => _ := funext fun k => (laws_markBusS.l0.eq_2 l c (i : Int) k).trans ((if_pos hin).trans (if_pos h0))
    rw [hun]
    refine Gd.some (by rw [List.length_set]; exact hl) (fun y1 g1 => ?_)
    refine Gd.some (by rw [List.length_set]; exact g1) (fun y2 g2 => ?_)
    refine Gd.some (by rw [List.length_set]; exact g2) (fun y3 g3 => ?_)
    refine Gd.some (by rw [List.length_set]; exact g3) (fun y4 g4 => ?_)
    refine Gd.some (by rw [List.length_set]; exact g4) (fun y5 g5 => ?_)
    refine Gd.some (by rw [List.length_set]; exact g5) (fun y6 g6 => ?_)
    have hW : 1 ≤ c ∧ c ≤ 100000000 := ⟨h1, by omega⟩
    rw [(wq c hW).2.2.2.2.2.2, show wrap64 ((i : Int) + 1) = ((i + 1 : Nat) : Int) from w_succ (by omega)]
    exact ih (i + 1) _ (c + 7) (by rw [List.length_set]; exact g6) (by omega) (by omega) (by omega)
theorem FnExactRunBuses : laws_FnExactRunBuses.Pure := by
  intro l ins ⟨hl, hs⟩ ⟨_, hw⟩
  refine Ev.rounds (r := true) ?_
  unfold laws_FnExactRunBuses.f
  refine Ev.ite (fun _ => Ev.now _) (fun hL => ?_)
  have hi : (ins.length : Int) ≤ 1048576 := by omega
  have e := sz_left (n := l.length) (a := 1048576) (by omega) (by omega) hl
  rw [maxLen_eq] at hl
  have hsz : ∃ t : Int, laws_szBusS.f l 1048576 = some t ∧ (¬ t < 0 → (l.length : Int) ≤ 1048576) := by
    unfold laws_szBusS.f
    by_cases hn : wrap64 (1048576 - (l.length : Int)) < 0
    · exact ⟨-1, by rw [if_pos hn], by omega⟩
    · rw [if_neg hn] at e ⊢
      refine ⟨_, rfl, fun _ => ?_⟩
      have e := Option.some.inj e
      rw [e] at hn
      have := (roomLeft_ok hn).1
      omega
  obtain ⟨t, ht, hlen⟩ := hsz
  refine Ev.const_bind ht (Ev.ite (fun _ => Ev.now _) (fun h => ?_))
  have n1 := hlen h
  have tk := to_buses l n1
  have x1 : ((l.map asBus).length : Int) ≤ 1048576 := by rw [List.length_map]; exact n1
  have x2 : ∀ b ∈ l.map asBus, b.f0.toNat < 18446744073709551616 ∧ b.f1.f0.toNat < 18446744073709551616 := by
    intro z hz
    obtain ⟨y, hy, rfl⟩ := List.mem_map.1 hz
    obtain ⟨o1, o2, _⟩ := hs y hy
    exact ⟨of_decide_eq_true o1, of_decide_eq_true o2.1⟩
  generalize l.map asBus = X at tk x1 x2
  have tf := to_floats ins hi
  have ef := eq_floats ins hi
  have eb := eq_buses X x1
  obtain ⟨⟨r0, r1, r2⟩, hr, s1, s2⟩ := both X ins x2 (fun z hz => of_decide_eq_true (hw z hz))
  have hr : r0.length ≤ 8 := hr
  have er := eq_floats r0 (by omega)
  have es := same_ev r1
  obtain ⟨mb, d, d1, d2, hmb⟩ := mark_buses X.length x1 X.length 0 X 1 rfl (by omega) (by omega) (by omega)
  obtain ⟨ml, hm⟩ := mark_floats ins d d1 (by omega) hi
  obtain ⟨mr, hm2, hh⟩ := mark_held r0 (by omega)
  exact Ev.bind tk (Ev.bind tf (Ev.bind s1 (Ev.bind tk (Ev.bind tf (Ev.bind s2 (Ev.bind er (Ev.pos rfl (Ev.bind es (Ev.pos rfl (Ev.pos rfl (Ev.bind tk (Ev.bind eb (Ev.pos rfl (Ev.bind tf (Ev.bind ef (Ev.pos rfl (Ev.bind hmb (Ev.bind hm (Ev.pos (by simp only; omega) (Ev.bind er (Ev.pos rfl (Ev.bind es (Ev.pos rfl (Ev.pos rfl (Ev.bind hm2 (Ev.bind hh (Ev.pos (by omega) (Ev.pos rfl (Ev.bind tk (Ev.bind tf (Ev.bind s2 (Ev.bind er (Ev.pos rfl (Ev.bind es (Ev.pos rfl (Ev.pos rfl (Ev.bind hh (Ev.pos (by omega) (Ev.pos rfl (Ev.now _))))))))))))))))))))))))))))))))))))))))

end Go.Proofs.Ytbjdhmgednhdgaa.Pure
