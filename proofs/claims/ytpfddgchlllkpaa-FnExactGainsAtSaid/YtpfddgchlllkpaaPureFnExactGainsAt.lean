import Derived.Test.YtpfddgchlllkpaaXFnExactGainsAtx4
import Derived.Test.YtpfddgchlllkpaaXLibGainsAt
namespace Go.Proofs.Ytpfddgchlllkpaa.Pure
open Go.RowKit Go.Proofs.Ytpfddgchlllkpaa.XFnExactGainsAt Go.Proofs.YtpfddgchlllkpaaW.PrintWords Go.Proofs.YtpfddgchlllkpaaW.PrintLast Go.Proofs.YtpfddgchlllkpaaW.PrintMore Go.Proofs.Ytpfddgchlllkpaa.X
set_option linter.unusedVariables false
set_option linter.unusedSimpArgs false

theorem u64w {n : Int} (h0 : 0 ≤ n) (h1 : n < 18446744073709551616) : IntKind.u64.wrap n = n := by
  simp [IntKind.wrap, IntKind.bits, IntKind.signed]
  omega
theorem u64m (n : Int) : IntKind.u64.wrap n = n % 18446744073709551616 := by
  simp [IntKind.wrap, IntKind.bits, IntKind.signed]
theorem mask32 (x : Int) (h0 : 0 ≤ x) (h1 : x < 18446744073709551616) : Go.bits .and .u64 x 4294967295 = x % 4294967296 := by
  obtain ⟨n, rfl⟩ := Int.eq_ofNat_of_zero_le h0
  unfold Go.bits
  have e : ((BitVec.ofInt IntKind.u64.bits (n : Int)) &&& (BitVec.ofInt IntKind.u64.bits 4294967295)).toNat = n % 4294967296 := by
    rw [BitVec.toNat_and, BitVec.toNat_ofInt, BitVec.toNat_ofInt]
    have e1 : ((n : Int) % ((2 ^ IntKind.u64.bits : Nat) : Int)).toNat = n := by
      simp [IntKind.bits]; omega
    have e2 : ((4294967295 : Int) % ((2 ^ IntKind.u64.bits : Nat) : Int)).toNat = 2 ^ 32 - 1 := by decide
    rw [e1, e2, Nat.and_two_pow_sub_one_eq_mod]
  show IntKind.u64.wrap _ = _
  rw [e]
  exact u64w (by omega) (by omega)
theorem or32 (x y : Int) (h0 : 0 ≤ x) (h1 : x * 4294967296 < 18446744073709551616) (h2 : 0 ≤ y) (h3 : y < 4294967296) : Go.bits .or .u64 (x * 4294967296) y = x * 4294967296 + y := by
  obtain ⟨n, rfl⟩ := Int.eq_ofNat_of_zero_le h0
  obtain ⟨m, rfl⟩ := Int.eq_ofNat_of_zero_le h2
  unfold Go.bits
  have e : ((BitVec.ofInt IntKind.u64.bits ((n : Int) * 4294967296)) ||| (BitVec.ofInt IntKind.u64.bits (m : Int))).toNat = n * 4294967296 + m := by
    rw [BitVec.toNat_or, BitVec.toNat_ofInt, BitVec.toNat_ofInt]
    have e1 : ((n : Int) * 4294967296 % ((2 ^ IntKind.u64.bits : Nat) : Int)).toNat = n <<< 32 := by
      rw [Nat.shiftLeft_eq]
      simp [IntKind.bits]; omega
    have e2 : ((m : Int) % ((2 ^ IntKind.u64.bits : Nat) : Int)).toNat = m := by
      simp [IntKind.bits]; omega
    rw [e1, e2, ← Nat.shiftLeft_add_eq_or_of_lt (by omega), Nat.shiftLeft_eq]
  show IntKind.u64.wrap _ = _
  rw [e]
  have : ((n * 4294967296 + m : Nat) : Int) = (n : Int) * 4294967296 + m := by omega
  rw [this]
  exact u64w (by omega) (by omega)
theorem parts (a b : Int) (ha : 0 ≤ a) (hb : 0 ≤ b) (ha1 : a < 8796093022208) (hb1 : b < 8796093022208) :
    ∃ p q r s : Int, p = (a % 4294967296) * (b % 4294967296) ∧ q = (a / 4294967296) * (b % 4294967296) ∧ r = (a % 4294967296) * (b / 4294967296) ∧ s = (a / 4294967296) * (b / 4294967296) ∧ a * b = s * 18446744073709551616 + (q + r) * 4294967296 + p ∧ (0 ≤ p ∧ p ≤ 18446744065119617025) ∧ (0 ≤ q ∧ q ≤ 8796093018112) ∧ (0 ≤ r ∧ r ≤ 8796093018112) ∧ (0 ≤ s ∧ s ≤ 4194304) := by
  refine ⟨_, _, _, _, rfl, rfl, rfl, rfl, ?_, ⟨Int.mul_nonneg (by omega) (by omega), ?_⟩, ⟨Int.mul_nonneg (by omega) (by omega), ?_⟩, ⟨Int.mul_nonneg (by omega) (by omega), ?_⟩, ⟨Int.mul_nonneg (by omega) (by omega), ?_⟩⟩
  · have e1 : a = 4294967296 * (a / 4294967296) + a % 4294967296 := by omega
    have e2 : b = 4294967296 * (b / 4294967296) + b % 4294967296 := by omega
    generalize a / 4294967296 = a1 at e1 ⊢
    generalize a % 4294967296 = a0 at e1 ⊢
    generalize b / 4294967296 = b1 at e2 ⊢
    generalize b % 4294967296 = b0 at e2 ⊢
    subst e1 e2
    grind
  · exact Int.le_trans (Int.mul_le_mul (c := 4294967295) (d := 4294967295) (by omega) (by omega) (by omega) (by omega)) (by decide)
  · exact Int.le_trans (Int.mul_le_mul (c := 2047) (d := 4294967295) (by omega) (by omega) (by omega) (by omega)) (by decide)
  · exact Int.le_trans (Int.mul_le_mul (c := 4294967295) (d := 2047) (by omega) (by omega) (by omega) (by omega)) (by decide)
  · exact Int.le_trans (Int.mul_le_mul (c := 2047) (d := 2047) (by omega) (by omega) (by omega) (by omega)) (by decide)
def two (n : Int) : Int × Int := (n / 18446744073709551616, n % 18446744073709551616)
theorem times (a b : Int) (ha : 0 ≤ a) (hb : 0 ≤ b) (ha1 : a < 8796093022208) (hb1 : b < 8796093022208) : spec_l1Times.f a b = some (two (a * b)) := by
  obtain ⟨p, q, r, s, hp, hq, hr, hs, he, ⟨p0, p1⟩, ⟨q0, q1⟩, ⟨r0, r1⟩, ⟨s0, s1⟩⟩ := parts a b ha hb ha1 hb1
  unfold spec_l1Times.f two
  rw [Int.tdiv_eq_ediv_of_nonneg ha, Int.tdiv_eq_ediv_of_nonneg hb, Int.tmod_eq_emod_of_nonneg ha, Int.tmod_eq_emod_of_nonneg hb, u64w (n := a / 4294967296) (by omega) (by omega), u64w (n := b / 4294967296) (by omega) (by omega), ← hp, ← hq, ← hr, ← hs]
  rw [u64w (n := p) (by omega) (by omega), u64w (n := q) (by omega) (by omega), u64w (n := r) (by omega) (by omega), u64w (n := s) (by omega) (by omega)]
  rw [Int.tdiv_eq_ediv_of_nonneg p0, Int.tmod_eq_emod_of_nonneg p0, u64w (n := p / 4294967296) (by omega) (by omega), u64w (n := q + p / 4294967296) (by omega) (by omega)]
  rw [Int.tdiv_eq_ediv_of_nonneg (a := q + p / 4294967296) (by omega), Int.tmod_eq_emod_of_nonneg (a := q + p / 4294967296) (by omega), u64w (n := (q + p / 4294967296) / 4294967296) (by omega) (by omega)]
  rw [u64w (n := r + (q + p / 4294967296) % 4294967296) (by omega) (by omega), Int.tdiv_eq_ediv_of_nonneg (a := r + (q + p / 4294967296) % 4294967296) (by omega), u64w (n := (r + (q + p / 4294967296) % 4294967296) / 4294967296) (by omega) (by omega)]
  rw [u64w (n := s + (q + p / 4294967296) / 4294967296) (by omega) (by omega), u64w (n := s + (q + p / 4294967296) / 4294967296 + (r + (q + p / 4294967296) % 4294967296) / 4294967296) (by omega) (by omega)]
  have ew : IntKind.u64.wrap ((r + (q + p / 4294967296) % 4294967296) * 4294967296) = ((r + (q + p / 4294967296) % 4294967296) % 4294967296) * 4294967296 := by
    rw [u64m]
    omega
  rw [ew, or32 _ _ (by omega) (by omega) (by omega) (by omega), he]
  congr 2
  · omega
  · omega
theorem mul64 (a b : Int) (ha : 0 ≤ a) (hb : 0 ≤ b) (ha1 : a < 8796093022208) (hb1 : b < 8796093022208) : bits_Mul64.f a b = some (two (a * b)) := by
  obtain ⟨p, q, r, s, hp, hq, hr, hs, he, ⟨p0, p1⟩, ⟨q0, q1⟩, ⟨r0, r1⟩, ⟨s0, s1⟩⟩ := parts a b ha hb ha1 hb1
  unfold bits_Mul64.f two
  rw [mask32 a ha (by omega), mask32 b hb (by omega), ← hp, ← hq, ← hr, ← hs]
  rw [u64w (n := p) (by omega) (by omega), u64w (n := q) (by omega) (by omega), u64w (n := r) (by omega) (by omega), u64w (n := s) (by omega) (by omega)]
  rw [u64w (n := q + p / 4294967296) (by omega) (by omega), mask32 (q + p / 4294967296) (by omega) (by omega), u64w (n := s + (q + p / 4294967296) / 4294967296) (by omega) (by omega), u64w (n := (q + p / 4294967296) % 4294967296 + r) (by omega) (by omega), u64w (n := s + (q + p / 4294967296) / 4294967296 + ((q + p / 4294967296) % 4294967296 + r) / 4294967296) (by omega) (by omega), u64m, he]
  congr 2
  omega
def size (x : Int) : Int := if x < 0 then -x else x
theorem size_range (x : Int) (h : -1099511627776 ≤ x ∧ x ≤ 1099511627776) : 0 ≤ size x ∧ size x ≤ 1099511627776 := by
  unfold size
  split <;> omega
theorem abs_ev (x : Int) (h : -1099511627776 ≤ x ∧ x ≤ 1099511627776) : spec_l1Abs.f x = some (size x) := by
  unfold spec_l1Abs.f size
  split
  · rw [w64 (by omega) (by omega)]
  · rfl
theorem size_ev (x : Int) (h : -1099511627776 ≤ x ∧ x ≤ 1099511627776) : impl_size.f x = some (size x) := by
  unfold impl_size.f size mx
  rw [w64 (n := -x) (by omega) (by omega)]
  congr 1
  split <;> split <;> omega
theorem square_ev (x : Int) (h : -1099511627776 ≤ x ∧ x ≤ 1099511627776) : impl_square.f x = some (two (size x * size x)) := by
  have hs := size_range x h
  unfold impl_square.f
  rw [size_ev x h]
  simp only [Option.bind_some]
  rw [u64w (n := size x) (by omega) (by omega), mul64 _ _ hs.1 hs.1 (by omega) (by omega)]
  rfl
theorem sq_range (x : Int) (h : 0 ≤ x ∧ x ≤ 1099511627776) : 0 ≤ x * x ∧ x * x ≤ 1208925819614629174706176 :=
  ⟨Int.mul_nonneg h.1 h.1, Int.le_trans (Int.mul_le_mul h.2 h.2 h.1 (by decide)) (by decide)⟩
theorem sum_ev (A B : Int) (hA : 0 ≤ A ∧ A ≤ 1208925819614629174706176) (hB : 0 ≤ B ∧ B ≤ 1208925819614629174706176) : spec_l1Sum.f (two A).1 (two A).2 (two B).1 (two B).2 = some (two (A + B)) := by
  unfold spec_l1Sum.f spec_l1Plus.f two
  simp only
  rw [u64m (A % 18446744073709551616 + B % 18446744073709551616)]
  split
  · rw [u64w (n := A / 18446744073709551616 + 1) (by omega) (by omega)]
    simp only [Option.bind_some]
    rw [u64w (n := A / 18446744073709551616 + 1 + B / 18446744073709551616) (by omega) (by omega)]
    congr 2 <;> omega
  · simp only [Option.bind_some]
    rw [u64w (n := A / 18446744073709551616 + B / 18446744073709551616) (by omega) (by omega)]
    congr 2 <;> omega
theorem less_ev (A B : Int) : spec_l1Less.f (two A).1 (two A).2 (two B).1 (two B).2 = some (decide (A < B)) := by
  unfold spec_l1Less.f two
  simp only
  split
  · rw [decide_eq_true (by omega)]
  · split
    · congr 1
      apply decide_eq_decide.2
      omega
    · rw [decide_eq_false (by omega)]
theorem squares_ev (x y : Int) (hx : -1099511627776 ≤ x ∧ x ≤ 1099511627776) (hy : -1099511627776 ≤ y ∧ y ≤ 1099511627776) : spec_l1Squares.f x y = some (two (size x * size x + size y * size y)) := by
  have h1 := size_range x hx
  have h2 := size_range y hy
  unfold spec_l1Squares.f
  rw [abs_ev x hx, abs_ev y hy]
  simp only [Option.bind_some]
  rw [u64w (n := size x) (by omega) (by omega), u64w (n := size y) (by omega) (by omega), times _ _ h1.1 h1.1 (by omega) (by omega), times _ _ h2.1 h2.1 (by omega) (by omega)]
  simp only [Option.bind_some]
  rw [sum_ev _ _ (sq_range _ h1) (sq_range _ h2)]
  rfl
theorem mid_ok (lo hi : Int) (h0 : 0 ≤ lo) (h1 : lo < hi) (h2 : hi ≤ 4398046511104) :
    wrap64 (lo + wrap64 (Int.tdiv (wrap64 (wrap64 (hi - lo) + 1)) 2)) = lo + (hi - lo + 1) / 2 ∧ IntKind.u64.wrap (lo + IntKind.u64.wrap (Int.tdiv (IntKind.u64.wrap (IntKind.u64.wrap (hi - lo) + 1)) 2)) = lo + (hi - lo + 1) / 2 := by
  rw [w64 (n := hi - lo) (by omega) (by omega), w64 (n := hi - lo + 1) (by omega) (by omega), u64w (n := hi - lo) (by omega) (by omega), u64w (n := hi - lo + 1) (by omega) (by omega), Int.tdiv_eq_ediv_of_nonneg (by omega), w64 (n := (hi - lo + 1) / 2) (by omega) (by omega), u64w (n := (hi - lo + 1) / 2) (by omega) (by omega), w64 (by omega) (by omega), u64w (by omega) (by omega)]
  exact ⟨rfl, rfl⟩
theorem captured_ev (A m : Int) (hA : 0 ≤ A) (hm : 0 ≤ m ∧ m ≤ 1099511627776) : impl_LengthOf_1_captured.f m (two A).1 (two A).2 = some (decide (m * m ≤ A)) := by
  unfold impl_LengthOf_1_captured.f
  have hs : size m = m := by unfold size; split <;> omega
  rw [square_ev m (by omega), hs]
  simp only [Option.bind_some]
  generalize m * m = B
  unfold two
  simp only
  split
  · rw [decide_eq_true (by omega)]
  · split
    · congr 1
      apply decide_eq_decide.2
      omega
    · rw [decide_eq_false (by omega)]
theorem root_both (A : Int) (hA : 0 ≤ A) : ∀ (n : Nat) (lo hi : Int), hi - lo ≤ n → 0 ≤ lo → lo ≤ hi → hi ≤ 1099511627776 → Both (fun d => 0 ≤ d ∧ d ≤ 1099511627776) (fun k => spec_l1Root.l0 k lo hi (two A).1 (two A).2) (fun k => impl_greatest_at_impl_LengthOf_1.l0 (two A).1 (two A).2 k hi lo)
  | 0, lo, hi, h, h0, h1, h2 => Both.step (fun k => spec_l1Root.l0.eq_2 _ _ _ _ k) (fun k => impl_greatest_at_impl_LengthOf_1.l0.eq_2 _ _ _ _ k) (Both.neg (by omega) (by omega) (Both.now _ ⟨h0, by omega⟩))
  | n + 1, lo, hi, h, h0, h1, h2 => by
    refine Both.step (fun k => spec_l1Root.l0.eq_2 _ _ _ _ k) (fun k => impl_greatest_at_impl_LengthOf_1.l0.eq_2 _ _ _ _ k) (Both.ite (fun hl => ?_) (fun hl => Both.now _ ⟨h0, by omega⟩))
    obtain ⟨e1, e2⟩ := mid_ok lo hi h0 hl (by omega)
    rw [e1, e2]
    obtain ⟨m, hm⟩ : ∃ m, m = lo + (hi - lo + 1) / 2 := ⟨_, rfl⟩
    rw [← hm]
    have g0 : lo < m := by omega
    have g1 : m ≤ hi := by omega
    rw [w64 (n := m - 1) (by omega) (by omega), u64w (n := m - 1) (by omega) (by omega), times m m (by omega) (by omega) (by omega) (by omega), captured_ev A m hA (by omega)]
    simp only [Option.bind_some]
    rw [less_ev]
    simp only [Option.bind_some, decide_eq_true_eq]
    by_cases c : A < m * m
    · exact Both.lpos c (Both.rneg (by omega) (root_both A hA n lo (m - 1) (by omega) h0 (by omega) (by omega)))
    · exact Both.lneg c (Both.rpos (by omega) (root_both A hA n m hi (by omega) (by omega) g1 h2))
theorem fixed_spec (x : Int) : spec_GoodFixed.f x = some (decide (-1099511627776 ≤ x ∧ x ≤ 1099511627776)) := by
  unfold spec_GoodFixed.f spec_l1In.f
  split
  · simp only [Option.bind_some]
    congr 1
    apply decide_eq_decide.2
    omega
  · rw [decide_eq_false (by omega)]
    rfl
theorem fixed_impl (x : Int) : impl_GoodFixed.f x = some (decide (-1099511627776 ≤ x ∧ x ≤ 1099511627776)) := by
  unfold impl_GoodFixed.f impl_inRange.f
  split
  · simp only [Option.bind_some]
    congr 1
    apply decide_eq_decide.2
    omega
  · rw [decide_eq_false (by omega)]
    rfl
theorem are_fixed (x y : Int) : Ev (fun k => impl_areFixed.f k [x, y]) (decide ((-1099511627776 ≤ x ∧ x ≤ 1099511627776) ∧ (-1099511627776 ≤ y ∧ y ≤ 1099511627776))) := by
  unfold impl_areFixed.f
  have r0 : rd [x, y] 0 = x := rfl
  have r1 : rd [x, y] 1 = y := rfl
  have w1 : wrap64 (0 + 1) = 1 := w64 (by omega) (by omega)
  have w2 : wrap64 (1 + 1) = 2 := w64 (by omega) (by omega)
  refine Ev.step (fun k => impl_areFixed.l0.eq_2 _ _ _ k) (Ev.pos (by simp) (Ev.pos (by omega) (Ev.pos (by simp) ?_)))
  simp only [r0, w1, fixed_impl]
  by_cases hx : -1099511627776 ≤ x ∧ x ≤ 1099511627776
  · refine Ev.some_bind (Ev.pos (decide_eq_true hx) (Ev.step (fun k => impl_areFixed.l0.eq_2 _ _ _ k) (Ev.pos (by simp) (Ev.pos (by omega) (Ev.pos (by simp) ?_)))))
    simp only [r1, w2, fixed_impl]
    by_cases hy : -1099511627776 ≤ y ∧ y ≤ 1099511627776
    · rw [decide_eq_true (p := _ ∧ _) ⟨hx, hy⟩]
      exact Ev.some_bind (Ev.pos (decide_eq_true hy) (Ev.step (fun k => impl_areFixed.l0.eq_2 _ _ _ k) (Ev.neg (by simp) (Ev.now _))))
    · rw [decide_eq_false (p := _ ∧ _) (fun z => hy z.2)]
      exact Ev.some_bind (Ev.neg (by rw [decide_eq_false hy]; decide) (Ev.now _))
  · rw [decide_eq_false (p := _ ∧ _) (fun z => hx z.1)]
    exact Ev.some_bind (Ev.neg (by rw [decide_eq_false hx]; decide) (Ev.now _))
theorem length_both (x y : Int) (hx : -1099511627776 ≤ x ∧ x ≤ 1099511627776) (hy : -1099511627776 ≤ y ∧ y ≤ 1099511627776) : Both (fun d => 0 ≤ d ∧ d ≤ 1099511627776) (fun k => spec_LengthOf.f k x y) (fun k => impl_LengthOf.f k x y) := by
  have h1 := sq_range _ (size_range x hx)
  have h2 := sq_range _ (size_range y hy)
  obtain ⟨d, hd, e1, e2⟩ := root_both (size x * size x + size y * size y) (by omega) 1099511627776 0 1099511627776 (by omega) (by omega) (by omega) (by omega)
  refine ⟨d, hd, ?_, ?_⟩
  · unfold spec_LengthOf.f
    rw [fixed_spec, fixed_spec, decide_eq_true hx, decide_eq_true hy]
    refine Ev.some_bind (Ev.pos rfl (Ev.some_bind (Ev.step (fun k => spec_LengthOf.j0.eq_2 _ _ _ k) (Ev.neg (by decide) ?_))))
    rw [squares_ev x y hx hy]
    refine Ev.some_bind (Ev.bind ?_ (Ev.cast (Ev.now _) (w64 (by omega) (by omega))))
    exact e1
  · unfold impl_LengthOf.f
    refine Ev.bind (are_fixed x y) (Ev.pos (decide_eq_true ⟨hx, hy⟩) ?_)
    rw [square_ev x hx, square_ev y hy]
    refine Ev.some_bind (Ev.some_bind ?_)
    generalize size x * size x = A at h1 e2 ⊢
    generalize size y * size y = B at h2 e2 ⊢
    unfold two at e2 ⊢
    simp only at e2 ⊢
    refine Ev.pos (by omega) ?_
    rw [u64w (n := A / 18446744073709551616 + B / 18446744073709551616) (by omega) (by omega), u64w (by omega) (by omega)]
    rw [show A / 18446744073709551616 + B / 18446744073709551616 + (A % 18446744073709551616 + B % 18446744073709551616 + 0) / 18446744073709551616 = (A + B) / 18446744073709551616 by omega, show (A % 18446744073709551616 + B % 18446744073709551616 + 0) % 18446744073709551616 = (A + B) % 18446744073709551616 by omega]
    exact e2
theorem over_ev (T B M : Int) (hT : 0 ≤ T ∧ T < 18446744073709551616) (hB : 0 < B ∧ B < 8796093022208) (hM : M ≤ 4398046511104) (R : Int) (hR : R = mn (T / B) M) : ∀ (n : Nat) (lo hi : Int), hi - lo ≤ n → 0 ≤ lo → lo ≤ R → R ≤ hi → hi ≤ M → Ev (fun k => spec_l1Over.l0 k B lo hi (two T).1 (two T).2) R
  | 0, lo, hi, h, h0, h1, h2, h3 => by
    have e : lo = R := by omega
    rw [e]
    exact Ev.step (fun k => spec_l1Over.l0.eq_2 _ _ _ _ _ k) (Ev.neg (by omega) (Ev.now _))
  | n + 1, lo, hi, h, h0, h1, h2, h3 => by
    refine Ev.step (fun k => spec_l1Over.l0.eq_2 _ _ _ _ _ k) (Ev.ite (fun hl => ?_) (fun hl => ?_))
    · obtain ⟨_, e2⟩ := mid_ok lo hi h0 hl (by omega)
      rw [e2]
      obtain ⟨m, hm⟩ : ∃ m, m = lo + (hi - lo + 1) / 2 := ⟨_, rfl⟩
      rw [← hm]
      have g0 : lo < m := by omega
      have g1 : m ≤ hi := by omega
      rw [u64w (n := m - 1) (by omega) (by omega), times m B (by omega) (by omega) (by omega) (by omega)]
      refine Ev.some_bind ?_
      rw [less_ev]
      have hd : m ≤ T / B ↔ m * B ≤ T := Int.le_ediv_iff_mul_le hB.1
      have hR' : R ≤ T / B ∧ R ≤ M ∧ (R = T / B ∨ R = M) := by
        rw [hR]
        unfold mn
        split <;> omega
      refine Ev.some_bind (Ev.ite (fun c => ?_) (fun c => ?_))
      · have c := of_decide_eq_true c
        exact over_ev T B M hT hB hM R hR n lo (m - 1) (by omega) h0 h1 (by omega) (by omega)
      · have c : ¬ T < m * B := by simpa using c
        exact over_ev T B M hT hB hM R hR n m hi (by omega) (by omega) (by omega) h2 h3
    · have e : lo = R := by omega
      rw [e]
      exact Ev.now _
def cutTo (x : Int) : Int := if x > 1099511627776 then 1099511627776 else if x < -1099511627776 then -1099511627776 else x
theorem cut_ev (x : Int) : spec_l1Cut.f x = some (cutTo x) := by
  unfold spec_l1Cut.f cutTo
  split
  · rfl
  · split <;> rfl
theorem near_ev (neg : Bool) (n b : Int) (hn : 0 ≤ n ∧ n ≤ 144115188075855872) (hb : 0 < b ∧ b ≤ 1099511627776) : Ev (fun k => spec_l1Near.f k neg (two n).1 (two n).2 b) (if neg = true then -(mn ((2 * n + b - 1) / (2 * b)) 1099511627776) else mn ((2 * n + b) / (2 * b)) 1099511627776) := by
  unfold spec_l1Near.f
  have e0 : two n = (0, n) := by
    unfold two
    congr 1 <;> omega
  have es : spec_l1Sum.f (two n).1 (two n).2 (two n).1 (two n).2 = some (0, 2 * n) := by
    rw [sum_ev n n (by omega) (by omega)]
    unfold two
    congr 2 <;> omega
  have ep : spec_l1Plus.f 0 (2 * n) b = some (0, 2 * n + b) := by
    unfold spec_l1Plus.f
    rw [u64w (n := 2 * n + b) (by omega) (by omega), if_neg (by omega)]
  rw [es]
  refine Ev.some_bind ?_
  simp only
  rw [ep]
  refine Ev.some_bind ?_
  simp only
  have go : ∀ T, 0 ≤ T → T < 18446744073709551616 → Ev (fun k => spec_l1Near.j0 k neg b 0 T) (if neg = true then -(mn (T / (2 * b)) 1099511627776) else mn (T / (2 * b)) 1099511627776) := fun T hT hT2 => by
    refine Ev.step (fun k => spec_l1Near.j0.eq_2 _ _ _ _ k) ?_
    rw [u64w (n := 2 * b) (by omega) (by omega)]
    have hq : 0 ≤ T / (2 * b) := Int.ediv_nonneg hT (by omega)
    have ho : Ev (fun k => spec_l1Over.f k 0 T (2 * b) 4398046511104) (mn (T / (2 * b)) 4398046511104) := by
      have := over_ev T (2 * b) 4398046511104 ⟨hT, hT2⟩ (by omega) (by omega) _ rfl 4398046511104 0 4398046511104 (by omega) (by omega) (by unfold mn; split <;> omega) (by unfold mn; split <;> omega) (by omega)
      have e1 : two T = (0, T) := by
        unfold two
        congr 1 <;> omega
      rw [e1] at this
      exact this
    refine Ev.bind ho ?_
    have hr : 0 ≤ mn (T / (2 * b)) 4398046511104 ∧ mn (T / (2 * b)) 4398046511104 ≤ 4398046511104 := by unfold mn; split <;> omega
    rw [w64 (n := mn (T / (2 * b)) 4398046511104) (by omega) (by omega), w64 (n := -mn (T / (2 * b)) 4398046511104) (by omega) (by omega), cut_ev, cut_ev]
    refine Ev.ite (fun c => ?_) (fun c => ?_)
    · rw [if_pos c]
      refine Ev.some_bind (Ev.cast (Ev.now _) ?_)
      unfold cutTo mn
      repeat' split
      all_goals omega
    · rw [if_neg c]
      refine Ev.some_bind (Ev.cast (Ev.now _) ?_)
      unfold cutTo mn
      repeat' split
      all_goals omega
  cases neg with
  | true =>
    refine Ev.pos rfl (Ev.neg (by omega) ?_)
    rw [u64w (n := 2 * n + b - 1) (by omega) (by omega)]
    exact go _ (by omega) (by omega)
  | false => exact Ev.neg (by decide) (go _ (by omega) (by omega))
def quot (x b : Int) : Int := if x < 0 then -(mn ((2 * (-x * 65536) + b - 1) / (2 * b)) 1099511627776) else mn ((2 * (x * 65536) + b) / (2 * b)) 1099511627776
theorem div_spec (x b : Int) (hx : -1099511627776 ≤ x ∧ x ≤ 1099511627776) (hb : 0 < b ∧ b ≤ 1099511627776) : Ev (fun k => spec_FixDiv.f k x b) (quot x b) := by
  unfold spec_FixDiv.f
  rw [fixed_spec, fixed_spec, decide_eq_true hx, decide_eq_true (p := -1099511627776 ≤ b ∧ b ≤ 1099511627776) (by omega)]
  refine Ev.some_bind (Ev.pos rfl (Ev.some_bind (Ev.pos rfl ?_)))
  have hb0 : (b == 0) = false := beq_false_of_ne (by omega)
  rw [hb0]
  refine Ev.step (fun k => spec_FixDiv.j0.eq_2 _ _ _ k) (Ev.neg (by decide) ?_)
  have hs := size_range x hx
  have hsb : size b = b := by unfold size; split <;> omega
  rw [abs_ev x hx, abs_ev b (by omega), hsb]
  refine Ev.some_bind ?_
  rw [u64w (n := size x) (by omega) (by omega), times _ _ hs.1 (by decide) (by omega) (by decide)]
  refine Ev.some_bind (Ev.some_bind ?_)
  rw [u64w (n := b) (by omega) (by omega), decide_eq_false (p := b < 0) (by omega)]
  refine Ev.bind (near_ev _ (size x * 65536) b (by omega) hb) (Ev.cast (Ev.now _) ?_)
  unfold quot size
  by_cases c : x < 0
  · rw [decide_eq_true c, if_pos (by decide), if_pos c, if_pos c]
  · rw [decide_eq_false c, if_neg (by decide), if_neg c, if_neg c]
theorem down_ev (N B : Int) (hN : -9000000000000000000 ≤ N ∧ N ≤ 9000000000000000000) (hB : 0 < B) : impl_down.f N B = some (N / B) := by
  unfold impl_down.f
  rw [if_neg (by omega)]
  by_cases h : 0 ≤ N
  · have hm := Int.emod_nonneg N (show B ≠ 0 by omega)
    have hd : 0 ≤ N / B ∧ N / B ≤ N := ⟨Int.ediv_nonneg h (by omega), Int.ediv_le_self _ h⟩
    rw [Int.tmod_eq_emod_of_nonneg h, Int.tdiv_eq_ediv_of_nonneg h, if_neg (by omega), w64 (by omega) (by omega)]
  · obtain ⟨M, hM⟩ : ∃ M, M = -N := ⟨_, rfl⟩
    have hM0 : 0 < M := by omega
    have e : N = -M := by omega
    have hm0 := Int.emod_nonneg M (show B ≠ 0 by omega)
    have hm1 := Int.emod_lt_of_pos M hB
    have hd : 0 ≤ M / B ∧ M / B ≤ M := ⟨Int.ediv_nonneg (by omega) (by omega), Int.ediv_le_self _ (by omega)⟩
    have hme := Int.mul_ediv_add_emod M B
    rw [e, Int.neg_tmod, Int.neg_tdiv, Int.tmod_eq_emod_of_nonneg (by omega), Int.tdiv_eq_ediv_of_nonneg (by omega)]
    rw [w64 (n := -(M / B)) (by omega) (by omega), w64 (n := -(M / B) - 1) (by omega) (by omega)]
    generalize M / B = q at *
    generalize M % B = r at *
    split
    · have := (Int.ediv_emod_unique (a := -M) (r := B - r) (q := -q - 1) hB).2 ⟨by grind, by omega, by omega⟩
      rw [this.1]
    · have hr : r = 0 := by omega
      have := (Int.ediv_emod_unique (a := -M) (r := 0) (q := -q) hB).2 ⟨by grind, by omega, by omega⟩
      rw [this.1]
theorem floor_neg (m b : Int) (hb : 0 < b) : (b - 131072 * m) / (2 * b) = -((131072 * m + b - 1) / (2 * b)) := by
  have hme := Int.mul_ediv_add_emod (131072 * m + b - 1) (2 * b)
  have hm0 := Int.emod_nonneg (131072 * m + b - 1) (show 2 * b ≠ 0 by omega)
  have hm1 := Int.emod_lt_of_pos (131072 * m + b - 1) (show 0 < 2 * b by omega)
  generalize (131072 * m + b - 1) / (2 * b) = q at *
  generalize (131072 * m + b - 1) % (2 * b) = r at *
  have := (Int.ediv_emod_unique (a := b - 131072 * m) (b := 2 * b) (r := 2 * b - 1 - r) (q := -q) (by omega)).2 ⟨by grind, by omega, by omega⟩
  exact this.1
theorem div_impl (x b : Int) (hx : -1099511627776 ≤ x ∧ x ≤ 1099511627776) (hb : 0 < b ∧ b ≤ 1099511627776) : Ev (fun k => impl_FixDiv.f k x b) (quot x b) := by
  unfold impl_FixDiv.f
  refine Ev.bind (are_fixed x b) (Ev.pos (decide_eq_true ⟨hx, by omega⟩) ?_)
  have hb0 : (b == 0) = false := beq_false_of_ne (by omega)
  rw [hb0]
  refine Ev.step (fun k => impl_FixDiv.j0.eq_2 _ _ _ k) (Ev.neg (by decide) (Ev.neg (by omega) ?_))
  rw [w64 (n := 2 * x) (by omega) (by omega), w64 (n := 2 * x * 65536) (by omega) (by omega), w64 (n := 2 * x * 65536 + b) (by omega) (by omega), w64 (n := 2 * b) (by omega) (by omega), down_ev _ _ (by omega) (by omega)]
  refine Ev.some_bind ?_
  unfold impl_clamp.f
  refine Ev.some_bind (Ev.cast (Ev.now _) ?_)
  unfold quot
  by_cases c : x < 0
  · rw [if_pos c]
    have e := floor_neg (-x) b hb.1
    rw [show 2 * x * 65536 + b = b - 131072 * (-x) by omega, e, show 2 * (-x * 65536) + b - 1 = 131072 * (-x) + b - 1 by omega]
    have hq : 0 ≤ (131072 * (-x) + b - 1) / (2 * b) := Int.ediv_nonneg (by omega) (by omega)
    unfold mn mx
    repeat' split
    all_goals omega
  · rw [if_neg c, show 2 * x * 65536 + b = 2 * (x * 65536) + b by omega]
    have hq : 0 ≤ (2 * (x * 65536) + b) / (2 * b) := Int.ediv_nonneg (by omega) (by omega)
    unfold mn mx
    repeat' split
    all_goals omega
theorem mul_spec (g h : Int) (hg : 0 ≤ g ∧ g ≤ 65536) (hh : 0 ≤ h ∧ h ≤ 65536) : Ev (fun k => spec_FixMul.f k g h) ((g * h + 32768) / 65536) := by
  unfold spec_FixMul.f
  rw [fixed_spec, fixed_spec, decide_eq_true (p := -1099511627776 ≤ g ∧ g ≤ 1099511627776) (by omega), decide_eq_true (p := -1099511627776 ≤ h ∧ h ≤ 1099511627776) (by omega)]
  refine Ev.some_bind (Ev.pos rfl (Ev.some_bind (Ev.step (fun k => spec_FixMul.j0.eq_2 _ _ _ k) (Ev.neg (by decide) ?_))))
  have h1 : size g = g := by unfold size; split <;> omega
  have h2 : size h = h := by unfold size; split <;> omega
  rw [abs_ev g (by omega), abs_ev h (by omega), h1, h2]
  refine Ev.some_bind (Ev.some_bind ?_)
  rw [u64w (n := g) (by omega) (by omega), u64w (n := h) (by omega) (by omega), times g h hg.1 hh.1 (by omega) (by omega)]
  refine Ev.some_bind ?_
  rw [decide_eq_false (p := g < 0) (by omega), decide_eq_false (p := h < 0) (by omega)]
  have p0 : 0 ≤ g * h := Int.mul_nonneg hg.1 hh.1
  have p1 : g * h ≤ 4294967296 := Int.le_trans (Int.mul_le_mul hg.2 hh.2 hh.1 (by decide)) (by decide)
  refine Ev.bind (near_ev _ (g * h) 65536 (by omega) (by omega)) (Ev.cast (Ev.now _) ?_)
  rw [if_neg (by decide)]
  unfold mn
  split <;> omega
theorem mul_impl (g h : Int) (hg : 0 ≤ g ∧ g ≤ 65536) (hh : 0 ≤ h ∧ h ≤ 65536) : impl_FixMul.f g h = some ((g * h + 32768) / 65536) := by
  unfold impl_FixMul.f impl_FixMul.near
  rw [if_pos (by omega), if_neg (by omega)]
theorem half_spec (a : Int) (h : 0 ≤ a ∧ a ≤ 131072) : spec_l1Down.f a 2 = some (a / 2) := by
  unfold spec_l1Down.f
  rw [if_neg (by decide), Int.tdiv_eq_ediv_of_nonneg h.1, decide_eq_false (p := a < 0) (by omega), w64 (n := a / 2) (by omega) (by omega), if_neg (c := (false != decide ((2 : Int) < 0)) = true) (by decide)]
  split <;> rfl
def gains (g p : Int) : Int × Int × Bool := ((g * ((65536 - p) / 2) + 32768) / 65536, (g * ((65536 + p) / 2) + 32768) / 65536, true)
theorem tail_spec (g p : Int) (hg : 0 ≤ g ∧ g ≤ 65536) (hp : -65536 ≤ p ∧ p ≤ 65536) : Ev (fun k => spec_GainsAt.j4 k g p) (gains g p) := by
  refine Ev.step (fun k => spec_GainsAt.j4.eq_2 _ _ k) ?_
  rw [w64 (n := 65536 - p) (by omega) (by omega), w64 (n := 65536 + p) (by omega) (by omega), half_spec _ (by omega), half_spec _ (by omega)]
  exact Ev.some_bind (Ev.bind (mul_spec g _ hg (by omega)) (Ev.some_bind (Ev.bind (mul_spec g _ hg (by omega)) (Ev.now _))))
theorem cut_spec (g q : Int) (hg : 0 ≤ g ∧ g ≤ 65536) : Ev (fun k => spec_GainsAt.j2 k g q) (gains g (mn (mx q (-65536)) 65536)) := by
  refine Ev.step (fun k => spec_GainsAt.j2.eq_2 _ _ k) (Ev.ite (fun c => ?_) (fun c => ?_))
  · have e : mn (mx q (-65536)) 65536 = 65536 := by unfold mn mx; repeat' split <;> omega
    rw [e]
    exact Ev.step (fun k => spec_GainsAt.j3.eq_2 _ _ k) (Ev.neg (by decide) (tail_spec g _ hg (by decide)))
  · refine Ev.step (fun k => spec_GainsAt.j3.eq_2 _ _ k) (Ev.ite (fun c2 => ?_) (fun c2 => ?_))
    · have e : mn (mx q (-65536)) 65536 = -65536 := by unfold mn mx; repeat' split <;> omega
      rw [e]
      exact tail_spec g _ hg (by decide)
    · have e : mn (mx q (-65536)) 65536 = q := by unfold mn mx; repeat' split <;> omega
      rw [e]
      exact tail_spec g _ hg (by omega)
theorem tail_impl (g p : Int) (hg : 0 ≤ g ∧ g ≤ 65536) (hp : -65536 ≤ p ∧ p ≤ 65536) : ((impl_FixMul.f g (wrap64 (Int.tdiv (wrap64 (65536 - p)) 2))).bind fun t196 => ((impl_FixMul.f g (wrap64 (Int.tdiv (wrap64 (65536 + p)) 2))).bind fun t197 => (some (t196, t197, true)))) = some (gains g p) := by
  rw [w64 (n := 65536 - p) (by omega) (by omega), w64 (n := 65536 + p) (by omega) (by omega), Int.tdiv_eq_ediv_of_nonneg (by omega), Int.tdiv_eq_ediv_of_nonneg (by omega), w64 (n := (65536 - p) / 2) (by omega) (by omega), w64 (n := (65536 + p) / 2) (by omega) (by omega), mul_impl g _ hg (by omega), mul_impl g _ hg (by omega)]
  rfl
theorem sides (x d g : Int) (hx : -1099511627776 ≤ x ∧ x ≤ 1099511627776) (hd : 0 ≤ d ∧ d ≤ 1099511627776) (hg : 0 ≤ g ∧ g ≤ 65536) : ∃ r, Ev (fun k => spec_GainsAt.j1 k x d g) r ∧ Ev (fun k => impl_GainsAt.j1 k x d g 0) r := by
  by_cases h : d = 0
  · refine ⟨gains g 0, Ev.step (fun k => spec_GainsAt.j1.eq_2 _ _ _ k) (Ev.neg (by omega) (cut_spec g 0 hg)), Ev.step (fun k => impl_GainsAt.j1.eq_2 _ _ _ _ k) (Ev.pos h ?_)⟩
    have e := tail_impl g 0 hg (by decide)
    exact Ev.mk (fun _ => e)
  · refine ⟨gains g (mn (mx (quot x d) (-65536)) 65536), Ev.step (fun k => spec_GainsAt.j1.eq_2 _ _ _ k) (Ev.pos (by omega) (Ev.bind (div_spec x d hx (by omega)) (cut_spec g _ hg))), Ev.step (fun k => impl_GainsAt.j1.eq_2 _ _ _ _ k) (Ev.neg h (Ev.bind (div_impl x d hx (by omega)) ?_))⟩
    unfold impl_clamp.f
    refine Ev.some_bind ?_
    have e := tail_impl g (mn (mx (quot x d) (-65536)) 65536) hg (by unfold mn mx; repeat' split <;> omega)
    exact Ev.mk (fun _ => e)
theorem near_gain (d far : Int) (hd : 0 ≤ d) (h : d < far) (hf : far ≤ 1099511627776) : 0 ≤ quot d far ∧ quot d far ≤ 65536 := by
  unfold quot
  rw [if_neg (by omega)]
  have h0 : 0 ≤ (2 * (d * 65536) + far) / (2 * far) := Int.ediv_nonneg (by omega) (by omega)
  have h1 : ¬ 65537 ≤ (2 * (d * 65536) + far) / (2 * far) := fun c => by
    have := (Int.le_ediv_iff_mul_le (show 0 < 2 * far by omega)).1 c
    omega
  unfold mn
  split <;> omega
theorem FnExactGainsAt : laws_FnExactGainsAt.Pure := by
  intro x y far wx wy wf
  refine Ev.rounds (r := true) ?_
  unfold laws_FnExactGainsAt.f
  suffices h : ∃ r, Ev (fun k => spec_GainsAt.f k x y far) r ∧ Ev (fun k => impl_GainsAt.f k x y far) r by
    obtain ⟨r, h1, h2⟩ := h
    exact Ev.bind h1 (Ev.bind h2 (Ev.pos rfl (Ev.pos rfl (Ev.pos rfl (Ev.now _)))))
  unfold spec_GainsAt.f impl_GainsAt.f
  have hin1 : spec_l1In.f far 65536 1099511627776 = some (decide (65536 ≤ far ∧ far ≤ 1099511627776)) := by
    unfold spec_l1In.f
    split
    · congr 1
      apply decide_eq_decide.2
      omega
    · rw [decide_eq_false (by omega)]
  have hin2 : impl_inRange.f far 65536 1099511627776 = some (decide (65536 ≤ far ∧ far ≤ 1099511627776)) := by
    unfold impl_inRange.f
    split
    · congr 1
      apply decide_eq_decide.2
      omega
    · rw [decide_eq_false (by omega)]
  have bad1 : ∀ b, b = true → Ev (fun k => spec_GainsAt.j0 k x y far b) (0, 0, false) := fun b hb => Ev.step (fun k => spec_GainsAt.j0.eq_2 _ _ _ _ k) (Ev.pos hb (Ev.now _))
  have bad2 : ∀ b, b = true → Ev (fun k => impl_GainsAt.j0 k x y far b) (0, 0, false) := fun b hb => Ev.step (fun k => impl_GainsAt.j0.eq_2 _ _ _ _ k) (Ev.pos hb (Ev.now _))
  rw [fixed_spec, fixed_spec, hin1, hin2]
  by_cases hx : -1099511627776 ≤ x ∧ x ≤ 1099511627776
  case neg => exact ⟨(0, 0, false), Ev.some_bind (Ev.neg (by rw [decide_eq_false hx]; decide) (bad1 _ rfl)), Ev.bind (are_fixed x y) (Ev.neg (by rw [decide_eq_false (fun z => hx z.1)]; decide) (bad2 _ rfl))⟩
  by_cases hy : -1099511627776 ≤ y ∧ y ≤ 1099511627776
  case neg => exact ⟨(0, 0, false), Ev.some_bind (Ev.pos (decide_eq_true hx) (Ev.some_bind (Ev.neg (by rw [decide_eq_false hy]; decide) (bad1 _ rfl)))), Ev.bind (are_fixed x y) (Ev.neg (by rw [decide_eq_false (fun z => hy z.2)]; decide) (bad2 _ rfl))⟩
  by_cases hf : 65536 ≤ far ∧ far ≤ 1099511627776
  case neg => exact ⟨(0, 0, false), Ev.some_bind (Ev.pos (decide_eq_true hx) (Ev.some_bind (Ev.pos (decide_eq_true hy) (Ev.some_bind (bad1 _ (by rw [decide_eq_false hf]; rfl)))))), Ev.bind (are_fixed x y) (Ev.pos (decide_eq_true ⟨hx, hy⟩) (Ev.some_bind (bad2 _ (by rw [decide_eq_false hf]; rfl))))⟩
  obtain ⟨d, hd, e1, e2⟩ := length_both x y hx hy
  have step1 : ∀ r, (d < far → Ev (fun k => spec_GainsAt.j1 k x d (65536 - quot d far)) r) → (¬ d < far → Ev (fun k => spec_GainsAt.j1 k x d 0) r) → Ev (fun k => spec_GainsAt.j0 k x y far (!decide (65536 ≤ far ∧ far ≤ 1099511627776))) r := fun r p q => by
    refine Ev.step (fun k => spec_GainsAt.j0.eq_2 _ _ _ _ k) (Ev.neg (by rw [decide_eq_true hf]; decide) (Ev.bind e1 (Ev.ite (fun c => Ev.bind (div_spec d far (by omega) (by omega)) ?_) q)))
    have := near_gain d far hd.1 c hf.2
    rw [w64 (n := 65536 - quot d far) (by omega) (by omega)]
    exact p c
  have step2 : ∀ r, (d < far → Ev (fun k => impl_GainsAt.j1 k x d (65536 - quot d far) 0) r) → (¬ d < far → Ev (fun k => impl_GainsAt.j1 k x d 0 0) r) → Ev (fun k => impl_GainsAt.j0 k x y far (!decide (65536 ≤ far ∧ far ≤ 1099511627776))) r := fun r p q => by
    refine Ev.step (fun k => impl_GainsAt.j0.eq_2 _ _ _ _ k) (Ev.neg (by rw [decide_eq_true hf]; decide) (Ev.bind e2 (Ev.ite (fun c => Ev.bind (div_impl d far (by omega) (by omega)) ?_) q)))
    have := near_gain d far hd.1 c hf.2
    rw [w64 (n := 65536 - quot d far) (by omega) (by omega)]
    exact p c
  by_cases c : d < far
  · have hq := near_gain d far hd.1 c hf.2
    obtain ⟨r, s1, s2⟩ := sides x d (65536 - quot d far) hx hd (by omega)
    exact ⟨r, Ev.some_bind (Ev.pos (decide_eq_true hx) (Ev.some_bind (Ev.pos (decide_eq_true hy) (Ev.some_bind (step1 r (fun _ => s1) (fun z => absurd c z)))))), Ev.bind (are_fixed x y) (Ev.pos (decide_eq_true ⟨hx, hy⟩) (Ev.some_bind (step2 r (fun _ => s2) (fun z => absurd c z))))⟩
  · obtain ⟨r, s1, s2⟩ := sides x d 0 hx hd (by omega)
    exact ⟨r, Ev.some_bind (Ev.pos (decide_eq_true hx) (Ev.some_bind (Ev.pos (decide_eq_true hy) (Ev.some_bind (step1 r (fun z => absurd z c) (fun _ => s1)))))), Ev.bind (are_fixed x y) (Ev.pos (decide_eq_true ⟨hx, hy⟩) (Ev.some_bind (step2 r (fun z => absurd z c) (fun _ => s2))))⟩

end Go.Proofs.Ytpfddgchlllkpaa.Pure
