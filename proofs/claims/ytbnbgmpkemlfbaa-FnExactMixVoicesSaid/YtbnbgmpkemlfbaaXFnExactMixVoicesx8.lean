/- What the Go functions that this law comes to compute, each walked; written by a program of this session. -/
import Derived.Test.YtbnbgmpkemlfbaaXShort
import Derived.Test.YtbnbgmpkemlfbaaXMark
import Derived.Test.YtbnbgmpkemlfbaaXFnExactMixVoicesx0
import Derived.Test.YtbnbgmpkemlfbaaXFnExactMixVoicesx7
namespace Go.Proofs.Ytbnbgmpkemlfbaa.XFnExactMixVoices
open Go.RowKit Go.Proofs.YtbnbgmpkemlfbaaW.PrintWords Go.Proofs.YtbnbgmpkemlfbaaW.PrintLast Go.Proofs.YtbnbgmpkemlfbaaW.PrintMore
attribute [local go_sem] str_geq max2_int min2_int max_two min_two max_three min_three max_four min_four   -- for this text's walks alone
set_option linter.unusedVariables false
set_option linter.unusedSimpArgs false

/-! ### impl_areFixed: function 47 -/
def impl_areFixed.l0 : Nat → List Int → Int → Int → Option (Bool)
 | 0, _, _, _ => none
 | k + 1, x5, x6, x7 => if x7 < x6 then (if 0 ≤ x7 then (if x7 < (x5.length : Int) then ((impl_GoodFixed.f (rd x5 x7)).bind fun t268 => (if t268 = true then (impl_areFixed.l0 k x5 x6 (wrap64 (x7 + 1))) else (some false))) else (none)) else (none)) else (some true)
def impl_areFixed.f (k : Nat) (l0 : List Int) : Option (Bool) := impl_areFixed.l0 k l0 (l0.length : Int) 0
theorem impl_areFixed.mono_l : ∀ k, (∀ y0 y1 y2, LeO (impl_areFixed.l0 k y0 y1 y2) (impl_areFixed.l0 (k + 1) y0 y1 y2))
 | 0 => fun _ _ _ r h => by simp [impl_areFixed.l0] at h
 | k + 1 => by
  have ih0 := impl_areFixed.mono_l k
  ·intro y0 y1 y2
   unfold impl_areFixed.l0
   repeat' first
   | (with_reducible exact ih0 _ _ _)
   | (with_reducible exact LeO.refl _)
   | (with_reducible exact LeO.none _)
   | (with_reducible refine LeO.ite ?_ ?_)
   | (with_reducible refine LeO.bind ?_ (fun _ => ?_))
   | exact ih0 _ _ _
   | exact LeO.none _
   | refine LeO.ite ?_ ?_
   | refine LeO.bind ?_ (fun _ => ?_)
theorem impl_areFixed.mono : ∀ a0 k, LeO (impl_areFixed.f k a0) (impl_areFixed.f (k + 1) a0) := by
 intro a0 k
 have ih0 := impl_areFixed.mono_l k
 unfold impl_areFixed.f
 repeat' first
   | (with_reducible exact ih0 _ _ _)
   | (with_reducible exact LeO.refl _)
   | (with_reducible exact LeO.none _)
   | (with_reducible refine LeO.ite ?_ ?_)
   | (with_reducible refine LeO.bind ?_ (fun _ => ?_))
   | exact ih0 _ _ _
   | exact LeO.none _
   | refine LeO.ite ?_ ?_
   | refine LeO.bind ?_ (fun _ => ?_)
set_option maxHeartbeats 8000000 in
set_option maxRecDepth 100000 in
theorem impl_areFixed.calls (k : Nat) (A0 : Option Addr) (c0 : Nat) (l0 : List Int) (r : Bool) (w : World) (hr0 : Kd.C (Kd.int .i64) w A0 l0.length l0) (hc0 : l0.length ≤ c0) (h : impl_areFixed.f k l0 = some r) :
  Calls Try.prog 47 #[.slice A0 l0.length c0] w fun e w' => e = .returned (.bool r) ∧ Drawn0 w w' := by
 have HR0 := am_ hr0
 have HC0 := am_ hc0
 clear hr0 hc0
 have H : (impl_areFixed.l0 k l0 (l0.length : Int) 0) = some r := h
 clear h
 have H' := am_ H
 clear H
 go_enter Try.func47, Try.ntmps47
 go_wp2
 go_loopg [7] k (fun kq v7 w' => ∃ (x7_1 : Int), v7 = .int .i64 x7_1 ∧ Aside0 (impl_areFixed.l0 kq l0 (l0.length : Int) x7_1 = some r) ∧ Aside0 (kq ≤ k) ∧ Drawn0 w w')
 case atStart => exact ⟨(0), sq_, H', ⟨Nat.le_refl _⟩, by repeat (first | exact Drawn0.refl _ | apply Drawn0.step)⟩
 case round =>
  clear H'
  obtain ⟨x7_1, rfl, HA, HK1, ⟨m1, rfl⟩⟩ := hrel
  cases gk with
  | zero => exact absurd HA.out (by simp [impl_areFixed.l0])
  | succ k1 =>
   have H := HA.out
   clear HA
   simp only [impl_areFixed.l0] at H
   by_cases c2 : x7_1 < (l0.length : Int)
   ·rw [if_pos c2] at H
    have c2b0 : decide (x7_1 < (l0.length : Int)) = true := decide_eq_true c2
    clear c2
    obtain ⟨c3, H⟩ := ifn_ H
    have c3b0 : decide (0 ≤ x7_1) = true := decide_eq_true c3
    clear c3
    obtain ⟨c4, H⟩ := ifn_ H
    have c4b0 : decide (x7_1 < (l0.length : Int)) = true := decide_eq_true c4
    clear c4
    obtain ⟨t268, A50, H⟩ := bE_ H
    have A5 := am_ A50
    clear A50
    by_cases c6 : t268 = true
    ·subst c6
     replace H := it_ H rfl
     have H' := am_ H
     clear H
     have p267 : 0 ≤ (x7_1 : Int) := od_
     have q267 : x7_1 < (l0.length : Int) := od_
     obtain ⟨ad267, e267, hx267_0⟩ := Kd.at_int HR0.out x7_1 p267 q267
     cases e267
     replace p267 := eq_true p267
     replace q267 := eq_true q267
     go_wp2_with (first | ((with_reducible refine gate_callee (f := 57) rfl ?_); refine goesL_ (some 12) rfl rfl Try.func57 (by kernel_rfl) rfl #[.int .i64 (rd l0 x7_1)] rfl (by (try simp only [List.map_toArray, List.map_cons, List.map_nil]); first | done | rfl | (simp only [List.length_drop, List.length_take]; rfl)) ?_; (with_reducible refine (impl_GoodFixed.calls (rd l0 x7_1) true _ A5.out).mono ?_); rintro e w' ⟨rfl, ⟨nd, rfl⟩⟩; refine ⟨_, rfl, ?_⟩))
     go_roundg k1
     case measure => have := HK1.out; omega
     case rel => exact ⟨(wrap64 (x7_1 + 1)), sq_, H', ⟨by have := HK1.out; omega⟩, by repeat (first | exact Drawn0.refl _ | apply Drawn0.step)⟩
    ·replace c6 := Bool.eq_false_iff.mpr c6
     subst c6
     replace H := if_ H Bool.false_ne_true
     obtain rfl := Option.some.inj H
     have p267 : 0 ≤ (x7_1 : Int) := od_
     have q267 : x7_1 < (l0.length : Int) := od_
     obtain ⟨ad267, e267, hx267_0⟩ := Kd.at_int HR0.out x7_1 p267 q267
     cases e267
     replace p267 := eq_true p267
     replace q267 := eq_true q267
     go_wp2_with (first | ((with_reducible refine gate_callee (f := 57) rfl ?_); refine goesL_ (some 12) rfl rfl Try.func57 (by kernel_rfl) rfl #[.int .i64 (rd l0 x7_1)] rfl (by (try simp only [List.map_toArray, List.map_cons, List.map_nil]); first | done | rfl | (simp only [List.length_drop, List.length_take]; rfl)) ?_; (with_reducible refine (impl_GoodFixed.calls (rd l0 x7_1) false _ A5.out).mono ?_); rintro e w' ⟨rfl, ⟨nd, rfl⟩⟩; refine ⟨_, rfl, ?_⟩))
     go_ret
     exact ⟨by first | rfl | (simp; done) | (simp [*]; done), by repeat (first | exact Drawn0.refl _ | apply Drawn0.step)⟩
   ·rw [if_neg c2] at H
    have c2b0 : decide (x7_1 < (l0.length : Int)) = false := decide_eq_false c2
    clear c2
    obtain rfl := Option.some.inj H
    go_wp2
    go_ret
    exact ⟨by first | rfl | (simp; done) | (simp [*]; done), by repeat (first | exact Drawn0.refl _ | apply Drawn0.step)⟩

/-! ### bits_Mul64: function 48 -/
def bits_Mul64.f (a0 : Int) (a1 : Int) : Option (Int × Int) := some (IntKind.u64.wrap ((IntKind.u64.wrap ((IntKind.u64.wrap ((a0 / 4294967296) * (a1 / 4294967296))) + ((IntKind.u64.wrap ((IntKind.u64.wrap ((a0 / 4294967296) * (Go.bits .and .u64 a1 4294967295))) + ((IntKind.u64.wrap ((Go.bits .and .u64 a0 4294967295) * (Go.bits .and .u64 a1 4294967295))) / 4294967296))) / 4294967296))) + ((IntKind.u64.wrap ((Go.bits .and .u64 (IntKind.u64.wrap ((IntKind.u64.wrap ((a0 / 4294967296) * (Go.bits .and .u64 a1 4294967295))) + ((IntKind.u64.wrap ((Go.bits .and .u64 a0 4294967295) * (Go.bits .and .u64 a1 4294967295))) / 4294967296))) 4294967295) + (IntKind.u64.wrap ((Go.bits .and .u64 a0 4294967295) * (a1 / 4294967296))))) / 4294967296)), IntKind.u64.wrap (a0 * a1))
set_option maxHeartbeats 8000000 in
set_option maxRecDepth 100000 in
theorem bits_Mul64.calls (a0 : Int) (a1 : Int) (r1 : Int) (r2 : Int) (w : World) (h : bits_Mul64.f a0 a1 = some (r1, r2)) :
  Calls Try.prog 48 #[.int .u64 a0, .int .u64 a1] w fun e w' => e = .returned (.tuple #[.int .u64 r1, .int .u64 r2]) ∧ Drawn0 w w' := by
 have H : (some (IntKind.u64.wrap ((IntKind.u64.wrap ((IntKind.u64.wrap ((a0 / 4294967296) * (a1 / 4294967296))) + ((IntKind.u64.wrap ((IntKind.u64.wrap ((a0 / 4294967296) * (Go.bits .and .u64 a1 4294967295))) + ((IntKind.u64.wrap ((Go.bits .and .u64 a0 4294967295) * (Go.bits .and .u64 a1 4294967295))) / 4294967296))) / 4294967296))) + ((IntKind.u64.wrap ((Go.bits .and .u64 (IntKind.u64.wrap ((IntKind.u64.wrap ((a0 / 4294967296) * (Go.bits .and .u64 a1 4294967295))) + ((IntKind.u64.wrap ((Go.bits .and .u64 a0 4294967295) * (Go.bits .and .u64 a1 4294967295))) / 4294967296))) 4294967295) + (IntKind.u64.wrap ((Go.bits .and .u64 a0 4294967295) * (a1 / 4294967296))))) / 4294967296)), IntKind.u64.wrap (a0 * a1))) = some (r1, r2) := h
 clear h
 simp only [Option.some.injEq, Prod.mk.injEq] at H
 obtain ⟨rfl, rfl⟩ := H
 go_enter Try.func48, Try.ntmps48
 go_wp2
 go_ret2
 exact ⟨by first | rfl | (simp; done) | (simp [*]; done), by repeat (first | exact Drawn0.refl _ | apply Drawn0.step)⟩

/-! ### impl_size: function 49 -/
def impl_size.f (a0 : Int) : Option (Int) := some (mx a0 (wrap64 (-a0)))
set_option maxHeartbeats 8000000 in
set_option maxRecDepth 100000 in
theorem impl_size.calls (a0 : Int) (r : Int) (w : World) (h : impl_size.f a0 = some r) :
  Calls Try.prog 49 #[.int .i64 a0] w fun e w' => e = .returned (.int .i64 r) ∧ Below w.heap.size w w' := by
 have HB := am_ (Below.refl w.heap.size w)
 have H : (some (mx a0 (wrap64 (-a0)))) = some r := h
 clear h
 obtain ⟨ji2, hji2⟩ : ∃ j_ : Int, (mx a0 (wrap64 (-a0))) = j_ := ⟨_, rfl⟩
 replace H : (some ji2) = some r := by first | (rw [hji2] at H; exact H) | (simp only [hji2] at H ⊢; exact H)
 have hji2_ : (if a0 < (wrap64 (-a0)) then (wrap64 (-a0)) else a0) = ji2 := hji2
 obtain rfl := Option.some.inj H
 go_enter Try.func49, Try.ntmps49
 go_wp2
 go_ret
 exact ⟨by first | rfl | (simp [errW_none, errW_some] <;> rfl) | (simp only [← hji2]; first | rfl | (simp [errW_none, errW_some] <;> rfl)) | (simp [*, errW_none, errW_some] <;> rfl), bw_ HB.out⟩

-- NOT PRINTED: function 50 (bits_Add64)

/-! ### impl_FixMul: function 37 -/
/-! products of small fixed numbers: the bounds are those that the laws reach -/
def impl_FixMul.near (x p : Int) : Int := if x < 0 then -((-x * p + 32767) / 65536) else (x * p + 32768) / 65536
def impl_FixMul.f (a0 a1 : Int) : Option Int := if (-200000 ≤ a0 ∧ a0 ≤ 200000) ∧ (0 ≤ a1 ∧ a1 ≤ 65536) then some (impl_FixMul.near a0 a1) else none
theorem impl_FixMul.add64_call (x y : Int) (hx : 0 ≤ x) (hy : 0 ≤ y) (w : World) : (callFunc 50 #[.int .u64 x, .int .u64 y, .int .u64 0]).run Try.prog w = .ok (.value (.tuple #[.int .u64 ((x + y + 0) % 18446744073709551616), .int .u64 ((x + y + 0) / 18446744073709551616)])) w := by
  rw [run_callFunc_extern Try.func50 (by kernel_rfl) (by kernel_rfl) (by kernel_rfl) (e := add64Entry) (by kernel_rfl), run_add64 x y 0 hx hy (by omega) (by omega)]
  rfl
theorem impl_FixMul.u64w {n : Int} (h0 : 0 ≤ n) (h1 : n < 18446744073709551616) : IntKind.u64.wrap n = n := by
  simp [IntKind.wrap, IntKind.bits, IntKind.signed]
  omega
theorem impl_FixMul.w64 {n : Int} (h0 : -9223372036854775808 ≤ n) (h1 : n ≤ 9223372036854775807) : wrap64 n = n := by
  unfold wrap64
  omega
theorem impl_FixMul.size_small (a : Int) (h0 : -200000 ≤ a) (h1 : a ≤ 200000) : impl_size.f a = some (if a < 0 then -a else a) := by
  unfold impl_size.f
  rw [impl_FixMul.w64 (by omega) (by omega)]
  unfold mx
  congr 1
  split <;> split <;> omega
theorem impl_FixMul.mask_small (x : Int) (h0 : 0 ≤ x) (h1 : x < 4294967296) : Go.bits .and .u64 x 4294967295 = x := by
  obtain ⟨n, rfl⟩ := Int.eq_ofNat_of_zero_le h0
  unfold Go.bits
  have e : ((BitVec.ofInt IntKind.u64.bits (n : Int)) &&& (BitVec.ofInt IntKind.u64.bits 4294967295)).toNat = n := by
    rw [BitVec.toNat_and, BitVec.toNat_ofInt, BitVec.toNat_ofInt]
    have e1 : ((n : Int) % ((2 ^ IntKind.u64.bits : Nat) : Int)).toNat = n := by
      simp [IntKind.bits]; omega
    have e2 : ((4294967295 : Int) % ((2 ^ IntKind.u64.bits : Nat) : Int)).toNat = 2 ^ 32 - 1 := by decide
    rw [e1, e2, Nat.and_two_pow_sub_one_eq_mod]
    omega
  show IntKind.u64.wrap _ = _
  rw [e]
  exact impl_FixMul.u64w (by omega) (by omega)
theorem impl_FixMul.mul_small (x y : Int) (hx : 0 ≤ x) (hx1 : x ≤ 200000) (hy : 0 ≤ y) (hy1 : y ≤ 65536) : bits_Mul64.f x y = some (0, x * y) := by
  have hm : 0 ≤ x * y := Int.mul_nonneg hx hy
  have hm2 : x * y ≤ 200000 * 65536 := Int.mul_le_mul hx1 hy1 hy (by omega)
  unfold bits_Mul64.f
  rw [impl_FixMul.mask_small x hx (by omega), impl_FixMul.mask_small y hy (by omega), show x / 4294967296 = 0 by omega, show y / 4294967296 = 0 by omega]
  simp only [Int.zero_mul, Int.mul_zero, Int.zero_add, Int.add_zero]
  rw [impl_FixMul.u64w (n := 0) (by omega) (by omega), impl_FixMul.u64w (n := x * y) hm (by omega)]
  simp only [Int.zero_add, Int.add_zero]
  rw [impl_FixMul.u64w (n := x * y / 4294967296) (by omega) (by omega), impl_FixMul.mask_small _ (by omega) (by omega), show x * y / 4294967296 / 4294967296 = 0 by omega, impl_FixMul.u64w (n := 0) (by omega) (by omega)]
  simp only [Int.zero_add, Int.add_zero]
  rw [impl_FixMul.u64w (n := x * y / 4294967296) (by omega) (by omega), show x * y / 4294967296 / 4294967296 = 0 by omega, impl_FixMul.u64w (n := 0) (by omega) (by omega)]
theorem impl_FixMul.fixed_small (a0 a1 : Int) (g1 : -200000 ≤ a0) (g2 : a0 ≤ 200000) (g3 : 0 ≤ a1) (g4 : a1 ≤ 65536) : impl_areFixed.f 3 [a0, a1] = some true := by
  have e0 : impl_GoodFixed.f a0 = some true := by
    unfold impl_GoodFixed.f impl_inRange.f
    rw [if_pos (by omega), decide_eq_true (by omega)]
    rfl
  have e1 : impl_GoodFixed.f a1 = some true := by
    unfold impl_GoodFixed.f impl_inRange.f
    rw [if_pos (by omega), decide_eq_true (by omega)]
    rfl
  have r0 : rd [a0, a1] 0 = a0 := rfl
  have r1 : rd [a0, a1] 1 = a1 := rfl
  have w1 : wrap64 1 = 1 := impl_FixMul.w64 (by omega) (by omega)
  have w2 : wrap64 2 = 2 := impl_FixMul.w64 (by omega) (by omega)
  simp [impl_areFixed.f, impl_areFixed.l0, r0, r1, e0, e1, w1, w2]
theorem impl_FixMul.or_zero (x : Int) (h0 : 0 ≤ x) (h1 : x < 4294967296) : Go.bits .or .u64 0 x = x := by
  obtain ⟨n, rfl⟩ := Int.eq_ofNat_of_zero_le h0
  unfold Go.bits
  have e : ((BitVec.ofInt IntKind.u64.bits 0) ||| (BitVec.ofInt IntKind.u64.bits (n : Int))).toNat = n := by
    rw [BitVec.toNat_or, BitVec.toNat_ofInt, BitVec.toNat_ofInt]
    have e1 : ((n : Int) % ((2 ^ IntKind.u64.bits : Nat) : Int)).toNat = n := by
      simp [IntKind.bits]; omega
    have e2 : ((0 : Int) % ((2 ^ IntKind.u64.bits : Nat) : Int)).toNat = 0 := by decide
    rw [e1, e2, Nat.zero_or]
  show IntKind.u64.wrap _ = _
  rw [e]
  exact impl_FixMul.u64w (by omega) (by omega)
theorem impl_FixMul.add64_small (p h : Int) (h0 : 0 ≤ p) (h1 : p ≤ 200000 * 65536) (h2 : 0 ≤ h) (h3 : h ≤ 65536) (w : World) : (callFunc 50 #[.int .u64 p, .int .u64 h, .int .u64 0]).run Try.prog w = .ok (.value (.tuple #[.int .u64 (p + h), .int .u64 0])) w := by
  rw [impl_FixMul.add64_call p h h0 h2 w, show (p + h + 0) % 18446744073709551616 = p + h by omega, show (p + h + 0) / 18446744073709551616 = 0 by omega]
set_option maxRecDepth 100000 in
theorem impl_FixMul.two_row (w : World) (a0 a1 : Int) (t : Nat) : Kd.C (Kd.int .i64) (w.alloc (Obj.cells #[.int .i64 a0, .int .i64 a1] t)) (some ⟨w.heap.size, 0, none⟩) 2 [a0, a1] := by
  refine Kd.C_of_reads (enc := Value.int .i64) (d := (0 : Int)) ⟨rfl, by decide, fun _ => ⟨_, rfl, fun j hj => ?_⟩⟩
  have h : j = 0 ∨ j = 1 := by omega
  have hb : (w.alloc (Obj.cells #[.int .i64 a0, .int .i64 a1] t)).heap[w.heap.size]? = some (Obj.cells #[.int .i64 a0, .int .i64 a1] t) := by
    show (w.heap.push _)[w.heap.size]? = _
    exact Array.getElem?_push_size
  rcases h with rfl | rfl
  · exact (blk_cell hb 0).trans rfl
  · exact (blk_cell hb 1).trans rfl
set_option maxHeartbeats 8000000 in
set_option maxRecDepth 100000 in
theorem impl_FixMul.calls (a0 : Int) (a1 : Int) (r : Int) (w : World) (h : impl_FixMul.f a0 a1 = some r) :
    Calls Try.prog 37 #[.int .i64 a0, .int .i64 a1] w fun e w' => e = .returned (.int .i64 r) ∧ Below w.heap.size w w' := by
  unfold impl_FixMul.f at h
  split at h
  case isFalse => cases h
  rename_i hg
  obtain ⟨⟨g1, g2⟩, ⟨g3, g4⟩⟩ := hg
  obtain rfl := Option.some.inj h
  have hn2 : impl_size.f a1 = some a1 := by rw [impl_FixMul.size_small a1 (by omega) (by omega), if_neg (by omega)]
  by_cases hneg : a0 < 0
  · have hn : impl_size.f a0 = some (-a0) := by rw [impl_FixMul.size_small a0 g1 g2, if_pos hneg]
    have hm0 : 0 ≤ -a0 * a1 := Int.mul_nonneg (by omega) g3
    have hm1 : -a0 * a1 ≤ 200000 * 65536 := Int.mul_le_mul (by omega) g4 g3 (by omega)
    have hmul := impl_FixMul.mul_small (-a0) a1 (by omega) (by omega) g3 g4
    unfold impl_FixMul.near
    rw [if_pos hneg]
    have d0 : decide (a0 < 0) = true := decide_eq_true hneg
    generalize hp : -a0 * a1 = p at hm0 hm1 hmul ⊢
    have d1 : decide (a1 < 0) = false := decide_eq_false (by omega)
    have ad0 := fun w => impl_FixMul.add64_small p 32768 hm0 hm1 (by omega) (by omega) w
    have ad1 := fun w => impl_FixMul.add64_small p 32767 hm0 hm1 (by omega) (by omega) w
    have o0 := impl_FixMul.or_zero ((p + 32768) / 65536) (by omega) (by omega)
    have o1 := impl_FixMul.or_zero ((p + 32767) / 65536) (by omega) (by omega)
    have q0 : decide (1099511627776 < (p + 32768) / 65536) = false := decide_eq_false (by omega)
    have q1 : decide (1099511627776 < (p + 32767) / 65536) = false := decide_eq_false (by omega)
    go_enter Try.func37, Try.ntmps37
    go_wp2_with (fail "x")
    go_at_call 47
    refine (impl_areFixed.calls 3 (some ⟨w.heap.size, 0, none⟩) 2 [a0, a1] true _ (impl_FixMul.two_row w a0 a1 _) (Nat.le_refl _) (impl_FixMul.fixed_small a0 a1 g1 g2 g3 g4)).mono ?_
    rintro e w1 ⟨rfl, ⟨nd, rfl⟩⟩
    go_wp2_with (fail "x")
    go_at_call 49
    refine (impl_size.calls a0 (-a0) _ hn).mono ?_
    rintro e w2 ⟨rfl, hb2⟩
    go_wp2_with (fail "x")
    go_at_call 49
    refine (impl_size.calls a1 a1 _ hn2).mono ?_
    rintro e w3 ⟨rfl, hb3⟩
    go_wp2_with (fail "x")
    go_at_call 48
    refine (bits_Mul64.calls (-a0) a1 0 p _ hmul).mono ?_
    rintro e w4 ⟨rfl, ⟨nd2, rfl⟩⟩
    go_wp2_with (first | (simp only [d0, d1]) | (simp only [ad0, ad1]) | (simp only [Int.zero_mul, o0, o1]) | (simp only [q0, q1]))
    go_ret
    have b1 := below_step (pw_below_drewN (below_alloc (Below.refl w.heap.size w) (Obj.cells #[.int .i64 a0, .int .i64 a1] 3)) nd) hb2
    exact ⟨rfl, pw_below_drewN (below_step b1 hb3) nd2⟩
  · have hn : impl_size.f a0 = some a0 := by rw [impl_FixMul.size_small a0 g1 g2, if_neg hneg]
    have hm0 : 0 ≤ a0 * a1 := Int.mul_nonneg (by omega) g3
    have hm1 : a0 * a1 ≤ 200000 * 65536 := Int.mul_le_mul (by omega) g4 g3 (by omega)
    have hmul := impl_FixMul.mul_small a0 a1 (by omega) (by omega) g3 g4
    unfold impl_FixMul.near
    rw [if_neg hneg]
    have d0 : decide (a0 < 0) = false := decide_eq_false hneg
    generalize hp : a0 * a1 = p at hm0 hm1 hmul ⊢
    have d1 : decide (a1 < 0) = false := decide_eq_false (by omega)
    have ad0 := fun w => impl_FixMul.add64_small p 32768 hm0 hm1 (by omega) (by omega) w
    have ad1 := fun w => impl_FixMul.add64_small p 32767 hm0 hm1 (by omega) (by omega) w
    have o0 := impl_FixMul.or_zero ((p + 32768) / 65536) (by omega) (by omega)
    have o1 := impl_FixMul.or_zero ((p + 32767) / 65536) (by omega) (by omega)
    have q0 : decide (1099511627776 < (p + 32768) / 65536) = false := decide_eq_false (by omega)
    have q1 : decide (1099511627776 < (p + 32767) / 65536) = false := decide_eq_false (by omega)
    go_enter Try.func37, Try.ntmps37
    go_wp2_with (fail "x")
    go_at_call 47
    refine (impl_areFixed.calls 3 (some ⟨w.heap.size, 0, none⟩) 2 [a0, a1] true _ (impl_FixMul.two_row w a0 a1 _) (Nat.le_refl _) (impl_FixMul.fixed_small a0 a1 g1 g2 g3 g4)).mono ?_
    rintro e w1 ⟨rfl, ⟨nd, rfl⟩⟩
    go_wp2_with (fail "x")
    go_at_call 49
    refine (impl_size.calls a0 a0 _ hn).mono ?_
    rintro e w2 ⟨rfl, hb2⟩
    go_wp2_with (fail "x")
    go_at_call 49
    refine (impl_size.calls a1 a1 _ hn2).mono ?_
    rintro e w3 ⟨rfl, hb3⟩
    go_wp2_with (fail "x")
    go_at_call 48
    refine (bits_Mul64.calls a0 a1 0 p _ hmul).mono ?_
    rintro e w4 ⟨rfl, ⟨nd2, rfl⟩⟩
    go_wp2_with (first | (simp only [d0, d1]) | (simp only [ad0, ad1]) | (simp only [Int.zero_mul, o0, o1]) | (simp only [q0, q1]))
    go_ret
    have b1 := below_step (pw_below_drewN (below_alloc (Below.refl w.heap.size w) (Obj.cells #[.int .i64 a0, .int .i64 a1] 3)) nd) hb2
    exact ⟨rfl, pw_below_drewN (below_step b1 hb3) nd2⟩

/-! ### impl_clamp: function 38 -/
def impl_clamp.f (a0 : Int) (a1 : Int) (a2 : Int) : Option (Int) := some (mn (mx a0 a1) a2)
set_option maxHeartbeats 8000000 in
set_option maxRecDepth 100000 in
theorem impl_clamp.calls (a0 : Int) (a1 : Int) (a2 : Int) (r : Int) (w : World) (h : impl_clamp.f a0 a1 a2 = some r) :
  Calls Try.prog 38 #[.int .i64 a0, .int .i64 a1, .int .i64 a2] w fun e w' => e = .returned (.int .i64 r) ∧ Below w.heap.size w w' := by
 have HB := am_ (Below.refl w.heap.size w)
 have H : (some (mn (mx a0 a1) a2)) = some r := h
 clear h
 obtain ⟨ji4, hji4⟩ : ∃ j_ : Int, (mx a0 a1) = j_ := ⟨_, rfl⟩
 replace H : (some (mn (ji4) a2)) = some r := by first | (rw [hji4] at H; exact H) | (simp only [hji4] at H ⊢; exact H)
 have hji4_ : (if a0 < a1 then a1 else a0) = ji4 := hji4
 obtain ⟨ji5, hji5⟩ : ∃ j_ : Int, (mn (ji4) a2) = j_ := ⟨_, rfl⟩
 replace H : (some ji5) = some r := by first | (rw [hji5] at H; exact H) | (simp only [hji5] at H ⊢; exact H)
 have hji5_ : (if a2 < (ji4) then a2 else (ji4)) = ji5 := hji5
 obtain rfl := Option.some.inj H
 go_enter Try.func38, Try.ntmps38
 go_wp2
 go_ret
 exact ⟨by first | rfl | (simp [errW_none, errW_some] <;> rfl) | (simp only [← hji4, ← hji5]; first | rfl | (simp [errW_none, errW_some] <;> rfl)) | (simp [*, errW_none, errW_some] <;> rfl), bw_ HB.out⟩

end Go.Proofs.Ytbnbgmpkemlfbaa.XFnExactMixVoices
