/- What the Go functions that this law comes to compute, each walked; written by a program of this session. -/
import Derived.Test.YtbjdhmgednhdgaaXFlt
import Derived.Test.YtbjdhmgednhdgaaXMark
import Derived.Test.YtbjdhmgednhdgaaXFnExactSpectrumx0
import Derived.Test.YtbjdhmgednhdgaaXFnExactSpectrumx1
import Derived.Test.YtbjdhmgednhdgaaXFnExactSpectrumx2
namespace Go.Proofs.Ytbjdhmgednhdgaa.XFnExactSpectrum
open Go.RowKit Go.Proofs.YtbjdhmgednhdgaaW.PrintWords Go.Proofs.YtbjdhmgednhdgaaW.PrintLast Go.Proofs.YtbjdhmgednhdgaaW.PrintMore
attribute [local go_sem] run_fadd run_fsub run_fmul run_fdiv run_fconv run_fofI run_feq run_fneq run_flss run_fgtr run_fleq run_fgeq run_store_flt str_geq max2_int min2_int max_two min_two max_three min_three max_four min_four   -- for this text's walks alone
set_option linter.unusedVariables false
set_option linter.unusedSimpArgs false

/-! ### slices_IndexFunc_float64_float64_at_impl_areGood_1: function 68 -/
def slices_IndexFunc_float64_float64_at_impl_areGood_1.l0 : Nat → List Int → Int → Int → Option (Int)
 | 0, _, _, _ => none
 | k + 1, x0, x7, x8 => if x8 < x7 then (if 0 ≤ x8 then (if x8 < (x0.length : Int) then ((impl_areGood_1.f k (rd x0 x8)).bind fun t152 => (if t152 = true then (some x8) else (slices_IndexFunc_float64_float64_at_impl_areGood_1.l0 k x0 x7 (wrap64 (x8 + 1))))) else (none)) else (none)) else (some (-1))
def slices_IndexFunc_float64_float64_at_impl_areGood_1.f (k : Nat) (l0 : List Int)  : Option (Int) := slices_IndexFunc_float64_float64_at_impl_areGood_1.l0 k l0 (l0.length : Int) 0
theorem slices_IndexFunc_float64_float64_at_impl_areGood_1.mono_l : ∀ k, (∀ y0 y1 y2, LeO (slices_IndexFunc_float64_float64_at_impl_areGood_1.l0 k y0 y1 y2) (slices_IndexFunc_float64_float64_at_impl_areGood_1.l0 (k + 1) y0 y1 y2))
 | 0 => fun _ _ _ r h => by simp [slices_IndexFunc_float64_float64_at_impl_areGood_1.l0] at h
 | k + 1 => by
  have ih0 := slices_IndexFunc_float64_float64_at_impl_areGood_1.mono_l k
  ·intro y0 y1 y2
   unfold slices_IndexFunc_float64_float64_at_impl_areGood_1.l0
   repeat' first
   | (with_reducible exact ih0 _ _ _)
   | (with_reducible exact impl_areGood_1.mono _ _)
   | (with_reducible exact LeO.refl _)
   | (with_reducible exact LeO.none _)
   | (with_reducible refine LeO.ite ?_ ?_)
   | (with_reducible refine LeO.bind ?_ (fun _ => ?_))
   | exact ih0 _ _ _
   | exact impl_areGood_1.mono _ _
   | exact LeO.none _
   | refine LeO.ite ?_ ?_
   | refine LeO.bind ?_ (fun _ => ?_)
theorem slices_IndexFunc_float64_float64_at_impl_areGood_1.mono : ∀ a0 k, LeO (slices_IndexFunc_float64_float64_at_impl_areGood_1.f k a0) (slices_IndexFunc_float64_float64_at_impl_areGood_1.f (k + 1) a0) := by
 intro a0 k
 have ih0 := slices_IndexFunc_float64_float64_at_impl_areGood_1.mono_l k
 unfold slices_IndexFunc_float64_float64_at_impl_areGood_1.f
 repeat' first
   | (with_reducible exact ih0 _ _ _)
   | (with_reducible exact impl_areGood_1.mono _ _)
   | (with_reducible exact LeO.refl _)
   | (with_reducible exact LeO.none _)
   | (with_reducible refine LeO.ite ?_ ?_)
   | (with_reducible refine LeO.bind ?_ (fun _ => ?_))
   | exact ih0 _ _ _
   | exact impl_areGood_1.mono _ _
   | exact LeO.none _
   | refine LeO.ite ?_ ?_
   | refine LeO.bind ?_ (fun _ => ?_)
set_option maxHeartbeats 8000000 in
set_option maxRecDepth 100000 in
theorem slices_IndexFunc_float64_float64_at_impl_areGood_1.calls (k : Nat) (A0 : Option Addr) (c0 : Nat) (l0 : List Int)  (r : Int) (w : World) (hr0 : Kd.C Kd.flt w A0 l0.length l0) (hc0 : l0.length ≤ c0) (h : slices_IndexFunc_float64_float64_at_impl_areGood_1.f k l0 = some r) :
  Calls Try.prog 68 #[.slice A0 l0.length c0, .func (.func 60) #[] #[]] w fun e w' => e = .returned (.int .i64 r) ∧ Below w.heap.size w w' := by
 have HR0 := Aside0.mk hr0
 have HC0 := Aside0.mk hc0
 clear hr0 hc0
 have HB := Aside0.mk (Below.refl w.heap.size w)
 have H : (slices_IndexFunc_float64_float64_at_impl_areGood_1.l0 k l0 (l0.length : Int) 0) = some r := h
 clear h
 have H' := Aside0.mk H
 clear H
 go_enter Try.func68, Try.ntmps68
 go_wp2
 go_loopg [8] k (fun kq v8 w' => ∃ (x8_1 : Int), v8 = .int .i64 x8_1 ∧ Aside0 (slices_IndexFunc_float64_float64_at_impl_areGood_1.l0 kq l0 (l0.length : Int) x8_1 = some r) ∧ Aside0 (kq ≤ k) ∧ Aside0 (Below w.heap.size w w'))
 case atStart => exact ⟨(0), (by first | rfl | (simp; done) | (simp [*]; done) | (simp [wrap64]; done)), H', ⟨Nat.le_refl _⟩, ⟨bw_ HB.out⟩⟩
 case round =>
  clear H'
  try clear p2
  obtain ⟨x8_1, rfl, HA, HK1, HB⟩ := hrel
  cases gk with
  | zero => exact absurd HA.out (by simp [slices_IndexFunc_float64_float64_at_impl_areGood_1.l0])
  | succ k1 =>
   have H := HA.out
   clear HA
   simp only [slices_IndexFunc_float64_float64_at_impl_areGood_1.l0] at H
   by_cases c3 : x8_1 < (l0.length : Int)
   ·rw [if_pos c3] at H
    have c3b0 : decide (x8_1 < (l0.length : Int)) = true := decide_eq_true c3
    clear c3
    by_cases c4 : 0 ≤ x8_1
    ·rw [if_pos c4] at H
     have c4b0 : decide (0 ≤ x8_1) = true := decide_eq_true c4
     clear c4
     by_cases c5 : x8_1 < (l0.length : Int)
     ·rw [if_pos c5] at H
      have c5b0 : decide (x8_1 < (l0.length : Int)) = true := decide_eq_true c5
      clear c5
      obtain ⟨t152, A60, H⟩ := bE_ H
      have A6 := Aside0.mk A60
      clear A60
      by_cases c7 : t152 = true
      ·subst c7
       replace H := it_ H rfl
       obtain rfl := Option.some.inj H
       have p151 : 0 ≤ (x8_1 : Int) := of_decide_eq_true (by first | (with_reducible assumption) | assumption)
       have q151 : x8_1 < (l0.length : Int) := of_decide_eq_true (by first | (with_reducible assumption) | assumption)
       obtain ⟨ad151, e151, hx151_0⟩ := Kd.at_flt HR0.out x8_1 p151 q151
       cases e151
       (try replace hx151_0 := (HB.out.cell (World.block_lt_of_cell? w _ hx151_0)).trans hx151_0)
       replace p151 := eq_true p151
       replace q151 := eq_true q151
       go_wp2_with (first | (go_at_call 60; (with_reducible refine (impl_areGood_1.calls k1 (rd l0 x8_1) true _ A6.out).mono ?_); rintro e w8 ⟨rfl, hb⟩; have n0_ := Aside0.mk (below_step (bw_ HB.out) hb); clear HB; have HB := n0_; clear n0_; (try clear hb); (try clear hb2); (try clear hk); (try clear hi)))
       go_ret
       exact ⟨by first | rfl | (simp [errW_none, errW_some] <;> rfl) | (simp [*, errW_none, errW_some] <;> rfl), bw_ HB.out⟩
      ·replace c7 := Bool.eq_false_iff.mpr c7
       subst c7
       replace H := if_ H Bool.false_ne_true
       have H' := Aside0.mk H
       clear H
       have p151 : 0 ≤ (x8_1 : Int) := of_decide_eq_true (by first | (with_reducible assumption) | assumption)
       have q151 : x8_1 < (l0.length : Int) := of_decide_eq_true (by first | (with_reducible assumption) | assumption)
       obtain ⟨ad151, e151, hx151_0⟩ := Kd.at_flt HR0.out x8_1 p151 q151
       cases e151
       (try replace hx151_0 := (HB.out.cell (World.block_lt_of_cell? w _ hx151_0)).trans hx151_0)
       replace p151 := eq_true p151
       replace q151 := eq_true q151
       go_wp2_with (first | (go_at_call 60; (with_reducible refine (impl_areGood_1.calls k1 (rd l0 x8_1) false _ A6.out).mono ?_); rintro e w9 ⟨rfl, hb⟩; have n0_ := Aside0.mk (below_step (bw_ HB.out) hb); clear HB; have HB := n0_; clear n0_; (try clear hb); (try clear hb2); (try clear hk); (try clear hi)))
       go_roundg k1
       case measure => have := HK1.out; omega
       case rel => exact ⟨(wrap64 (x8_1 + 1)), (by first | rfl | (simp; done) | (simp [*]; done) | (simp [wrap64]; done)), H', ⟨by have := HK1.out; omega⟩, ⟨bw_ HB.out⟩⟩
     ·rw [if_neg c5] at H
      exact absurd H (by simp)
    ·rw [if_neg c4] at H
     exact absurd H (by simp)
   ·rw [if_neg c3] at H
    have c3b0 : decide (x8_1 < (l0.length : Int)) = false := decide_eq_false c3
    clear c3
    obtain rfl := Option.some.inj H
    go_wp2
    go_ret
    exact ⟨by first | rfl | (simp [errW_none, errW_some] <;> rfl) | (simp [*, errW_none, errW_some] <;> rfl), bw_ HB.out⟩

/-! ### slices_ContainsFunc_float64_float64_at_impl_areGood_1: function 59 -/
def slices_ContainsFunc_float64_float64_at_impl_areGood_1.f (k : Nat) (l0 : List Int)  : Option (Bool) := (slices_IndexFunc_float64_float64_at_impl_areGood_1.f k l0).bind fun t153 => (some (decide (t153 ≥ 0)))
theorem slices_ContainsFunc_float64_float64_at_impl_areGood_1.mono : ∀ a0 k, LeO (slices_ContainsFunc_float64_float64_at_impl_areGood_1.f k a0) (slices_ContainsFunc_float64_float64_at_impl_areGood_1.f (k + 1) a0) := by
 intro a0 k
 unfold slices_ContainsFunc_float64_float64_at_impl_areGood_1.f
 repeat' first
   | (with_reducible exact slices_IndexFunc_float64_float64_at_impl_areGood_1.mono _ _)
   | (with_reducible exact LeO.refl _)
   | (with_reducible exact LeO.none _)
   | (with_reducible refine LeO.ite ?_ ?_)
   | (with_reducible refine LeO.bind ?_ (fun _ => ?_))
   | exact slices_IndexFunc_float64_float64_at_impl_areGood_1.mono _ _
   | exact LeO.none _
   | refine LeO.ite ?_ ?_
   | refine LeO.bind ?_ (fun _ => ?_)
set_option maxHeartbeats 8000000 in
set_option maxRecDepth 100000 in
theorem slices_ContainsFunc_float64_float64_at_impl_areGood_1.calls (k : Nat) (A0 : Option Addr) (c0 : Nat) (l0 : List Int)  (r : Bool) (w : World) (hr0 : Kd.C Kd.flt w A0 l0.length l0) (hc0 : l0.length ≤ c0) (h : slices_ContainsFunc_float64_float64_at_impl_areGood_1.f k l0 = some r) :
  Calls Try.prog 59 #[.slice A0 l0.length c0, .func (.func 60) #[] #[]] w fun e w' => e = .returned (.bool r) ∧ Below w.heap.size w w' := by
 have HR0 := Aside0.mk hr0
 have HC0 := Aside0.mk hc0
 clear hr0 hc0
 have HB := Aside0.mk (Below.refl w.heap.size w)
 have H : ((slices_IndexFunc_float64_float64_at_impl_areGood_1.f k l0).bind fun t153 => (some (decide (t153 ≥ 0)))) = some r := h
 clear h
 obtain ⟨t153, A30, H⟩ := bE_ H
 have A3 := Aside0.mk A30
 clear A30
 obtain rfl := Option.some.inj H
 go_enter Try.func59, Try.ntmps59
 go_wp2_with (first | ((with_reducible refine gate_callee (f := 68) rfl ?_); refine goesL_ (some 7) rfl rfl Try.func68 (by kernel_rfl) rfl #[.slice A0 l0.length c0, .func (.func 60) #[] #[]] rfl (by (try simp only [List.map_toArray, List.map_cons, List.map_nil]); first | done | rfl | (simp only [List.length_drop, List.length_take]; rfl)) ?_; (with_reducible refine (slices_IndexFunc_float64_float64_at_impl_areGood_1.calls k _ _ l0  t153 _ ?side1 ?side2 A3.out).mono ?_); (case side1 => repeat (first | exact HR0.out | (with_reducible refine Kd.C_alloc ?_ _) | (with_reducible refine Kd.C_drewN ?_ _) | (with_reducible refine Kd.C_drew ?_))); (case side2 => exact HC0.out); rintro e w4 ⟨rfl, hb⟩; refine ⟨_, rfl, ?_⟩; have n0_ := Aside0.mk (below_step (bw_ HB.out) hb); clear HB; have HB := n0_; clear n0_; (try clear hb); (try clear hb2); (try clear hk); (try clear hi)))
 go_ret
 exact ⟨by first | rfl | (simp [errW_none, errW_some] <;> rfl) | (simp [*, errW_none, errW_some] <;> rfl), bw_ HB.out⟩

/-! ### impl_areGood: function 36 -/
def impl_areGood.f (k : Nat) (l0 : List Int) : Option (Bool) := (slices_ContainsFunc_float64_float64_at_impl_areGood_1.f k l0).bind fun t154 => (some (!t154))
theorem impl_areGood.mono : ∀ a0 k, LeO (impl_areGood.f k a0) (impl_areGood.f (k + 1) a0) := by
 intro a0 k
 unfold impl_areGood.f
 repeat' first
   | (with_reducible exact slices_ContainsFunc_float64_float64_at_impl_areGood_1.mono _ _)
   | (with_reducible exact LeO.refl _)
   | (with_reducible exact LeO.none _)
   | (with_reducible refine LeO.ite ?_ ?_)
   | (with_reducible refine LeO.bind ?_ (fun _ => ?_))
   | exact slices_ContainsFunc_float64_float64_at_impl_areGood_1.mono _ _
   | exact LeO.none _
   | refine LeO.ite ?_ ?_
   | refine LeO.bind ?_ (fun _ => ?_)
set_option maxHeartbeats 8000000 in
set_option maxRecDepth 100000 in
theorem impl_areGood.calls (k : Nat) (A0 : Option Addr) (c0 : Nat) (l0 : List Int) (r : Bool) (w : World) (hr0 : Kd.C Kd.flt w A0 l0.length l0) (hc0 : l0.length ≤ c0) (h : impl_areGood.f k l0 = some r) :
  Calls Try.prog 36 #[.slice A0 l0.length c0] w fun e w' => e = .returned (.bool r) ∧ Below w.heap.size w w' := by
 have HR0 := Aside0.mk hr0
 have HC0 := Aside0.mk hc0
 clear hr0 hc0
 have HB := Aside0.mk (Below.refl w.heap.size w)
 have H : ((slices_ContainsFunc_float64_float64_at_impl_areGood_1.f k l0).bind fun t154 => (some (!t154))) = some r := h
 clear h
 obtain ⟨t154, A20, H⟩ := bE_ H
 have A2 := Aside0.mk A20
 clear A20
 obtain rfl := Option.some.inj H
 go_enter Try.func36, Try.ntmps36
 go_wp2_with (first | ((with_reducible refine gate_callee (f := 59) rfl ?_); refine goesL_ (some 4) rfl rfl Try.func59 (by kernel_rfl) rfl #[.slice A0 l0.length c0, .func (.func 60) #[] #[]] rfl (by (try simp only [List.map_toArray, List.map_cons, List.map_nil]); first | done | rfl | (simp only [List.length_drop, List.length_take]; rfl)) ?_; (with_reducible refine (slices_ContainsFunc_float64_float64_at_impl_areGood_1.calls k _ _ l0  t154 _ ?side1 ?side2 A2.out).mono ?_); (case side1 => repeat (first | exact HR0.out | (with_reducible refine Kd.C_alloc ?_ _) | (with_reducible refine Kd.C_drewN ?_ _) | (with_reducible refine Kd.C_drew ?_))); (case side2 => exact HC0.out); rintro e w3 ⟨rfl, hb⟩; refine ⟨_, rfl, ?_⟩; have n0_ := Aside0.mk (below_step (bw_ HB.out) hb); clear HB; have HB := n0_; clear n0_; (try clear hb); (try clear hb2); (try clear hk); (try clear hi)))
 go_ret
 exact ⟨by first | rfl | (simp [errW_none, errW_some] <;> rfl) | (simp [*, errW_none, errW_some] <;> rfl), bw_ HB.out⟩

/-! ### impl_mul: function 40 -/
def impl_mul.f (a0 : Int) (a1 : Int) : Option (Int) := if fmulOk a0.toNat a1.toNat = true then (some (fmul a0.toNat a1.toNat)) else (none)
set_option maxHeartbeats 8000000 in
set_option maxRecDepth 100000 in
theorem impl_mul.calls (a0 : Int) (a1 : Int) (r : Int) (w : World) (h : impl_mul.f a0 a1 = some r) :
  Calls Try.prog 40 #[.float .f64 a0.toNat, .float .f64 a1.toNat] w fun e w' => e = .returned (.float .f64 r.toNat) ∧ Drawn0 w w' := by
 have H : (if fmulOk a0.toNat a1.toNat = true then (some (fmul a0.toNat a1.toNat)) else (none)) = some r := h
 clear h
 by_cases c3 : fmulOk a0.toNat a1.toNat = true
 ·rw [if_pos c3] at H
  have c3b0 : fmulOk a0.toNat a1.toNat = true := c3
  clear c3
  obtain rfl := Option.some.inj H
  go_enter Try.func40, Try.ntmps40
  go_wp2
  go_ret
  exact ⟨by first | rfl | (simp; done) | (simp [*]; done), by repeat (first | exact Drawn0.refl _ | apply Drawn0.step)⟩
 ·rw [if_neg c3] at H
  exact absurd H (by simp)

/-! ### impl_plain: function 43 -/
def impl_plain.f (a0 : Int) : Option (Int) := if (feq a0.toNat 0) = true then (some 0) else (some a0)
set_option maxHeartbeats 8000000 in
set_option maxRecDepth 100000 in
theorem impl_plain.calls (a0 : Int) (r : Int) (w : World) (h : impl_plain.f a0 = some r) :
  Calls Try.prog 43 #[.float .f64 a0.toNat] w fun e w' => e = .returned (.float .f64 r.toNat) ∧ Drawn0 w w' := by
 have H : (if (feq a0.toNat 0) = true then (some 0) else (some a0)) = some r := h
 clear h
 by_cases c2 : (feq a0.toNat 0) = true
 ·rw [if_pos c2] at H
  have c2b0 : (feq a0.toNat 0) = true := c2
  clear c2
  obtain rfl := Option.some.inj H
  go_enter Try.func43, Try.ntmps43
  go_wp2
  go_ret
  exact ⟨by first | rfl | (simp; done) | (simp [*]; done), by repeat (first | exact Drawn0.refl _ | apply Drawn0.step)⟩
 ·rw [if_neg c2] at H
  have c2b0 : (feq a0.toNat 0) = false := by simpa using c2
  clear c2
  obtain rfl := Option.some.inj H
  go_enter Try.func43, Try.ntmps43
  go_wp2
  go_ret
  exact ⟨by first | rfl | (simp; done) | (simp [*]; done), by repeat (first | exact Drawn0.refl _ | apply Drawn0.step)⟩

/-! ### impl_Spectrum: function 24 -/
/-! a spectrum: the turns stand in an array of the call's own -/
def impl_Spectrum.wre (j : Nat) : Int := [4607182418800017408, 4604544271217802189, 0, 13827916308072577997, 13830554455654793216, 13827916308072577997, 0, 4604544271217802189].getD j 0
def impl_Spectrum.wim (j : Nat) : Int := [0, 13827916308072577997, 13830554455654793216, 13827916308072577997, 0, 4604544271217802189, 4607182418800017408, 4604544271217802189].getD j 0
def impl_Spectrum.cells : Array Value := ((List.range 8).flatMap fun j => [Value.float .f64 (impl_Spectrum.wre j).toNat, Value.float .f64 (impl_Spectrum.wim j).toNat]).toArray
def impl_Spectrum.inner (K : Nat) (x : List Int) (k : Nat) : Nat → Nat → Int → Int → Option (Option (Int × Int))
  | 0, _, re, im => some (some (re, im))
  | m + 1, n, re, im =>
    if fmulOk (rd x n).toNat (impl_Spectrum.wre (k * n % 8)).toNat = true ∧ fmulOk (rd x n).toNat (impl_Spectrum.wim (k * n % 8)).toNat = true ∧ faddOk re.toNat (fmul (rd x n).toNat (impl_Spectrum.wre (k * n % 8)).toNat).toNat = true ∧ faddOk im.toNat (fmul (rd x n).toNat (impl_Spectrum.wim (k * n % 8)).toNat).toNat = true then
      (impl_isFinite.f K [fmul (rd x n).toNat (impl_Spectrum.wre (k * n % 8)).toNat, fmul (rd x n).toNat (impl_Spectrum.wim (k * n % 8)).toNat, fadd re.toNat (fmul (rd x n).toNat (impl_Spectrum.wre (k * n % 8)).toNat).toNat, fadd im.toNat (fmul (rd x n).toNat (impl_Spectrum.wim (k * n % 8)).toNat).toNat]).bind fun t => if t = true then impl_Spectrum.inner K x k m (n + 1) (fadd re.toNat (fmul (rd x n).toNat (impl_Spectrum.wre (k * n % 8)).toNat).toNat) (fadd im.toNat (fmul (rd x n).toNat (impl_Spectrum.wim (k * n % 8)).toNat).toNat) else some none
    else none
def impl_Spectrum.outer (K : Nat) (x : List Int) : Nat → Nat → List S33 → Option (List S33 × Bool)
  | 0, _, o => some (o, true)
  | m + 1, k, o => (impl_Spectrum.inner K x k 8 0 0 0).bind fun r => match r with
    | none => some ([], false)
    | some p => (impl_plain.f p.1).bind fun a => (impl_plain.f p.2).bind fun b => impl_Spectrum.outer K x m (k + 1) (o ++ [(⟨a, b⟩ : S33)])
def impl_Spectrum.f (K : Nat) (x : List Int) : Option (List S33 × Bool) := if x.length = 8 then (impl_areGood.f K x).bind fun t => if t = true then impl_Spectrum.outer K x 8 0 [] else some ([], false) else some ([], false)
theorem impl_Spectrum.inner_mono (x : List Int) (k K : Nat) : ∀ (m n : Nat) (re im : Int), LeO (impl_Spectrum.inner K x k m n re im) (impl_Spectrum.inner (K + 1) x k m n re im)
  | 0, n, re, im => LeO.refl _
  | m + 1, n, re, im => by
    rw [impl_Spectrum.inner, impl_Spectrum.inner]
    exact LeO.ite (LeO.bind (impl_isFinite.mono _ _) (fun _ => LeO.ite (impl_Spectrum.inner_mono x k K m _ _ _) (LeO.refl _))) (LeO.refl _)
theorem impl_Spectrum.outer_mono (x : List Int) (K : Nat) : ∀ (m k : Nat) (o : List S33), LeO (impl_Spectrum.outer K x m k o) (impl_Spectrum.outer (K + 1) x m k o)
  | 0, k, o => LeO.refl _
  | m + 1, k, o => by
    rw [impl_Spectrum.outer, impl_Spectrum.outer]
    refine LeO.bind (impl_Spectrum.inner_mono x k K 8 0 0 0) (fun r => ?_)
    cases r with
    | none => exact LeO.refl _
    | some p => exact LeO.bind (LeO.refl _) (fun _ => LeO.bind (LeO.refl _) (fun _ => impl_Spectrum.outer_mono x K m _ _))
theorem impl_Spectrum.mono : ∀ a0 k, LeO (impl_Spectrum.f k a0) (impl_Spectrum.f (k + 1) a0) := by
  intro a0 k
  unfold impl_Spectrum.f
  exact LeO.ite (LeO.bind (impl_areGood.mono _ _) (fun _ => LeO.ite (impl_Spectrum.outer_mono _ _ _ _ _) (LeO.refl _))) (LeO.refl _)
theorem impl_Spectrum.cells_eq : impl_Spectrum.cells = #[.float .f64 4607182418800017408, .float .f64 0, .float .f64 4604544271217802189, .float .f64 13827916308072577997, .float .f64 0, .float .f64 13830554455654793216, .float .f64 13827916308072577997, .float .f64 13827916308072577997, .float .f64 13830554455654793216, .float .f64 0, .float .f64 13827916308072577997, .float .f64 4604544271217802189, .float .f64 0, .float .f64 4607182418800017408, .float .f64 4604544271217802189, .float .f64 4604544271217802189] := by rfl
theorem impl_Spectrum.cell_at (j : Nat) (h : j < 8) : impl_Spectrum.cells[j * 2]? = some (.float .f64 (impl_Spectrum.wre j).toNat) ∧ impl_Spectrum.cells[j * 2 + 1]? = some (.float .f64 (impl_Spectrum.wim j).toNat) := by
  rw [impl_Spectrum.cells_eq]
  have hj : j = 0 ∨ j = 1 ∨ j = 2 ∨ j = 3 ∨ j = 4 ∨ j = 5 ∨ j = 6 ∨ j = 7 := by omega
  rcases hj with rfl | rfl | rfl | rfl | rfl | rfl | rfl | rfl <;> exact ⟨rfl, rfl⟩
theorem impl_Spectrum.set_row {w : World} {g : Nat} {t : TypeId} {cs vs : Array Value} (h : w.heap[g]? = some (.cells cs t (0, 0))) : (w.setRow g vs).heap[g]? = some (.cells vs t (0, 0)) := by
  simp [World.setRow, Array.getElem?_modify, h]
theorem impl_Spectrum.set_below {w0 w : World} {B g : Nat} {vs : Array Value} (h : Below B w0 w) (hg : B ≤ g) : Below B w0 (w.setRow g vs) :=
  h.trans ⟨rfl, rfl, rfl, by simp [World.setRow], fun k hk => by simp [World.setRow, Array.getElem?_modify, show g ≠ k by omega]⟩
set_option maxHeartbeats 8000000 in
set_option maxRecDepth 100000 in
theorem impl_Spectrum.calls (k : Nat) (A0 : Option Addr) (c0 : Nat) (l0 : List Int) (r1 : List (S33)) (r2 : Bool) (w : World) (hr0 : Kd.C Kd.flt w A0 l0.length l0) (hc0 : l0.length ≤ c0) (h : impl_Spectrum.f k l0 = some (r1, r2)) :
    Calls Try.prog 24 #[.slice A0 l0.length c0] w fun e w' => ∃ v0_ : Value, e = .returned (.tuple #[v0_, .bool r2]) ∧ Kd.R k33 33 w' w.heap.size (fun _ => True) v0_ r1 ∧ Below w.heap.size w w' := by
  have hu33 := Try.underlying33
  have HR0 := Aside0.mk hr0
  have HC0 := Aside0.mk hc0
  have HB := Aside0.mk (Below.refl w.heap.size w)
  clear hr0 hc0
  unfold impl_Spectrum.f at h
  by_cases hl : l0.length = 8
  case neg =>
    rw [if_neg hl] at h
    simp only [Option.some.injEq, Prod.mk.injEq] at h
    obtain ⟨rfl, rfl⟩ := h
    have cb : ((l0.length : Int) != 8) = true := by
      rw [bne_iff_ne]
      omega
    clear hl
    go_enter Try.func24, Try.ntmps24
    go_wp2_with (fail "x")
    go_ret2
    exact ⟨_, rfl, Kd.R_nil _ _ _ _ _, bw_ HB.out⟩
  rw [if_pos hl] at h
  have cb : ((l0.length : Int) != 8) = false := by
    rw [bne_eq_false_iff_eq]
    omega
  have HLN := Aside0.mk hl
  clear hl
  obtain ⟨t, ht, h2⟩ := Option.bind_eq_some_iff.mp h
  have A4 := Aside0.mk ht
  clear ht h
  cases t with
  | false =>
    rw [if_neg (by decide)] at h2
    simp only [Option.some.injEq, Prod.mk.injEq] at h2
    obtain ⟨rfl, rfl⟩ := h2
    go_enter Try.func24, Try.ntmps24
    go_wp2_with (go_at_call 36; refine (impl_areGood.calls k _ _ l0 false _ HR0.out HC0.out A4.out).mono ?_; rintro e w1 ⟨rfl, hb⟩; have n2_ := Aside0.mk (below_step (bw_ HB.out) hb); clear HB; have HB := n2_; clear n2_ hb)
    go_ret2
    exact ⟨_, rfl, Kd.R_nil _ _ _ _ _, bw_ HB.out⟩
  | true =>
    rw [if_pos rfl] at h2
    have H := Aside0.mk h2
    clear h2
    go_enter Try.func24, Try.ntmps24
    go_wp2_with (first | (go_at_call 36; refine (impl_areGood.calls k _ _ l0 true _ HR0.out HC0.out A4.out).mono ?_; rintro e w1 ⟨rfl, hb⟩; have n2_ := Aside0.mk (below_step (bw_ HB.out) hb); clear HB; have HB := n2_; clear n2_ hb) | ((with_reducible refine gate_dst (N := 30) rfl ?_); refine Kd.R_lit k33 _ 33 ?hg (N := 30) ?hd (xs := ([] : List S33)) (inner := []) (ok := fun _ => True) (okp := fun _ => True) ?hr ?hp (fun _ hk => hk) trivial (Below.refl _ _) (Nat.le_refl _) (by simp) ?_; (case hd => rfl); (case hg => rfl); (case hr => first | (go_simp; done) | (go_simp; rfl)); (case hp => exact (Reps.none _ _)); intro v30 w3 ho hb3 hg_ hnew_; clear hg_ hnew_; have HO := Aside0.mk (Kd.R_lower ho (below_size (below_alloc HB.out _))); have BK0 := blk_below (blk_new w1 _) hb3; have n2_ := Aside0.mk (below_step (below_alloc HB.out _) hb3); have HG := Aside0.mk (below_size HB.out); clear HB; have HB := n2_; clear n2_ ho hb3))
    rw [← impl_Spectrum.cells_eq] at BK0
    obtain ⟨CW, hCW⟩ : ∃ c : Array Value, c = impl_Spectrum.cells := ⟨_, rfl⟩
    rw [← hCW] at BK0
    have BK := Aside0.mk BK0
    have HCW : Aside0 (∀ j, j < 8 → CW[j * 2]? = some (.float .f64 (impl_Spectrum.wre j).toNat) ∧ CW[j * 2 + 1]? = some (.float .f64 (impl_Spectrum.wim j).toNat)) := ⟨by rw [hCW]; exact impl_Spectrum.cell_at⟩
    clear BK0 hCW
    generalize w1.heap.size = gb at BK HG ⊢
    go_loopg [5, 31] 8 (fun kq v5 v31 w' => ∃ (y : Int) (kk : Nat) (o : List S33), v31 = .int .i64 y ∧ Aside0 (y = (kk : Int)) ∧ Aside0 (kk + kq = 8) ∧ Aside0 (o.length ≤ kk) ∧ Aside0 (impl_Spectrum.outer k l0 kq kk o = some (r1, r2)) ∧ Aside0 (Kd.R k33 33 w' w.heap.size (fun _ => True) v5 o) ∧ Aside0 (w'.heap[gb]? = some (.cells CW 73 (0, 0))) ∧ Aside0 (Below w.heap.size w w'))
    case atStart => exact ⟨0, 0, [], rfl, ⟨rfl⟩, ⟨rfl⟩, ⟨Nat.le_refl _⟩, H, HO, BK, HB⟩
    case round =>
      clear HO HB BK H A4
      obtain ⟨y, kk, o, rfl, HY, HK, HL, H, HO, BK, HB⟩ := hrel
      by_cases hk : kk < 8
      · obtain ⟨k2, rfl⟩ : ∃ k2, gk = k2 + 1 := ⟨gk - 1, by have := HK.out; omega⟩
        have cy : decide (y < 8) = true := decide_eq_true (by have := HY.out; omega)
        have h2 := H.out
        rw [impl_Spectrum.outer] at h2
        obtain ⟨G, hG0, hG1, h3⟩ : ∃ G : Option (Int × Int) → Option (List S33 × Bool), G none = some ([], false) ∧ (∀ p, G (some p) = (impl_plain.f p.1).bind fun a => (impl_plain.f p.2).bind fun b => impl_Spectrum.outer k l0 k2 (kk + 1) (o ++ [(⟨a, b⟩ : S33)])) ∧ (impl_Spectrum.inner k l0 kk 8 0 0 0).bind G = some (r1, r2) := ⟨_, rfl, fun _ => rfl, h2⟩
        have HG0 := Aside0.mk hG0
        have HG1 := Aside0.mk hG1
        have H2 := Aside0.mk h3
        have HKL := Aside0.mk hk
        clear h2 H hk hG0 hG1 h3
        go_wp2_with (fail "x")
        go_loopg [7, 8, 36] 8 (fun nq v7 v8 v36 w' => ∃ (re im z : Int) (nn : Nat), v7 = .float .f64 re.toNat ∧ v8 = .float .f64 im.toNat ∧ v36 = .int .i64 z ∧ Aside0 (z = (nn : Int)) ∧ Aside0 (nn + nq = 8) ∧ Aside0 ((impl_Spectrum.inner k l0 kk nq nn re im).bind G = some (r1, r2)) ∧ Aside0 (Kd.R k33 33 w' w.heap.size (fun _ => True) u5 o) ∧ Aside0 (w'.heap[gb]? = some (.cells CW 73 (0, 0))) ∧ Aside0 (Below w.heap.size w w'))
        case atStart => exact ⟨0, 0, 0, 0, rfl, rfl, rfl, ⟨rfl⟩, ⟨rfl⟩, H2, HO, BK, HB⟩
        case round =>
          clear HO HB BK H2
          obtain ⟨re, im, z, nn, rfl, rfl, rfl, HZ, HN, HI, HO, BK, HB⟩ := hrel
          have hln := HLN.out
          by_cases hn : nn < 8
          · obtain ⟨k3, rfl⟩ : ∃ k3, gk = k3 + 1 := ⟨gk - 1, by have := HN.out; omega⟩
            have hz := HZ.out
            have cz : decide (z < (l0.length : Int)) = true := decide_eq_true (by omega)
            have p0 := eq_true (show 0 ≤ z by omega)
            have q0 := eq_true (show z < (l0.length : Int) by omega)
            obtain ⟨ad, e0, hx⟩ := Kd.at_flt HR0.out z (by omega) (by omega)
            cases e0
            replace hx := (HB.out.cell (World.block_lt_of_cell? w _ hx)).trans hx
            have hi := HI.out
            rw [impl_Spectrum.inner] at hi
            split at hi
            case isFalse => cases hi
            rename_i hok
            rw [← hz] at hok hi
            obtain ⟨o1, o2, o3, o4⟩ := hok
            rw [Option.bind_assoc] at hi
            obtain ⟨t, hf, h4⟩ := Option.bind_eq_some_iff.mp hi
            clear hi
            obtain ⟨jj, hjj⟩ : ∃ jj : Int, jj = ((kk * nn % 8 : Nat) : Int) := ⟨_, rfl⟩
            have hy := HY.out
            have hkl := HKL.out
            have hrem : Int.tmod (wrap64 (y * z)) 8 = jj := by
              have hp : y * z = ((kk * nn : Nat) : Int) := by rw [hy, hz]; simp
              have hb : kk * nn ≤ 7 * 7 := Nat.mul_le_mul (by omega) (by omega)
              have hw : wrap64 ((kk * nn : Nat) : Int) = ((kk * nn : Nat) : Int) := by unfold wrap64; omega
              rw [hp, hw, hjj, Int.tmod_eq_emod_of_nonneg (by omega)]
              omega
            have p1 := eq_true (show 0 ≤ jj by omega)
            have q1 := eq_true (show jj < 8 by omega)
            obtain ⟨w0, w1_⟩ := HCW.out (kk * nn % 8) (by omega)
            have hc0 : wr.cell? ⟨gb, jj.toNat * 2, none⟩ = some (.float .f64 (impl_Spectrum.wre (kk * nn % 8)).toNat) := by
              rw [show jj.toNat = kk * nn % 8 by omega]
              exact (blk_cell BK.out _).trans w0
            have hc1 : wr.cell? ⟨gb, jj.toNat * 2 + 1, none⟩ = some (.float .f64 (impl_Spectrum.wim (kk * nn % 8)).toNat) := by
              rw [show jj.toNat = kk * nn % 8 by omega]
              exact (blk_cell BK.out _).trans w1_
            clear w0 w1_ hy hz hkl hjj hln
            generalize impl_Spectrum.wre (kk * nn % 8) = wa at *
            generalize impl_Spectrum.wim (kk * nn % 8) = wb at *
            have O1 := Aside0.mk (show impl_mul.f (rd l0 z) wa = some (fmul (rd l0 z).toNat wa.toNat) from if_pos o1)
            have O2 := Aside0.mk (show impl_mul.f (rd l0 z) wb = some (fmul (rd l0 z).toNat wb.toNat) from if_pos o2)
            generalize fmul (rd l0 z).toNat wa.toNat = pa at *
            generalize fmul (rd l0 z).toNat wb.toNat = pb at *
            clear o1 o2
            obtain ⟨ys, hys⟩ : ∃ ys : List Int, ys = [pa, pb, fadd re.toNat pa.toNat, fadd im.toNat pb.toNat] := ⟨_, rfl⟩
            have HF : Aside0 (impl_isFinite.f k ys = some t) := ⟨by rw [hys]; exact hf⟩
            have Nys := Aside0.mk hys
            have H4 := Aside0.mk h4
            clear hf h4 hn hys HI
            cases t with
            | false =>
              have h5 := H4.out
              rw [if_neg (by decide), Option.bind_some, HG0.out] at h5
              simp only [Option.some.injEq, Prod.mk.injEq] at h5
              obtain ⟨rfl, rfl⟩ := h5
              go_wp2_with (first | (go_at_call 40; (with_reducible refine (impl_mul.calls (rd l0 z) wa pa _ O1.out).mono ?_); rintro e w' ⟨rfl, ⟨nd, rfl⟩⟩; (try first | exact ⟨rfl, _, World.drewN_drewN _ _ _⟩ | exact ⟨rfl, _, Eq.trans (World.drewN_drewN _ _ _) (congrArg (World.drewN _) (Nat.add_assoc _ _ _))⟩)) | (go_at_call 40; (with_reducible refine (impl_mul.calls (rd l0 z) wb pb _ O2.out).mono ?_); rintro e w' ⟨rfl, ⟨nd, rfl⟩⟩; (try first | exact ⟨rfl, _, World.drewN_drewN _ _ _⟩ | exact ⟨rfl, _, Eq.trans (World.drewN_drewN _ _ _) (congrArg (World.drewN _) (Nat.add_assoc _ _ _))⟩)) | ((with_reducible refine gate_dst (N := 69) rfl ?_); refine Kd.R_lit Kd.flt _ 22 ?hg (N := 69) ?hd (xs := ([pa, pb, fadd re.toNat pa.toNat, fadd im.toNat pb.toNat] : List Int)) (inner := [.float .f64 pa.toNat, .float .f64 pb.toNat, .float .f64 (fadd re.toNat pa.toNat).toNat, .float .f64 (fadd im.toNat pb.toNat).toNat]) (ok := fun _ => True) (okp := fun _ => True) ?hr ?hp (fun _ hk => hk) trivial (Below.refl _ _) (Nat.le_refl _) (by simp) ?_; (case hd => rfl); (case hg => rfl); (case hr => first | (go_simp; done) | (go_simp; rfl)); (case hp => exact (Reps.one (show Kd.M Kd.flt _ _ _ pa [.float .f64 pa.toNat] from rfl) (Reps.one (show Kd.M Kd.flt _ _ _ pb [.float .f64 pb.toNat] from rfl) (Reps.one (show Kd.M Kd.flt _ _ _ (fadd re.toNat pa.toNat) [.float .f64 (fadd re.toNat pa.toNat).toNat] from rfl) (Reps.one (show Kd.M Kd.flt _ _ _ (fadd im.toNat pb.toNat) [.float .f64 (fadd im.toNat pb.toNat).toNat] from rfl) (Reps.none _ _)))))); intro v69 w16 ho17 hb hg_ hnew_; clear hg_ hnew_; rw [← Nys.out] at ho17; have n0_ := Aside0.mk (Kd.R_below (by (with_reducible repeat (first | apply Kd.R_alloc | apply Kd.R_drewN | apply Kd.R_drew)); exact HO.out) hb); have n2_ := Aside0.mk (blk_below (bk_ BK.out) hb); have n3_ := Aside0.mk (below_step (bw_ HB.out) hb); have HOF := Aside0.mk ho17; clear HO BK HB; have HO := n0_; have BK := n2_; have HB := n3_; clear n0_ n2_ n3_; clear hb ho17; obtain ⟨Ao18, co18, eo18⟩ := Kd.R_slice HOF.out; subst eo18) | (go_at_call 42; (with_reducible refine (impl_isFinite.calls k _ _ ys false _ ?side1 ?side2 HF.out).mono ?_); (case side1 => repeat (first | exact (Kd.R_reads' HOF.out).2.2 | (with_reducible refine Kd.C_alloc ?_ _) | (with_reducible refine Kd.C_drewN ?_ _) | (with_reducible refine Kd.C_drew ?_))); (case side2 => exact (Kd.R_reads' HOF.out).2.1); rintro e w' ⟨rfl, ⟨nd, rfl⟩⟩))
              repeat (go_quiet (first | (go_at_call 40; (with_reducible refine (impl_mul.calls (rd l0 z) wa pa _ O1.out).mono ?_); rintro e w' ⟨rfl, ⟨nd, rfl⟩⟩; (try first | exact ⟨rfl, _, World.drewN_drewN _ _ _⟩ | exact ⟨rfl, _, Eq.trans (World.drewN_drewN _ _ _) (congrArg (World.drewN _) (Nat.add_assoc _ _ _))⟩)) | (go_at_call 40; (with_reducible refine (impl_mul.calls (rd l0 z) wb pb _ O2.out).mono ?_); rintro e w' ⟨rfl, ⟨nd, rfl⟩⟩; (try first | exact ⟨rfl, _, World.drewN_drewN _ _ _⟩ | exact ⟨rfl, _, Eq.trans (World.drewN_drewN _ _ _) (congrArg (World.drewN _) (Nat.add_assoc _ _ _))⟩)) | ((with_reducible refine gate_dst (N := 69) rfl ?_); refine Kd.R_lit Kd.flt _ 22 ?hg (N := 69) ?hd (xs := ([pa, pb, fadd re.toNat pa.toNat, fadd im.toNat pb.toNat] : List Int)) (inner := [.float .f64 pa.toNat, .float .f64 pb.toNat, .float .f64 (fadd re.toNat pa.toNat).toNat, .float .f64 (fadd im.toNat pb.toNat).toNat]) (ok := fun _ => True) (okp := fun _ => True) ?hr ?hp (fun _ hk => hk) trivial (Below.refl _ _) (Nat.le_refl _) (by simp) ?_; (case hd => rfl); (case hg => rfl); (case hr => first | (go_simp; done) | (go_simp; rfl)); (case hp => exact (Reps.one (show Kd.M Kd.flt _ _ _ pa [.float .f64 pa.toNat] from rfl) (Reps.one (show Kd.M Kd.flt _ _ _ pb [.float .f64 pb.toNat] from rfl) (Reps.one (show Kd.M Kd.flt _ _ _ (fadd re.toNat pa.toNat) [.float .f64 (fadd re.toNat pa.toNat).toNat] from rfl) (Reps.one (show Kd.M Kd.flt _ _ _ (fadd im.toNat pb.toNat) [.float .f64 (fadd im.toNat pb.toNat).toNat] from rfl) (Reps.none _ _)))))); intro v69 w16 ho17 hb hg_ hnew_; clear hg_ hnew_; rw [← Nys.out] at ho17; have n0_ := Aside0.mk (Kd.R_below (by (with_reducible repeat (first | apply Kd.R_alloc | apply Kd.R_drewN | apply Kd.R_drew)); exact HO.out) hb); have n2_ := Aside0.mk (blk_below (bk_ BK.out) hb); have n3_ := Aside0.mk (below_step (bw_ HB.out) hb); have HOF := Aside0.mk ho17; clear HO BK HB; have HO := n0_; have BK := n2_; have HB := n3_; clear n0_ n2_ n3_; clear hb ho17; obtain ⟨Ao18, co18, eo18⟩ := Kd.R_slice HOF.out; subst eo18) | (go_at_call 42; (with_reducible refine (impl_isFinite.calls k _ _ ys false _ ?side1 ?side2 HF.out).mono ?_); (case side1 => repeat (first | exact (Kd.R_reads' HOF.out).2.2 | (with_reducible refine Kd.C_alloc ?_ _) | (with_reducible refine Kd.C_drewN ?_ _) | (with_reducible refine Kd.C_drew ?_))); (case side2 => exact (Kd.R_reads' HOF.out).2.1); rintro e w' ⟨rfl, ⟨nd, rfl⟩⟩)); try go_wp2_with (first | (go_at_call 40; (with_reducible refine (impl_mul.calls (rd l0 z) wa pa _ O1.out).mono ?_); rintro e w' ⟨rfl, ⟨nd, rfl⟩⟩; (try first | exact ⟨rfl, _, World.drewN_drewN _ _ _⟩ | exact ⟨rfl, _, Eq.trans (World.drewN_drewN _ _ _) (congrArg (World.drewN _) (Nat.add_assoc _ _ _))⟩)) | (go_at_call 40; (with_reducible refine (impl_mul.calls (rd l0 z) wb pb _ O2.out).mono ?_); rintro e w' ⟨rfl, ⟨nd, rfl⟩⟩; (try first | exact ⟨rfl, _, World.drewN_drewN _ _ _⟩ | exact ⟨rfl, _, Eq.trans (World.drewN_drewN _ _ _) (congrArg (World.drewN _) (Nat.add_assoc _ _ _))⟩)) | ((with_reducible refine gate_dst (N := 69) rfl ?_); refine Kd.R_lit Kd.flt _ 22 ?hg (N := 69) ?hd (xs := ([pa, pb, fadd re.toNat pa.toNat, fadd im.toNat pb.toNat] : List Int)) (inner := [.float .f64 pa.toNat, .float .f64 pb.toNat, .float .f64 (fadd re.toNat pa.toNat).toNat, .float .f64 (fadd im.toNat pb.toNat).toNat]) (ok := fun _ => True) (okp := fun _ => True) ?hr ?hp (fun _ hk => hk) trivial (Below.refl _ _) (Nat.le_refl _) (by simp) ?_; (case hd => rfl); (case hg => rfl); (case hr => first | (go_simp; done) | (go_simp; rfl)); (case hp => exact (Reps.one (show Kd.M Kd.flt _ _ _ pa [.float .f64 pa.toNat] from rfl) (Reps.one (show Kd.M Kd.flt _ _ _ pb [.float .f64 pb.toNat] from rfl) (Reps.one (show Kd.M Kd.flt _ _ _ (fadd re.toNat pa.toNat) [.float .f64 (fadd re.toNat pa.toNat).toNat] from rfl) (Reps.one (show Kd.M Kd.flt _ _ _ (fadd im.toNat pb.toNat) [.float .f64 (fadd im.toNat pb.toNat).toNat] from rfl) (Reps.none _ _)))))); intro v69 w16 ho17 hb hg_ hnew_; clear hg_ hnew_; rw [← Nys.out] at ho17; have n0_ := Aside0.mk (Kd.R_below (by (with_reducible repeat (first | apply Kd.R_alloc | apply Kd.R_drewN | apply Kd.R_drew)); exact HO.out) hb); have n2_ := Aside0.mk (blk_below (bk_ BK.out) hb); have n3_ := Aside0.mk (below_step (bw_ HB.out) hb); have HOF := Aside0.mk ho17; clear HO BK HB; have HO := n0_; have BK := n2_; have HB := n3_; clear n0_ n2_ n3_; clear hb ho17; obtain ⟨Ao18, co18, eo18⟩ := Kd.R_slice HOF.out; subst eo18) | (go_at_call 42; (with_reducible refine (impl_isFinite.calls k _ _ ys false _ ?side1 ?side2 HF.out).mono ?_); (case side1 => repeat (first | exact (Kd.R_reads' HOF.out).2.2 | (with_reducible refine Kd.C_alloc ?_ _) | (with_reducible refine Kd.C_drewN ?_ _) | (with_reducible refine Kd.C_drew ?_))); (case side2 => exact (Kd.R_reads' HOF.out).2.1); rintro e w' ⟨rfl, ⟨nd, rfl⟩⟩)))
              go_ret2
              exact ⟨_, rfl, Kd.R_nil _ _ _ _ _, bw_ HB.out⟩
            | true =>
              have h5 := H4.out
              rw [if_pos rfl] at h5
              have H5 := Aside0.mk h5
              clear h5 H4
              have hwj : wrap64 (z + 1) = ((nn + 1 : Nat) : Int) := by have := HZ.out; have := HN.out; unfold wrap64; omega
              go_wp2_with (first | (go_at_call 40; (with_reducible refine (impl_mul.calls (rd l0 z) wa pa _ O1.out).mono ?_); rintro e w' ⟨rfl, ⟨nd, rfl⟩⟩; (try first | exact ⟨rfl, _, World.drewN_drewN _ _ _⟩ | exact ⟨rfl, _, Eq.trans (World.drewN_drewN _ _ _) (congrArg (World.drewN _) (Nat.add_assoc _ _ _))⟩)) | (go_at_call 40; (with_reducible refine (impl_mul.calls (rd l0 z) wb pb _ O2.out).mono ?_); rintro e w' ⟨rfl, ⟨nd, rfl⟩⟩; (try first | exact ⟨rfl, _, World.drewN_drewN _ _ _⟩ | exact ⟨rfl, _, Eq.trans (World.drewN_drewN _ _ _) (congrArg (World.drewN _) (Nat.add_assoc _ _ _))⟩)) | ((with_reducible refine gate_dst (N := 69) rfl ?_); refine Kd.R_lit Kd.flt _ 22 ?hg (N := 69) ?hd (xs := ([pa, pb, fadd re.toNat pa.toNat, fadd im.toNat pb.toNat] : List Int)) (inner := [.float .f64 pa.toNat, .float .f64 pb.toNat, .float .f64 (fadd re.toNat pa.toNat).toNat, .float .f64 (fadd im.toNat pb.toNat).toNat]) (ok := fun _ => True) (okp := fun _ => True) ?hr ?hp (fun _ hk => hk) trivial (Below.refl _ _) (Nat.le_refl _) (by simp) ?_; (case hd => rfl); (case hg => rfl); (case hr => first | (go_simp; done) | (go_simp; rfl)); (case hp => exact (Reps.one (show Kd.M Kd.flt _ _ _ pa [.float .f64 pa.toNat] from rfl) (Reps.one (show Kd.M Kd.flt _ _ _ pb [.float .f64 pb.toNat] from rfl) (Reps.one (show Kd.M Kd.flt _ _ _ (fadd re.toNat pa.toNat) [.float .f64 (fadd re.toNat pa.toNat).toNat] from rfl) (Reps.one (show Kd.M Kd.flt _ _ _ (fadd im.toNat pb.toNat) [.float .f64 (fadd im.toNat pb.toNat).toNat] from rfl) (Reps.none _ _)))))); intro v69 w16 ho17 hb hg_ hnew_; clear hg_ hnew_; rw [← Nys.out] at ho17; have n0_ := Aside0.mk (Kd.R_below (by (with_reducible repeat (first | apply Kd.R_alloc | apply Kd.R_drewN | apply Kd.R_drew)); exact HO.out) hb); have n2_ := Aside0.mk (blk_below (bk_ BK.out) hb); have n3_ := Aside0.mk (below_step (bw_ HB.out) hb); have HOF := Aside0.mk ho17; clear HO BK HB; have HO := n0_; have BK := n2_; have HB := n3_; clear n0_ n2_ n3_; clear hb ho17; obtain ⟨Ao18, co18, eo18⟩ := Kd.R_slice HOF.out; subst eo18) | (go_at_call 42; (with_reducible refine (impl_isFinite.calls k _ _ ys true _ ?side1 ?side2 HF.out).mono ?_); (case side1 => repeat (first | exact (Kd.R_reads' HOF.out).2.2 | (with_reducible refine Kd.C_alloc ?_ _) | (with_reducible refine Kd.C_drewN ?_ _) | (with_reducible refine Kd.C_drew ?_))); (case side2 => exact (Kd.R_reads' HOF.out).2.1); rintro e w' ⟨rfl, ⟨nd, rfl⟩⟩))
              repeat (go_quiet (first | (go_at_call 40; (with_reducible refine (impl_mul.calls (rd l0 z) wa pa _ O1.out).mono ?_); rintro e w' ⟨rfl, ⟨nd, rfl⟩⟩; (try first | exact ⟨rfl, _, World.drewN_drewN _ _ _⟩ | exact ⟨rfl, _, Eq.trans (World.drewN_drewN _ _ _) (congrArg (World.drewN _) (Nat.add_assoc _ _ _))⟩)) | (go_at_call 40; (with_reducible refine (impl_mul.calls (rd l0 z) wb pb _ O2.out).mono ?_); rintro e w' ⟨rfl, ⟨nd, rfl⟩⟩; (try first | exact ⟨rfl, _, World.drewN_drewN _ _ _⟩ | exact ⟨rfl, _, Eq.trans (World.drewN_drewN _ _ _) (congrArg (World.drewN _) (Nat.add_assoc _ _ _))⟩)) | ((with_reducible refine gate_dst (N := 69) rfl ?_); refine Kd.R_lit Kd.flt _ 22 ?hg (N := 69) ?hd (xs := ([pa, pb, fadd re.toNat pa.toNat, fadd im.toNat pb.toNat] : List Int)) (inner := [.float .f64 pa.toNat, .float .f64 pb.toNat, .float .f64 (fadd re.toNat pa.toNat).toNat, .float .f64 (fadd im.toNat pb.toNat).toNat]) (ok := fun _ => True) (okp := fun _ => True) ?hr ?hp (fun _ hk => hk) trivial (Below.refl _ _) (Nat.le_refl _) (by simp) ?_; (case hd => rfl); (case hg => rfl); (case hr => first | (go_simp; done) | (go_simp; rfl)); (case hp => exact (Reps.one (show Kd.M Kd.flt _ _ _ pa [.float .f64 pa.toNat] from rfl) (Reps.one (show Kd.M Kd.flt _ _ _ pb [.float .f64 pb.toNat] from rfl) (Reps.one (show Kd.M Kd.flt _ _ _ (fadd re.toNat pa.toNat) [.float .f64 (fadd re.toNat pa.toNat).toNat] from rfl) (Reps.one (show Kd.M Kd.flt _ _ _ (fadd im.toNat pb.toNat) [.float .f64 (fadd im.toNat pb.toNat).toNat] from rfl) (Reps.none _ _)))))); intro v69 w16 ho17 hb hg_ hnew_; clear hg_ hnew_; rw [← Nys.out] at ho17; have n0_ := Aside0.mk (Kd.R_below (by (with_reducible repeat (first | apply Kd.R_alloc | apply Kd.R_drewN | apply Kd.R_drew)); exact HO.out) hb); have n2_ := Aside0.mk (blk_below (bk_ BK.out) hb); have n3_ := Aside0.mk (below_step (bw_ HB.out) hb); have HOF := Aside0.mk ho17; clear HO BK HB; have HO := n0_; have BK := n2_; have HB := n3_; clear n0_ n2_ n3_; clear hb ho17; obtain ⟨Ao18, co18, eo18⟩ := Kd.R_slice HOF.out; subst eo18) | (go_at_call 42; (with_reducible refine (impl_isFinite.calls k _ _ ys true _ ?side1 ?side2 HF.out).mono ?_); (case side1 => repeat (first | exact (Kd.R_reads' HOF.out).2.2 | (with_reducible refine Kd.C_alloc ?_ _) | (with_reducible refine Kd.C_drewN ?_ _) | (with_reducible refine Kd.C_drew ?_))); (case side2 => exact (Kd.R_reads' HOF.out).2.1); rintro e w' ⟨rfl, ⟨nd, rfl⟩⟩)); try go_wp2_with (first | (go_at_call 40; (with_reducible refine (impl_mul.calls (rd l0 z) wa pa _ O1.out).mono ?_); rintro e w' ⟨rfl, ⟨nd, rfl⟩⟩; (try first | exact ⟨rfl, _, World.drewN_drewN _ _ _⟩ | exact ⟨rfl, _, Eq.trans (World.drewN_drewN _ _ _) (congrArg (World.drewN _) (Nat.add_assoc _ _ _))⟩)) | (go_at_call 40; (with_reducible refine (impl_mul.calls (rd l0 z) wb pb _ O2.out).mono ?_); rintro e w' ⟨rfl, ⟨nd, rfl⟩⟩; (try first | exact ⟨rfl, _, World.drewN_drewN _ _ _⟩ | exact ⟨rfl, _, Eq.trans (World.drewN_drewN _ _ _) (congrArg (World.drewN _) (Nat.add_assoc _ _ _))⟩)) | ((with_reducible refine gate_dst (N := 69) rfl ?_); refine Kd.R_lit Kd.flt _ 22 ?hg (N := 69) ?hd (xs := ([pa, pb, fadd re.toNat pa.toNat, fadd im.toNat pb.toNat] : List Int)) (inner := [.float .f64 pa.toNat, .float .f64 pb.toNat, .float .f64 (fadd re.toNat pa.toNat).toNat, .float .f64 (fadd im.toNat pb.toNat).toNat]) (ok := fun _ => True) (okp := fun _ => True) ?hr ?hp (fun _ hk => hk) trivial (Below.refl _ _) (Nat.le_refl _) (by simp) ?_; (case hd => rfl); (case hg => rfl); (case hr => first | (go_simp; done) | (go_simp; rfl)); (case hp => exact (Reps.one (show Kd.M Kd.flt _ _ _ pa [.float .f64 pa.toNat] from rfl) (Reps.one (show Kd.M Kd.flt _ _ _ pb [.float .f64 pb.toNat] from rfl) (Reps.one (show Kd.M Kd.flt _ _ _ (fadd re.toNat pa.toNat) [.float .f64 (fadd re.toNat pa.toNat).toNat] from rfl) (Reps.one (show Kd.M Kd.flt _ _ _ (fadd im.toNat pb.toNat) [.float .f64 (fadd im.toNat pb.toNat).toNat] from rfl) (Reps.none _ _)))))); intro v69 w16 ho17 hb hg_ hnew_; clear hg_ hnew_; rw [← Nys.out] at ho17; have n0_ := Aside0.mk (Kd.R_below (by (with_reducible repeat (first | apply Kd.R_alloc | apply Kd.R_drewN | apply Kd.R_drew)); exact HO.out) hb); have n2_ := Aside0.mk (blk_below (bk_ BK.out) hb); have n3_ := Aside0.mk (below_step (bw_ HB.out) hb); have HOF := Aside0.mk ho17; clear HO BK HB; have HO := n0_; have BK := n2_; have HB := n3_; clear n0_ n2_ n3_; clear hb ho17; obtain ⟨Ao18, co18, eo18⟩ := Kd.R_slice HOF.out; subst eo18) | (go_at_call 42; (with_reducible refine (impl_isFinite.calls k _ _ ys true _ ?side1 ?side2 HF.out).mono ?_); (case side1 => repeat (first | exact (Kd.R_reads' HOF.out).2.2 | (with_reducible refine Kd.C_alloc ?_ _) | (with_reducible refine Kd.C_drewN ?_ _) | (with_reducible refine Kd.C_drew ?_))); (case side2 => exact (Kd.R_reads' HOF.out).2.1); rintro e w' ⟨rfl, ⟨nd, rfl⟩⟩)))
              go_roundg k3
              case measure => omega
              case rel => exact ⟨_, _, _, nn + 1, rfl, rfl, rfl, ⟨by first | exact hwj | (have := HZ.out; omega)⟩, ⟨by have := HN.out; omega⟩, H5, ⟨(by (with_reducible repeat (first | apply Kd.R_alloc | apply Kd.R_drewN | apply Kd.R_drew)); exact HO.out)⟩, ⟨bk_ BK.out⟩, ⟨bw_ HB.out⟩⟩
          · have hk0 : gk = 0 := by have := HN.out; omega
            subst hk0
            have cz : decide (z < (l0.length : Int)) = false := decide_eq_false (by have := HZ.out; omega)
            have hi := HI.out
            rw [impl_Spectrum.inner, Option.bind_some, HG1.out] at hi
            obtain ⟨a, ha, h3⟩ := Option.bind_eq_some_iff.mp hi
            obtain ⟨b, hb_, h4⟩ := Option.bind_eq_some_iff.mp h3
            have PA := Aside0.mk ha
            have PB := Aside0.mk hb_
            have H4 := Aside0.mk h4
            have hwj : wrap64 (y + 1) = ((kk + 1 : Nat) : Int) := by have := HY.out; have := HKL.out; unfold wrap64; omega
            clear hi ha hb_ h3 h4 hn hln HI
            go_wp2_with (first | (go_at_call 43; (with_reducible refine (impl_plain.calls re a _ PA.out).mono ?_); rintro e w' ⟨rfl, ⟨nd, rfl⟩⟩) | (go_at_call 43; (with_reducible refine (impl_plain.calls im b _ PB.out).mono ?_); rintro e w' ⟨rfl, ⟨nd, rfl⟩⟩) | ((with_reducible refine gate_builtin (b := .append) (xs := #[.tmp 73, .tmp 79]) rfl ?_); at_builtin; refine Kd.R_append k33 (w0 := w) w.heap.size rfl (.tmp 73) (.tmp 79) 47 33 (.agg #[(.float .f64 0), (.float .f64 0)]) 16 rfl Try.underlying47 info33 rfl (by decide) (by omega) u5 o (⟨a, b⟩ : S33) [.float .f64 a.toNat, .float .f64 b.toNat] (fun _ => True) (fun _ => False) rfl (by first | (go_simp; done) | (go_simp; rfl)) ?aP (fun _ hk => hk.elim) ?aF ?aO ?aB ?aS ?aL ?_; (case aP => exact k33_mkM _ _ _ (⟨a, b⟩ : S33)); (case aB => exact (bw_ HB.out)); (case aF => exact (fun _ _ => trivial)); (case aO => exact (by (with_reducible repeat (first | apply Kd.R_alloc | apply Kd.R_drewN | apply Kd.R_drew)); exact HO.out)); (case aS => exact (below_size (bw_ HB.out))); (case aL => have := HL.out; have := HKL.out; omega); intro v80 w24 ho hb hg hat; have n1_ := Aside0.mk (show w24.heap[gb]? = some (.cells CW 73 (0, 0)) from blk_grown (g := gb) (o := .cells CW 73 (0, 0)) (by (with_reducible repeat (first | refine blk_drewN ?_ _ | refine blk_drew ?_ | refine blk_alloc ?_ _)); exact BK.out) hg (fun he_ => ((Kd.R_types (d := k33) (ok := fun _ => True) (cells := CW) HO.out BK.out (by decide)).1 gb he_.symm).2 rfl)); have n2_ := Aside0.mk hb; have n3_ := Aside0.mk ho; clear HO HB BK; have BK := n1_; have HB := n2_; have HO := n3_; clear n1_ n2_ n3_; clear ho hb hg hat))
            go_roundg k2
            case measure => omega
            case rel => exact ⟨_, kk + 1, o ++ [(⟨a, b⟩ : S33)], rfl, ⟨by first | exact hwj | (have := HY.out; omega)⟩, ⟨by have := HK.out; omega⟩, ⟨by have := HL.out; rw [List.length_append, List.length_singleton]; omega⟩, H4, HO, BK, HB⟩
      · have hk0 : gk = 0 := by have := HK.out; omega
        subst hk0
        have cy : decide (y < 8) = false := decide_eq_false (by have := HY.out; omega)
        have h2 := H.out
        rw [impl_Spectrum.outer] at h2
        simp only [Option.some.injEq, Prod.mk.injEq] at h2
        obtain ⟨rfl, rfl⟩ := h2
        clear H hk
        go_wp2_with (fail "x")
        go_ret2
        exact ⟨_, rfl, HO.out, bw_ HB.out⟩

/-! ### laws_eqTurn: function 49 -/
def laws_eqTurn.f (k : Nat) (a0_0 : Int) (a0_1 : Int) (a1_0 : Int) (a1_1 : Int) : Option (Bool) := (laws_sameFloat.f k a0_0 a1_0).bind fun t157 => (if t157 = true then ((laws_sameFloat.f k a0_1 a1_1).bind fun t158 => (if t158 = true then (some true) else (some false))) else (some false))
theorem laws_eqTurn.mono : ∀ a0 a1 a2 a3 k, LeO (laws_eqTurn.f k a0 a1 a2 a3) (laws_eqTurn.f (k + 1) a0 a1 a2 a3) := by
 intro a0 a1 a2 a3 k
 unfold laws_eqTurn.f
 repeat' first
   | (with_reducible exact laws_sameFloat.mono _ _ _)
   | (with_reducible exact LeO.refl _)
   | (with_reducible exact LeO.none _)
   | (with_reducible refine LeO.ite ?_ ?_)
   | (with_reducible refine LeO.bind ?_ (fun _ => ?_))
   | exact laws_sameFloat.mono _ _ _
   | exact LeO.none _
   | refine LeO.ite ?_ ?_
   | refine LeO.bind ?_ (fun _ => ?_)
set_option maxHeartbeats 8000000 in
set_option maxRecDepth 100000 in
theorem laws_eqTurn.calls (k : Nat) (a0_0 : Int) (a0_1 : Int) (a1_0 : Int) (a1_1 : Int) (r : Bool) (w : World) (h : laws_eqTurn.f k a0_0 a0_1 a1_0 a1_1 = some r) :
  Calls Try.prog 49 #[.agg #[.float .f64 a0_0.toNat, .float .f64 a0_1.toNat], .agg #[.float .f64 a1_0.toNat, .float .f64 a1_1.toNat]] w fun e w' => e = .returned (.bool r) ∧ Below w.heap.size w w' := by
 have hu33 := Try.underlying33
 have HB := Aside0.mk (Below.refl w.heap.size w)
 have H : ((laws_sameFloat.f k a0_0 a1_0).bind fun t157 => (if t157 = true then ((laws_sameFloat.f k a0_1 a1_1).bind fun t158 => (if t158 = true then (some true) else (some false))) else (some false))) = some r := h
 clear h
 obtain ⟨t157, A30, H⟩ := bE_ H
 have A3 := Aside0.mk A30
 clear A30
 by_cases c4 : t157 = true
 ·subst c4
  replace H := it_ H rfl
  obtain ⟨t158, A50, H⟩ := bE_ H
  have A5 := Aside0.mk A50
  clear A50
  by_cases c6 : t158 = true
  ·subst c6
   replace H := it_ H rfl
   obtain rfl := Option.some.inj H
   go_enter Try.func49, Try.ntmps49
   go_wp2_with (first | ((with_reducible refine gate_dst (N := 2) rfl ?_); refine bx_ 2 #[.float .f64 a0_0.toNat, .float .f64 a0_1.toNat] 33 ?_; intro gb155 hg w7 hbox hb; have n0_ := Aside0.mk (below_step (bw_ HB.out) hb); have n1_ := Aside0.mk (hbox); have n2_ := Aside0.mk (gs_ hg (bw_ HB.out)); have n3_ := Aside0.mk (gs_ hg (bw_ HB.out)); clear HB; have HB := n0_; have BK155 := n1_; have GW155 := n2_; have GE155 := n3_; clear n0_ n1_ n2_ n3_; clear hb hbox hg) | ((with_reducible refine gate_dst (N := 3) rfl ?_); refine bx_ 3 #[.float .f64 a1_0.toNat, .float .f64 a1_1.toNat] 33 ?_; intro gb156 hg w8 hbox hb; have n0_ := Aside0.mk (blk_below (bk_ BK155.out) hb); have n1_ := Aside0.mk (below_step (bw_ HB.out) hb); have n2_ := Aside0.mk (hbox); have n3_ := Aside0.mk (gs_ hg (bw_ HB.out)); have n4_ := Aside0.mk (gs_ hg (bw_ HB.out)); have n5_ := Aside0.mk (nl_ hg (bk_ BK155.out)); have n6_ := Aside0.mk (ng_ hg (bk_ BK155.out)); clear BK155; clear HB; have BK155 := n0_; have HB := n1_; have BK156 := n2_; have GW156 := n3_; have GE156 := n4_; have NB155_156 := n5_; have NB156_155 := n6_; clear n0_ n1_ n2_ n3_ n4_ n5_ n6_; clear hb hbox hg; have hnb9 := NB155_156.out; have hnc9 := NB156_155.out; have hcz10_0 := cz_ BK155.out 0; have hcz10_1 := cz_ BK155.out 1; have hfz10_0 := blk_frozen BK155.out 0; have hfz10_1 := blk_frozen BK155.out 1; have hcz11_0 := cz_ BK156.out 0; have hcz11_1 := cz_ BK156.out 1; have hfz11_0 := blk_frozen BK156.out 0; have hfz11_1 := blk_frozen BK156.out 1) | ((with_reducible refine gate_callee (f := 14) rfl ?_); refine goesL_ (some 9) rfl rfl Try.func14 (by kernel_rfl) rfl #[.float .f64 a0_0.toNat, .float .f64 a1_0.toNat] rfl (by (try simp only [List.map_toArray, List.map_cons, List.map_nil]); first | done | rfl | (simp only [List.length_drop, List.length_take]; rfl)) ?_; (with_reducible refine (laws_sameFloat.calls k a0_0 a1_0 true _ A3.out).mono ?_); rintro e w' ⟨rfl, ⟨nd, rfl⟩⟩; refine ⟨_, rfl, ?_⟩) | ((with_reducible refine gate_callee (f := 14) rfl ?_); refine goesL_ (some 15) rfl rfl Try.func14 (by kernel_rfl) rfl #[.float .f64 a0_1.toNat, .float .f64 a1_1.toNat] rfl (by (try simp only [List.map_toArray, List.map_cons, List.map_nil]); first | done | rfl | (simp only [List.length_drop, List.length_take]; rfl)) ?_; (with_reducible refine (laws_sameFloat.calls k a0_1 a1_1 true _ A5.out).mono ?_); rintro e w' ⟨rfl, ⟨nd, rfl⟩⟩; refine ⟨_, rfl, ?_⟩))
   go_ret
   exact ⟨by first | rfl | (simp [errW_none, errW_some] <;> rfl) | (simp [*, errW_none, errW_some] <;> rfl), bw_ HB.out⟩
  ·replace c6 := Bool.eq_false_iff.mpr c6
   subst c6
   replace H := if_ H Bool.false_ne_true
   obtain rfl := Option.some.inj H
   go_enter Try.func49, Try.ntmps49
   go_wp2_with (first | ((with_reducible refine gate_dst (N := 2) rfl ?_); refine bx_ 2 #[.float .f64 a0_0.toNat, .float .f64 a0_1.toNat] 33 ?_; intro gb155 hg w12 hbox hb; have n0_ := Aside0.mk (below_step (bw_ HB.out) hb); have n1_ := Aside0.mk (hbox); have n2_ := Aside0.mk (gs_ hg (bw_ HB.out)); have n3_ := Aside0.mk (gs_ hg (bw_ HB.out)); clear HB; have HB := n0_; have BK155 := n1_; have GW155 := n2_; have GE155 := n3_; clear n0_ n1_ n2_ n3_; clear hb hbox hg) | ((with_reducible refine gate_dst (N := 3) rfl ?_); refine bx_ 3 #[.float .f64 a1_0.toNat, .float .f64 a1_1.toNat] 33 ?_; intro gb156 hg w13 hbox hb; have n0_ := Aside0.mk (blk_below (bk_ BK155.out) hb); have n1_ := Aside0.mk (below_step (bw_ HB.out) hb); have n2_ := Aside0.mk (hbox); have n3_ := Aside0.mk (gs_ hg (bw_ HB.out)); have n4_ := Aside0.mk (gs_ hg (bw_ HB.out)); have n5_ := Aside0.mk (nl_ hg (bk_ BK155.out)); have n6_ := Aside0.mk (ng_ hg (bk_ BK155.out)); clear BK155; clear HB; have BK155 := n0_; have HB := n1_; have BK156 := n2_; have GW156 := n3_; have GE156 := n4_; have NB155_156 := n5_; have NB156_155 := n6_; clear n0_ n1_ n2_ n3_ n4_ n5_ n6_; clear hb hbox hg; have hnb14 := NB155_156.out; have hnc14 := NB156_155.out; have hcz15_0 := cz_ BK155.out 0; have hcz15_1 := cz_ BK155.out 1; have hfz15_0 := blk_frozen BK155.out 0; have hfz15_1 := blk_frozen BK155.out 1; have hcz16_0 := cz_ BK156.out 0; have hcz16_1 := cz_ BK156.out 1; have hfz16_0 := blk_frozen BK156.out 0; have hfz16_1 := blk_frozen BK156.out 1) | ((with_reducible refine gate_callee (f := 14) rfl ?_); refine goesL_ (some 9) rfl rfl Try.func14 (by kernel_rfl) rfl #[.float .f64 a0_0.toNat, .float .f64 a1_0.toNat] rfl (by (try simp only [List.map_toArray, List.map_cons, List.map_nil]); first | done | rfl | (simp only [List.length_drop, List.length_take]; rfl)) ?_; (with_reducible refine (laws_sameFloat.calls k a0_0 a1_0 true _ A3.out).mono ?_); rintro e w' ⟨rfl, ⟨nd, rfl⟩⟩; refine ⟨_, rfl, ?_⟩) | ((with_reducible refine gate_callee (f := 14) rfl ?_); refine goesL_ (some 15) rfl rfl Try.func14 (by kernel_rfl) rfl #[.float .f64 a0_1.toNat, .float .f64 a1_1.toNat] rfl (by (try simp only [List.map_toArray, List.map_cons, List.map_nil]); first | done | rfl | (simp only [List.length_drop, List.length_take]; rfl)) ?_; (with_reducible refine (laws_sameFloat.calls k a0_1 a1_1 false _ A5.out).mono ?_); rintro e w' ⟨rfl, ⟨nd, rfl⟩⟩; refine ⟨_, rfl, ?_⟩))
   go_ret
   exact ⟨by first | rfl | (simp [errW_none, errW_some] <;> rfl) | (simp [*, errW_none, errW_some] <;> rfl), bw_ HB.out⟩
 ·replace c4 := Bool.eq_false_iff.mpr c4
  subst c4
  replace H := if_ H Bool.false_ne_true
  obtain rfl := Option.some.inj H
  go_enter Try.func49, Try.ntmps49
  go_wp2_with (first | ((with_reducible refine gate_dst (N := 2) rfl ?_); refine bx_ 2 #[.float .f64 a0_0.toNat, .float .f64 a0_1.toNat] 33 ?_; intro gb155 hg w17 hbox hb; have n0_ := Aside0.mk (below_step (bw_ HB.out) hb); have n1_ := Aside0.mk (hbox); have n2_ := Aside0.mk (gs_ hg (bw_ HB.out)); have n3_ := Aside0.mk (gs_ hg (bw_ HB.out)); clear HB; have HB := n0_; have BK155 := n1_; have GW155 := n2_; have GE155 := n3_; clear n0_ n1_ n2_ n3_; clear hb hbox hg) | ((with_reducible refine gate_dst (N := 3) rfl ?_); refine bx_ 3 #[.float .f64 a1_0.toNat, .float .f64 a1_1.toNat] 33 ?_; intro gb156 hg w18 hbox hb; have n0_ := Aside0.mk (blk_below (bk_ BK155.out) hb); have n1_ := Aside0.mk (below_step (bw_ HB.out) hb); have n2_ := Aside0.mk (hbox); have n3_ := Aside0.mk (gs_ hg (bw_ HB.out)); have n4_ := Aside0.mk (gs_ hg (bw_ HB.out)); have n5_ := Aside0.mk (nl_ hg (bk_ BK155.out)); have n6_ := Aside0.mk (ng_ hg (bk_ BK155.out)); clear BK155; clear HB; have BK155 := n0_; have HB := n1_; have BK156 := n2_; have GW156 := n3_; have GE156 := n4_; have NB155_156 := n5_; have NB156_155 := n6_; clear n0_ n1_ n2_ n3_ n4_ n5_ n6_; clear hb hbox hg; have hnb19 := NB155_156.out; have hnc19 := NB156_155.out; have hcz20_0 := cz_ BK155.out 0; have hcz20_1 := cz_ BK155.out 1; have hfz20_0 := blk_frozen BK155.out 0; have hfz20_1 := blk_frozen BK155.out 1; have hcz21_0 := cz_ BK156.out 0; have hcz21_1 := cz_ BK156.out 1; have hfz21_0 := blk_frozen BK156.out 0; have hfz21_1 := blk_frozen BK156.out 1) | ((with_reducible refine gate_callee (f := 14) rfl ?_); refine goesL_ (some 9) rfl rfl Try.func14 (by kernel_rfl) rfl #[.float .f64 a0_0.toNat, .float .f64 a1_0.toNat] rfl (by (try simp only [List.map_toArray, List.map_cons, List.map_nil]); first | done | rfl | (simp only [List.length_drop, List.length_take]; rfl)) ?_; (with_reducible refine (laws_sameFloat.calls k a0_0 a1_0 false _ A3.out).mono ?_); rintro e w' ⟨rfl, ⟨nd, rfl⟩⟩; refine ⟨_, rfl, ?_⟩))
  go_ret
  exact ⟨by first | rfl | (simp [errW_none, errW_some] <;> rfl) | (simp [*, errW_none, errW_some] <;> rfl), bw_ HB.out⟩

end Go.Proofs.Ytbjdhmgednhdgaa.XFnExactSpectrum
