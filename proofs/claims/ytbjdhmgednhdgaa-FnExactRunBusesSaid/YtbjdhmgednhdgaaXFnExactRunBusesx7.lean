/- What the Go functions that this law comes to compute, each walked; written by a program of this session. -/
import Derived.Test.YtbjdhmgednhdgaaXShort
import Derived.Test.YtbjdhmgednhdgaaXFlt
import Derived.Test.YtbjdhmgednhdgaaXMark
import Derived.Test.YtbjdhmgednhdgaaXFnExactRunBusesx0
import Derived.Test.YtbjdhmgednhdgaaXFnExactRunBusesx1
import Derived.Test.YtbjdhmgednhdgaaXFnExactRunBusesx3
import Derived.Test.YtbjdhmgednhdgaaXFnExactRunBusesx4
import Derived.Test.YtbjdhmgednhdgaaXFnExactRunBusesx5
import Derived.Test.YtbjdhmgednhdgaaXFnExactRunBusesx6
namespace Go.Proofs.Ytbjdhmgednhdgaa.XFnExactRunBuses
open Go.RowKit Go.Proofs.YtbjdhmgednhdgaaW.PrintWords Go.Proofs.YtbjdhmgednhdgaaW.PrintLast Go.Proofs.YtbjdhmgednhdgaaW.PrintMore
attribute [local go_sem] run_fadd run_fsub run_fmul run_fdiv run_fconv run_fofI run_feq run_fneq run_flss run_fgtr run_fleq run_fgeq run_store_flt str_geq max2_int min2_int max_two min_two max_three min_three max_four min_four   -- for this text's walks alone
set_option linter.unusedVariables false
set_option linter.unusedSimpArgs false

/-! ### laws_heldFloat64S: function 34 -/
def laws_heldFloat64S.l0 : Nat → List Int → Int → Int → Option (Int)
 | 0, _, _, _ => none
 | k + 1, x0, x1, x5 => if x5 < (x0.length : Int) then (if 0 ≤ x5 then (if (!feq (rd x0 x5).toNat (fofI x1).toNat) = true then (some (-1)) else (laws_heldFloat64S.l0 k x0 (wrap64 (x1 + 1)) (wrap64 (x5 + 1)))) else (none)) else (some x1)
def laws_heldFloat64S.f (k : Nat) (l0 : List Int) (a1 : Int) : Option (Int) := laws_heldFloat64S.l0 k l0 a1 0
theorem laws_heldFloat64S.mono_l : ∀ k, (∀ y0 y1 y2, LeO (laws_heldFloat64S.l0 k y0 y1 y2) (laws_heldFloat64S.l0 (k + 1) y0 y1 y2))
 | 0 => fun _ _ _ r h => by simp [laws_heldFloat64S.l0] at h
 | k + 1 => by
  have ih0 := laws_heldFloat64S.mono_l k
  ·intro y0 y1 y2
   unfold laws_heldFloat64S.l0
   repeat' first
   | (with_reducible exact ih0 _ _ _)
   | (with_reducible exact LeO.refl _)
   | (with_reducible exact LeO.none _)
   | (with_reducible refine LeO.ite ?_ ?_)
   | (with_reducible refine LeO.bind ?_ (fun _ => ?_))
   | exact ih0 _ _ _
   | exact LeO.none _
   | refine LeO.ite ?_ ?_
   | refine LeO.bind ?_ (fun _ => ?_)
theorem laws_heldFloat64S.mono : ∀ a0 a1 k, LeO (laws_heldFloat64S.f k a0 a1) (laws_heldFloat64S.f (k + 1) a0 a1) := by
 intro a0 a1 k
 have ih0 := laws_heldFloat64S.mono_l k
 unfold laws_heldFloat64S.f
 repeat' first
   | (with_reducible exact ih0 _ _ _)
   | (with_reducible exact LeO.refl _)
   | (with_reducible exact LeO.none _)
   | (with_reducible refine LeO.ite ?_ ?_)
   | (with_reducible refine LeO.bind ?_ (fun _ => ?_))
   | exact ih0 _ _ _
   | exact LeO.none _
   | refine LeO.ite ?_ ?_
   | refine LeO.bind ?_ (fun _ => ?_)
set_option maxHeartbeats 8000000 in
set_option maxRecDepth 100000 in
theorem laws_heldFloat64S.calls (k : Nat) (A0 : Option Addr) (c0 : Nat) (l0 : List Int) (a1 : Int) (r : Int) (w : World) (hr0 : Kd.C Kd.flt w A0 l0.length l0) (hc0 : l0.length ≤ c0) (h : laws_heldFloat64S.f k l0 a1 = some r) :
  Calls Try.prog 34 #[.slice A0 l0.length c0, .int .i64 a1] w fun e w' => e = .returned (.int .i64 r) ∧ Drawn0 w w' := by
 have HR0 := am_ hr0
 have HC0 := am_ hc0
 clear hr0 hc0
 have H : (laws_heldFloat64S.l0 k l0 a1 0) = some r := h
 clear h
 have H' := am_ H
 clear H
 go_enter Try.func34, Try.ntmps34
 go_wp2
 go_loopg [1, 5] k (fun kq v1 v5 w' => ∃ (x1_1 : Int) (x5_1 : Int), v1 = .int .i64 x1_1 ∧ v5 = .int .i64 x5_1 ∧ Aside0 (laws_heldFloat64S.l0 kq l0 x1_1 x5_1 = some r) ∧ Aside0 (kq ≤ k) ∧ Drawn0 w w')
 case atStart => exact ⟨(a1), (0), sq_, sq_, H', ⟨Nat.le_refl _⟩, by repeat (first | exact Drawn0.refl _ | apply Drawn0.step)⟩
 case round =>
  clear H'
  obtain ⟨x1_1, x5_1, rfl, rfl, HA, HK1, ⟨m1, rfl⟩⟩ := hrel
  cases gk with
  | zero => exact absurd HA.out (by simp [laws_heldFloat64S.l0])
  | succ k1 =>
   have H := HA.out
   clear HA
   simp only [laws_heldFloat64S.l0] at H
   by_cases c3 : x5_1 < (l0.length : Int)
   ·rw [if_pos c3] at H
    have c3b0 : decide (x5_1 < (l0.length : Int)) = true := decide_eq_true c3
    clear c3
    obtain ⟨c4, H⟩ := ifn_ H
    have c4b0 : decide (0 ≤ x5_1) = true := decide_eq_true c4
    clear c4
    by_cases c5 : (!feq (rd l0 x5_1).toNat (fofI x1_1).toNat) = true
    ·rw [if_pos c5] at H
     have c5b0 : (!feq (rd l0 x5_1).toNat (fofI x1_1).toNat) = true := c5
     clear c5
     obtain rfl := Option.some.inj H
     have p253 : 0 ≤ (x5_1 : Int) := od_
     have q253 : x5_1 < (l0.length : Int) := od_
     obtain ⟨ad253, e253, hx253_0⟩ := Kd.at_flt HR0.out x5_1 p253 q253
     cases e253
     replace p253 := eq_true p253
     replace q253 := eq_true q253
     go_wp2
     go_ret
     exact ⟨by first | rfl | (simp; done) | (simp [*]; done), by repeat (first | exact Drawn0.refl _ | apply Drawn0.step)⟩
    ·rw [if_neg c5] at H
     have c5b0 : (!feq (rd l0 x5_1).toNat (fofI x1_1).toNat) = false := by simpa using c5
     clear c5
     have H' := am_ H
     clear H
     have p253 : 0 ≤ (x5_1 : Int) := od_
     have q253 : x5_1 < (l0.length : Int) := od_
     obtain ⟨ad253, e253, hx253_0⟩ := Kd.at_flt HR0.out x5_1 p253 q253
     cases e253
     replace p253 := eq_true p253
     replace q253 := eq_true q253
     go_wp2
     go_roundg k1
     case measure => have := HK1.out; omega
     case rel => exact ⟨(wrap64 (x1_1 + 1)), (wrap64 (x5_1 + 1)), sq_, sq_, H', ⟨by have := HK1.out; omega⟩, by repeat (first | exact Drawn0.refl _ | apply Drawn0.step)⟩
   ·rw [if_neg c3] at H
    have c3b0 : decide (x5_1 < (l0.length : Int)) = false := decide_eq_false c3
    clear c3
    obtain rfl := Option.some.inj H
    go_wp2
    go_ret
    exact ⟨by first | rfl | (simp; done) | (simp [*]; done), by repeat (first | exact Drawn0.refl _ | apply Drawn0.step)⟩

/-! ### laws_FnExactRunBuses: function 7 -/
def laws_FnExactRunBuses.f (k : Nat) (l0 : List (S80)) (l1 : List Int) : Option (Bool) := if (l1.length : Int) > 1048576 then some true else ((laws_szBusS.f l0 1048576).bind fun t1 => if t1 < 0 then some true else ((laws_toBusS.f k l0).bind fun t2 => (laws_toFloat64S.f k l1).bind fun t4 => (spec_RunBuses.f k t2 t4).bind fun t6 => (laws_toBusS.f k l0).bind fun t8 => (laws_toFloat64S.f k l1).bind fun t10 => (impl_RunBuses.f k t8 t10).bind fun t12 => (laws_eqFloat64S.f k t12.1 t6.1).bind fun t14 => if t14 = true then ((laws_sameFloat.f k t12.2.1 t6.2.1).bind fun t15 => if t15 = true then (if t12.2.2 = t6.2.2 then ((laws_toBusS.f k l0).bind fun t16 => (laws_eqBusS.f k t8 t16).bind fun t18 => if t18 = true then ((laws_toFloat64S.f k l1).bind fun t19 => (laws_eqFloat64S.f k t10 t19).bind fun t21 => if t21 = true then ((laws_markBusS.f k t8 1).bind fun t22 => (laws_markFloat64S.f k t10 t22.1).bind fun t23 => if ¬ (t23.1 < 0) then ((laws_eqFloat64S.f k t12.1 t6.1).bind fun t24 => if t24 = true then ((laws_sameFloat.f k t12.2.1 t6.2.1).bind fun t25 => if t25 = true then (if t12.2.2 = t6.2.2 then ((laws_markFloat64S.f k t12.1 1).bind fun t26 => (laws_heldFloat64S.f k t26.2 1).bind fun t27 => if ¬ (t27 < 0) then (if t27 = t26.1 then ((laws_toBusS.f k l0).bind fun t28 => (laws_toFloat64S.f k l1).bind fun t30 => (impl_RunBuses.f k t28 t30).bind fun t32 => (laws_eqFloat64S.f k t32.1 t6.1).bind fun t34 => if t34 = true then ((laws_sameFloat.f k t32.2.1 t6.2.1).bind fun t35 => if t35 = true then (if t32.2.2 = t6.2.2 then ((laws_heldFloat64S.f k t26.2 1).bind fun t36 => if ¬ (t36 < 0) then (if t36 = t26.1 then (some true) else none) else none) else none) else none) else none) else none) else none) else none) else none) else none) else none) else none) else none) else none) else none) else none))
theorem laws_FnExactRunBuses.mono : ∀ a0 a1 k, LeO (laws_FnExactRunBuses.f k a0 a1) (laws_FnExactRunBuses.f (k + 1) a0 a1) := by
  intro a0 a1 k
  unfold laws_FnExactRunBuses.f
  repeat' first
  | (with_reducible exact laws_sameFloat.mono _ _ _)
  | (with_reducible exact laws_toFloat64S.mono _ _)
  | (with_reducible exact laws_eqFloat64S.mono _ _ _)
  | (with_reducible exact laws_markFloat64S.mono _ _ _)
  | (with_reducible exact spec_RunBuses.mono _ _ _)
  | (with_reducible exact laws_toBusS.mono _ _)
  | (with_reducible exact impl_RunBuses.mono _ _ _)
  | (with_reducible exact laws_eqBusS.mono _ _ _)
  | (with_reducible exact laws_markBusS.mono _ _ _)
  | (with_reducible exact laws_heldFloat64S.mono _ _ _)
  | (with_reducible exact LeO.refl _)
  | (with_reducible exact LeO.none _)
  | (with_reducible refine LeO.ite ?_ ?_)
  | refine LeO.bind ?_ (fun _ => ?_)
  | exact LeO.none _
set_option maxHeartbeats 8000000 in
set_option maxRecDepth 100000 in
theorem laws_FnExactRunBuses.calls (k : Nat) (A0 : Option Addr) (c0 : Nat) (l0 : List (S80)) (A1 : Option Addr) (c1 : Nat) (l1 : List Int) (r : Bool) (w : World) (hr0 : Kd.C k80 w A0 l0.length l0) (hc0 : l0.length ≤ c0) (hr1 : Kd.C Kd.flt w A1 l1.length l1) (hc1 : l1.length ≤ c1) (h : laws_FnExactRunBuses.f k l0 l1 = some r) :
    Calls Try.prog 7 #[.slice A0 l0.length c0, .slice A1 l1.length c1] w fun e w' => e = .returned (.bool r) ∧ Below w.heap.size w w' := by
  have HR0 := am_ hr0
  have HC0 := am_ hc0
  clear hr0 hc0
  have HR1 := am_ hr1
  have HC1 := am_ hc1
  clear hr1 hc1
  have HB := am_ (Below.refl w.heap.size w)
  unfold laws_FnExactRunBuses.f at h
  have H := h
  clear h
  by_cases c_ : (l1.length : Int) > 1048576
  · rw [if_pos c_] at H
    have fb37 : decide ((l1.length : Int) > 1048576) = true := decide_eq_true c_
    have fb38 : decide (1048576 < (l1.length : Int)) = true := decide_eq_true (by omega)
    have fb39 : decide (l1.length > 1048576) = true := decide_eq_true (by omega)
    have fb40 : decide (1048576 < l1.length) = true := decide_eq_true (by omega)
    clear c_
    obtain rfl := Option.some.inj H
    go_enter Try.func7, Try.ntmps7
    go_wp2
    go_ret
    exact ⟨rfl, HB.out⟩
  rw [if_neg c_] at H
  have fb41 : decide ((l1.length : Int) > 1048576) = false := decide_eq_false c_
  have fb42 : decide (1048576 < (l1.length : Int)) = false := decide_eq_false (by omega)
  have fb43 : decide (l1.length > 1048576) = false := decide_eq_false (by omega)
  have fb44 : decide (1048576 < l1.length) = false := decide_eq_false (by omega)
  clear c_
  replace H := bE_ H
  obtain ⟨t1, hA1, H⟩ := H
  have A1 := am_ hA1
  clear hA1
  by_cases c_ : t1 < 0
  · rw [if_pos c_] at H
    have fb45 : decide (t1 < 0) = true := decide_eq_true c_
    clear c_
    obtain rfl := Option.some.inj H
    go_enter Try.func7, Try.ntmps7
    go_wp2_with (first | (go_at_call 28; (with_reducible refine (laws_szBusS.calls _ _ l0 1048576 t1 _ ?sd1_1 ?sd1_2 A1.out).mono ?_); (case sd1_1 => exact Kd.C_below HR0.out HB.out); (case sd1_2 => exact HC0.out); rintro e w1001 ⟨rfl, hd⟩; have hb := hd.below; clear hd; have hs_ := below_size HB.out; have n0_ := am_ (below_step HB.out hb); have SZ1 := am_ (show w.heap.size ≤ w1001.heap.size from (hb).size); replace HB := n0_; clear n0_; clear hb hs_))
    go_ret
    exact ⟨rfl, HB.out⟩
  rw [if_neg c_] at H
  have fb46 : decide (t1 < 0) = false := decide_eq_false c_
  clear c_
  replace H := bE_ H
  obtain ⟨t2, hA2, H⟩ := H
  have A2 := am_ hA2
  clear hA2
  replace H := bE_ H
  obtain ⟨t4, hA4, H⟩ := H
  have A4 := am_ hA4
  clear hA4
  replace H := bE_ H
  obtain ⟨⟨t6_0, t6_1, t6_2⟩, hA6, H⟩ := H
  try dsimp only at H
  have A6 := am_ hA6
  clear hA6
  replace H := bE_ H
  obtain ⟨t8, hA8, H⟩ := H
  have A8 := am_ hA8
  clear hA8
  replace H := bE_ H
  obtain ⟨t10, hA10, H⟩ := H
  have A10 := am_ hA10
  clear hA10
  replace H := bE_ H
  obtain ⟨⟨t12_0, t12_1, t12_2⟩, hA12, H⟩ := H
  try dsimp only at H
  have A12 := am_ hA12
  clear hA12
  replace H := bE_ H
  obtain ⟨t14, hA14, H⟩ := H
  have A14 := am_ hA14
  clear hA14
  replace H := nd_ H
  obtain ⟨c_, H⟩ := H
  subst c_
  replace H := bE_ H
  obtain ⟨t15, hA15, H⟩ := H
  have A15 := am_ hA15
  clear hA15
  replace H := nd_ H
  obtain ⟨c_, H⟩ := H
  subst c_
  replace H := nd_ H
  obtain ⟨c_, H⟩ := H
  subst c_
  first | have fb47 : (t12_2 == t12_2) = true := beq_self_eq_true _ | have fb47 : (t12_2.toList == t12_2.toList) = true := beq_self_eq_true _
  first | have fb48 : (t12_2 != t12_2) = false := by simp | have fb48 : (t12_2.toList != t12_2.toList) = false := by simp
  replace H := bE_ H
  obtain ⟨t16, hA16, H⟩ := H
  have A16 := am_ hA16
  clear hA16
  replace H := bE_ H
  obtain ⟨t18, hA18, H⟩ := H
  have A18 := am_ hA18
  clear hA18
  replace H := nd_ H
  obtain ⟨c_, H⟩ := H
  subst c_
  replace H := bE_ H
  obtain ⟨t19, hA19, H⟩ := H
  have A19 := am_ hA19
  clear hA19
  replace H := bE_ H
  obtain ⟨t21, hA21, H⟩ := H
  have A21 := am_ hA21
  clear hA21
  replace H := nd_ H
  obtain ⟨c_, H⟩ := H
  subst c_
  replace H := bE_ H
  obtain ⟨⟨t22_0, t22_1⟩, hA22, H⟩ := H
  try dsimp only at H
  have A22 := am_ hA22
  clear hA22
  replace H := bE_ H
  obtain ⟨⟨t23_0, t23_1⟩, hA23, H⟩ := H
  try dsimp only at H
  have A23 := am_ hA23
  clear hA23
  replace H := nd_ H
  obtain ⟨c_, H⟩ := H
  have fb49 : decide (t23_0 < 0) = false := decide_eq_false c_
  clear c_
  replace H := bE_ H
  obtain ⟨t24, hA24, H⟩ := H
  have A24 := am_ hA24
  clear hA24
  replace H := nd_ H
  obtain ⟨c_, H⟩ := H
  subst c_
  replace H := bE_ H
  obtain ⟨t25, hA25, H⟩ := H
  have A25 := am_ hA25
  clear hA25
  replace H := nd_ H
  obtain ⟨c_, H⟩ := H
  subst c_
  replace H := nd_ H
  obtain ⟨c_, H⟩ := H
  clear c_
  replace H := bE_ H
  obtain ⟨⟨t26_0, t26_1⟩, hA26, H⟩ := H
  try dsimp only at H
  have A26 := am_ hA26
  clear hA26
  replace H := bE_ H
  obtain ⟨t27, hA27, H⟩ := H
  have A27 := am_ hA27
  clear hA27
  replace H := nd_ H
  obtain ⟨c_, H⟩ := H
  have fb50 : decide (t27 < 0) = false := decide_eq_false c_
  clear c_
  replace H := nd_ H
  obtain ⟨c_, H⟩ := H
  subst c_
  first | have fb51 : (t27 == t27) = true := beq_self_eq_true _ | have fb51 : (t27.toList == t27.toList) = true := beq_self_eq_true _
  first | have fb52 : (t27 != t27) = false := by simp | have fb52 : (t27.toList != t27.toList) = false := by simp
  replace H := bE_ H
  obtain ⟨t28, hA28, H⟩ := H
  have A28 := am_ hA28
  clear hA28
  replace H := bE_ H
  obtain ⟨t30, hA30, H⟩ := H
  have A30 := am_ hA30
  clear hA30
  replace H := bE_ H
  obtain ⟨⟨t32_0, t32_1, t32_2⟩, hA32, H⟩ := H
  try dsimp only at H
  have A32 := am_ hA32
  clear hA32
  replace H := bE_ H
  obtain ⟨t34, hA34, H⟩ := H
  have A34 := am_ hA34
  clear hA34
  replace H := nd_ H
  obtain ⟨c_, H⟩ := H
  subst c_
  replace H := bE_ H
  obtain ⟨t35, hA35, H⟩ := H
  have A35 := am_ hA35
  clear hA35
  replace H := nd_ H
  obtain ⟨c_, H⟩ := H
  subst c_
  replace H := nd_ H
  obtain ⟨c_, H⟩ := H
  subst c_
  first | have fb53 : (t32_2 == t32_2) = true := beq_self_eq_true _ | have fb53 : (t32_2.toList == t32_2.toList) = true := beq_self_eq_true _
  first | have fb54 : (t32_2 != t32_2) = false := by simp | have fb54 : (t32_2.toList != t32_2.toList) = false := by simp
  replace H := bE_ H
  obtain ⟨t36, hA36, H⟩ := H
  have A36 := am_ hA36
  clear hA36
  replace H := nd_ H
  obtain ⟨c_, H⟩ := H
  have fb55 : decide (t36 < 0) = false := decide_eq_false c_
  clear c_
  replace H := nd_ H
  obtain ⟨c_, H⟩ := H
  subst c_
  first | have fb56 : (t36 == t36) = true := beq_self_eq_true _ | have fb56 : (t36.toList == t36.toList) = true := beq_self_eq_true _
  first | have fb57 : (t36 != t36) = false := by simp | have fb57 : (t36.toList != t36.toList) = false := by simp
  obtain rfl := Option.some.inj H
  go_enter Try.func7, Try.ntmps7
  go_wp2_with (first | (go_at_call 28; (with_reducible refine (laws_szBusS.calls _ _ l0 1048576 t1 _ ?sd1_1 ?sd1_2 A1.out).mono ?_); (case sd1_1 => exact Kd.C_below HR0.out HB.out); (case sd1_2 => exact HC0.out); rintro e w1001 ⟨rfl, hd⟩; have hb := hd.below; clear hd; have hs_ := below_size HB.out; have n0_ := am_ (below_step HB.out hb); have SZ1 := am_ (show w.heap.size ≤ w1001.heap.size from (hb).size); replace HB := n0_; clear n0_; clear hb hs_) | (go_at_call 30; (with_reducible refine (laws_toBusS.calls k _ _ l0 t2 _ ?sd2_1 ?sd2_2 A2.out).mono ?_); (case sd2_1 => exact Kd.C_below HR0.out HB.out); (case sd2_2 => exact HC0.out); rintro e w1002 ⟨v_3, rfl, ho0, hb⟩; have hs_ := below_size HB.out; have n0_ := am_ (below_step HB.out hb); have SZ2 := am_ (show w1001.heap.size ≤ w1002.heap.size from (hb).size); replace HB := n0_; clear n0_; have HO3 := am_ (R_zone ho0 hs_); clear ho0; obtain ⟨A_3, c_3, e_3⟩ := Kd.R_slice HO3.out; subst e_3; clear hb hs_) | (go_at_call 16; (with_reducible refine (laws_toFloat64S.calls k _ _ l1 t4 _ ?sd4_1 ?sd4_2 A4.out).mono ?_); (case sd4_1 => exact Kd.C_below HR1.out HB.out); (case sd4_2 => exact HC1.out); rintro e w1004 ⟨v_5, rfl, ho0, hb⟩; have hs_ := below_size HB.out; have n0_ := am_ (below_step HB.out hb); have n1_ := am_ (Kd.R_below HO3.out hb); have SZ3 := am_ (show w1002.heap.size ≤ w1004.heap.size from (hb).size); clear HB HO3; have HB := n0_; have HO3 := n1_; clear n0_ n1_; have HO5 := am_ (R_zone ho0 hs_); clear ho0; obtain ⟨A_5, c_5, e_5⟩ := Kd.R_slice HO5.out; subst e_5; clear hb hs_) | (go_at_call 29; (with_reducible refine (spec_RunBuses.calls k _ _ t2 _ _ t4 t6_0 t6_1 t32_2 _ ?sd6_1 ?sd6_2 ?sd6_3 ?sd6_4 A6.out).mono ?_); (case sd6_1 => exact (Kd.R_reads' HO3.out).2.2); (case sd6_2 => exact (Kd.R_reads' HO3.out).2.1); (case sd6_3 => exact (Kd.R_reads' HO5.out).2.2); (case sd6_4 => exact (Kd.R_reads' HO5.out).2.1); rintro e w1006 ⟨v_7, rfl, ho0, hb⟩; have hs_ := below_size HB.out; have n0_ := am_ (below_step HB.out hb); have n1_ := am_ (Kd.R_below HO3.out hb); have n2_ := am_ (Kd.R_below HO5.out hb); have SZ4 := am_ (show w1004.heap.size ≤ w1006.heap.size from (hb).size); clear HB HO3 HO5; have HB := n0_; have HO3 := n1_; have HO5 := n2_; clear n0_ n1_ n2_; have HO7 := am_ (R_zone ho0 hs_); clear ho0; obtain ⟨A_7, c_7, e_7⟩ := Kd.R_slice HO7.out; subst e_7; clear hb hs_) | (go_at_call 30; (with_reducible refine (laws_toBusS.calls k _ _ l0 t8 _ ?sd8_1 ?sd8_2 A8.out).mono ?_); (case sd8_1 => exact Kd.C_below HR0.out HB.out); (case sd8_2 => exact HC0.out); rintro e w1008 ⟨v_9, rfl, ho0, hb⟩; have hs_ := below_size HB.out; have n0_ := am_ (below_step HB.out hb); have n1_ := am_ (Kd.R_below HO3.out hb); have n2_ := am_ (Kd.R_below HO5.out hb); have n3_ := am_ (Kd.R_below HO7.out hb); have SZ5 := am_ (show w1006.heap.size ≤ w1008.heap.size from (hb).size); clear HB HO3 HO5 HO7; have HB := n0_; have HO3 := n1_; have HO5 := n2_; have HO7 := n3_; clear n0_ n1_ n2_ n3_; have HO9 := am_ (R_zone ho0 hs_); clear ho0; obtain ⟨A_9, c_9, e_9⟩ := Kd.R_slice HO9.out; subst e_9; clear hb hs_) | (go_at_call 16; (with_reducible refine (laws_toFloat64S.calls k _ _ l1 t10 _ ?sd10_1 ?sd10_2 A10.out).mono ?_); (case sd10_1 => exact Kd.C_below HR1.out HB.out); (case sd10_2 => exact HC1.out); rintro e w1010 ⟨v_11, rfl, ho0, hb⟩; have hs_ := below_size HB.out; have n0_ := am_ (below_step HB.out hb); have n1_ := am_ (Kd.R_below HO3.out hb); have n2_ := am_ (Kd.R_below HO5.out hb); have n3_ := am_ (Kd.R_below HO7.out hb); have n4_ := am_ (Kd.R_below HO9.out hb); have SZ6 := am_ (show w1008.heap.size ≤ w1010.heap.size from (hb).size); clear HB HO3 HO5 HO7 HO9; have HB := n0_; have HO3 := n1_; have HO5 := n2_; have HO7 := n3_; have HO9 := n4_; clear n0_ n1_ n2_ n3_ n4_; have HO11 := am_ (R_zone ho0 hs_); clear ho0; obtain ⟨A_11, c_11, e_11⟩ := Kd.R_slice HO11.out; subst e_11; clear hb hs_) | (go_at_call 31; (with_reducible refine (impl_RunBuses.calls k _ _ t8 _ _ t10 t12_0 t12_1 t32_2 _ ?sd12_1 ?sd12_2 ?sd12_3 ?sd12_4 A12.out).mono ?_); (case sd12_1 => exact (Kd.R_reads' HO9.out).2.2); (case sd12_2 => exact (Kd.R_reads' HO9.out).2.1); (case sd12_3 => exact (Kd.R_reads' HO11.out).2.2); (case sd12_4 => exact (Kd.R_reads' HO11.out).2.1); rintro e w1012 ⟨v_13, rfl, ho0, hb⟩; have hs_ := below_size HB.out; have n0_ := am_ (below_step HB.out hb); have n1_ := am_ (Kd.R_below HO3.out hb); have n2_ := am_ (Kd.R_below HO5.out hb); have n3_ := am_ (Kd.R_below HO7.out hb); have n4_ := am_ (Kd.R_below HO9.out hb); have n5_ := am_ (Kd.R_below HO11.out hb); have SZ7 := am_ (show w1010.heap.size ≤ w1012.heap.size from (hb).size); clear HB HO3 HO5 HO7 HO9 HO11; have HB := n0_; have HO3 := n1_; have HO5 := n2_; have HO7 := n3_; have HO9 := n4_; have HO11 := n5_; clear n0_ n1_ n2_ n3_ n4_ n5_; have HO13 := am_ (R_zone ho0 hs_); clear ho0; obtain ⟨A_13, c_13, e_13⟩ := Kd.R_slice HO13.out; subst e_13; clear hb hs_) | (go_at_call 19; (with_reducible refine (laws_eqFloat64S.calls k _ _ t12_0 _ _ t6_0 true _ ?sd14_1 ?sd14_2 ?sd14_3 ?sd14_4 A14.out).mono ?_); (case sd14_1 => exact (Kd.R_reads' HO13.out).2.2); (case sd14_2 => exact (Kd.R_reads' HO13.out).2.1); (case sd14_3 => exact (Kd.R_reads' HO7.out).2.2); (case sd14_4 => exact (Kd.R_reads' HO7.out).2.1); rintro e w1014 ⟨rfl, hd⟩; have hb := hd.below; clear hd; have hs_ := below_size HB.out; have n0_ := am_ (below_step HB.out hb); have n1_ := am_ (Kd.R_below HO3.out hb); have n2_ := am_ (Kd.R_below HO5.out hb); have n3_ := am_ (Kd.R_below HO7.out hb); have n4_ := am_ (Kd.R_below HO9.out hb); have n5_ := am_ (Kd.R_below HO11.out hb); have n6_ := am_ (Kd.R_below HO13.out hb); have SZ8 := am_ (show w1012.heap.size ≤ w1014.heap.size from (hb).size); clear HB HO3 HO5 HO7 HO9 HO11 HO13; have HB := n0_; have HO3 := n1_; have HO5 := n2_; have HO7 := n3_; have HO9 := n4_; have HO11 := n5_; have HO13 := n6_; clear n0_ n1_ n2_ n3_ n4_ n5_ n6_; clear hb hs_) | (go_at_call 14; (with_reducible refine (laws_sameFloat.calls k t12_1 t6_1 true _  A15.out).mono ?_); rintro e w1015 ⟨rfl, hd⟩; have hb := hd.below; clear hd; have hs_ := below_size HB.out; have n0_ := am_ (below_step HB.out hb); have n1_ := am_ (Kd.R_below HO3.out hb); have n2_ := am_ (Kd.R_below HO5.out hb); have n3_ := am_ (Kd.R_below HO7.out hb); have n4_ := am_ (Kd.R_below HO9.out hb); have n5_ := am_ (Kd.R_below HO11.out hb); have n6_ := am_ (Kd.R_below HO13.out hb); have SZ9 := am_ (show w1014.heap.size ≤ w1015.heap.size from (hb).size); clear HB HO3 HO5 HO7 HO9 HO11 HO13; have HB := n0_; have HO3 := n1_; have HO5 := n2_; have HO7 := n3_; have HO9 := n4_; have HO11 := n5_; have HO13 := n6_; clear n0_ n1_ n2_ n3_ n4_ n5_ n6_; clear hb hs_) | (go_at_call 30; (with_reducible refine (laws_toBusS.calls k _ _ l0 t16 _ ?sd16_1 ?sd16_2 A16.out).mono ?_); (case sd16_1 => exact Kd.C_below HR0.out HB.out); (case sd16_2 => exact HC0.out); rintro e w1016 ⟨v_17, rfl, ho0, hb⟩; have hs_ := below_size HB.out; have n0_ := am_ (below_step HB.out hb); have n1_ := am_ (Kd.R_below HO3.out hb); have n2_ := am_ (Kd.R_below HO5.out hb); have n3_ := am_ (Kd.R_below HO7.out hb); have n4_ := am_ (Kd.R_below HO9.out hb); have n5_ := am_ (Kd.R_below HO11.out hb); have n6_ := am_ (Kd.R_below HO13.out hb); have SZ10 := am_ (show w1015.heap.size ≤ w1016.heap.size from (hb).size); clear HB HO3 HO5 HO7 HO9 HO11 HO13; have HB := n0_; have HO3 := n1_; have HO5 := n2_; have HO7 := n3_; have HO9 := n4_; have HO11 := n5_; have HO13 := n6_; clear n0_ n1_ n2_ n3_ n4_ n5_ n6_; have HO17 := am_ (R_zone ho0 hs_); clear ho0; obtain ⟨A_17, c_17, e_17⟩ := Kd.R_slice HO17.out; subst e_17; clear hb hs_) | (go_at_call 32; (with_reducible refine (laws_eqBusS.calls k _ _ t8 _ _ t16 true _ ?sd18_1 ?sd18_2 ?sd18_3 ?sd18_4 A18.out).mono ?_); (case sd18_1 => exact (Kd.R_reads' HO9.out).2.2); (case sd18_2 => exact (Kd.R_reads' HO9.out).2.1); (case sd18_3 => exact (Kd.R_reads' HO17.out).2.2); (case sd18_4 => exact (Kd.R_reads' HO17.out).2.1); rintro e w1018 ⟨rfl, hb⟩; have hs_ := below_size HB.out; have n0_ := am_ (below_step HB.out hb); have n1_ := am_ (Kd.R_below HO3.out hb); have n2_ := am_ (Kd.R_below HO5.out hb); have n3_ := am_ (Kd.R_below HO7.out hb); have n4_ := am_ (Kd.R_below HO9.out hb); have n5_ := am_ (Kd.R_below HO11.out hb); have n6_ := am_ (Kd.R_below HO13.out hb); have n7_ := am_ (Kd.R_below HO17.out hb); have SZ11 := am_ (show w1016.heap.size ≤ w1018.heap.size from (hb).size); clear HB HO3 HO5 HO7 HO9 HO11 HO13 HO17; have HB := n0_; have HO3 := n1_; have HO5 := n2_; have HO7 := n3_; have HO9 := n4_; have HO11 := n5_; have HO13 := n6_; have HO17 := n7_; clear n0_ n1_ n2_ n3_ n4_ n5_ n6_ n7_; clear hb hs_) | (go_at_call 16; (with_reducible refine (laws_toFloat64S.calls k _ _ l1 t19 _ ?sd19_1 ?sd19_2 A19.out).mono ?_); (case sd19_1 => exact Kd.C_below HR1.out HB.out); (case sd19_2 => exact HC1.out); rintro e w1019 ⟨v_20, rfl, ho0, hb⟩; have hs_ := below_size HB.out; have n0_ := am_ (below_step HB.out hb); have n1_ := am_ (Kd.R_below HO3.out hb); have n2_ := am_ (Kd.R_below HO5.out hb); have n3_ := am_ (Kd.R_below HO7.out hb); have n4_ := am_ (Kd.R_below HO9.out hb); have n5_ := am_ (Kd.R_below HO11.out hb); have n6_ := am_ (Kd.R_below HO13.out hb); have n7_ := am_ (Kd.R_below HO17.out hb); have SZ12 := am_ (show w1018.heap.size ≤ w1019.heap.size from (hb).size); clear HB HO3 HO5 HO7 HO9 HO11 HO13 HO17; have HB := n0_; have HO3 := n1_; have HO5 := n2_; have HO7 := n3_; have HO9 := n4_; have HO11 := n5_; have HO13 := n6_; have HO17 := n7_; clear n0_ n1_ n2_ n3_ n4_ n5_ n6_ n7_; have HO20 := am_ (R_zone ho0 hs_); clear ho0; obtain ⟨A_20, c_20, e_20⟩ := Kd.R_slice HO20.out; subst e_20; clear hb hs_) | (go_at_call 19; (with_reducible refine (laws_eqFloat64S.calls k _ _ t10 _ _ t19 true _ ?sd21_1 ?sd21_2 ?sd21_3 ?sd21_4 A21.out).mono ?_); (case sd21_1 => exact (Kd.R_reads' HO11.out).2.2); (case sd21_2 => exact (Kd.R_reads' HO11.out).2.1); (case sd21_3 => exact (Kd.R_reads' HO20.out).2.2); (case sd21_4 => exact (Kd.R_reads' HO20.out).2.1); rintro e w1021 ⟨rfl, hd⟩; have hb := hd.below; clear hd; have hs_ := below_size HB.out; have n0_ := am_ (below_step HB.out hb); have n1_ := am_ (Kd.R_below HO3.out hb); have n2_ := am_ (Kd.R_below HO5.out hb); have n3_ := am_ (Kd.R_below HO7.out hb); have n4_ := am_ (Kd.R_below HO9.out hb); have n5_ := am_ (Kd.R_below HO11.out hb); have n6_ := am_ (Kd.R_below HO13.out hb); have n7_ := am_ (Kd.R_below HO17.out hb); have n8_ := am_ (Kd.R_below HO20.out hb); have SZ13 := am_ (show w1019.heap.size ≤ w1021.heap.size from (hb).size); clear HB HO3 HO5 HO7 HO9 HO11 HO13 HO17 HO20; have HB := n0_; have HO3 := n1_; have HO5 := n2_; have HO7 := n3_; have HO9 := n4_; have HO11 := n5_; have HO13 := n6_; have HO17 := n7_; have HO20 := n8_; clear n0_ n1_ n2_ n3_ n4_ n5_ n6_ n7_ n8_; clear hb hs_) | (go_at_call 33; (with_reducible refine (laws_markBusS.calls k (Zone w1006 w1008 (76 :: (k76).E)) (.slice A_9 t8.length c_9) t8 1 t22_0 t22_1 w _ ?sd22_1 ?sd22_2 A22.out).mono ?_); (case sd22_1 => exact HB.out); (case sd22_2 => exact HO9.out); rintro e w1022 ⟨rfl, hy0, hb, hkp⟩; have n0_ := am_ (hb); have n1_ := am_ (Kd.R_step HO3.out (fun k_ h_ hlt_ => hkp.2 k_ hlt_ (fun e_ => (show False from Zone.apart h_ e_ (by have := SZ3.out; have := SZ4.out; first | exact .inl (by omega) | exact .inr (by omega))).elim))); have n2_ := am_ (Kd.R_step HO5.out (fun k_ h_ hlt_ => hkp.2 k_ hlt_ (fun e_ => (show False from Zone.apart h_ e_ (by have := SZ4.out; first | exact .inl (by omega) | exact .inr (by omega))).elim))); have n3_ := am_ (Kd.R_step HO7.out (fun k_ h_ hlt_ => hkp.2 k_ hlt_ (fun e_ => (show False from Zone.apart h_ e_ (by first | exact .inl (by omega) | exact .inr (by omega))).elim))); have n4_ := am_ (Kd.R_reok rfl hy0 HO9.out.1); have n5_ := am_ (Kd.R_step HO11.out (fun k_ h_ hlt_ => hkp.2 k_ hlt_ (fun e_ => (show False from Zone.apart h_ e_ (by first | exact .inl (by omega) | exact .inr (by omega))).elim))); have n6_ := am_ (Kd.R_step HO13.out (fun k_ h_ hlt_ => hkp.2 k_ hlt_ (fun e_ => (show False from Zone.apart h_ e_ (by have := SZ6.out; first | exact .inl (by omega) | exact .inr (by omega))).elim))); have n7_ := am_ (Kd.R_step HO17.out (fun k_ h_ hlt_ => hkp.2 k_ hlt_ (fun e_ => (show False from Zone.apart h_ e_ (by have := SZ6.out; have := SZ7.out; have := SZ8.out; have := SZ9.out; first | exact .inl (by omega) | exact .inr (by omega))).elim))); have n8_ := am_ (Kd.R_step HO20.out (fun k_ h_ hlt_ => hkp.2 k_ hlt_ (fun e_ => (show False from Zone.apart h_ e_ (by have := SZ6.out; have := SZ7.out; have := SZ8.out; have := SZ9.out; have := SZ10.out; have := SZ11.out; first | exact .inl (by omega) | exact .inr (by omega))).elim))); have SZ14 := am_ (show w1021.heap.size ≤ w1022.heap.size from hkp.1); clear HB HO3 HO5 HO7 HO9 HO11 HO13 HO17 HO20; have HB := n0_; have HO3 := n1_; have HO5 := n2_; have HO7 := n3_; have HO9 := n4_; have HO11 := n5_; have HO13 := n6_; have HO17 := n7_; have HO20 := n8_; clear n0_ n1_ n2_ n3_ n4_ n5_ n6_ n7_ n8_; clear hb hkp hy0) | (go_at_call 20; (with_reducible refine (laws_markFloat64S.calls k (Zone w1008 w1010 (22 :: (Kd.flt).E)) (.slice A_11 t10.length c_11) t10 t22_0 t23_0 t23_1 w _ ?sd23_1 ?sd23_2 A23.out).mono ?_); (case sd23_1 => exact HB.out); (case sd23_2 => exact HO11.out); rintro e w1023 ⟨rfl, hy0, hb, hkp⟩; have n0_ := am_ (hb); have n1_ := am_ (Kd.R_step HO3.out (fun k_ h_ hlt_ => hkp.2 k_ hlt_ (fun e_ => (show False from Zone.apart h_ e_ (by have := SZ3.out; have := SZ4.out; have := SZ5.out; first | exact .inl (by omega) | exact .inr (by omega))).elim))); have n2_ := am_ (Kd.R_step HO5.out (fun k_ h_ hlt_ => hkp.2 k_ hlt_ (fun e_ => (show False from Zone.apart h_ e_ (by have := SZ4.out; have := SZ5.out; first | exact .inl (by omega) | exact .inr (by omega))).elim))); have n3_ := am_ (Kd.R_step HO7.out (fun k_ h_ hlt_ => hkp.2 k_ hlt_ (fun e_ => (show False from Zone.apart h_ e_ (by have := SZ5.out; first | exact .inl (by omega) | exact .inr (by omega))).elim))); have n4_ := am_ (Kd.R_step HO9.out (fun k_ h_ hlt_ => hkp.2 k_ hlt_ (fun e_ => (show False from Zone.apart h_ e_ (by first | exact .inl (by omega) | exact .inr (by omega))).elim))); have n5_ := am_ (Kd.R_reok rfl hy0 HO11.out.1); have n6_ := am_ (Kd.R_step HO13.out (fun k_ h_ hlt_ => hkp.2 k_ hlt_ (fun e_ => (show False from Zone.apart h_ e_ (by first | exact .inl (by omega) | exact .inr (by omega))).elim))); have n7_ := am_ (Kd.R_step HO17.out (fun k_ h_ hlt_ => hkp.2 k_ hlt_ (fun e_ => (show False from Zone.apart h_ e_ (by have := SZ7.out; have := SZ8.out; have := SZ9.out; first | exact .inl (by omega) | exact .inr (by omega))).elim))); have n8_ := am_ (Kd.R_step HO20.out (fun k_ h_ hlt_ => hkp.2 k_ hlt_ (fun e_ => (show False from Zone.apart h_ e_ (by have := SZ7.out; have := SZ8.out; have := SZ9.out; have := SZ10.out; have := SZ11.out; first | exact .inl (by omega) | exact .inr (by omega))).elim))); have SZ15 := am_ (show w1022.heap.size ≤ w1023.heap.size from hkp.1); clear HB HO3 HO5 HO7 HO9 HO11 HO13 HO17 HO20; have HB := n0_; have HO3 := n1_; have HO5 := n2_; have HO7 := n3_; have HO9 := n4_; have HO11 := n5_; have HO13 := n6_; have HO17 := n7_; have HO20 := n8_; clear n0_ n1_ n2_ n3_ n4_ n5_ n6_ n7_ n8_; clear hb hkp hy0) | (go_at_call 19; (with_reducible refine (laws_eqFloat64S.calls k _ _ t12_0 _ _ t6_0 true _ ?sd24_1 ?sd24_2 ?sd24_3 ?sd24_4 A24.out).mono ?_); (case sd24_1 => exact (Kd.R_reads' HO13.out).2.2); (case sd24_2 => exact (Kd.R_reads' HO13.out).2.1); (case sd24_3 => exact (Kd.R_reads' HO7.out).2.2); (case sd24_4 => exact (Kd.R_reads' HO7.out).2.1); rintro e w1024 ⟨rfl, hd⟩; have hb := hd.below; clear hd; have hs_ := below_size HB.out; have n0_ := am_ (below_step HB.out hb); have n1_ := am_ (Kd.R_below HO3.out hb); have n2_ := am_ (Kd.R_below HO5.out hb); have n3_ := am_ (Kd.R_below HO7.out hb); have n4_ := am_ (Kd.R_below HO9.out hb); have n5_ := am_ (Kd.R_below HO11.out hb); have n6_ := am_ (Kd.R_below HO13.out hb); have n7_ := am_ (Kd.R_below HO17.out hb); have n8_ := am_ (Kd.R_below HO20.out hb); have SZ16 := am_ (show w1023.heap.size ≤ w1024.heap.size from (hb).size); clear HB HO3 HO5 HO7 HO9 HO11 HO13 HO17 HO20; have HB := n0_; have HO3 := n1_; have HO5 := n2_; have HO7 := n3_; have HO9 := n4_; have HO11 := n5_; have HO13 := n6_; have HO17 := n7_; have HO20 := n8_; clear n0_ n1_ n2_ n3_ n4_ n5_ n6_ n7_ n8_; clear hb hs_) | (go_at_call 14; (with_reducible refine (laws_sameFloat.calls k t12_1 t6_1 true _  A25.out).mono ?_); rintro e w1025 ⟨rfl, hd⟩; have hb := hd.below; clear hd; have hs_ := below_size HB.out; have n0_ := am_ (below_step HB.out hb); have n1_ := am_ (Kd.R_below HO3.out hb); have n2_ := am_ (Kd.R_below HO5.out hb); have n3_ := am_ (Kd.R_below HO7.out hb); have n4_ := am_ (Kd.R_below HO9.out hb); have n5_ := am_ (Kd.R_below HO11.out hb); have n6_ := am_ (Kd.R_below HO13.out hb); have n7_ := am_ (Kd.R_below HO17.out hb); have n8_ := am_ (Kd.R_below HO20.out hb); have SZ17 := am_ (show w1024.heap.size ≤ w1025.heap.size from (hb).size); clear HB HO3 HO5 HO7 HO9 HO11 HO13 HO17 HO20; have HB := n0_; have HO3 := n1_; have HO5 := n2_; have HO7 := n3_; have HO9 := n4_; have HO11 := n5_; have HO13 := n6_; have HO17 := n7_; have HO20 := n8_; clear n0_ n1_ n2_ n3_ n4_ n5_ n6_ n7_ n8_; clear hb hs_) | (go_at_call 20; (with_reducible refine (laws_markFloat64S.calls k (Zone w1010 w1012 (22 :: (Kd.flt).E)) (.slice A_13 t12_0.length c_13) t12_0 1 t36 t26_1 w _ ?sd26_1 ?sd26_2 A26.out).mono ?_); (case sd26_1 => exact HB.out); (case sd26_2 => exact HO13.out); rintro e w1026 ⟨rfl, hy0, hb, hkp⟩; have n0_ := am_ (hb); have n1_ := am_ (Kd.R_step HO3.out (fun k_ h_ hlt_ => hkp.2 k_ hlt_ (fun e_ => (show False from Zone.apart h_ e_ (by have := SZ3.out; have := SZ4.out; have := SZ5.out; have := SZ6.out; first | exact .inl (by omega) | exact .inr (by omega))).elim))); have n2_ := am_ (Kd.R_step HO5.out (fun k_ h_ hlt_ => hkp.2 k_ hlt_ (fun e_ => (show False from Zone.apart h_ e_ (by have := SZ4.out; have := SZ5.out; have := SZ6.out; first | exact .inl (by omega) | exact .inr (by omega))).elim))); have n3_ := am_ (Kd.R_step HO7.out (fun k_ h_ hlt_ => hkp.2 k_ hlt_ (fun e_ => (show False from Zone.apart h_ e_ (by have := SZ5.out; have := SZ6.out; first | exact .inl (by omega) | exact .inr (by omega))).elim))); have n4_ := am_ (Kd.R_step HO9.out (fun k_ h_ hlt_ => hkp.2 k_ hlt_ (fun e_ => (show False from Zone.apart h_ e_ (by have := SZ6.out; first | exact .inl (by omega) | exact .inr (by omega))).elim))); have n5_ := am_ (Kd.R_step HO11.out (fun k_ h_ hlt_ => hkp.2 k_ hlt_ (fun e_ => (show False from Zone.apart h_ e_ (by first | exact .inl (by omega) | exact .inr (by omega))).elim))); have n6_ := am_ (Kd.R_reok rfl hy0 HO13.out.1); have n7_ := am_ (Kd.R_step HO17.out (fun k_ h_ hlt_ => hkp.2 k_ hlt_ (fun e_ => (show False from Zone.apart h_ e_ (by have := SZ8.out; have := SZ9.out; first | exact .inl (by omega) | exact .inr (by omega))).elim))); have n8_ := am_ (Kd.R_step HO20.out (fun k_ h_ hlt_ => hkp.2 k_ hlt_ (fun e_ => (show False from Zone.apart h_ e_ (by have := SZ8.out; have := SZ9.out; have := SZ10.out; have := SZ11.out; first | exact .inl (by omega) | exact .inr (by omega))).elim))); have SZ18 := am_ (show w1025.heap.size ≤ w1026.heap.size from hkp.1); clear HB HO3 HO5 HO7 HO9 HO11 HO13 HO17 HO20; have HB := n0_; have HO3 := n1_; have HO5 := n2_; have HO7 := n3_; have HO9 := n4_; have HO11 := n5_; have HO13 := n6_; have HO17 := n7_; have HO20 := n8_; clear n0_ n1_ n2_ n3_ n4_ n5_ n6_ n7_ n8_; clear hb hkp hy0) | (go_at_call 34; refine calls_of_args (args' := #[.slice A_13 t26_1.length c_13, .int .i64 1]) (by first | (rw [show t26_1.length = t12_0.length from (Kd.R_reads' HO13.out).1.symm] <;> rfl) | rfl) ?_; (with_reducible refine (laws_heldFloat64S.calls k _ _ t26_1 1 t36 _ ?sd27_1 ?sd27_2 A27.out).mono ?_); (case sd27_1 => exact (Kd.R_reads' HO13.out).2.2); (case sd27_2 => exact (by rw [show t26_1.length = t12_0.length from (Kd.R_reads' HO13.out).1.symm]; exact (Kd.R_reads' HO13.out).2.1)); rintro e w1027 ⟨rfl, hd⟩; have hb := hd.below; clear hd; have hs_ := below_size HB.out; have n0_ := am_ (below_step HB.out hb); have n1_ := am_ (Kd.R_below HO3.out hb); have n2_ := am_ (Kd.R_below HO5.out hb); have n3_ := am_ (Kd.R_below HO7.out hb); have n4_ := am_ (Kd.R_below HO9.out hb); have n5_ := am_ (Kd.R_below HO11.out hb); have n6_ := am_ (Kd.R_below HO13.out hb); have n7_ := am_ (Kd.R_below HO17.out hb); have n8_ := am_ (Kd.R_below HO20.out hb); have SZ19 := am_ (show w1026.heap.size ≤ w1027.heap.size from (hb).size); clear HB HO3 HO5 HO7 HO9 HO11 HO13 HO17 HO20; have HB := n0_; have HO3 := n1_; have HO5 := n2_; have HO7 := n3_; have HO9 := n4_; have HO11 := n5_; have HO13 := n6_; have HO17 := n7_; have HO20 := n8_; clear n0_ n1_ n2_ n3_ n4_ n5_ n6_ n7_ n8_; clear hb hs_) | (go_at_call 30; (with_reducible refine (laws_toBusS.calls k _ _ l0 t28 _ ?sd28_1 ?sd28_2 A28.out).mono ?_); (case sd28_1 => exact Kd.C_below HR0.out HB.out); (case sd28_2 => exact HC0.out); rintro e w1028 ⟨v_29, rfl, ho0, hb⟩; have hs_ := below_size HB.out; have n0_ := am_ (below_step HB.out hb); have n1_ := am_ (Kd.R_below HO3.out hb); have n2_ := am_ (Kd.R_below HO5.out hb); have n3_ := am_ (Kd.R_below HO7.out hb); have n4_ := am_ (Kd.R_below HO9.out hb); have n5_ := am_ (Kd.R_below HO11.out hb); have n6_ := am_ (Kd.R_below HO13.out hb); have n7_ := am_ (Kd.R_below HO17.out hb); have n8_ := am_ (Kd.R_below HO20.out hb); have SZ20 := am_ (show w1027.heap.size ≤ w1028.heap.size from (hb).size); clear HB HO3 HO5 HO7 HO9 HO11 HO13 HO17 HO20; have HB := n0_; have HO3 := n1_; have HO5 := n2_; have HO7 := n3_; have HO9 := n4_; have HO11 := n5_; have HO13 := n6_; have HO17 := n7_; have HO20 := n8_; clear n0_ n1_ n2_ n3_ n4_ n5_ n6_ n7_ n8_; have HO29 := am_ (R_zone ho0 hs_); clear ho0; obtain ⟨A_29, c_29, e_29⟩ := Kd.R_slice HO29.out; subst e_29; clear hb hs_) | (go_at_call 16; (with_reducible refine (laws_toFloat64S.calls k _ _ l1 t30 _ ?sd30_1 ?sd30_2 A30.out).mono ?_); (case sd30_1 => exact Kd.C_below HR1.out HB.out); (case sd30_2 => exact HC1.out); rintro e w1030 ⟨v_31, rfl, ho0, hb⟩; have hs_ := below_size HB.out; have n0_ := am_ (below_step HB.out hb); have n1_ := am_ (Kd.R_below HO3.out hb); have n2_ := am_ (Kd.R_below HO5.out hb); have n3_ := am_ (Kd.R_below HO7.out hb); have n4_ := am_ (Kd.R_below HO9.out hb); have n5_ := am_ (Kd.R_below HO11.out hb); have n6_ := am_ (Kd.R_below HO13.out hb); have n7_ := am_ (Kd.R_below HO17.out hb); have n8_ := am_ (Kd.R_below HO20.out hb); have n9_ := am_ (Kd.R_below HO29.out hb); have SZ21 := am_ (show w1028.heap.size ≤ w1030.heap.size from (hb).size); clear HB HO3 HO5 HO7 HO9 HO11 HO13 HO17 HO20 HO29; have HB := n0_; have HO3 := n1_; have HO5 := n2_; have HO7 := n3_; have HO9 := n4_; have HO11 := n5_; have HO13 := n6_; have HO17 := n7_; have HO20 := n8_; have HO29 := n9_; clear n0_ n1_ n2_ n3_ n4_ n5_ n6_ n7_ n8_ n9_; have HO31 := am_ (R_zone ho0 hs_); clear ho0; obtain ⟨A_31, c_31, e_31⟩ := Kd.R_slice HO31.out; subst e_31; clear hb hs_) | (go_at_call 31; (with_reducible refine (impl_RunBuses.calls k _ _ t28 _ _ t30 t32_0 t32_1 t32_2 _ ?sd32_1 ?sd32_2 ?sd32_3 ?sd32_4 A32.out).mono ?_); (case sd32_1 => exact (Kd.R_reads' HO29.out).2.2); (case sd32_2 => exact (Kd.R_reads' HO29.out).2.1); (case sd32_3 => exact (Kd.R_reads' HO31.out).2.2); (case sd32_4 => exact (Kd.R_reads' HO31.out).2.1); rintro e w1032 ⟨v_33, rfl, ho0, hb⟩; have hs_ := below_size HB.out; have n0_ := am_ (below_step HB.out hb); have n1_ := am_ (Kd.R_below HO3.out hb); have n2_ := am_ (Kd.R_below HO5.out hb); have n3_ := am_ (Kd.R_below HO7.out hb); have n4_ := am_ (Kd.R_below HO9.out hb); have n5_ := am_ (Kd.R_below HO11.out hb); have n6_ := am_ (Kd.R_below HO13.out hb); have n7_ := am_ (Kd.R_below HO17.out hb); have n8_ := am_ (Kd.R_below HO20.out hb); have n9_ := am_ (Kd.R_below HO29.out hb); have n10_ := am_ (Kd.R_below HO31.out hb); have SZ22 := am_ (show w1030.heap.size ≤ w1032.heap.size from (hb).size); clear HB HO3 HO5 HO7 HO9 HO11 HO13 HO17 HO20 HO29 HO31; have HB := n0_; have HO3 := n1_; have HO5 := n2_; have HO7 := n3_; have HO9 := n4_; have HO11 := n5_; have HO13 := n6_; have HO17 := n7_; have HO20 := n8_; have HO29 := n9_; have HO31 := n10_; clear n0_ n1_ n2_ n3_ n4_ n5_ n6_ n7_ n8_ n9_ n10_; have HO33 := am_ (R_zone ho0 hs_); clear ho0; obtain ⟨A_33, c_33, e_33⟩ := Kd.R_slice HO33.out; subst e_33; clear hb hs_) | (go_at_call 19; (with_reducible refine (laws_eqFloat64S.calls k _ _ t32_0 _ _ t6_0 true _ ?sd34_1 ?sd34_2 ?sd34_3 ?sd34_4 A34.out).mono ?_); (case sd34_1 => exact (Kd.R_reads' HO33.out).2.2); (case sd34_2 => exact (Kd.R_reads' HO33.out).2.1); (case sd34_3 => exact (Kd.R_reads' HO7.out).2.2); (case sd34_4 => exact (Kd.R_reads' HO7.out).2.1); rintro e w1034 ⟨rfl, hd⟩; have hb := hd.below; clear hd; have hs_ := below_size HB.out; have n0_ := am_ (below_step HB.out hb); have n1_ := am_ (Kd.R_below HO3.out hb); have n2_ := am_ (Kd.R_below HO5.out hb); have n3_ := am_ (Kd.R_below HO7.out hb); have n4_ := am_ (Kd.R_below HO9.out hb); have n5_ := am_ (Kd.R_below HO11.out hb); have n6_ := am_ (Kd.R_below HO13.out hb); have n7_ := am_ (Kd.R_below HO17.out hb); have n8_ := am_ (Kd.R_below HO20.out hb); have n9_ := am_ (Kd.R_below HO29.out hb); have n10_ := am_ (Kd.R_below HO31.out hb); have n11_ := am_ (Kd.R_below HO33.out hb); have SZ23 := am_ (show w1032.heap.size ≤ w1034.heap.size from (hb).size); clear HB HO3 HO5 HO7 HO9 HO11 HO13 HO17 HO20 HO29 HO31 HO33; have HB := n0_; have HO3 := n1_; have HO5 := n2_; have HO7 := n3_; have HO9 := n4_; have HO11 := n5_; have HO13 := n6_; have HO17 := n7_; have HO20 := n8_; have HO29 := n9_; have HO31 := n10_; have HO33 := n11_; clear n0_ n1_ n2_ n3_ n4_ n5_ n6_ n7_ n8_ n9_ n10_ n11_; clear hb hs_) | (go_at_call 14; (with_reducible refine (laws_sameFloat.calls k t32_1 t6_1 true _  A35.out).mono ?_); rintro e w1035 ⟨rfl, hd⟩; have hb := hd.below; clear hd; have hs_ := below_size HB.out; have n0_ := am_ (below_step HB.out hb); have n1_ := am_ (Kd.R_below HO3.out hb); have n2_ := am_ (Kd.R_below HO5.out hb); have n3_ := am_ (Kd.R_below HO7.out hb); have n4_ := am_ (Kd.R_below HO9.out hb); have n5_ := am_ (Kd.R_below HO11.out hb); have n6_ := am_ (Kd.R_below HO13.out hb); have n7_ := am_ (Kd.R_below HO17.out hb); have n8_ := am_ (Kd.R_below HO20.out hb); have n9_ := am_ (Kd.R_below HO29.out hb); have n10_ := am_ (Kd.R_below HO31.out hb); have n11_ := am_ (Kd.R_below HO33.out hb); have SZ24 := am_ (show w1034.heap.size ≤ w1035.heap.size from (hb).size); clear HB HO3 HO5 HO7 HO9 HO11 HO13 HO17 HO20 HO29 HO31 HO33; have HB := n0_; have HO3 := n1_; have HO5 := n2_; have HO7 := n3_; have HO9 := n4_; have HO11 := n5_; have HO13 := n6_; have HO17 := n7_; have HO20 := n8_; have HO29 := n9_; have HO31 := n10_; have HO33 := n11_; clear n0_ n1_ n2_ n3_ n4_ n5_ n6_ n7_ n8_ n9_ n10_ n11_; clear hb hs_) | (go_at_call 34; refine calls_of_args (args' := #[.slice A_13 t26_1.length c_13, .int .i64 1]) (by first | (rw [show t26_1.length = t12_0.length from (Kd.R_reads' HO13.out).1.symm] <;> rfl) | rfl) ?_; (with_reducible refine (laws_heldFloat64S.calls k _ _ t26_1 1 t36 _ ?sd36_1 ?sd36_2 A36.out).mono ?_); (case sd36_1 => exact (Kd.R_reads' HO13.out).2.2); (case sd36_2 => exact (by rw [show t26_1.length = t12_0.length from (Kd.R_reads' HO13.out).1.symm]; exact (Kd.R_reads' HO13.out).2.1)); rintro e w1036 ⟨rfl, hd⟩; have hb := hd.below; clear hd; have hs_ := below_size HB.out; have n0_ := am_ (below_step HB.out hb); have n1_ := am_ (Kd.R_below HO3.out hb); have n2_ := am_ (Kd.R_below HO5.out hb); have n3_ := am_ (Kd.R_below HO7.out hb); have n4_ := am_ (Kd.R_below HO9.out hb); have n5_ := am_ (Kd.R_below HO11.out hb); have n6_ := am_ (Kd.R_below HO13.out hb); have n7_ := am_ (Kd.R_below HO17.out hb); have n8_ := am_ (Kd.R_below HO20.out hb); have n9_ := am_ (Kd.R_below HO29.out hb); have n10_ := am_ (Kd.R_below HO31.out hb); have n11_ := am_ (Kd.R_below HO33.out hb); have SZ25 := am_ (show w1035.heap.size ≤ w1036.heap.size from (hb).size); clear HB HO3 HO5 HO7 HO9 HO11 HO13 HO17 HO20 HO29 HO31 HO33; have HB := n0_; have HO3 := n1_; have HO5 := n2_; have HO7 := n3_; have HO9 := n4_; have HO11 := n5_; have HO13 := n6_; have HO17 := n7_; have HO20 := n8_; have HO29 := n9_; have HO31 := n10_; have HO33 := n11_; clear n0_ n1_ n2_ n3_ n4_ n5_ n6_ n7_ n8_ n9_ n10_ n11_; clear hb hs_))
  go_ret
  exact ⟨rfl, HB.out⟩

/-! the law's reading -/
def ok24 (z : S24) : Prop := ((Lit.float .f64 z.f0.toNat).wf = true) ∧ ((Lit.float .f64 z.f1.toNat).wf = true) ∧ ((Lit.float .f64 z.f2.toNat).wf = true) ∧ ((Lit.float .f64 z.f3.toNat).wf = true) ∧ ((Lit.float .f64 z.f4.toNat).wf = true)
def ok80 (z : S80) : Prop := ((Lit.float .f64 z.f0.toNat).wf = true) ∧ (ok24 z.f1) ∧ ((Lit.int .i64 z.f2).wf = true)
/-- THE ONE PURE STATEMENT of laws_FnExactRunBuses. -/
def laws_FnExactRunBuses.Pure : Prop := ∀ (l0 : List (S80)) (l1 : List Int), (l0.length ≤ maxLen ∧ ∀ z256 ∈ l0, ok80 z256) → (l1.length ≤ maxLen ∧ ∀ z257 ∈ l1, (Lit.float .f64 z257.toNat).wf = true) → ∃ k, laws_FnExactRunBuses.f k l0 l1 = some true


end Go.Proofs.Ytbjdhmgednhdgaa.XFnExactRunBuses
