/- What the Go functions that this law comes to compute, each walked; written by a program of this session. -/
import Derived.Test.YtfgdfnnddoncjaaXShort
import Derived.Test.YtfgdfnnddoncjaaXMark
import Derived.Test.YtfgdfnnddoncjaaXFnExactMeantByx0
import Derived.Test.YtfgdfnnddoncjaaXFnExactMeantByx1
import Derived.Test.YtfgdfnnddoncjaaXFnExactMeantByx2
import Derived.Test.YtfgdfnnddoncjaaXFnExactMeantByx7
import Derived.Test.YtfgdfnnddoncjaaXFnExactMeantByx8
import Derived.Test.YtfgdfnnddoncjaaXFnExactMeantByx12
import Derived.Test.YtfgdfnnddoncjaaXFnExactMeantByx13
import Derived.Test.YtfgdfnnddoncjaaXFnExactMeantByx14
namespace Go.Proofs.Ytfgdfnnddoncjaa.XFnExactMeantBy
open Go.RowKit Go.Proofs.YtfgdfnnddoncjaaW.PrintWords Go.Proofs.YtfgdfnnddoncjaaW.PrintLast Go.Proofs.YtfgdfnnddoncjaaW.PrintMore
attribute [local go_sem] str_geq max2_int min2_int max_two min_two max_three min_three max_four min_four   -- for this text's walks alone
set_option linter.unusedVariables false
set_option linter.unusedSimpArgs false

/-! ### laws_FnExactMeantBy: function 4 -/
def laws_FnExactMeantBy.f (k : Nat) (l0 : List (S49)) (l1 : List (S71)) : Option (Bool) := (laws_szBindS.f k l0 1048576).bind fun t1 => if t1 < 0 then some true else ((laws_szPressS.f l1 t1).bind fun t2 => if t2 < 0 then some true else ((laws_toBindS.f k l0).bind fun t3 => (laws_toPressS.f k l1).bind fun t5 => (spec_MeantBy.f k t3 t5).bind fun t7 => (laws_toBindS.f k l0).bind fun t9 => (laws_toPressS.f k l1).bind fun t11 => (impl_MeantBy.f k t9 t11).bind fun t13 => (laws_eqMeantS.f k t13.1 t7.1).bind fun t15 => if t15 = true then (if t13.2 = t7.2 then ((laws_toBindS.f k l0).bind fun t16 => (laws_eqBindS.f k t9 t16).bind fun t18 => if t18 = true then ((laws_toPressS.f k l1).bind fun t19 => (laws_eqPressS.f k t11 t19).bind fun t21 => if t21 = true then ((laws_markBindS.f k t9 1).bind fun t22 => (laws_markPressS.f k t11 t22.1).bind fun t23 => if ¬ (t23.1 < 0) then ((laws_eqMeantS.f k t13.1 t7.1).bind fun t24 => if t24 = true then (if t13.2 = t7.2 then ((laws_markMeantS.f k t13.1 1).bind fun t25 => (laws_heldMeantS.f k t25.2 1).bind fun t26 => if ¬ (t26 < 0) then (if t26 = t25.1 then ((laws_toBindS.f k l0).bind fun t27 => (laws_toPressS.f k l1).bind fun t29 => (impl_MeantBy.f k t27 t29).bind fun t31 => (laws_eqMeantS.f k t31.1 t7.1).bind fun t33 => if t33 = true then (if t31.2 = t7.2 then ((laws_heldMeantS.f k t25.2 1).bind fun t34 => if ¬ (t34 < 0) then (if t34 = t25.1 then (some true) else none) else none) else none) else none) else none) else none) else none) else none) else none) else none) else none) else none) else none))
theorem laws_FnExactMeantBy.mono : ∀ a0 a1 k, LeO (laws_FnExactMeantBy.f k a0 a1) (laws_FnExactMeantBy.f (k + 1) a0 a1) := by
  intro a0 a1 k
  unfold laws_FnExactMeantBy.f
  repeat' first
  | (with_reducible exact laws_szBindS.mono _ _ _)
  | (with_reducible exact laws_toBindS.mono _ _)
  | (with_reducible exact laws_eqBindS.mono _ _ _)
  | (with_reducible exact laws_markBindS.mono _ _ _)
  | (with_reducible exact spec_MeantBy.mono _ _ _)
  | (with_reducible exact laws_toPressS.mono _ _)
  | (with_reducible exact impl_MeantBy.mono _ _ _)
  | (with_reducible exact laws_eqMeantS.mono _ _ _)
  | (with_reducible exact laws_eqPressS.mono _ _ _)
  | (with_reducible exact laws_markPressS.mono _ _ _)
  | (with_reducible exact laws_markMeantS.mono _ _ _)
  | (with_reducible exact laws_heldMeantS.mono _ _ _)
  | (with_reducible exact LeO.refl _)
  | (with_reducible exact LeO.none _)
  | (with_reducible refine LeO.ite ?_ ?_)
  | refine LeO.bind ?_ (fun _ => ?_)
  | exact LeO.none _
set_option maxHeartbeats 8000000 in
set_option maxRecDepth 100000 in
theorem laws_FnExactMeantBy.calls (k : Nat) (A0 : Option Addr) (c0 : Nat) (l0 : List (S49)) (A1 : Option Addr) (c1 : Nat) (l1 : List (S71)) (r : Bool) (w : World) (hr0 : Kd.C k49 w A0 l0.length l0) (hc0 : l0.length ≤ c0) (hr1 : Kd.C k71 w A1 l1.length l1) (hc1 : l1.length ≤ c1) (h : laws_FnExactMeantBy.f k l0 l1 = some r) :
    Calls Try.prog 4 #[.slice A0 l0.length c0, .slice A1 l1.length c1] w fun e w' => e = .returned (.bool r) ∧ Below w.heap.size w w' := by
  have HR0 := am_ hr0
  have HC0 := am_ hc0
  clear hr0 hc0
  have HR1 := am_ hr1
  have HC1 := am_ hc1
  clear hr1 hc1
  have HB := am_ (Below.refl w.heap.size w)
  unfold laws_FnExactMeantBy.f at h
  have H := h
  clear h
  replace H := bE_ H
  obtain ⟨t1, hA1, H⟩ := H
  have A1 := am_ hA1
  clear hA1
  by_cases c_ : t1 < 0
  · rw [if_pos c_] at H
    have fb35 : decide (t1 < 0) = true := decide_eq_true c_
    clear c_
    obtain rfl := Option.some.inj H
    go_enter Try.func4, Try.ntmps4
    go_wp2_with (first | (go_at_call 5; (with_reducible refine (laws_szBindS.calls k _ _ l0 1048576 t1 _ ?sd1_1 ?sd1_2 A1.out).mono ?_); (case sd1_1 => exact Kd.C_below HR0.out HB.out); (case sd1_2 => exact HC0.out); rintro e w1001 ⟨rfl, hb⟩; have hs_ := below_size HB.out; have n0_ := am_ (below_step HB.out hb); have SZ1 := am_ (show w.heap.size ≤ w1001.heap.size from (hb).size); replace HB := n0_; clear n0_; clear hb hs_))
    go_ret
    exact ⟨rfl, HB.out⟩
  rw [if_neg c_] at H
  have fb36 : decide (t1 < 0) = false := decide_eq_false c_
  clear c_
  replace H := bE_ H
  obtain ⟨t2, hA2, H⟩ := H
  have A2 := am_ hA2
  clear hA2
  by_cases c_ : t2 < 0
  · rw [if_pos c_] at H
    have fb37 : decide (t2 < 0) = true := decide_eq_true c_
    clear c_
    obtain rfl := Option.some.inj H
    go_enter Try.func4, Try.ntmps4
    go_wp2_with (first | (go_at_call 5; (with_reducible refine (laws_szBindS.calls k _ _ l0 1048576 t1 _ ?sd1_1 ?sd1_2 A1.out).mono ?_); (case sd1_1 => exact Kd.C_below HR0.out HB.out); (case sd1_2 => exact HC0.out); rintro e w1001 ⟨rfl, hb⟩; have hs_ := below_size HB.out; have n0_ := am_ (below_step HB.out hb); have SZ1 := am_ (show w.heap.size ≤ w1001.heap.size from (hb).size); replace HB := n0_; clear n0_; clear hb hs_) | (go_at_call 15; (with_reducible refine (laws_szPressS.calls _ _ l1 t1 t2 _ ?sd2_1 ?sd2_2 A2.out).mono ?_); (case sd2_1 => exact Kd.C_below HR1.out HB.out); (case sd2_2 => exact HC1.out); rintro e w1002 ⟨rfl, hd⟩; have hb := hd.below; clear hd; have hs_ := below_size HB.out; have n0_ := am_ (below_step HB.out hb); have SZ2 := am_ (show w1001.heap.size ≤ w1002.heap.size from (hb).size); replace HB := n0_; clear n0_; clear hb hs_))
    go_ret
    exact ⟨rfl, HB.out⟩
  rw [if_neg c_] at H
  have fb38 : decide (t2 < 0) = false := decide_eq_false c_
  clear c_
  replace H := bE_ H
  obtain ⟨t3, hA3, H⟩ := H
  have A3 := am_ hA3
  clear hA3
  replace H := bE_ H
  obtain ⟨t5, hA5, H⟩ := H
  have A5 := am_ hA5
  clear hA5
  replace H := bE_ H
  obtain ⟨⟨t7_0, t7_1⟩, hA7, H⟩ := H
  try dsimp only at H
  have A7 := am_ hA7
  clear hA7
  replace H := bE_ H
  obtain ⟨t9, hA9, H⟩ := H
  have A9 := am_ hA9
  clear hA9
  replace H := bE_ H
  obtain ⟨t11, hA11, H⟩ := H
  have A11 := am_ hA11
  clear hA11
  replace H := bE_ H
  obtain ⟨⟨t13_0, t13_1⟩, hA13, H⟩ := H
  try dsimp only at H
  have A13 := am_ hA13
  clear hA13
  replace H := bE_ H
  obtain ⟨t15, hA15, H⟩ := H
  have A15 := am_ hA15
  clear hA15
  replace H := nd_ H
  obtain ⟨c_, H⟩ := H
  subst c_
  replace H := nd_ H
  obtain ⟨c_, H⟩ := H
  subst c_
  first | have fb39 : (t13_1 == t13_1) = true := beq_self_eq_true _ | have fb39 : (t13_1.toList == t13_1.toList) = true := beq_self_eq_true _
  first | have fb40 : (t13_1 != t13_1) = false := by simp | have fb40 : (t13_1.toList != t13_1.toList) = false := by simp
  replace H := bE_ H
  obtain ⟨t16, hA16, H⟩ := H
  have A16 := am_ hA16
  clear hA16
  replace H := bE_ H
  obtain ⟨t18, hA18, H⟩ := H
  have A18 := am_ hA18
  clear hA18
  replace H := nd_ H
  obtain ⟨c_, H⟩ := H
  subst c_
  replace H := bE_ H
  obtain ⟨t19, hA19, H⟩ := H
  have A19 := am_ hA19
  clear hA19
  replace H := bE_ H
  obtain ⟨t21, hA21, H⟩ := H
  have A21 := am_ hA21
  clear hA21
  replace H := nd_ H
  obtain ⟨c_, H⟩ := H
  subst c_
  replace H := bE_ H
  obtain ⟨⟨t22_0, t22_1⟩, hA22, H⟩ := H
  try dsimp only at H
  have A22 := am_ hA22
  clear hA22
  replace H := bE_ H
  obtain ⟨⟨t23_0, t23_1⟩, hA23, H⟩ := H
  try dsimp only at H
  have A23 := am_ hA23
  clear hA23
  replace H := nd_ H
  obtain ⟨c_, H⟩ := H
  have fb41 : decide (t23_0 < 0) = false := decide_eq_false c_
  clear c_
  replace H := bE_ H
  obtain ⟨t24, hA24, H⟩ := H
  have A24 := am_ hA24
  clear hA24
  replace H := nd_ H
  obtain ⟨c_, H⟩ := H
  subst c_
  replace H := nd_ H
  obtain ⟨c_, H⟩ := H
  clear c_
  replace H := bE_ H
  obtain ⟨⟨t25_0, t25_1⟩, hA25, H⟩ := H
  try dsimp only at H
  have A25 := am_ hA25
  clear hA25
  replace H := bE_ H
  obtain ⟨t26, hA26, H⟩ := H
  have A26 := am_ hA26
  clear hA26
  replace H := nd_ H
  obtain ⟨c_, H⟩ := H
  have fb42 : decide (t26 < 0) = false := decide_eq_false c_
  clear c_
  replace H := nd_ H
  obtain ⟨c_, H⟩ := H
  subst c_
  first | have fb43 : (t26 == t26) = true := beq_self_eq_true _ | have fb43 : (t26.toList == t26.toList) = true := beq_self_eq_true _
  first | have fb44 : (t26 != t26) = false := by simp | have fb44 : (t26.toList != t26.toList) = false := by simp
  replace H := bE_ H
  obtain ⟨t27, hA27, H⟩ := H
  have A27 := am_ hA27
  clear hA27
  replace H := bE_ H
  obtain ⟨t29, hA29, H⟩ := H
  have A29 := am_ hA29
  clear hA29
  replace H := bE_ H
  obtain ⟨⟨t31_0, t31_1⟩, hA31, H⟩ := H
  try dsimp only at H
  have A31 := am_ hA31
  clear hA31
  replace H := bE_ H
  obtain ⟨t33, hA33, H⟩ := H
  have A33 := am_ hA33
  clear hA33
  replace H := nd_ H
  obtain ⟨c_, H⟩ := H
  subst c_
  replace H := nd_ H
  obtain ⟨c_, H⟩ := H
  subst c_
  first | have fb45 : (t31_1 == t31_1) = true := beq_self_eq_true _ | have fb45 : (t31_1.toList == t31_1.toList) = true := beq_self_eq_true _
  first | have fb46 : (t31_1 != t31_1) = false := by simp | have fb46 : (t31_1.toList != t31_1.toList) = false := by simp
  replace H := bE_ H
  obtain ⟨t34, hA34, H⟩ := H
  have A34 := am_ hA34
  clear hA34
  replace H := nd_ H
  obtain ⟨c_, H⟩ := H
  have fb47 : decide (t34 < 0) = false := decide_eq_false c_
  clear c_
  replace H := nd_ H
  obtain ⟨c_, H⟩ := H
  subst c_
  first | have fb48 : (t34 == t34) = true := beq_self_eq_true _ | have fb48 : (t34.toList == t34.toList) = true := beq_self_eq_true _
  first | have fb49 : (t34 != t34) = false := by simp | have fb49 : (t34.toList != t34.toList) = false := by simp
  obtain rfl := Option.some.inj H
  go_enter Try.func4, Try.ntmps4
  go_wp2_with (first | (go_at_call 5; (with_reducible refine (laws_szBindS.calls k _ _ l0 1048576 t1 _ ?sd1_1 ?sd1_2 A1.out).mono ?_); (case sd1_1 => exact Kd.C_below HR0.out HB.out); (case sd1_2 => exact HC0.out); rintro e w1001 ⟨rfl, hb⟩; have hs_ := below_size HB.out; have n0_ := am_ (below_step HB.out hb); have SZ1 := am_ (show w.heap.size ≤ w1001.heap.size from (hb).size); replace HB := n0_; clear n0_; clear hb hs_) | (go_at_call 15; (with_reducible refine (laws_szPressS.calls _ _ l1 t1 t2 _ ?sd2_1 ?sd2_2 A2.out).mono ?_); (case sd2_1 => exact Kd.C_below HR1.out HB.out); (case sd2_2 => exact HC1.out); rintro e w1002 ⟨rfl, hd⟩; have hb := hd.below; clear hd; have hs_ := below_size HB.out; have n0_ := am_ (below_step HB.out hb); have SZ2 := am_ (show w1001.heap.size ≤ w1002.heap.size from (hb).size); replace HB := n0_; clear n0_; clear hb hs_) | (go_at_call 7; (with_reducible refine (laws_toBindS.calls k _ _ l0 t3 _ ?sd3_1 ?sd3_2 A3.out).mono ?_); (case sd3_1 => exact Kd.C_below HR0.out HB.out); (case sd3_2 => exact HC0.out); rintro e w1003 ⟨v_4, rfl, ho0, hb⟩; have hs_ := below_size HB.out; have n0_ := am_ (below_step HB.out hb); have SZ3 := am_ (show w1002.heap.size ≤ w1003.heap.size from (hb).size); replace HB := n0_; clear n0_; have HO4 := am_ (S_zone ho0 hs_); clear ho0; obtain ⟨A_4, c_4, e_4⟩ := Kd.S_slice HO4.out; subst e_4; clear hb hs_) | (go_at_call 17; (with_reducible refine (laws_toPressS.calls k _ _ l1 t5 _ ?sd5_1 ?sd5_2 A5.out).mono ?_); (case sd5_1 => exact Kd.C_below HR1.out HB.out); (case sd5_2 => exact HC1.out); rintro e w1005 ⟨v_6, rfl, ho0, hb⟩; have hs_ := below_size HB.out; have n0_ := am_ (below_step HB.out hb); have n1_ := am_ (Kd.S_below HO4.out hb); have SZ4 := am_ (show w1003.heap.size ≤ w1005.heap.size from (hb).size); clear HB HO4; have HB := n0_; have HO4 := n1_; clear n0_ n1_; have HO6 := am_ (R_zone ho0 hs_); clear ho0; obtain ⟨A_6, c_6, e_6⟩ := Kd.R_slice HO6.out; subst e_6; clear hb hs_) | (go_at_call 16; (with_reducible refine (spec_MeantBy.calls k _ _ t3 _ _ t5 t7_0 t31_1 _ ?sd7_1 ?sd7_2 ?sd7_3 ?sd7_4 A7.out).mono ?_); (case sd7_1 => exact (Kd.S_reads' HO4.out).2.2); (case sd7_2 => exact (Kd.S_reads' HO4.out).2.1); (case sd7_3 => exact (Kd.R_reads' HO6.out).2.2); (case sd7_4 => exact (Kd.R_reads' HO6.out).2.1); rintro e w1007 ⟨v_8, rfl, ho0, hb⟩; have hs_ := below_size HB.out; have n0_ := am_ (below_step HB.out hb); have n1_ := am_ (Kd.S_below HO4.out hb); have n2_ := am_ (Kd.R_below HO6.out hb); have SZ5 := am_ (show w1005.heap.size ≤ w1007.heap.size from (hb).size); clear HB HO4 HO6; have HB := n0_; have HO4 := n1_; have HO6 := n2_; clear n0_ n1_ n2_; have HO8 := am_ (R_zone ho0 hs_); clear ho0; obtain ⟨A_8, c_8, e_8⟩ := Kd.R_slice HO8.out; subst e_8; clear hb hs_) | (go_at_call 7; (with_reducible refine (laws_toBindS.calls k _ _ l0 t9 _ ?sd9_1 ?sd9_2 A9.out).mono ?_); (case sd9_1 => exact Kd.C_below HR0.out HB.out); (case sd9_2 => exact HC0.out); rintro e w1009 ⟨v_10, rfl, ho0, hb⟩; have hs_ := below_size HB.out; have n0_ := am_ (below_step HB.out hb); have n1_ := am_ (Kd.S_below HO4.out hb); have n2_ := am_ (Kd.R_below HO6.out hb); have n3_ := am_ (Kd.R_below HO8.out hb); have SZ6 := am_ (show w1007.heap.size ≤ w1009.heap.size from (hb).size); clear HB HO4 HO6 HO8; have HB := n0_; have HO4 := n1_; have HO6 := n2_; have HO8 := n3_; clear n0_ n1_ n2_ n3_; have HO10 := am_ (S_zone ho0 hs_); clear ho0; obtain ⟨A_10, c_10, e_10⟩ := Kd.S_slice HO10.out; subst e_10; clear hb hs_) | (go_at_call 17; (with_reducible refine (laws_toPressS.calls k _ _ l1 t11 _ ?sd11_1 ?sd11_2 A11.out).mono ?_); (case sd11_1 => exact Kd.C_below HR1.out HB.out); (case sd11_2 => exact HC1.out); rintro e w1011 ⟨v_12, rfl, ho0, hb⟩; have hs_ := below_size HB.out; have n0_ := am_ (below_step HB.out hb); have n1_ := am_ (Kd.S_below HO4.out hb); have n2_ := am_ (Kd.R_below HO6.out hb); have n3_ := am_ (Kd.R_below HO8.out hb); have n4_ := am_ (Kd.S_below HO10.out hb); have SZ7 := am_ (show w1009.heap.size ≤ w1011.heap.size from (hb).size); clear HB HO4 HO6 HO8 HO10; have HB := n0_; have HO4 := n1_; have HO6 := n2_; have HO8 := n3_; have HO10 := n4_; clear n0_ n1_ n2_ n3_ n4_; have HO12 := am_ (R_zone ho0 hs_); clear ho0; obtain ⟨A_12, c_12, e_12⟩ := Kd.R_slice HO12.out; subst e_12; clear hb hs_) | (go_at_call 18; (with_reducible refine (impl_MeantBy.calls k _ _ t9 _ _ t11 t13_0 t31_1 _ ?sd13_1 ?sd13_2 ?sd13_3 ?sd13_4 A13.out).mono ?_); (case sd13_1 => exact (Kd.S_reads' HO10.out).2.2); (case sd13_2 => exact (Kd.S_reads' HO10.out).2.1); (case sd13_3 => exact (Kd.R_reads' HO12.out).2.2); (case sd13_4 => exact (Kd.R_reads' HO12.out).2.1); rintro e w1013 ⟨v_14, rfl, ho0, hb⟩; have hs_ := below_size HB.out; have n0_ := am_ (below_step HB.out hb); have n1_ := am_ (Kd.S_below HO4.out hb); have n2_ := am_ (Kd.R_below HO6.out hb); have n3_ := am_ (Kd.R_below HO8.out hb); have n4_ := am_ (Kd.S_below HO10.out hb); have n5_ := am_ (Kd.R_below HO12.out hb); have SZ8 := am_ (show w1011.heap.size ≤ w1013.heap.size from (hb).size); clear HB HO4 HO6 HO8 HO10 HO12; have HB := n0_; have HO4 := n1_; have HO6 := n2_; have HO8 := n3_; have HO10 := n4_; have HO12 := n5_; clear n0_ n1_ n2_ n3_ n4_ n5_; have HO14 := am_ (R_zone ho0 hs_); clear ho0; obtain ⟨A_14, c_14, e_14⟩ := Kd.R_slice HO14.out; subst e_14; clear hb hs_) | (go_at_call 19; (with_reducible refine (laws_eqMeantS.calls k _ _ t13_0 _ _ t7_0 true _ ?sd15_1 ?sd15_2 ?sd15_3 ?sd15_4 A15.out).mono ?_); (case sd15_1 => exact (Kd.R_reads' HO14.out).2.2); (case sd15_2 => exact (Kd.R_reads' HO14.out).2.1); (case sd15_3 => exact (Kd.R_reads' HO8.out).2.2); (case sd15_4 => exact (Kd.R_reads' HO8.out).2.1); rintro e w1015 ⟨rfl, hb⟩; have hs_ := below_size HB.out; have n0_ := am_ (below_step HB.out hb); have n1_ := am_ (Kd.S_below HO4.out hb); have n2_ := am_ (Kd.R_below HO6.out hb); have n3_ := am_ (Kd.R_below HO8.out hb); have n4_ := am_ (Kd.S_below HO10.out hb); have n5_ := am_ (Kd.R_below HO12.out hb); have n6_ := am_ (Kd.R_below HO14.out hb); have SZ9 := am_ (show w1013.heap.size ≤ w1015.heap.size from (hb).size); clear HB HO4 HO6 HO8 HO10 HO12 HO14; have HB := n0_; have HO4 := n1_; have HO6 := n2_; have HO8 := n3_; have HO10 := n4_; have HO12 := n5_; have HO14 := n6_; clear n0_ n1_ n2_ n3_ n4_ n5_ n6_; clear hb hs_) | (go_at_call 7; (with_reducible refine (laws_toBindS.calls k _ _ l0 t16 _ ?sd16_1 ?sd16_2 A16.out).mono ?_); (case sd16_1 => exact Kd.C_below HR0.out HB.out); (case sd16_2 => exact HC0.out); rintro e w1016 ⟨v_17, rfl, ho0, hb⟩; have hs_ := below_size HB.out; have n0_ := am_ (below_step HB.out hb); have n1_ := am_ (Kd.S_below HO4.out hb); have n2_ := am_ (Kd.R_below HO6.out hb); have n3_ := am_ (Kd.R_below HO8.out hb); have n4_ := am_ (Kd.S_below HO10.out hb); have n5_ := am_ (Kd.R_below HO12.out hb); have n6_ := am_ (Kd.R_below HO14.out hb); have SZ10 := am_ (show w1015.heap.size ≤ w1016.heap.size from (hb).size); clear HB HO4 HO6 HO8 HO10 HO12 HO14; have HB := n0_; have HO4 := n1_; have HO6 := n2_; have HO8 := n3_; have HO10 := n4_; have HO12 := n5_; have HO14 := n6_; clear n0_ n1_ n2_ n3_ n4_ n5_ n6_; have HO17 := am_ (S_zone ho0 hs_); clear ho0; obtain ⟨A_17, c_17, e_17⟩ := Kd.S_slice HO17.out; subst e_17; clear hb hs_) | (go_at_call 10; (with_reducible refine (laws_eqBindS.calls k _ _ t9 _ _ t16 true _ ?sd18_1 ?sd18_2 ?sd18_3 ?sd18_4 A18.out).mono ?_); (case sd18_1 => exact (Kd.S_reads' HO10.out).2.2); (case sd18_2 => exact (Kd.S_reads' HO10.out).2.1); (case sd18_3 => exact (Kd.S_reads' HO17.out).2.2); (case sd18_4 => exact (Kd.S_reads' HO17.out).2.1); rintro e w1018 ⟨rfl, hb⟩; have hs_ := below_size HB.out; have n0_ := am_ (below_step HB.out hb); have n1_ := am_ (Kd.S_below HO4.out hb); have n2_ := am_ (Kd.R_below HO6.out hb); have n3_ := am_ (Kd.R_below HO8.out hb); have n4_ := am_ (Kd.S_below HO10.out hb); have n5_ := am_ (Kd.R_below HO12.out hb); have n6_ := am_ (Kd.R_below HO14.out hb); have n7_ := am_ (Kd.S_below HO17.out hb); have SZ11 := am_ (show w1016.heap.size ≤ w1018.heap.size from (hb).size); clear HB HO4 HO6 HO8 HO10 HO12 HO14 HO17; have HB := n0_; have HO4 := n1_; have HO6 := n2_; have HO8 := n3_; have HO10 := n4_; have HO12 := n5_; have HO14 := n6_; have HO17 := n7_; clear n0_ n1_ n2_ n3_ n4_ n5_ n6_ n7_; clear hb hs_) | (go_at_call 17; (with_reducible refine (laws_toPressS.calls k _ _ l1 t19 _ ?sd19_1 ?sd19_2 A19.out).mono ?_); (case sd19_1 => exact Kd.C_below HR1.out HB.out); (case sd19_2 => exact HC1.out); rintro e w1019 ⟨v_20, rfl, ho0, hb⟩; have hs_ := below_size HB.out; have n0_ := am_ (below_step HB.out hb); have n1_ := am_ (Kd.S_below HO4.out hb); have n2_ := am_ (Kd.R_below HO6.out hb); have n3_ := am_ (Kd.R_below HO8.out hb); have n4_ := am_ (Kd.S_below HO10.out hb); have n5_ := am_ (Kd.R_below HO12.out hb); have n6_ := am_ (Kd.R_below HO14.out hb); have n7_ := am_ (Kd.S_below HO17.out hb); have SZ12 := am_ (show w1018.heap.size ≤ w1019.heap.size from (hb).size); clear HB HO4 HO6 HO8 HO10 HO12 HO14 HO17; have HB := n0_; have HO4 := n1_; have HO6 := n2_; have HO8 := n3_; have HO10 := n4_; have HO12 := n5_; have HO14 := n6_; have HO17 := n7_; clear n0_ n1_ n2_ n3_ n4_ n5_ n6_ n7_; have HO20 := am_ (R_zone ho0 hs_); clear ho0; obtain ⟨A_20, c_20, e_20⟩ := Kd.R_slice HO20.out; subst e_20; clear hb hs_) | (go_at_call 20; (with_reducible refine (laws_eqPressS.calls k _ _ t11 _ _ t19 true _ ?sd21_1 ?sd21_2 ?sd21_3 ?sd21_4 A21.out).mono ?_); (case sd21_1 => exact (Kd.R_reads' HO12.out).2.2); (case sd21_2 => exact (Kd.R_reads' HO12.out).2.1); (case sd21_3 => exact (Kd.R_reads' HO20.out).2.2); (case sd21_4 => exact (Kd.R_reads' HO20.out).2.1); rintro e w1021 ⟨rfl, hb⟩; have hs_ := below_size HB.out; have n0_ := am_ (below_step HB.out hb); have n1_ := am_ (Kd.S_below HO4.out hb); have n2_ := am_ (Kd.R_below HO6.out hb); have n3_ := am_ (Kd.R_below HO8.out hb); have n4_ := am_ (Kd.S_below HO10.out hb); have n5_ := am_ (Kd.R_below HO12.out hb); have n6_ := am_ (Kd.R_below HO14.out hb); have n7_ := am_ (Kd.S_below HO17.out hb); have n8_ := am_ (Kd.R_below HO20.out hb); have SZ13 := am_ (show w1019.heap.size ≤ w1021.heap.size from (hb).size); clear HB HO4 HO6 HO8 HO10 HO12 HO14 HO17 HO20; have HB := n0_; have HO4 := n1_; have HO6 := n2_; have HO8 := n3_; have HO10 := n4_; have HO12 := n5_; have HO14 := n6_; have HO17 := n7_; have HO20 := n8_; clear n0_ n1_ n2_ n3_ n4_ n5_ n6_ n7_ n8_; clear hb hs_) | (go_at_call 12; (with_reducible refine (laws_markBindS.callsP k (Zone w1007 w1009 (53 :: (k53).E)) (.slice A_10 t9.length c_10) t9 1 t22_0 t22_1 w _ ?sd22_1 ?sd22_2 A22.out).mono ?_); (case sd22_1 => exact HB.out); (case sd22_2 => exact HO10.out); rintro e w1022 ⟨rfl, hy0, hb, hkp⟩; have n0_ := am_ (hb); have n1_ := am_ (Kd.S_step HO4.out (fun k_ h_ hlt_ => hkp.2 k_ hlt_ (fun e_ => (show False from Zone.apart h_ e_ (by have := SZ4.out; have := SZ5.out; first | exact .inl (by omega) | exact .inr (by omega))).elim))); have n2_ := am_ (Kd.R_step HO6.out (fun k_ h_ hlt_ => hkp.2 k_ hlt_ (fun e_ => (show False from Zone.apart h_ e_ (by have := SZ5.out; first | exact .inl (by omega) | exact .inr (by omega))).elim))); have n3_ := am_ (Kd.R_step HO8.out (fun k_ h_ hlt_ => hkp.2 k_ hlt_ (fun e_ => (show False from Zone.apart h_ e_ (by first | exact .inl (by omega) | exact .inr (by omega))).elim))); have n4_ := am_ (hy0); have n5_ := am_ (Kd.R_step HO12.out (fun k_ h_ hlt_ => hkp.2 k_ hlt_ (fun e_ => (show False from Zone.apart h_ e_ (by first | exact .inl (by omega) | exact .inr (by omega))).elim))); have n6_ := am_ (Kd.R_step HO14.out (fun k_ h_ hlt_ => hkp.2 k_ hlt_ (fun e_ => (show False from Zone.apart h_ e_ (by have := SZ7.out; first | exact .inl (by omega) | exact .inr (by omega))).elim))); have n7_ := am_ (Kd.S_step HO17.out (fun k_ h_ hlt_ => hkp.2 k_ hlt_ (fun e_ => (show False from Zone.apart h_ e_ (by have := SZ7.out; have := SZ8.out; have := SZ9.out; first | exact .inl (by omega) | exact .inr (by omega))).elim))); have n8_ := am_ (Kd.R_step HO20.out (fun k_ h_ hlt_ => hkp.2 k_ hlt_ (fun e_ => (show False from Zone.apart h_ e_ (by have := SZ7.out; have := SZ8.out; have := SZ9.out; have := SZ10.out; have := SZ11.out; first | exact .inl (by omega) | exact .inr (by omega))).elim))); have SZ14 := am_ (show w1021.heap.size ≤ w1022.heap.size from hkp.1); clear HB HO4 HO6 HO8 HO10 HO12 HO14 HO17 HO20; have HB := n0_; have HO4 := n1_; have HO6 := n2_; have HO8 := n3_; have HO10 := n4_; have HO12 := n5_; have HO14 := n6_; have HO17 := n7_; have HO20 := n8_; clear n0_ n1_ n2_ n3_ n4_ n5_ n6_ n7_ n8_; clear hb hkp hy0) | (go_at_call 21; (with_reducible refine (laws_markPressS.calls k (Zone w1009 w1011 (65 :: (k65).E)) (.slice A_12 t11.length c_12) t11 t22_0 t23_0 t23_1 w _ ?sd23_1 ?sd23_2 A23.out).mono ?_); (case sd23_1 => exact HB.out); (case sd23_2 => exact HO12.out); rintro e w1023 ⟨rfl, hy0, hb, hkp⟩; have n0_ := am_ (hb); have n1_ := am_ (Kd.S_step HO4.out (fun k_ h_ hlt_ => hkp.2 k_ hlt_ (fun e_ => (show False from Zone.apart h_ e_ (by have := SZ4.out; have := SZ5.out; have := SZ6.out; first | exact .inl (by omega) | exact .inr (by omega))).elim))); have n2_ := am_ (Kd.R_step HO6.out (fun k_ h_ hlt_ => hkp.2 k_ hlt_ (fun e_ => (show False from Zone.apart h_ e_ (by have := SZ5.out; have := SZ6.out; first | exact .inl (by omega) | exact .inr (by omega))).elim))); have n3_ := am_ (Kd.R_step HO8.out (fun k_ h_ hlt_ => hkp.2 k_ hlt_ (fun e_ => (show False from Zone.apart h_ e_ (by have := SZ6.out; first | exact .inl (by omega) | exact .inr (by omega))).elim))); have n4_ := am_ (Kd.S_step HO10.out (fun k_ h_ hlt_ => hkp.2 k_ hlt_ (fun e_ => (show False from Zone.apart h_ e_ (by first | exact .inl (by omega) | exact .inr (by omega))).elim))); have n5_ := am_ (Kd.R_reok rfl hy0 HO12.out.1); have n6_ := am_ (Kd.R_step HO14.out (fun k_ h_ hlt_ => hkp.2 k_ hlt_ (fun e_ => (show False from Zone.apart h_ e_ (by first | exact .inl (by omega) | exact .inr (by omega))).elim))); have n7_ := am_ (Kd.S_step HO17.out (fun k_ h_ hlt_ => hkp.2 k_ hlt_ (fun e_ => (show False from Zone.apart h_ e_ (by have := SZ8.out; have := SZ9.out; first | exact .inl (by omega) | exact .inr (by omega))).elim))); have n8_ := am_ (Kd.R_step HO20.out (fun k_ h_ hlt_ => hkp.2 k_ hlt_ (fun e_ => (show False from Zone.apart h_ e_ (by have := SZ8.out; have := SZ9.out; have := SZ10.out; have := SZ11.out; first | exact .inl (by omega) | exact .inr (by omega))).elim))); have SZ15 := am_ (show w1022.heap.size ≤ w1023.heap.size from hkp.1); clear HB HO4 HO6 HO8 HO10 HO12 HO14 HO17 HO20; have HB := n0_; have HO4 := n1_; have HO6 := n2_; have HO8 := n3_; have HO10 := n4_; have HO12 := n5_; have HO14 := n6_; have HO17 := n7_; have HO20 := n8_; clear n0_ n1_ n2_ n3_ n4_ n5_ n6_ n7_ n8_; clear hb hkp hy0) | (go_at_call 19; (with_reducible refine (laws_eqMeantS.calls k _ _ t13_0 _ _ t7_0 true _ ?sd24_1 ?sd24_2 ?sd24_3 ?sd24_4 A24.out).mono ?_); (case sd24_1 => exact (Kd.R_reads' HO14.out).2.2); (case sd24_2 => exact (Kd.R_reads' HO14.out).2.1); (case sd24_3 => exact (Kd.R_reads' HO8.out).2.2); (case sd24_4 => exact (Kd.R_reads' HO8.out).2.1); rintro e w1024 ⟨rfl, hb⟩; have hs_ := below_size HB.out; have n0_ := am_ (below_step HB.out hb); have n1_ := am_ (Kd.S_below HO4.out hb); have n2_ := am_ (Kd.R_below HO6.out hb); have n3_ := am_ (Kd.R_below HO8.out hb); have n4_ := am_ (Kd.S_below HO10.out hb); have n5_ := am_ (Kd.R_below HO12.out hb); have n6_ := am_ (Kd.R_below HO14.out hb); have n7_ := am_ (Kd.S_below HO17.out hb); have n8_ := am_ (Kd.R_below HO20.out hb); have SZ16 := am_ (show w1023.heap.size ≤ w1024.heap.size from (hb).size); clear HB HO4 HO6 HO8 HO10 HO12 HO14 HO17 HO20; have HB := n0_; have HO4 := n1_; have HO6 := n2_; have HO8 := n3_; have HO10 := n4_; have HO12 := n5_; have HO14 := n6_; have HO17 := n7_; have HO20 := n8_; clear n0_ n1_ n2_ n3_ n4_ n5_ n6_ n7_ n8_; clear hb hs_) | (go_at_call 22; (with_reducible refine (laws_markMeantS.calls k (Zone w1011 w1013 (69 :: (k69).E)) (.slice A_14 t13_0.length c_14) t13_0 1 t34 t25_1 w _ ?sd25_1 ?sd25_2 A25.out).mono ?_); (case sd25_1 => exact HB.out); (case sd25_2 => exact HO14.out); rintro e w1025 ⟨rfl, hy0, hb, hkp⟩; have n0_ := am_ (hb); have n1_ := am_ (Kd.S_step HO4.out (fun k_ h_ hlt_ => hkp.2 k_ hlt_ (fun e_ => (show False from Zone.apart h_ e_ (by have := SZ4.out; have := SZ5.out; have := SZ6.out; have := SZ7.out; first | exact .inl (by omega) | exact .inr (by omega))).elim))); have n2_ := am_ (Kd.R_step HO6.out (fun k_ h_ hlt_ => hkp.2 k_ hlt_ (fun e_ => (show False from Zone.apart h_ e_ (by have := SZ5.out; have := SZ6.out; have := SZ7.out; first | exact .inl (by omega) | exact .inr (by omega))).elim))); have n3_ := am_ (Kd.R_step HO8.out (fun k_ h_ hlt_ => hkp.2 k_ hlt_ (fun e_ => (show False from Zone.apart h_ e_ (by have := SZ6.out; have := SZ7.out; first | exact .inl (by omega) | exact .inr (by omega))).elim))); have n4_ := am_ (Kd.S_step HO10.out (fun k_ h_ hlt_ => hkp.2 k_ hlt_ (fun e_ => (show False from Zone.apart h_ e_ (by have := SZ7.out; first | exact .inl (by omega) | exact .inr (by omega))).elim))); have n5_ := am_ (Kd.R_step HO12.out (fun k_ h_ hlt_ => hkp.2 k_ hlt_ (fun e_ => (show False from Zone.apart h_ e_ (by first | exact .inl (by omega) | exact .inr (by omega))).elim))); have n6_ := am_ (Kd.R_reok rfl hy0 HO14.out.1); have n7_ := am_ (Kd.S_step HO17.out (fun k_ h_ hlt_ => hkp.2 k_ hlt_ (fun e_ => (show False from Zone.apart h_ e_ (by have := SZ9.out; first | exact .inl (by omega) | exact .inr (by omega))).elim))); have n8_ := am_ (Kd.R_step HO20.out (fun k_ h_ hlt_ => hkp.2 k_ hlt_ (fun e_ => (show False from Zone.apart h_ e_ (by have := SZ9.out; have := SZ10.out; have := SZ11.out; first | exact .inl (by omega) | exact .inr (by omega))).elim))); have SZ17 := am_ (show w1024.heap.size ≤ w1025.heap.size from hkp.1); clear HB HO4 HO6 HO8 HO10 HO12 HO14 HO17 HO20; have HB := n0_; have HO4 := n1_; have HO6 := n2_; have HO8 := n3_; have HO10 := n4_; have HO12 := n5_; have HO14 := n6_; have HO17 := n7_; have HO20 := n8_; clear n0_ n1_ n2_ n3_ n4_ n5_ n6_ n7_ n8_; clear hb hkp hy0) | (go_at_call 23; refine calls_of_args (args' := #[.slice A_14 t25_1.length c_14, .int .i64 1]) (by first | (rw [show t25_1.length = t13_0.length from (Kd.R_reads' HO14.out).1.symm] <;> rfl) | rfl) ?_; (with_reducible refine (laws_heldMeantS.calls k _ _ t25_1 1 t34 _ ?sd26_1 ?sd26_2 A26.out).mono ?_); (case sd26_1 => exact (Kd.R_reads' HO14.out).2.2); (case sd26_2 => exact (by rw [show t25_1.length = t13_0.length from (Kd.R_reads' HO14.out).1.symm]; exact (Kd.R_reads' HO14.out).2.1)); rintro e w1026 ⟨rfl, hb⟩; have hs_ := below_size HB.out; have n0_ := am_ (below_step HB.out hb); have n1_ := am_ (Kd.S_below HO4.out hb); have n2_ := am_ (Kd.R_below HO6.out hb); have n3_ := am_ (Kd.R_below HO8.out hb); have n4_ := am_ (Kd.S_below HO10.out hb); have n5_ := am_ (Kd.R_below HO12.out hb); have n6_ := am_ (Kd.R_below HO14.out hb); have n7_ := am_ (Kd.S_below HO17.out hb); have n8_ := am_ (Kd.R_below HO20.out hb); have SZ18 := am_ (show w1025.heap.size ≤ w1026.heap.size from (hb).size); clear HB HO4 HO6 HO8 HO10 HO12 HO14 HO17 HO20; have HB := n0_; have HO4 := n1_; have HO6 := n2_; have HO8 := n3_; have HO10 := n4_; have HO12 := n5_; have HO14 := n6_; have HO17 := n7_; have HO20 := n8_; clear n0_ n1_ n2_ n3_ n4_ n5_ n6_ n7_ n8_; clear hb hs_) | (go_at_call 7; (with_reducible refine (laws_toBindS.calls k _ _ l0 t27 _ ?sd27_1 ?sd27_2 A27.out).mono ?_); (case sd27_1 => exact Kd.C_below HR0.out HB.out); (case sd27_2 => exact HC0.out); rintro e w1027 ⟨v_28, rfl, ho0, hb⟩; have hs_ := below_size HB.out; have n0_ := am_ (below_step HB.out hb); have n1_ := am_ (Kd.S_below HO4.out hb); have n2_ := am_ (Kd.R_below HO6.out hb); have n3_ := am_ (Kd.R_below HO8.out hb); have n4_ := am_ (Kd.S_below HO10.out hb); have n5_ := am_ (Kd.R_below HO12.out hb); have n6_ := am_ (Kd.R_below HO14.out hb); have n7_ := am_ (Kd.S_below HO17.out hb); have n8_ := am_ (Kd.R_below HO20.out hb); have SZ19 := am_ (show w1026.heap.size ≤ w1027.heap.size from (hb).size); clear HB HO4 HO6 HO8 HO10 HO12 HO14 HO17 HO20; have HB := n0_; have HO4 := n1_; have HO6 := n2_; have HO8 := n3_; have HO10 := n4_; have HO12 := n5_; have HO14 := n6_; have HO17 := n7_; have HO20 := n8_; clear n0_ n1_ n2_ n3_ n4_ n5_ n6_ n7_ n8_; have HO28 := am_ (S_zone ho0 hs_); clear ho0; obtain ⟨A_28, c_28, e_28⟩ := Kd.S_slice HO28.out; subst e_28; clear hb hs_) | (go_at_call 17; (with_reducible refine (laws_toPressS.calls k _ _ l1 t29 _ ?sd29_1 ?sd29_2 A29.out).mono ?_); (case sd29_1 => exact Kd.C_below HR1.out HB.out); (case sd29_2 => exact HC1.out); rintro e w1029 ⟨v_30, rfl, ho0, hb⟩; have hs_ := below_size HB.out; have n0_ := am_ (below_step HB.out hb); have n1_ := am_ (Kd.S_below HO4.out hb); have n2_ := am_ (Kd.R_below HO6.out hb); have n3_ := am_ (Kd.R_below HO8.out hb); have n4_ := am_ (Kd.S_below HO10.out hb); have n5_ := am_ (Kd.R_below HO12.out hb); have n6_ := am_ (Kd.R_below HO14.out hb); have n7_ := am_ (Kd.S_below HO17.out hb); have n8_ := am_ (Kd.R_below HO20.out hb); have n9_ := am_ (Kd.S_below HO28.out hb); have SZ20 := am_ (show w1027.heap.size ≤ w1029.heap.size from (hb).size); clear HB HO4 HO6 HO8 HO10 HO12 HO14 HO17 HO20 HO28; have HB := n0_; have HO4 := n1_; have HO6 := n2_; have HO8 := n3_; have HO10 := n4_; have HO12 := n5_; have HO14 := n6_; have HO17 := n7_; have HO20 := n8_; have HO28 := n9_; clear n0_ n1_ n2_ n3_ n4_ n5_ n6_ n7_ n8_ n9_; have HO30 := am_ (R_zone ho0 hs_); clear ho0; obtain ⟨A_30, c_30, e_30⟩ := Kd.R_slice HO30.out; subst e_30; clear hb hs_) | (go_at_call 18; (with_reducible refine (impl_MeantBy.calls k _ _ t27 _ _ t29 t31_0 t31_1 _ ?sd31_1 ?sd31_2 ?sd31_3 ?sd31_4 A31.out).mono ?_); (case sd31_1 => exact (Kd.S_reads' HO28.out).2.2); (case sd31_2 => exact (Kd.S_reads' HO28.out).2.1); (case sd31_3 => exact (Kd.R_reads' HO30.out).2.2); (case sd31_4 => exact (Kd.R_reads' HO30.out).2.1); rintro e w1031 ⟨v_32, rfl, ho0, hb⟩; have hs_ := below_size HB.out; have n0_ := am_ (below_step HB.out hb); have n1_ := am_ (Kd.S_below HO4.out hb); have n2_ := am_ (Kd.R_below HO6.out hb); have n3_ := am_ (Kd.R_below HO8.out hb); have n4_ := am_ (Kd.S_below HO10.out hb); have n5_ := am_ (Kd.R_below HO12.out hb); have n6_ := am_ (Kd.R_below HO14.out hb); have n7_ := am_ (Kd.S_below HO17.out hb); have n8_ := am_ (Kd.R_below HO20.out hb); have n9_ := am_ (Kd.S_below HO28.out hb); have n10_ := am_ (Kd.R_below HO30.out hb); have SZ21 := am_ (show w1029.heap.size ≤ w1031.heap.size from (hb).size); clear HB HO4 HO6 HO8 HO10 HO12 HO14 HO17 HO20 HO28 HO30; have HB := n0_; have HO4 := n1_; have HO6 := n2_; have HO8 := n3_; have HO10 := n4_; have HO12 := n5_; have HO14 := n6_; have HO17 := n7_; have HO20 := n8_; have HO28 := n9_; have HO30 := n10_; clear n0_ n1_ n2_ n3_ n4_ n5_ n6_ n7_ n8_ n9_ n10_; have HO32 := am_ (R_zone ho0 hs_); clear ho0; obtain ⟨A_32, c_32, e_32⟩ := Kd.R_slice HO32.out; subst e_32; clear hb hs_) | (go_at_call 19; (with_reducible refine (laws_eqMeantS.calls k _ _ t31_0 _ _ t7_0 true _ ?sd33_1 ?sd33_2 ?sd33_3 ?sd33_4 A33.out).mono ?_); (case sd33_1 => exact (Kd.R_reads' HO32.out).2.2); (case sd33_2 => exact (Kd.R_reads' HO32.out).2.1); (case sd33_3 => exact (Kd.R_reads' HO8.out).2.2); (case sd33_4 => exact (Kd.R_reads' HO8.out).2.1); rintro e w1033 ⟨rfl, hb⟩; have hs_ := below_size HB.out; have n0_ := am_ (below_step HB.out hb); have n1_ := am_ (Kd.S_below HO4.out hb); have n2_ := am_ (Kd.R_below HO6.out hb); have n3_ := am_ (Kd.R_below HO8.out hb); have n4_ := am_ (Kd.S_below HO10.out hb); have n5_ := am_ (Kd.R_below HO12.out hb); have n6_ := am_ (Kd.R_below HO14.out hb); have n7_ := am_ (Kd.S_below HO17.out hb); have n8_ := am_ (Kd.R_below HO20.out hb); have n9_ := am_ (Kd.S_below HO28.out hb); have n10_ := am_ (Kd.R_below HO30.out hb); have n11_ := am_ (Kd.R_below HO32.out hb); have SZ22 := am_ (show w1031.heap.size ≤ w1033.heap.size from (hb).size); clear HB HO4 HO6 HO8 HO10 HO12 HO14 HO17 HO20 HO28 HO30 HO32; have HB := n0_; have HO4 := n1_; have HO6 := n2_; have HO8 := n3_; have HO10 := n4_; have HO12 := n5_; have HO14 := n6_; have HO17 := n7_; have HO20 := n8_; have HO28 := n9_; have HO30 := n10_; have HO32 := n11_; clear n0_ n1_ n2_ n3_ n4_ n5_ n6_ n7_ n8_ n9_ n10_ n11_; clear hb hs_) | (go_at_call 23; refine calls_of_args (args' := #[.slice A_14 t25_1.length c_14, .int .i64 1]) (by first | (rw [show t25_1.length = t13_0.length from (Kd.R_reads' HO14.out).1.symm] <;> rfl) | rfl) ?_; (with_reducible refine (laws_heldMeantS.calls k _ _ t25_1 1 t34 _ ?sd34_1 ?sd34_2 A34.out).mono ?_); (case sd34_1 => exact (Kd.R_reads' HO14.out).2.2); (case sd34_2 => exact (by rw [show t25_1.length = t13_0.length from (Kd.R_reads' HO14.out).1.symm]; exact (Kd.R_reads' HO14.out).2.1)); rintro e w1034 ⟨rfl, hb⟩; have hs_ := below_size HB.out; have n0_ := am_ (below_step HB.out hb); have n1_ := am_ (Kd.S_below HO4.out hb); have n2_ := am_ (Kd.R_below HO6.out hb); have n3_ := am_ (Kd.R_below HO8.out hb); have n4_ := am_ (Kd.S_below HO10.out hb); have n5_ := am_ (Kd.R_below HO12.out hb); have n6_ := am_ (Kd.R_below HO14.out hb); have n7_ := am_ (Kd.S_below HO17.out hb); have n8_ := am_ (Kd.R_below HO20.out hb); have n9_ := am_ (Kd.S_below HO28.out hb); have n10_ := am_ (Kd.R_below HO30.out hb); have n11_ := am_ (Kd.R_below HO32.out hb); have SZ23 := am_ (show w1033.heap.size ≤ w1034.heap.size from (hb).size); clear HB HO4 HO6 HO8 HO10 HO12 HO14 HO17 HO20 HO28 HO30 HO32; have HB := n0_; have HO4 := n1_; have HO6 := n2_; have HO8 := n3_; have HO10 := n4_; have HO12 := n5_; have HO14 := n6_; have HO17 := n7_; have HO20 := n8_; have HO28 := n9_; have HO30 := n10_; have HO32 := n11_; clear n0_ n1_ n2_ n3_ n4_ n5_ n6_ n7_ n8_ n9_ n10_ n11_; clear hb hs_))
  go_ret
  exact ⟨rfl, HB.out⟩

/-! the law's reading -/
def ok49 (z : S49) : Prop := (z.f0.size ≤ maxLen) ∧ (z.f1.length ≤ maxLen ∧ ∀ z318 ∈ z.f1, (Lit.int .i64 z318).wf = true)
def ok71 (z : S71) : Prop := ((Lit.int .i64 z.f0).wf = true) ∧ ((Lit.int .i64 z.f1).wf = true) ∧ (True)
/-- THE ONE PURE STATEMENT of laws_FnExactMeantBy. -/
def laws_FnExactMeantBy.Pure : Prop := ∀ (l0 : List (S49)) (l1 : List (S71)), (l0.length ≤ maxLen ∧ ∀ z322 ∈ l0, ok49 z322) → (l1.length ≤ maxLen ∧ ∀ z323 ∈ l1, ok71 z323) → ∃ k, laws_FnExactMeantBy.f k l0 l1 = some true


end Go.Proofs.Ytfgdfnnddoncjaa.XFnExactMeantBy
