/- What the Go functions that this law comes to compute, each walked; written by a program of this session. -/
import Derived.Test.YtgfppioaggeleaaXShort
import Derived.Test.YtgfppioaggeleaaXMark
import Derived.Test.YtgfppioaggeleaaXFnExactLayOutx0
import Derived.Test.YtgfppioaggeleaaXFnExactLayOutx1
import Derived.Test.YtgfppioaggeleaaXFnExactLayOutx4
import Derived.Test.YtgfppioaggeleaaXFnExactLayOutx5
import Derived.Test.YtgfppioaggeleaaXFnExactLayOutx12
import Derived.Test.YtgfppioaggeleaaXFnExactLayOutx13
import Derived.Test.YtgfppioaggeleaaXFnExactLayOutx14
namespace Go.Proofs.Ytgfppioaggeleaa.XFnExactLayOut
open Go.RowKit Go.Proofs.YtgfppioaggeleaaW.PrintWords Go.Proofs.YtgfppioaggeleaaW.PrintLast Go.Proofs.YtgfppioaggeleaaW.PrintMore
attribute [local go_sem] str_geq max2_int min2_int max_two min_two max_three min_three max_four min_four   -- for this text's walks alone
set_option linter.unusedVariables false
set_option linter.unusedSimpArgs false

/-! ### laws_FnExactLayOut: function 4 -/
def laws_FnExactLayOut.f (k : Nat) (l0 : List (S77)) (a1 : Int) (a2 : Int) : Option (Bool) := (laws_szBoxS.f l0 1048576).bind fun t1 => if t1 < 0 then some true else ((laws_toBoxS.f k l0).bind fun t2 => (spec_LayOut.f k t2 a1 a2).bind fun t4 => (laws_toBoxS.f k l0).bind fun t6 => (impl_LayOut.f k t6 a1 a2).bind fun t8 => (laws_eqPlacedS.f k t8.1 t4.1).bind fun t10 => if t10 = true then (if t8.2 = t4.2 then ((laws_toBoxS.f k l0).bind fun t11 => (laws_eqBoxS.f k t6 t11).bind fun t13 => if t13 = true then ((laws_markBoxS.f k t6 1).bind fun t14 => if ¬ (t14.1 < 0) then ((laws_eqPlacedS.f k t8.1 t4.1).bind fun t15 => if t15 = true then (if t8.2 = t4.2 then ((laws_markPlacedS.f k t8.1 1).bind fun t16 => (laws_heldPlacedS.f k t16.2 1).bind fun t17 => if ¬ (t17 < 0) then (if t17 = t16.1 then ((laws_toBoxS.f k l0).bind fun t18 => (impl_LayOut.f k t18 a1 a2).bind fun t20 => (laws_eqPlacedS.f k t20.1 t4.1).bind fun t22 => if t22 = true then (if t20.2 = t4.2 then ((laws_heldPlacedS.f k t16.2 1).bind fun t23 => if ¬ (t23 < 0) then (if t23 = t16.1 then (some true) else none) else none) else none) else none) else none) else none) else none) else none) else none) else none) else none) else none)
theorem laws_FnExactLayOut.mono : ∀ a0 a1 a2 k, LeO (laws_FnExactLayOut.f k a0 a1 a2) (laws_FnExactLayOut.f (k + 1) a0 a1 a2) := by
  intro a0 a1 a2 k
  unfold laws_FnExactLayOut.f
  repeat' first
  | (with_reducible exact spec_LayOut.mono _ _ _ _)
  | (with_reducible exact laws_toBoxS.mono _ _)
  | (with_reducible exact impl_LayOut.mono _ _ _ _)
  | (with_reducible exact laws_eqPlacedS.mono _ _ _)
  | (with_reducible exact laws_eqBoxS.mono _ _ _)
  | (with_reducible exact laws_markBoxS.mono _ _ _)
  | (with_reducible exact laws_markPlacedS.mono _ _ _)
  | (with_reducible exact laws_heldPlacedS.mono _ _ _)
  | (with_reducible exact LeO.refl _)
  | (with_reducible exact LeO.none _)
  | (with_reducible refine LeO.ite ?_ ?_)
  | refine LeO.bind ?_ (fun _ => ?_)
  | exact LeO.none _
set_option maxHeartbeats 8000000 in
set_option maxRecDepth 100000 in
theorem laws_FnExactLayOut.calls (k : Nat) (A0 : Option Addr) (c0 : Nat) (l0 : List (S77)) (a1 : Int) (a2 : Int) (r : Bool) (w : World) (hr0 : Kd.C k77 w A0 l0.length l0) (hc0 : l0.length ≤ c0) (h : laws_FnExactLayOut.f k l0 a1 a2 = some r) :
    Calls Try.prog 4 #[.slice A0 l0.length c0, .int .i64 a1, .int .i64 a2] w fun e w' => e = .returned (.bool r) ∧ Below w.heap.size w w' := by
  have HR0 := am_ hr0
  have HC0 := am_ hc0
  clear hr0 hc0
  have HB := am_ (Below.refl w.heap.size w)
  unfold laws_FnExactLayOut.f at h
  have H := h
  clear h
  replace H := bE_ H
  obtain ⟨t1, hA1, H⟩ := H
  have A1 := am_ hA1
  clear hA1
  by_cases c_ : t1 < 0
  · rw [if_pos c_] at H
    have fb24 : decide (t1 < 0) = true := decide_eq_true c_
    clear c_
    obtain rfl := Option.some.inj H
    go_enter Try.func4, Try.ntmps4
    go_wp2_with (first | (go_at_call 14; (with_reducible refine (laws_szBoxS.calls _ _ l0 1048576 t1 _ ?sd1_1 ?sd1_2 A1.out).mono ?_); (case sd1_1 => exact Kd.C_below HR0.out HB.out); (case sd1_2 => exact HC0.out); rintro e w1001 ⟨rfl, hd⟩; have hb := hd.below; clear hd; have hs_ := below_size HB.out; have n0_ := am_ (below_step HB.out hb); have SZ1 := am_ (show w.heap.size ≤ w1001.heap.size from (hb).size); replace HB := n0_; clear n0_; clear hb hs_))
    go_ret
    exact ⟨rfl, HB.out⟩
  rw [if_neg c_] at H
  have fb25 : decide (t1 < 0) = false := decide_eq_false c_
  clear c_
  replace H := bE_ H
  obtain ⟨t2, hA2, H⟩ := H
  have A2 := am_ hA2
  clear hA2
  replace H := bE_ H
  obtain ⟨⟨t4_0, t4_1⟩, hA4, H⟩ := H
  try dsimp only at H
  have A4 := am_ hA4
  clear hA4
  replace H := bE_ H
  obtain ⟨t6, hA6, H⟩ := H
  have A6 := am_ hA6
  clear hA6
  replace H := bE_ H
  obtain ⟨⟨t8_0, t8_1⟩, hA8, H⟩ := H
  try dsimp only at H
  have A8 := am_ hA8
  clear hA8
  replace H := bE_ H
  obtain ⟨t10, hA10, H⟩ := H
  have A10 := am_ hA10
  clear hA10
  replace H := nd_ H
  obtain ⟨c_, H⟩ := H
  subst c_
  replace H := nd_ H
  obtain ⟨c_, H⟩ := H
  subst c_
  first | have fb26 : (t8_1 == t8_1) = true := beq_self_eq_true _ | have fb26 : (t8_1.toList == t8_1.toList) = true := beq_self_eq_true _
  first | have fb27 : (t8_1 != t8_1) = false := by simp | have fb27 : (t8_1.toList != t8_1.toList) = false := by simp
  replace H := bE_ H
  obtain ⟨t11, hA11, H⟩ := H
  have A11 := am_ hA11
  clear hA11
  replace H := bE_ H
  obtain ⟨t13, hA13, H⟩ := H
  have A13 := am_ hA13
  clear hA13
  replace H := nd_ H
  obtain ⟨c_, H⟩ := H
  subst c_
  replace H := bE_ H
  obtain ⟨⟨t14_0, t14_1⟩, hA14, H⟩ := H
  try dsimp only at H
  have A14 := am_ hA14
  clear hA14
  replace H := nd_ H
  obtain ⟨c_, H⟩ := H
  have fb28 : decide (t14_0 < 0) = false := decide_eq_false c_
  clear c_
  replace H := bE_ H
  obtain ⟨t15, hA15, H⟩ := H
  have A15 := am_ hA15
  clear hA15
  replace H := nd_ H
  obtain ⟨c_, H⟩ := H
  subst c_
  replace H := nd_ H
  obtain ⟨c_, H⟩ := H
  clear c_
  replace H := bE_ H
  obtain ⟨⟨t16_0, t16_1⟩, hA16, H⟩ := H
  try dsimp only at H
  have A16 := am_ hA16
  clear hA16
  replace H := bE_ H
  obtain ⟨t17, hA17, H⟩ := H
  have A17 := am_ hA17
  clear hA17
  replace H := nd_ H
  obtain ⟨c_, H⟩ := H
  have fb29 : decide (t17 < 0) = false := decide_eq_false c_
  clear c_
  replace H := nd_ H
  obtain ⟨c_, H⟩ := H
  subst c_
  first | have fb30 : (t17 == t17) = true := beq_self_eq_true _ | have fb30 : (t17.toList == t17.toList) = true := beq_self_eq_true _
  first | have fb31 : (t17 != t17) = false := by simp | have fb31 : (t17.toList != t17.toList) = false := by simp
  replace H := bE_ H
  obtain ⟨t18, hA18, H⟩ := H
  have A18 := am_ hA18
  clear hA18
  replace H := bE_ H
  obtain ⟨⟨t20_0, t20_1⟩, hA20, H⟩ := H
  try dsimp only at H
  have A20 := am_ hA20
  clear hA20
  replace H := bE_ H
  obtain ⟨t22, hA22, H⟩ := H
  have A22 := am_ hA22
  clear hA22
  replace H := nd_ H
  obtain ⟨c_, H⟩ := H
  subst c_
  replace H := nd_ H
  obtain ⟨c_, H⟩ := H
  subst c_
  first | have fb32 : (t20_1 == t20_1) = true := beq_self_eq_true _ | have fb32 : (t20_1.toList == t20_1.toList) = true := beq_self_eq_true _
  first | have fb33 : (t20_1 != t20_1) = false := by simp | have fb33 : (t20_1.toList != t20_1.toList) = false := by simp
  replace H := bE_ H
  obtain ⟨t23, hA23, H⟩ := H
  have A23 := am_ hA23
  clear hA23
  replace H := nd_ H
  obtain ⟨c_, H⟩ := H
  have fb34 : decide (t23 < 0) = false := decide_eq_false c_
  clear c_
  replace H := nd_ H
  obtain ⟨c_, H⟩ := H
  subst c_
  first | have fb35 : (t23 == t23) = true := beq_self_eq_true _ | have fb35 : (t23.toList == t23.toList) = true := beq_self_eq_true _
  first | have fb36 : (t23 != t23) = false := by simp | have fb36 : (t23.toList != t23.toList) = false := by simp
  obtain rfl := Option.some.inj H
  go_enter Try.func4, Try.ntmps4
  go_wp2_with (first | (go_at_call 14; (with_reducible refine (laws_szBoxS.calls _ _ l0 1048576 t1 _ ?sd1_1 ?sd1_2 A1.out).mono ?_); (case sd1_1 => exact Kd.C_below HR0.out HB.out); (case sd1_2 => exact HC0.out); rintro e w1001 ⟨rfl, hd⟩; have hb := hd.below; clear hd; have hs_ := below_size HB.out; have n0_ := am_ (below_step HB.out hb); have SZ1 := am_ (show w.heap.size ≤ w1001.heap.size from (hb).size); replace HB := n0_; clear n0_; clear hb hs_) | (go_at_call 16; (with_reducible refine (laws_toBoxS.calls k _ _ l0 t2 _ ?sd2_1 ?sd2_2 A2.out).mono ?_); (case sd2_1 => exact Kd.C_below HR0.out HB.out); (case sd2_2 => exact HC0.out); rintro e w1002 ⟨v_3, rfl, ho0, hb⟩; have hs_ := below_size HB.out; have n0_ := am_ (below_step HB.out hb); have SZ2 := am_ (show w1001.heap.size ≤ w1002.heap.size from (hb).size); replace HB := n0_; clear n0_; have HO3 := am_ (R_zone ho0 hs_); clear ho0; obtain ⟨A_3, c_3, e_3⟩ := Kd.R_slice HO3.out; subst e_3; clear hb hs_) | (go_at_call 15; (with_reducible refine (spec_LayOut.calls k _ _ t2 a1 a2 t4_0 t20_1 _ ?sd4_1 ?sd4_2 A4.out).mono ?_); (case sd4_1 => exact (Kd.R_reads' HO3.out).2.2); (case sd4_2 => exact (Kd.R_reads' HO3.out).2.1); rintro e w1004 ⟨v_5, rfl, ho0, hb⟩; have hs_ := below_size HB.out; have n0_ := am_ (below_step HB.out hb); have n1_ := am_ (Kd.R_below HO3.out hb); have SZ3 := am_ (show w1002.heap.size ≤ w1004.heap.size from (hb).size); clear HB HO3; have HB := n0_; have HO3 := n1_; clear n0_ n1_; have HO5 := am_ (R_zone ho0 hs_); clear ho0; obtain ⟨A_5, c_5, e_5⟩ := Kd.R_slice HO5.out; subst e_5; clear hb hs_) | (go_at_call 16; (with_reducible refine (laws_toBoxS.calls k _ _ l0 t6 _ ?sd6_1 ?sd6_2 A6.out).mono ?_); (case sd6_1 => exact Kd.C_below HR0.out HB.out); (case sd6_2 => exact HC0.out); rintro e w1006 ⟨v_7, rfl, ho0, hb⟩; have hs_ := below_size HB.out; have n0_ := am_ (below_step HB.out hb); have n1_ := am_ (Kd.R_below HO3.out hb); have n2_ := am_ (Kd.R_below HO5.out hb); have SZ4 := am_ (show w1004.heap.size ≤ w1006.heap.size from (hb).size); clear HB HO3 HO5; have HB := n0_; have HO3 := n1_; have HO5 := n2_; clear n0_ n1_ n2_; have HO7 := am_ (R_zone ho0 hs_); clear ho0; obtain ⟨A_7, c_7, e_7⟩ := Kd.R_slice HO7.out; subst e_7; clear hb hs_) | (go_at_call 17; (with_reducible refine (impl_LayOut.calls k _ _ t6 a1 a2 t8_0 t20_1 _ ?sd8_1 ?sd8_2 A8.out).mono ?_); (case sd8_1 => exact (Kd.R_reads' HO7.out).2.2); (case sd8_2 => exact (Kd.R_reads' HO7.out).2.1); rintro e w1008 ⟨v_9, rfl, ho0, hb⟩; have hs_ := below_size HB.out; have n0_ := am_ (below_step HB.out hb); have n1_ := am_ (Kd.R_below HO3.out hb); have n2_ := am_ (Kd.R_below HO5.out hb); have n3_ := am_ (Kd.R_below HO7.out hb); have SZ5 := am_ (show w1006.heap.size ≤ w1008.heap.size from (hb).size); clear HB HO3 HO5 HO7; have HB := n0_; have HO3 := n1_; have HO5 := n2_; have HO7 := n3_; clear n0_ n1_ n2_ n3_; have HO9 := am_ (R_zone ho0 hs_); clear ho0; obtain ⟨A_9, c_9, e_9⟩ := Kd.R_slice HO9.out; subst e_9; clear hb hs_) | (go_at_call 18; (with_reducible refine (laws_eqPlacedS.calls k _ _ t8_0 _ _ t4_0 true _ ?sd10_1 ?sd10_2 ?sd10_3 ?sd10_4 A10.out).mono ?_); (case sd10_1 => exact (Kd.R_reads' HO9.out).2.2); (case sd10_2 => exact (Kd.R_reads' HO9.out).2.1); (case sd10_3 => exact (Kd.R_reads' HO5.out).2.2); (case sd10_4 => exact (Kd.R_reads' HO5.out).2.1); rintro e w1010 ⟨rfl, hb⟩; have hs_ := below_size HB.out; have n0_ := am_ (below_step HB.out hb); have n1_ := am_ (Kd.R_below HO3.out hb); have n2_ := am_ (Kd.R_below HO5.out hb); have n3_ := am_ (Kd.R_below HO7.out hb); have n4_ := am_ (Kd.R_below HO9.out hb); have SZ6 := am_ (show w1008.heap.size ≤ w1010.heap.size from (hb).size); clear HB HO3 HO5 HO7 HO9; have HB := n0_; have HO3 := n1_; have HO5 := n2_; have HO7 := n3_; have HO9 := n4_; clear n0_ n1_ n2_ n3_ n4_; clear hb hs_) | (go_at_call 16; (with_reducible refine (laws_toBoxS.calls k _ _ l0 t11 _ ?sd11_1 ?sd11_2 A11.out).mono ?_); (case sd11_1 => exact Kd.C_below HR0.out HB.out); (case sd11_2 => exact HC0.out); rintro e w1011 ⟨v_12, rfl, ho0, hb⟩; have hs_ := below_size HB.out; have n0_ := am_ (below_step HB.out hb); have n1_ := am_ (Kd.R_below HO3.out hb); have n2_ := am_ (Kd.R_below HO5.out hb); have n3_ := am_ (Kd.R_below HO7.out hb); have n4_ := am_ (Kd.R_below HO9.out hb); have SZ7 := am_ (show w1010.heap.size ≤ w1011.heap.size from (hb).size); clear HB HO3 HO5 HO7 HO9; have HB := n0_; have HO3 := n1_; have HO5 := n2_; have HO7 := n3_; have HO9 := n4_; clear n0_ n1_ n2_ n3_ n4_; have HO12 := am_ (R_zone ho0 hs_); clear ho0; obtain ⟨A_12, c_12, e_12⟩ := Kd.R_slice HO12.out; subst e_12; clear hb hs_) | (go_at_call 19; (with_reducible refine (laws_eqBoxS.calls k _ _ t6 _ _ t11 true _ ?sd13_1 ?sd13_2 ?sd13_3 ?sd13_4 A13.out).mono ?_); (case sd13_1 => exact (Kd.R_reads' HO7.out).2.2); (case sd13_2 => exact (Kd.R_reads' HO7.out).2.1); (case sd13_3 => exact (Kd.R_reads' HO12.out).2.2); (case sd13_4 => exact (Kd.R_reads' HO12.out).2.1); rintro e w1013 ⟨rfl, hb⟩; have hs_ := below_size HB.out; have n0_ := am_ (below_step HB.out hb); have n1_ := am_ (Kd.R_below HO3.out hb); have n2_ := am_ (Kd.R_below HO5.out hb); have n3_ := am_ (Kd.R_below HO7.out hb); have n4_ := am_ (Kd.R_below HO9.out hb); have n5_ := am_ (Kd.R_below HO12.out hb); have SZ8 := am_ (show w1011.heap.size ≤ w1013.heap.size from (hb).size); clear HB HO3 HO5 HO7 HO9 HO12; have HB := n0_; have HO3 := n1_; have HO5 := n2_; have HO7 := n3_; have HO9 := n4_; have HO12 := n5_; clear n0_ n1_ n2_ n3_ n4_ n5_; clear hb hs_) | (go_at_call 20; (with_reducible refine (laws_markBoxS.calls k (Zone w1004 w1006 (74 :: (k74).E)) (.slice A_7 t6.length c_7) t6 1 t14_0 t14_1 w _ ?sd14_1 ?sd14_2 A14.out).mono ?_); (case sd14_1 => exact HB.out); (case sd14_2 => exact HO7.out); rintro e w1014 ⟨rfl, hy0, hb, hkp⟩; have n0_ := am_ (hb); have n1_ := am_ (Kd.R_step HO3.out (fun k_ h_ hlt_ => hkp.2 k_ hlt_ (fun e_ => (show False from Zone.apart h_ e_ (by have := SZ3.out; first | exact .inl (by omega) | exact .inr (by omega))).elim))); have n2_ := am_ (Kd.R_step HO5.out (fun k_ h_ hlt_ => hkp.2 k_ hlt_ (fun e_ => (show False from Zone.apart h_ e_ (by first | exact .inl (by omega) | exact .inr (by omega))).elim))); have n3_ := am_ (Kd.R_reok rfl hy0 HO7.out.1); have n4_ := am_ (Kd.R_step HO9.out (fun k_ h_ hlt_ => hkp.2 k_ hlt_ (fun e_ => (show False from Zone.apart h_ e_ (by first | exact .inl (by omega) | exact .inr (by omega))).elim))); have n5_ := am_ (Kd.R_step HO12.out (fun k_ h_ hlt_ => hkp.2 k_ hlt_ (fun e_ => (show False from Zone.apart h_ e_ (by have := SZ5.out; have := SZ6.out; first | exact .inl (by omega) | exact .inr (by omega))).elim))); have SZ9 := am_ (show w1013.heap.size ≤ w1014.heap.size from hkp.1); clear HB HO3 HO5 HO7 HO9 HO12; have HB := n0_; have HO3 := n1_; have HO5 := n2_; have HO7 := n3_; have HO9 := n4_; have HO12 := n5_; clear n0_ n1_ n2_ n3_ n4_ n5_; clear hb hkp hy0) | (go_at_call 18; (with_reducible refine (laws_eqPlacedS.calls k _ _ t8_0 _ _ t4_0 true _ ?sd15_1 ?sd15_2 ?sd15_3 ?sd15_4 A15.out).mono ?_); (case sd15_1 => exact (Kd.R_reads' HO9.out).2.2); (case sd15_2 => exact (Kd.R_reads' HO9.out).2.1); (case sd15_3 => exact (Kd.R_reads' HO5.out).2.2); (case sd15_4 => exact (Kd.R_reads' HO5.out).2.1); rintro e w1015 ⟨rfl, hb⟩; have hs_ := below_size HB.out; have n0_ := am_ (below_step HB.out hb); have n1_ := am_ (Kd.R_below HO3.out hb); have n2_ := am_ (Kd.R_below HO5.out hb); have n3_ := am_ (Kd.R_below HO7.out hb); have n4_ := am_ (Kd.R_below HO9.out hb); have n5_ := am_ (Kd.R_below HO12.out hb); have SZ10 := am_ (show w1014.heap.size ≤ w1015.heap.size from (hb).size); clear HB HO3 HO5 HO7 HO9 HO12; have HB := n0_; have HO3 := n1_; have HO5 := n2_; have HO7 := n3_; have HO9 := n4_; have HO12 := n5_; clear n0_ n1_ n2_ n3_ n4_ n5_; clear hb hs_) | (go_at_call 21; (with_reducible refine (laws_markPlacedS.calls k (Zone w1006 w1008 (72 :: (k72).E)) (.slice A_9 t8_0.length c_9) t8_0 1 t23 t16_1 w _ ?sd16_1 ?sd16_2 A16.out).mono ?_); (case sd16_1 => exact HB.out); (case sd16_2 => exact HO9.out); rintro e w1016 ⟨rfl, hy0, hb, hkp⟩; have n0_ := am_ (hb); have n1_ := am_ (Kd.R_step HO3.out (fun k_ h_ hlt_ => hkp.2 k_ hlt_ (fun e_ => (show False from Zone.apart h_ e_ (by have := SZ3.out; have := SZ4.out; first | exact .inl (by omega) | exact .inr (by omega))).elim))); have n2_ := am_ (Kd.R_step HO5.out (fun k_ h_ hlt_ => hkp.2 k_ hlt_ (fun e_ => (show False from Zone.apart h_ e_ (by have := SZ4.out; first | exact .inl (by omega) | exact .inr (by omega))).elim))); have n3_ := am_ (Kd.R_step HO7.out (fun k_ h_ hlt_ => hkp.2 k_ hlt_ (fun e_ => (show False from Zone.apart h_ e_ (by first | exact .inl (by omega) | exact .inr (by omega))).elim))); have n4_ := am_ (Kd.R_reok rfl hy0 HO9.out.1); have n5_ := am_ (Kd.R_step HO12.out (fun k_ h_ hlt_ => hkp.2 k_ hlt_ (fun e_ => (show False from Zone.apart h_ e_ (by have := SZ6.out; first | exact .inl (by omega) | exact .inr (by omega))).elim))); have SZ11 := am_ (show w1015.heap.size ≤ w1016.heap.size from hkp.1); clear HB HO3 HO5 HO7 HO9 HO12; have HB := n0_; have HO3 := n1_; have HO5 := n2_; have HO7 := n3_; have HO9 := n4_; have HO12 := n5_; clear n0_ n1_ n2_ n3_ n4_ n5_; clear hb hkp hy0) | (go_at_call 22; refine calls_of_args (args' := #[.slice A_9 t16_1.length c_9, .int .i64 1]) (by first | (rw [show t16_1.length = t8_0.length from (Kd.R_reads' HO9.out).1.symm] <;> rfl) | rfl) ?_; (with_reducible refine (laws_heldPlacedS.calls k _ _ t16_1 1 t23 _ ?sd17_1 ?sd17_2 A17.out).mono ?_); (case sd17_1 => exact (Kd.R_reads' HO9.out).2.2); (case sd17_2 => exact (by rw [show t16_1.length = t8_0.length from (Kd.R_reads' HO9.out).1.symm]; exact (Kd.R_reads' HO9.out).2.1)); rintro e w1017 ⟨rfl, hd⟩; have hb := hd.below; clear hd; have hs_ := below_size HB.out; have n0_ := am_ (below_step HB.out hb); have n1_ := am_ (Kd.R_below HO3.out hb); have n2_ := am_ (Kd.R_below HO5.out hb); have n3_ := am_ (Kd.R_below HO7.out hb); have n4_ := am_ (Kd.R_below HO9.out hb); have n5_ := am_ (Kd.R_below HO12.out hb); have SZ12 := am_ (show w1016.heap.size ≤ w1017.heap.size from (hb).size); clear HB HO3 HO5 HO7 HO9 HO12; have HB := n0_; have HO3 := n1_; have HO5 := n2_; have HO7 := n3_; have HO9 := n4_; have HO12 := n5_; clear n0_ n1_ n2_ n3_ n4_ n5_; clear hb hs_) | (go_at_call 16; (with_reducible refine (laws_toBoxS.calls k _ _ l0 t18 _ ?sd18_1 ?sd18_2 A18.out).mono ?_); (case sd18_1 => exact Kd.C_below HR0.out HB.out); (case sd18_2 => exact HC0.out); rintro e w1018 ⟨v_19, rfl, ho0, hb⟩; have hs_ := below_size HB.out; have n0_ := am_ (below_step HB.out hb); have n1_ := am_ (Kd.R_below HO3.out hb); have n2_ := am_ (Kd.R_below HO5.out hb); have n3_ := am_ (Kd.R_below HO7.out hb); have n4_ := am_ (Kd.R_below HO9.out hb); have n5_ := am_ (Kd.R_below HO12.out hb); have SZ13 := am_ (show w1017.heap.size ≤ w1018.heap.size from (hb).size); clear HB HO3 HO5 HO7 HO9 HO12; have HB := n0_; have HO3 := n1_; have HO5 := n2_; have HO7 := n3_; have HO9 := n4_; have HO12 := n5_; clear n0_ n1_ n2_ n3_ n4_ n5_; have HO19 := am_ (R_zone ho0 hs_); clear ho0; obtain ⟨A_19, c_19, e_19⟩ := Kd.R_slice HO19.out; subst e_19; clear hb hs_) | (go_at_call 17; (with_reducible refine (impl_LayOut.calls k _ _ t18 a1 a2 t20_0 t20_1 _ ?sd20_1 ?sd20_2 A20.out).mono ?_); (case sd20_1 => exact (Kd.R_reads' HO19.out).2.2); (case sd20_2 => exact (Kd.R_reads' HO19.out).2.1); rintro e w1020 ⟨v_21, rfl, ho0, hb⟩; have hs_ := below_size HB.out; have n0_ := am_ (below_step HB.out hb); have n1_ := am_ (Kd.R_below HO3.out hb); have n2_ := am_ (Kd.R_below HO5.out hb); have n3_ := am_ (Kd.R_below HO7.out hb); have n4_ := am_ (Kd.R_below HO9.out hb); have n5_ := am_ (Kd.R_below HO12.out hb); have n6_ := am_ (Kd.R_below HO19.out hb); have SZ14 := am_ (show w1018.heap.size ≤ w1020.heap.size from (hb).size); clear HB HO3 HO5 HO7 HO9 HO12 HO19; have HB := n0_; have HO3 := n1_; have HO5 := n2_; have HO7 := n3_; have HO9 := n4_; have HO12 := n5_; have HO19 := n6_; clear n0_ n1_ n2_ n3_ n4_ n5_ n6_; have HO21 := am_ (R_zone ho0 hs_); clear ho0; obtain ⟨A_21, c_21, e_21⟩ := Kd.R_slice HO21.out; subst e_21; clear hb hs_) | (go_at_call 18; (with_reducible refine (laws_eqPlacedS.calls k _ _ t20_0 _ _ t4_0 true _ ?sd22_1 ?sd22_2 ?sd22_3 ?sd22_4 A22.out).mono ?_); (case sd22_1 => exact (Kd.R_reads' HO21.out).2.2); (case sd22_2 => exact (Kd.R_reads' HO21.out).2.1); (case sd22_3 => exact (Kd.R_reads' HO5.out).2.2); (case sd22_4 => exact (Kd.R_reads' HO5.out).2.1); rintro e w1022 ⟨rfl, hb⟩; have hs_ := below_size HB.out; have n0_ := am_ (below_step HB.out hb); have n1_ := am_ (Kd.R_below HO3.out hb); have n2_ := am_ (Kd.R_below HO5.out hb); have n3_ := am_ (Kd.R_below HO7.out hb); have n4_ := am_ (Kd.R_below HO9.out hb); have n5_ := am_ (Kd.R_below HO12.out hb); have n6_ := am_ (Kd.R_below HO19.out hb); have n7_ := am_ (Kd.R_below HO21.out hb); have SZ15 := am_ (show w1020.heap.size ≤ w1022.heap.size from (hb).size); clear HB HO3 HO5 HO7 HO9 HO12 HO19 HO21; have HB := n0_; have HO3 := n1_; have HO5 := n2_; have HO7 := n3_; have HO9 := n4_; have HO12 := n5_; have HO19 := n6_; have HO21 := n7_; clear n0_ n1_ n2_ n3_ n4_ n5_ n6_ n7_; clear hb hs_) | (go_at_call 22; refine calls_of_args (args' := #[.slice A_9 t16_1.length c_9, .int .i64 1]) (by first | (rw [show t16_1.length = t8_0.length from (Kd.R_reads' HO9.out).1.symm] <;> rfl) | rfl) ?_; (with_reducible refine (laws_heldPlacedS.calls k _ _ t16_1 1 t23 _ ?sd23_1 ?sd23_2 A23.out).mono ?_); (case sd23_1 => exact (Kd.R_reads' HO9.out).2.2); (case sd23_2 => exact (by rw [show t16_1.length = t8_0.length from (Kd.R_reads' HO9.out).1.symm]; exact (Kd.R_reads' HO9.out).2.1)); rintro e w1023 ⟨rfl, hd⟩; have hb := hd.below; clear hd; have hs_ := below_size HB.out; have n0_ := am_ (below_step HB.out hb); have n1_ := am_ (Kd.R_below HO3.out hb); have n2_ := am_ (Kd.R_below HO5.out hb); have n3_ := am_ (Kd.R_below HO7.out hb); have n4_ := am_ (Kd.R_below HO9.out hb); have n5_ := am_ (Kd.R_below HO12.out hb); have n6_ := am_ (Kd.R_below HO19.out hb); have n7_ := am_ (Kd.R_below HO21.out hb); have SZ16 := am_ (show w1022.heap.size ≤ w1023.heap.size from (hb).size); clear HB HO3 HO5 HO7 HO9 HO12 HO19 HO21; have HB := n0_; have HO3 := n1_; have HO5 := n2_; have HO7 := n3_; have HO9 := n4_; have HO12 := n5_; have HO19 := n6_; have HO21 := n7_; clear n0_ n1_ n2_ n3_ n4_ n5_ n6_ n7_; clear hb hs_))
  go_ret
  exact ⟨rfl, HB.out⟩

/-! the law's reading -/
def ok77 (z : S77) : Prop := ((Lit.int .i64 z.f0).wf = true) ∧ ((Lit.int .i64 z.f1).wf = true) ∧ ((Lit.int .i64 z.f2).wf = true) ∧ ((Lit.int .i64 z.f3).wf = true) ∧ ((Lit.int .i64 z.f4).wf = true)
/-- THE ONE PURE STATEMENT of laws_FnExactLayOut. -/
def laws_FnExactLayOut.Pure : Prop := ∀ (l0 : List (S77)) (a1 : Int) (a2 : Int), (l0.length ≤ maxLen ∧ ∀ z354 ∈ l0, ok77 z354) → ((Lit.int .i64 a1).wf = true) → ((Lit.int .i64 a2).wf = true) → ∃ k, laws_FnExactLayOut.f k l0 a1 a2 = some true


end Go.Proofs.Ytgfppioaggeleaa.XFnExactLayOut
