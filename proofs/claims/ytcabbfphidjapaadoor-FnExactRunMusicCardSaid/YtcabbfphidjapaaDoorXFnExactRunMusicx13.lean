/- What the Go functions that this law comes to compute, each walked; written by a program of this session. -/
import Derived.Test.YtcabbfphidjapaaDoorXShort
import Derived.Test.YtcabbfphidjapaaDoorXMark
import Derived.Test.YtcabbfphidjapaaDoorXFnExactRunMusicx0
import Derived.Test.YtcabbfphidjapaaDoorXFnExactRunMusicx1
import Derived.Test.YtcabbfphidjapaaDoorXFnExactRunMusicx5
import Derived.Test.YtcabbfphidjapaaDoorXFnExactRunMusicx6
import Derived.Test.YtcabbfphidjapaaDoorXFnExactRunMusicx10
import Derived.Test.YtcabbfphidjapaaDoorXFnExactRunMusicx11
import Derived.Test.YtcabbfphidjapaaDoorXFnExactRunMusicx12
namespace Go.Proofs.YtcabbfphidjapaaDoor.XFnExactRunMusic
open Go.RowKit Go.Proofs.YtcabbfphidjapaaDoorW.PrintWords Go.Proofs.YtcabbfphidjapaaDoorW.PrintLast Go.Proofs.YtcabbfphidjapaaDoorW.PrintMore
attribute [local go_sem] str_geq max2_int min2_int max_two min_two max_three min_three max_four min_four   -- for this text's walks alone
set_option linter.unusedVariables false
set_option linter.unusedSimpArgs false

/-! ### laws_FnExactRunMusic: function 3 -/
def laws_FnExactRunMusic.f (k : Nat) (l0 : List (S46)) (a1_0 : ByteArray) (a1_1 : Int) (a1_2 : ByteArray) (a2 : Int) : Option (Bool) := (laws_szSectionS.f k l0 1048576).bind fun t2 => if t2 < 0 then some true else ((laws_szMusic.f a1_0 a1_1 a1_2 t2).bind fun t3 => if t3 < 0 then some true else ((laws_toSectionS.f k l0).bind fun t4 => (laws_toMusic.f a1_0 a1_1 a1_2).bind fun t6 => (spec_RunMusic.f k t4 t6.1 t6.2.1 t6.2.2 a2).bind fun t7 => (laws_toSectionS.f k l0).bind fun t10 => (laws_toMusic.f a1_0 a1_1 a1_2).bind fun t12 => (impl_RunMusic.f k t10 t12.1 t12.2.1 t12.2.2 a2).bind fun t13 => (laws_eqMusic.f t13.1 t13.2.1 t13.2.2.1 t7.1 t7.2.1 t7.2.2.1).bind fun t16 => if t16 = true then ((laws_eqStringS.f k t13.2.2.2.1 t7.2.2.2.1).bind fun t17 => if t17 = true then (if t13.2.2.2.2 = t7.2.2.2.2 then ((laws_toSectionS.f k l0).bind fun t18 => (laws_eqSectionS.f k t10 t18).bind fun t20 => if t20 = true then ((laws_markSectionS.f k t10 1).bind fun t21 => if ¬ (t21.1 < 0) then ((laws_eqMusic.f t13.1 t13.2.1 t13.2.2.1 t7.1 t7.2.1 t7.2.2.1).bind fun t22 => if t22 = true then ((laws_eqStringS.f k t13.2.2.2.1 t7.2.2.2.1).bind fun t23 => if t23 = true then (if t13.2.2.2.2 = t7.2.2.2.2 then ((laws_markStringS.f k t13.2.2.2.1 1).bind fun t24 => (laws_heldStringS.f k t24.2 1).bind fun t25 => if ¬ (t25 < 0) then (if t25 = t24.1 then ((laws_toSectionS.f k l0).bind fun t26 => (laws_toMusic.f a1_0 a1_1 a1_2).bind fun t28 => (impl_RunMusic.f k t26 t28.1 t28.2.1 t28.2.2 a2).bind fun t29 => (laws_eqMusic.f t29.1 t29.2.1 t29.2.2.1 t7.1 t7.2.1 t7.2.2.1).bind fun t32 => if t32 = true then ((laws_eqStringS.f k t29.2.2.2.1 t7.2.2.2.1).bind fun t33 => if t33 = true then (if t29.2.2.2.2 = t7.2.2.2.2 then ((laws_heldStringS.f k t24.2 1).bind fun t34 => if ¬ (t34 < 0) then (if t34 = t24.1 then (some true) else none) else none) else none) else none) else none) else none) else none) else none) else none) else none) else none) else none) else none) else none) else none))
theorem laws_FnExactRunMusic.mono : ∀ a0 a1 a2 a3 a4 k, LeO (laws_FnExactRunMusic.f k a0 a1 a2 a3 a4) (laws_FnExactRunMusic.f (k + 1) a0 a1 a2 a3 a4) := by
  intro a0 a1 a2 a3 a4 k
  unfold laws_FnExactRunMusic.f
  repeat' first
  | (with_reducible exact laws_szSectionS.mono _ _ _)
  | (with_reducible exact spec_RunMusic.mono _ _ _ _ _ _)
  | (with_reducible exact laws_toSectionS.mono _ _)
  | (with_reducible exact impl_RunMusic.mono _ _ _ _ _ _)
  | (with_reducible exact laws_eqStringS.mono _ _ _)
  | (with_reducible exact laws_eqSectionS.mono _ _ _)
  | (with_reducible exact laws_markSectionS.mono _ _ _)
  | (with_reducible exact laws_markStringS.mono _ _ _)
  | (with_reducible exact laws_heldStringS.mono _ _ _)
  | (with_reducible exact LeO.refl _)
  | (with_reducible exact LeO.none _)
  | (with_reducible refine LeO.ite ?_ ?_)
  | refine LeO.bind ?_ (fun _ => ?_)
  | exact LeO.none _
def laws_FnExactRunMusic.T8 : Bool × List (List Nat × List Nat) := (true, [([], []), ([0], [0]), ([], []), ([2, 1], [2]), ([], []), ([1, 3, 4, 3], [1, 3, 4]), ([5], [5]), ([6], [6]), ([6], [6]), ([6], [6]), ([], []), ([10, 7, 5, 0, 1, 2, 3, 4, 5, 6, 7, 10], [7, 10]), ([8, 11, 0, 1, 2, 3, 4, 5, 6, 7, 8, 10, 11], [8]), ([9, 12, 0, 1, 2, 3, 4, 5, 6, 7, 8, 9, 10, 11, 12], [9])])
def laws_FnExactRunMusic.B8 : List Nat := [0, 1, 0, 7, 0, 31, 63, 127, 127, 127, 0, 1279, 3583, 8191]
theorem laws_FnExactRunMusic.tab8 : rtab .any (opsOf Tryd.f3 8) = laws_FnExactRunMusic.T8 := by kernel_rfl
theorem laws_FnExactRunMusic.bits8 : waitsOk laws_FnExactRunMusic.T8.2 laws_FnExactRunMusic.B8 = true := by kernel_rfl
def laws_FnExactRunMusic.T27 : Bool × List (List Nat × List Nat) := (true, [([], []), ([0], [0]), ([], []), ([2, 1], [2]), ([], []), ([1, 3, 4, 3], [1, 3, 4]), ([5], [5]), ([6], [6]), ([6], [6]), ([6], [6]), ([], []), ([10, 7, 5, 0, 1, 2, 3, 4, 5, 6, 7, 10], [7, 10]), ([8, 11, 0, 1, 2, 3, 4, 5, 6, 7, 8, 10, 11], [8]), ([9, 12, 0, 1, 2, 3, 4, 5, 6, 7, 8, 9, 10, 11, 12], [9])])
def laws_FnExactRunMusic.B27 : List Nat := [0, 1, 0, 7, 0, 31, 63, 127, 127, 127, 0, 1279, 3583, 8191]
theorem laws_FnExactRunMusic.tab27 : rtab .any (opsOf Tryd.f3 27) = laws_FnExactRunMusic.T27 := by kernel_rfl
theorem laws_FnExactRunMusic.bits27 : waitsOk laws_FnExactRunMusic.T27.2 laws_FnExactRunMusic.B27 = true := by kernel_rfl
set_option maxHeartbeats 8000000 in
set_option maxRecDepth 100000 in
theorem laws_FnExactRunMusic.calls (k : Nat) (A0 : Option Addr) (c0 : Nat) (l0 : List (S46)) (a1_0 : ByteArray) (a1_1 : Int) (a1_2 : ByteArray) (a2 : Int) (r : Bool) (w : World) (hr0 : Kd.C k46 w A0 l0.length l0) (hc0 : l0.length ≤ c0) (h : laws_FnExactRunMusic.f k l0 a1_0 a1_1 a1_2 a2 = some r) :
    Calls Tryd.prog 3 #[.slice A0 l0.length c0, .agg #[.string a1_0, .int .i64 a1_1, .string a1_2], .int .i64 a2] w fun e w' => e = .returned (.bool r) ∧ Below w.heap.size w w' := by
  have HR0 := am_ hr0
  have HC0 := am_ hc0
  clear hr0 hc0
  have HB := am_ (Below.refl w.heap.size w)
  unfold laws_FnExactRunMusic.f at h
  have H := h
  clear h
  replace H := bE_ H
  obtain ⟨t2, hA2, H⟩ := H
  have A2 := am_ hA2
  clear hA2
  by_cases c_ : t2 < 0
  · rw [if_pos c_] at H
    have fb35 : decide (t2 < 0) = true := decide_eq_true c_
    clear c_
    obtain rfl := Option.some.inj H
    go_enter Tryd.func3, Tryd.ntmps3
    go_wp2_with (first | ((with_reducible refine gate_dst (N := 4) rfl ?_); refine bx_ 4 #[.string a1_0, .int .i64 a1_1, .string a1_2] 24 ?_; intro g1 hg w1001 hbox hb; have n0_ := am_ (below_step HB.out hb); have SZ1 := am_ (show w.heap.size ≤ w1001.heap.size from (hb).size); replace HB := n0_; clear n0_; have BK1 := am_ hbox; have GL1 := am_ (show w.heap.size ≤ g1 from Nat.le_of_eq hg.symm); have GU1 := am_ (blk_lt hbox); clear hbox hg hb; have hx1_0 := cz_ BK1.out 0; have hf1_0 : w1001.frozen? ⟨g1, 0, none⟩ = false := blk_frozen BK1.out 0; have hx1_1 := cz_ BK1.out 1; have hf1_1 : w1001.frozen? ⟨g1, 1, none⟩ = false := blk_frozen BK1.out 1; have hx1_2 := cz_ BK1.out 2; have hf1_2 : w1001.frozen? ⟨g1, 2, none⟩ = false := blk_frozen BK1.out 2) | (go_at_call 5; (with_reducible refine (laws_szSectionS.calls k _ _ l0 1048576 t2 _ ?sd2_1 ?sd2_2 A2.out).mono ?_); (case sd2_1 => exact Kd.C_below HR0.out HB.out); (case sd2_2 => exact HC0.out); rintro e w1002 ⟨rfl, hb⟩; have hs_ := below_size HB.out; clear hx1_0 hf1_0 hx1_1 hf1_1 hx1_2 hf1_2; have n0_ := am_ (below_step HB.out hb); have n1_ := am_ (blk_below BK1.out hb); have SZ2 := am_ (show w1001.heap.size ≤ w1002.heap.size from (hb).size); clear HB BK1; have HB := n0_; have BK1 := n1_; clear n0_ n1_; clear hb hs_; have hx1_0 := cz_ BK1.out 0; have hf1_0 : w1002.frozen? ⟨g1, 0, none⟩ = false := blk_frozen BK1.out 0; have hx1_1 := cz_ BK1.out 1; have hf1_1 : w1002.frozen? ⟨g1, 1, none⟩ = false := blk_frozen BK1.out 1; have hx1_2 := cz_ BK1.out 2; have hf1_2 : w1002.frozen? ⟨g1, 2, none⟩ = false := blk_frozen BK1.out 2))
    go_ret
    exact ⟨rfl, HB.out⟩
  rw [if_neg c_] at H
  have fb36 : decide (t2 < 0) = false := decide_eq_false c_
  clear c_
  replace H := bE_ H
  obtain ⟨t3, hA3, H⟩ := H
  have A3 := am_ hA3
  clear hA3
  by_cases c_ : t3 < 0
  · rw [if_pos c_] at H
    have fb37 : decide (t3 < 0) = true := decide_eq_true c_
    clear c_
    obtain rfl := Option.some.inj H
    go_enter Tryd.func3, Tryd.ntmps3
    go_wp2_with (first | ((with_reducible refine gate_dst (N := 4) rfl ?_); refine bx_ 4 #[.string a1_0, .int .i64 a1_1, .string a1_2] 24 ?_; intro g1 hg w1001 hbox hb; have n0_ := am_ (below_step HB.out hb); have SZ1 := am_ (show w.heap.size ≤ w1001.heap.size from (hb).size); replace HB := n0_; clear n0_; have BK1 := am_ hbox; have GL1 := am_ (show w.heap.size ≤ g1 from Nat.le_of_eq hg.symm); have GU1 := am_ (blk_lt hbox); clear hbox hg hb; have hx1_0 := cz_ BK1.out 0; have hf1_0 : w1001.frozen? ⟨g1, 0, none⟩ = false := blk_frozen BK1.out 0; have hx1_1 := cz_ BK1.out 1; have hf1_1 : w1001.frozen? ⟨g1, 1, none⟩ = false := blk_frozen BK1.out 1; have hx1_2 := cz_ BK1.out 2; have hf1_2 : w1001.frozen? ⟨g1, 2, none⟩ = false := blk_frozen BK1.out 2) | (go_at_call 5; (with_reducible refine (laws_szSectionS.calls k _ _ l0 1048576 t2 _ ?sd2_1 ?sd2_2 A2.out).mono ?_); (case sd2_1 => exact Kd.C_below HR0.out HB.out); (case sd2_2 => exact HC0.out); rintro e w1002 ⟨rfl, hb⟩; have hs_ := below_size HB.out; clear hx1_0 hf1_0 hx1_1 hf1_1 hx1_2 hf1_2; have n0_ := am_ (below_step HB.out hb); have n1_ := am_ (blk_below BK1.out hb); have SZ2 := am_ (show w1001.heap.size ≤ w1002.heap.size from (hb).size); clear HB BK1; have HB := n0_; have BK1 := n1_; clear n0_ n1_; clear hb hs_; have hx1_0 := cz_ BK1.out 0; have hf1_0 : w1002.frozen? ⟨g1, 0, none⟩ = false := blk_frozen BK1.out 0; have hx1_1 := cz_ BK1.out 1; have hf1_1 : w1002.frozen? ⟨g1, 1, none⟩ = false := blk_frozen BK1.out 1; have hx1_2 := cz_ BK1.out 2; have hf1_2 : w1002.frozen? ⟨g1, 2, none⟩ = false := blk_frozen BK1.out 2) | (go_at_call 6; (with_reducible refine (laws_szMusic.calls a1_0 a1_1 a1_2 t2 t3 _  A3.out).mono ?_); rintro e w1003 ⟨rfl, hb⟩; have hs_ := below_size HB.out; clear hx1_0 hf1_0 hx1_1 hf1_1 hx1_2 hf1_2; have n0_ := am_ (below_step HB.out hb); have n1_ := am_ (blk_below BK1.out hb); have SZ3 := am_ (show w1002.heap.size ≤ w1003.heap.size from (hb).size); clear HB BK1; have HB := n0_; have BK1 := n1_; clear n0_ n1_; clear hb hs_; have hx1_0 := cz_ BK1.out 0; have hf1_0 : w1003.frozen? ⟨g1, 0, none⟩ = false := blk_frozen BK1.out 0; have hx1_1 := cz_ BK1.out 1; have hf1_1 : w1003.frozen? ⟨g1, 1, none⟩ = false := blk_frozen BK1.out 1; have hx1_2 := cz_ BK1.out 2; have hf1_2 : w1003.frozen? ⟨g1, 2, none⟩ = false := blk_frozen BK1.out 2))
    go_ret
    exact ⟨rfl, HB.out⟩
  rw [if_neg c_] at H
  have fb38 : decide (t3 < 0) = false := decide_eq_false c_
  clear c_
  replace H := bE_ H
  obtain ⟨t4, hA4, H⟩ := H
  have A4 := am_ hA4
  clear hA4
  replace H := bE_ H
  obtain ⟨⟨t6_0, t6_1, t6_2⟩, hA6, H⟩ := H
  try dsimp only at H
  have A6 := am_ hA6
  clear hA6
  replace H := bE_ H
  obtain ⟨⟨t7_0, t7_1, t7_2, t7_3, t7_4⟩, hA7, H⟩ := H
  try dsimp only at H
  have A7 := am_ hA7
  clear hA7
  replace H := bE_ H
  obtain ⟨t10, hA10, H⟩ := H
  have A10 := am_ hA10
  clear hA10
  replace H := bE_ H
  obtain ⟨⟨t12_0, t12_1, t12_2⟩, hA12, H⟩ := H
  try dsimp only at H
  have A12 := am_ hA12
  clear hA12
  replace H := bE_ H
  obtain ⟨⟨t13_0, t13_1, t13_2, t13_3, t13_4⟩, hA13, H⟩ := H
  try dsimp only at H
  have A13 := am_ hA13
  clear hA13
  replace H := bE_ H
  obtain ⟨t16, hA16, H⟩ := H
  have A16 := am_ hA16
  clear hA16
  replace H := nd_ H
  obtain ⟨c_, H⟩ := H
  subst c_
  replace H := bE_ H
  obtain ⟨t17, hA17, H⟩ := H
  have A17 := am_ hA17
  clear hA17
  replace H := nd_ H
  obtain ⟨c_, H⟩ := H
  subst c_
  replace H := nd_ H
  obtain ⟨c_, H⟩ := H
  subst c_
  first | have fb39 : (t13_4 == t13_4) = true := beq_self_eq_true _ | have fb39 : (t13_4.toList == t13_4.toList) = true := beq_self_eq_true _
  first | have fb40 : (t13_4 != t13_4) = false := by simp | have fb40 : (t13_4.toList != t13_4.toList) = false := by simp
  replace H := bE_ H
  obtain ⟨t18, hA18, H⟩ := H
  have A18 := am_ hA18
  clear hA18
  replace H := bE_ H
  obtain ⟨t20, hA20, H⟩ := H
  have A20 := am_ hA20
  clear hA20
  replace H := nd_ H
  obtain ⟨c_, H⟩ := H
  subst c_
  replace H := bE_ H
  obtain ⟨⟨t21_0, t21_1⟩, hA21, H⟩ := H
  try dsimp only at H
  have A21 := am_ hA21
  clear hA21
  replace H := nd_ H
  obtain ⟨c_, H⟩ := H
  have fb41 : decide (t21_0 < 0) = false := decide_eq_false c_
  clear c_
  replace H := bE_ H
  obtain ⟨t22, hA22, H⟩ := H
  have A22 := am_ hA22
  clear hA22
  replace H := nd_ H
  obtain ⟨c_, H⟩ := H
  subst c_
  replace H := bE_ H
  obtain ⟨t23, hA23, H⟩ := H
  have A23 := am_ hA23
  clear hA23
  replace H := nd_ H
  obtain ⟨c_, H⟩ := H
  subst c_
  replace H := nd_ H
  obtain ⟨c_, H⟩ := H
  clear c_
  replace H := bE_ H
  obtain ⟨⟨t24_0, t24_1⟩, hA24, H⟩ := H
  try dsimp only at H
  have A24 := am_ hA24
  clear hA24
  replace H := bE_ H
  obtain ⟨t25, hA25, H⟩ := H
  have A25 := am_ hA25
  clear hA25
  replace H := nd_ H
  obtain ⟨c_, H⟩ := H
  have fb42 : decide (t25 < 0) = false := decide_eq_false c_
  clear c_
  replace H := nd_ H
  obtain ⟨c_, H⟩ := H
  subst c_
  first | have fb43 : (t25 == t25) = true := beq_self_eq_true _ | have fb43 : (t25.toList == t25.toList) = true := beq_self_eq_true _
  first | have fb44 : (t25 != t25) = false := by simp | have fb44 : (t25.toList != t25.toList) = false := by simp
  replace H := bE_ H
  obtain ⟨t26, hA26, H⟩ := H
  have A26 := am_ hA26
  clear hA26
  replace H := bE_ H
  obtain ⟨⟨t28_0, t28_1, t28_2⟩, hA28, H⟩ := H
  try dsimp only at H
  have A28 := am_ hA28
  clear hA28
  replace H := bE_ H
  obtain ⟨⟨t29_0, t29_1, t29_2, t29_3, t29_4⟩, hA29, H⟩ := H
  try dsimp only at H
  have A29 := am_ hA29
  clear hA29
  replace H := bE_ H
  obtain ⟨t32, hA32, H⟩ := H
  have A32 := am_ hA32
  clear hA32
  replace H := nd_ H
  obtain ⟨c_, H⟩ := H
  subst c_
  replace H := bE_ H
  obtain ⟨t33, hA33, H⟩ := H
  have A33 := am_ hA33
  clear hA33
  replace H := nd_ H
  obtain ⟨c_, H⟩ := H
  subst c_
  replace H := nd_ H
  obtain ⟨c_, H⟩ := H
  subst c_
  first | have fb45 : (t29_4 == t29_4) = true := beq_self_eq_true _ | have fb45 : (t29_4.toList == t29_4.toList) = true := beq_self_eq_true _
  first | have fb46 : (t29_4 != t29_4) = false := by simp | have fb46 : (t29_4.toList != t29_4.toList) = false := by simp
  replace H := bE_ H
  obtain ⟨t34, hA34, H⟩ := H
  have A34 := am_ hA34
  clear hA34
  replace H := nd_ H
  obtain ⟨c_, H⟩ := H
  have fb47 : decide (t34 < 0) = false := decide_eq_false c_
  clear c_
  replace H := nd_ H
  obtain ⟨c_, H⟩ := H
  subst c_
  first | have fb48 : (t34 == t34) = true := beq_self_eq_true _ | have fb48 : (t34.toList == t34.toList) = true := beq_self_eq_true _
  first | have fb49 : (t34 != t34) = false := by simp | have fb49 : (t34.toList != t34.toList) = false := by simp
  obtain rfl := Option.some.inj H
  go_enter Tryd.func3, Tryd.ntmps3
  go_upto_region 8 with (first | ((with_reducible refine gate_dst (N := 4) rfl ?_); refine bx_ 4 #[.string a1_0, .int .i64 a1_1, .string a1_2] 24 ?_; intro g1 hg w1001 hbox hb; have n0_ := am_ (below_step HB.out hb); have SZ1 := am_ (show w.heap.size ≤ w1001.heap.size from (hb).size); replace HB := n0_; clear n0_; have BK1 := am_ hbox; have GL1 := am_ (show w.heap.size ≤ g1 from Nat.le_of_eq hg.symm); have GU1 := am_ (blk_lt hbox); clear hbox hg hb; have hx1_0 := cz_ BK1.out 0; have hf1_0 : w1001.frozen? ⟨g1, 0, none⟩ = false := blk_frozen BK1.out 0; have hx1_1 := cz_ BK1.out 1; have hf1_1 : w1001.frozen? ⟨g1, 1, none⟩ = false := blk_frozen BK1.out 1; have hx1_2 := cz_ BK1.out 2; have hf1_2 : w1001.frozen? ⟨g1, 2, none⟩ = false := blk_frozen BK1.out 2) | (go_at_call 5; (with_reducible refine (laws_szSectionS.calls k _ _ l0 1048576 t2 _ ?sd2_1 ?sd2_2 A2.out).mono ?_); (case sd2_1 => exact Kd.C_below HR0.out HB.out); (case sd2_2 => exact HC0.out); rintro e w1002 ⟨rfl, hb⟩; have hs_ := below_size HB.out; clear hx1_0 hf1_0 hx1_1 hf1_1 hx1_2 hf1_2; have n0_ := am_ (below_step HB.out hb); have n1_ := am_ (blk_below BK1.out hb); have SZ2 := am_ (show w1001.heap.size ≤ w1002.heap.size from (hb).size); clear HB BK1; have HB := n0_; have BK1 := n1_; clear n0_ n1_; clear hb hs_; have hx1_0 := cz_ BK1.out 0; have hf1_0 : w1002.frozen? ⟨g1, 0, none⟩ = false := blk_frozen BK1.out 0; have hx1_1 := cz_ BK1.out 1; have hf1_1 : w1002.frozen? ⟨g1, 1, none⟩ = false := blk_frozen BK1.out 1; have hx1_2 := cz_ BK1.out 2; have hf1_2 : w1002.frozen? ⟨g1, 2, none⟩ = false := blk_frozen BK1.out 2) | (go_at_call 6; (with_reducible refine (laws_szMusic.calls a1_0 a1_1 a1_2 t2 t3 _  A3.out).mono ?_); rintro e w1003 ⟨rfl, hb⟩; have hs_ := below_size HB.out; clear hx1_0 hf1_0 hx1_1 hf1_1 hx1_2 hf1_2; have n0_ := am_ (below_step HB.out hb); have n1_ := am_ (blk_below BK1.out hb); have SZ3 := am_ (show w1002.heap.size ≤ w1003.heap.size from (hb).size); clear HB BK1; have HB := n0_; have BK1 := n1_; clear n0_ n1_; clear hb hs_; have hx1_0 := cz_ BK1.out 0; have hf1_0 : w1003.frozen? ⟨g1, 0, none⟩ = false := blk_frozen BK1.out 0; have hx1_1 := cz_ BK1.out 1; have hf1_1 : w1003.frozen? ⟨g1, 1, none⟩ = false := blk_frozen BK1.out 1; have hx1_2 := cz_ BK1.out 2; have hf1_2 : w1003.frozen? ⟨g1, 2, none⟩ = false := blk_frozen BK1.out 2))
  (try simp only [Act.put, List.setIfInBounds_toArray, List.set_cons_zero, List.set_cons_succ])
  clear hx1_0 hf1_0 hx1_1 hf1_1 hx1_2 hf1_2
  have n0_ := am_ (below_step HB.out (below_drew1 (Below.refl w1003.heap.size w1003)))
  have n1_ := am_ (blk_below BK1.out (below_drew1 (Below.refl w1003.heap.size w1003)))
  have SZ4 := am_ (show w1003.heap.size ≤ w1003.drew.heap.size from ((below_drew1 (Below.refl w1003.heap.size w1003))).size)
  clear HB BK1
  have HB := n0_
  have BK1 := n1_
  clear n0_ n1_
  refine start_ (n := 14) (S := fun w' => w'.cell? ⟨g1, 0, none⟩ = some (.string a1_0) ∧ w'.cell? ⟨g1, 1, none⟩ = some (.int .i64 a1_1) ∧ w'.cell? ⟨g1, 2, none⟩ = some (.string a1_2)) (ds := []) (Array.replicate 14 false) (by kernel_rfl) rfl rfl ⟨cz_ BK1.out 0, cz_ BK1.out 1, cz_ BK1.out 2⟩ (fun hHeld => ?_); refine with_tabW laws_FnExactRunMusic.tab8 laws_FnExactRunMusic.bits8 (fun HT_ HW_ => ?_)
  generalize w1003.drew = w3003 at HB BK1 SZ4 hHeld ⊢
  refine pure_ (i := 0) (N := some 32) (v := ?_) (a' := ?_) #[true, false, false, false, false, false, false, false, false, false, false, false, false, false] rfl rfl (any_of HT_.out (by kernel_rfl)) (fun _ _ _ h => h) (Or.inl ⟨by rfl, ?_⟩) ?_ ?_
  rotate_left
  · intro w'
    go_simp
    with_reducible rfl
  rotate_left
  · simp only [Act.put, List.setIfInBounds_toArray, List.set_cons_zero, List.set_cons_succ, i64_w, i32_w]
    rfl
  refine pure_ (i := 4) (N := some 36) (v := ?_) (a' := ?_) #[true, false, false, false, true, false, false, false, false, false, false, false, false, false] rfl rfl (any_of HT_.out (by kernel_rfl)) (fun _ _ _ h => h) (Or.inl ⟨by rfl, ?_⟩) ?_ ?_
  rotate_left
  · intro w'
    go_simp
    with_reducible rfl
  rotate_left
  · simp only [Act.put, List.setIfInBounds_toArray, List.set_cons_zero, List.set_cons_succ, i64_w, i32_w]
    rfl
  refine take_ (i := 2) (N := some 34) (v := ?_) (a' := ?_) #[true, false, true, false, true, false, false, false, false, false, false, false, false, false] rfl rfl (take_ofW HT_.out HW_.out (by kernel_rfl)) (fun _ _ _ h => h) (Or.inl ⟨by rfl, ?_⟩) hHeld ?_ ?_
  rotate_left
  · rintro w' ⟨s0, s1, s2⟩
    go_simp
    with_reducible rfl
  rotate_left
  · simp only [Act.put, List.setIfInBounds_toArray, List.set_cons_zero, List.set_cons_succ, i64_w, i32_w]
    rfl
  refine join_ (σ := Value × Value × Option Addr × Nat × World × World × Nat) 3 #[true, true, true, true, true, true, true, true, true, true, true, false, false, false] (fun s_ => [(33, s_.1), (35, s_.2.1), (37, .tuple #[.agg #[.string t7_0, .int .i64 t7_1, .string t7_2], .slice s_.2.2.1 t7_3.length s_.2.2.2.1, .bool t29_4]), (8, .pointer (some ⟨s_.2.2.2.2.2.2, 0, none⟩)), (31, .tuple #[.agg #[.string t7_0, .int .i64 t7_1, .string t7_2], .slice s_.2.2.1 t7_3.length s_.2.2.2.1, .bool t29_4]), (38, .agg #[.string t7_0, .int .i64 t7_1, .string t7_2]), (39, .slice s_.2.2.1 t7_3.length s_.2.2.2.1), (40, .bool t29_4)]) (fun s_ w' => (Below w.heap.size w w') ∧ (w'.heap[g1]? = some (.cells #[.string a1_0, .int .i64 a1_1, .string a1_2] 24 (0, 0))) ∧ (Kd.R Kd.string 9 w' w.heap.size (Zone s_.2.2.2.2.1 s_.2.2.2.2.2.1 (9 :: (Kd.string).E)) (.slice s_.2.2.1 t7_3.length s_.2.2.2.1) t7_3) ∧ (w'.heap[s_.2.2.2.2.2.2]? = some (.cells #[.string (⟨#[]⟩ : ByteArray), .int .i64 0, .string (⟨#[]⟩ : ByteArray)] 27 (0, 0))) ∧ (w3003.heap.size ≤ s_.2.2.2.2.1.heap.size) ∧ (s_.2.2.2.2.1.heap.size ≤ s_.2.2.2.2.2.1.heap.size) ∧ (s_.2.2.2.2.2.1.heap.size ≤ w'.heap.size) ∧ (s_.2.2.2.2.2.1.heap.size ≤ s_.2.2.2.2.2.2 ∨ s_.2.2.2.2.2.2 < s_.2.2.2.2.1.heap.size) ∧ (w3003.heap.size ≤ s_.2.2.2.2.2.2) ∧ (s_.2.2.2.2.2.2 < w'.heap.size)) ?_ ?_
  rotate_left
  · intro hCont
    refine two_ (i := 1) (j := 10) (Ni := some 33) (Nj := some 8) #[true, true, true, false, true, false, false, false, false, false, false, false, false, false] #[true, false, true, false, true, false, false, false, false, false, true, false, false, false] rfl rfl rfl rfl (two_of HT_.out (by kernel_rfl)) (by decide) (by decide) (fun K hK => ?_) (fun K hK => ?_)
    · skip
      refine goes_ Tryd.func8 (by kernel_rfl) rfl #[.slice A0 l0.length c0] (by rfl) rfl rfl (by (try simp only [List.map_toArray, List.map_cons, List.map_nil]); first | done | rfl) ?_
      (with_reducible refine (laws_toSectionS.calls k _ _ l0 t4 _ ?sd4_1 ?sd4_2 A4.out).mono ?_)
      (case sd4_1 => exact Kd.C_below HR0.out HB.out)
      (case sd4_2 => exact HC0.out)
      rintro e w1004 ⟨v_5, rfl, ho0, hb⟩
      refine ⟨_, rfl, ?_⟩
      have hs_ := below_size HB.out
      have n0_ := am_ (below_step HB.out hb)
      have n1_ := am_ (blk_below BK1.out hb)
      have SZ5 := am_ (show w3003.heap.size ≤ w1004.heap.size from (hb).size)
      clear HB BK1
      have HB := n0_
      have BK1 := n1_
      clear n0_ n1_
      have HO5 := am_ (S_zone ho0 hs_)
      clear ho0
      obtain ⟨A_5, c_5, e_5⟩ := Kd.S_slice HO5.out
      subst e_5
      clear hb hs_
      refine hK.out _ _ ⟨cz_ BK1.out 0, cz_ BK1.out 1, cz_ BK1.out 2⟩ (fun hHeld => ?_)
      clear hK K
      refine norm_ (a' := ?_) ?_ ?_
      rotate_left
      · show Act.put _ (some 33) _ = _
        simp only [Act.put, List.setIfInBounds_toArray, List.set_cons_zero, List.set_cons_succ, i64_w, i32_w]
        rfl
      refine two_ (i := 3) (j := 10) (Ni := some 35) (Nj := some 8) #[true, true, true, true, true, false, false, false, false, false, false, false, false, false] #[true, true, true, false, true, false, false, false, false, false, true, false, false, false] rfl rfl rfl rfl (two_of HT_.out (by kernel_rfl)) (by decide) (by decide) (fun K hK => ?_) (fun K hK => ?_)
      · skip
        refine goes_ Tryd.func9 (by kernel_rfl) rfl #[.agg #[.string a1_0, .int .i64 a1_1, .string a1_2]] (by rfl) rfl rfl (by (try simp only [List.map_toArray, List.map_cons, List.map_nil]); first | done | rfl) ?_
        (with_reducible refine (laws_toMusic.calls a1_0 a1_1 a1_2 t6_0 t6_1 t6_2 _  A6.out).mono ?_)
        rintro e w1006 ⟨rfl, hb⟩
        refine ⟨_, rfl, ?_⟩
        have hs_ := below_size HB.out
        have n0_ := am_ (below_step HB.out hb)
        have n1_ := am_ (Kd.S_below HO5.out hb)
        have n2_ := am_ (blk_below BK1.out hb)
        have SZ6 := am_ (show w1004.heap.size ≤ w1006.heap.size from (hb).size)
        clear HB HO5 BK1
        have HB := n0_
        have HO5 := n1_
        have BK1 := n2_
        clear n0_ n1_ n2_
        clear hb hs_
        refine hK.out _ _ ⟨cz_ BK1.out 0, cz_ BK1.out 1, cz_ BK1.out 2⟩ (fun hHeld => ?_)
        clear hK K
        refine norm_ (a' := ?_) ?_ ?_
        rotate_left
        · show Act.put _ (some 35) _ = _
          simp only [Act.put, List.setIfInBounds_toArray, List.set_cons_zero, List.set_cons_succ, i64_w, i32_w]
          rfl
        refine two_ (i := 5) (j := 10) (Ni := some 37) (Nj := some 8) #[true, true, true, true, true, true, false, false, false, false, false, false, false, false] #[true, true, true, true, true, false, false, false, false, false, true, false, false, false] rfl rfl rfl rfl (two_of HT_.out (by kernel_rfl)) (by decide) (by decide) (fun K hK => ?_) (fun K hK => ?_)
        · skip
          refine goes_ Tryd.func7 (by kernel_rfl) rfl #[.slice A_5 t4.length c_5, .agg #[.string t6_0, .int .i64 t6_1, .string t6_2], .int .i64 a2] (by rfl) rfl rfl (by (try simp only [List.map_toArray, List.map_cons, List.map_nil]); first | done | rfl) ?_
          (with_reducible refine (spec_RunMusic.calls k _ _ t4 t6_0 t6_1 t6_2 a2 t7_0 t7_1 t7_2 t7_3 t29_4 _ ?sd7_1 ?sd7_2 A7.out).mono ?_)
          (case sd7_1 => exact (Kd.S_reads' HO5.out).2.2)
          (case sd7_2 => exact (Kd.S_reads' HO5.out).2.1)
          rintro e w1007 ⟨v_8, rfl, ho0, hb⟩
          refine ⟨_, rfl, ?_⟩
          have hs_ := below_size HB.out
          have n0_ := am_ (below_step HB.out hb)
          have n1_ := am_ (Kd.S_below HO5.out hb)
          have n2_ := am_ (blk_below BK1.out hb)
          have SZ7 := am_ (show w1006.heap.size ≤ w1007.heap.size from (hb).size)
          clear HB HO5 BK1
          have HB := n0_
          have HO5 := n1_
          have BK1 := n2_
          clear n0_ n1_ n2_
          have HO8 := am_ (R_zone ho0 hs_)
          clear ho0
          obtain ⟨A_8, c_8, e_8⟩ := Kd.R_slice HO8.out
          subst e_8
          clear hb hs_
          refine hK.out _ _ ⟨cz_ BK1.out 0, cz_ BK1.out 1, cz_ BK1.out 2⟩ (fun hHeld => ?_)
          clear hK K
          refine norm_ (a' := ?_) ?_ ?_
          rotate_left
          · show Act.put _ (some 37) _ = _
            simp only [Act.put, List.setIfInBounds_toArray, List.set_cons_zero, List.set_cons_succ, i64_w, i32_w]
            rfl
          refine pure_ (i := 6) (N := some 31) (v := ?_) (a' := ?_) #[true, true, true, true, true, true, true, false, false, false, false, false, false, false] rfl rfl (any_of HT_.out (by kernel_rfl)) (fun _ _ _ h => h) (Or.inl ⟨by rfl, ?_⟩) ?_ ?_
          rotate_left
          · intro w'
            go_simp
            with_reducible rfl
          rotate_left
          · simp only [Act.put, List.setIfInBounds_toArray, List.set_cons_zero, List.set_cons_succ, i64_w, i32_w]
            rfl
          refine pure_ (i := 7) (N := some 38) (v := ?_) (a' := ?_) #[true, true, true, true, true, true, true, true, false, false, false, false, false, false] rfl rfl (any_of HT_.out (by kernel_rfl)) (fun _ _ _ h => h) (Or.inl ⟨by rfl, ?_⟩) ?_ ?_
          rotate_left
          · intro w'
            go_simp
            with_reducible rfl
          rotate_left
          · simp only [Act.put, List.setIfInBounds_toArray, List.set_cons_zero, List.set_cons_succ, i64_w, i32_w]
            rfl
          refine pure_ (i := 8) (N := some 39) (v := ?_) (a' := ?_) #[true, true, true, true, true, true, true, true, true, false, false, false, false, false] rfl rfl (any_of HT_.out (by kernel_rfl)) (fun _ _ _ h => h) (Or.inl ⟨by rfl, ?_⟩) ?_ ?_
          rotate_left
          · intro w'
            go_simp
            with_reducible rfl
          rotate_left
          · simp only [Act.put, List.setIfInBounds_toArray, List.set_cons_zero, List.set_cons_succ, i64_w, i32_w]
            rfl
          refine pure_ (i := 9) (N := some 40) (v := ?_) (a' := ?_) #[true, true, true, true, true, true, true, true, true, true, false, false, false, false] rfl rfl (any_of HT_.out (by kernel_rfl)) (fun _ _ _ h => h) (Or.inl ⟨by rfl, ?_⟩) ?_ ?_
          rotate_left
          · intro w'
            go_simp
            with_reducible rfl
          rotate_left
          · simp only [Act.put, List.setIfInBounds_toArray, List.set_cons_zero, List.set_cons_succ, i64_w, i32_w]
            rfl
          refine oS_ 10 8 HT_ (fun K hK => ?_)
          refine box_step ?hg (N := 8) ?hd (cs := #[.string (⟨#[]⟩ : ByteArray), .int .i64 0, .string (⟨#[]⟩ : ByteArray)]) (t := 27) ?hr ?_; (case hd => rfl); (case hg => rfl); (case hr => first | (go_simp; done) | (go_simp; rfl))
          intro g9 hg w1009 hbox hb
          have n0_ := am_ (below_step HB.out hb)
          have n1_ := am_ (Kd.S_below HO5.out hb)
          have n2_ := am_ (Kd.R_below HO8.out hb)
          have n3_ := am_ (blk_below BK1.out hb)
          have SZ8 := am_ (show w1007.heap.size ≤ w1009.heap.size from (hb).size)
          clear HB HO5 HO8 BK1
          have HB := n0_
          have HO5 := n1_
          have HO8 := n2_
          have BK1 := n3_
          clear n0_ n1_ n2_ n3_
          have BK9 := am_ hbox
          have GL9 := am_ (show w1007.heap.size ≤ g9 from Nat.le_of_eq hg.symm)
          have GU9 := am_ (blk_lt hbox)
          clear hbox hg hb
          refine hK.out _ _ ⟨cz_ BK1.out 0, cz_ BK1.out 1, cz_ BK1.out 2⟩ (fun hHeld => ?_)
          clear hK K
          refine norm_ (a' := ?_) ?_ ?_
          rotate_left
          · show Act.put _ (some 8) _ = _
            simp only [Act.put, List.setIfInBounds_toArray, List.set_cons_zero, List.set_cons_succ, i64_w, i32_w]
            rfl
          exact nm_ (hCont ((.slice A_5 t4.length c_5), (.agg #[.string t6_0, .int .i64 t6_1, .string t6_2]), A_8, c_8, w1006, w1007, g9) _ ⟨HB.out, BK1.out, HO8.out, BK9.out, (show w3003.heap.size ≤ w1006.heap.size by first | exact Nat.le_refl _ | (have := SZ5.out; have := SZ6.out; omega)), (show w1006.heap.size ≤ w1007.heap.size by first | exact Nat.le_refl _ | (have := SZ7.out; omega)), (show w1007.heap.size ≤ w1009.heap.size by first | exact Nat.le_refl _ | (have := SZ8.out; omega)), (show w1007.heap.size ≤ g9 ∨ g9 < w1006.heap.size by have := GL9.out; have := GU9.out; omega), (show w3003.heap.size ≤ g9 by have := GL9.out; have := SZ5.out; have := SZ6.out; have := SZ7.out; omega), (show g9 < w1009.heap.size by have := GU9.out; omega)⟩)
        · skip
          refine box_step ?hg (N := 8) ?hd (cs := #[.string (⟨#[]⟩ : ByteArray), .int .i64 0, .string (⟨#[]⟩ : ByteArray)]) (t := 27) ?hr ?_; (case hd => rfl); (case hg => rfl); (case hr => first | (go_simp; done) | (go_simp; rfl))
          intro g9 hg w1009 hbox hb
          have n0_ := am_ (below_step HB.out hb)
          have n1_ := am_ (Kd.S_below HO5.out hb)
          have n2_ := am_ (blk_below BK1.out hb)
          have SZ7 := am_ (show w1006.heap.size ≤ w1009.heap.size from (hb).size)
          clear HB HO5 BK1
          have HB := n0_
          have HO5 := n1_
          have BK1 := n2_
          clear n0_ n1_ n2_
          have BK9 := am_ hbox
          have GL9 := am_ (show w1006.heap.size ≤ g9 from Nat.le_of_eq hg.symm)
          have GU9 := am_ (blk_lt hbox)
          clear hbox hg hb
          refine hK.out _ _ ⟨cz_ BK1.out 0, cz_ BK1.out 1, cz_ BK1.out 2⟩ (fun hHeld => ?_)
          clear hK K
          refine norm_ (a' := ?_) ?_ ?_
          rotate_left
          · show Act.put _ (some 8) _ = _
            simp only [Act.put, List.setIfInBounds_toArray, List.set_cons_zero, List.set_cons_succ, i64_w, i32_w]
            rfl
          refine oS_ 5 37 HT_ (fun K hK => ?_)
          refine goes_ Tryd.func7 (by kernel_rfl) rfl #[.slice A_5 t4.length c_5, .agg #[.string t6_0, .int .i64 t6_1, .string t6_2], .int .i64 a2] (by rfl) rfl rfl (by (try simp only [List.map_toArray, List.map_cons, List.map_nil]); first | done | rfl) ?_
          (with_reducible refine (spec_RunMusic.calls k _ _ t4 t6_0 t6_1 t6_2 a2 t7_0 t7_1 t7_2 t7_3 t29_4 _ ?sd7_1 ?sd7_2 A7.out).mono ?_)
          (case sd7_1 => exact (Kd.S_reads' HO5.out).2.2)
          (case sd7_2 => exact (Kd.S_reads' HO5.out).2.1)
          rintro e w1007 ⟨v_8, rfl, ho0, hb⟩
          refine ⟨_, rfl, ?_⟩
          have hs_ := below_size HB.out
          have n0_ := am_ (below_step HB.out hb)
          have n1_ := am_ (Kd.S_below HO5.out hb)
          have n2_ := am_ (blk_below BK1.out hb)
          have n3_ := am_ (blk_below BK9.out hb)
          have SZ8 := am_ (show w1009.heap.size ≤ w1007.heap.size from (hb).size)
          clear HB HO5 BK1 BK9
          have HB := n0_
          have HO5 := n1_
          have BK1 := n2_
          have BK9 := n3_
          clear n0_ n1_ n2_ n3_
          have HO8 := am_ (R_zone ho0 hs_)
          clear ho0
          obtain ⟨A_8, c_8, e_8⟩ := Kd.R_slice HO8.out
          subst e_8
          clear hb hs_
          refine hK.out _ _ ⟨cz_ BK1.out 0, cz_ BK1.out 1, cz_ BK1.out 2⟩ (fun hHeld => ?_)
          clear hK K
          refine norm_ (a' := ?_) ?_ ?_
          rotate_left
          · show Act.put _ (some 37) _ = _
            simp only [Act.put, List.setIfInBounds_toArray, List.set_cons_zero, List.set_cons_succ, i64_w, i32_w]
            rfl
          refine pure_ (i := 6) (N := some 31) (v := ?_) (a' := ?_) #[true, true, true, true, true, true, true, false, false, false, true, false, false, false] rfl rfl (any_of HT_.out (by kernel_rfl)) (fun _ _ _ h => h) (Or.inl ⟨by rfl, ?_⟩) ?_ ?_
          rotate_left
          · intro w'
            go_simp
            with_reducible rfl
          rotate_left
          · simp only [Act.put, List.setIfInBounds_toArray, List.set_cons_zero, List.set_cons_succ, i64_w, i32_w]
            rfl
          refine pure_ (i := 7) (N := some 38) (v := ?_) (a' := ?_) #[true, true, true, true, true, true, true, true, false, false, true, false, false, false] rfl rfl (any_of HT_.out (by kernel_rfl)) (fun _ _ _ h => h) (Or.inl ⟨by rfl, ?_⟩) ?_ ?_
          rotate_left
          · intro w'
            go_simp
            with_reducible rfl
          rotate_left
          · simp only [Act.put, List.setIfInBounds_toArray, List.set_cons_zero, List.set_cons_succ, i64_w, i32_w]
            rfl
          refine pure_ (i := 8) (N := some 39) (v := ?_) (a' := ?_) #[true, true, true, true, true, true, true, true, true, false, true, false, false, false] rfl rfl (any_of HT_.out (by kernel_rfl)) (fun _ _ _ h => h) (Or.inl ⟨by rfl, ?_⟩) ?_ ?_
          rotate_left
          · intro w'
            go_simp
            with_reducible rfl
          rotate_left
          · simp only [Act.put, List.setIfInBounds_toArray, List.set_cons_zero, List.set_cons_succ, i64_w, i32_w]
            rfl
          refine pure_ (i := 9) (N := some 40) (v := ?_) (a' := ?_) #[true, true, true, true, true, true, true, true, true, true, true, false, false, false] rfl rfl (any_of HT_.out (by kernel_rfl)) (fun _ _ _ h => h) (Or.inl ⟨by rfl, ?_⟩) ?_ ?_
          rotate_left
          · intro w'
            go_simp
            with_reducible rfl
          rotate_left
          · simp only [Act.put, List.setIfInBounds_toArray, List.set_cons_zero, List.set_cons_succ, i64_w, i32_w]
            rfl
          exact nm_ (hCont ((.slice A_5 t4.length c_5), (.agg #[.string t6_0, .int .i64 t6_1, .string t6_2]), A_8, c_8, w1009, w1007, g9) _ ⟨HB.out, BK1.out, HO8.out, BK9.out, (show w3003.heap.size ≤ w1009.heap.size by first | exact Nat.le_refl _ | (have := SZ5.out; have := SZ6.out; have := SZ7.out; omega)), (show w1009.heap.size ≤ w1007.heap.size by first | exact Nat.le_refl _ | (have := SZ8.out; omega)), (show w1007.heap.size ≤ w1007.heap.size by first | exact Nat.le_refl _ | (omega)), (show w1007.heap.size ≤ g9 ∨ g9 < w1009.heap.size by have := GL9.out; have := GU9.out; omega), (show w3003.heap.size ≤ g9 by have := GL9.out; have := SZ5.out; have := SZ6.out; omega), (show g9 < w1007.heap.size by have := GU9.out; have := SZ8.out; omega)⟩)
      · skip
        refine box_step ?hg (N := 8) ?hd (cs := #[.string (⟨#[]⟩ : ByteArray), .int .i64 0, .string (⟨#[]⟩ : ByteArray)]) (t := 27) ?hr ?_; (case hd => rfl); (case hg => rfl); (case hr => first | (go_simp; done) | (go_simp; rfl))
        intro g9 hg w1009 hbox hb
        have n0_ := am_ (below_step HB.out hb)
        have n1_ := am_ (Kd.S_below HO5.out hb)
        have n2_ := am_ (blk_below BK1.out hb)
        have SZ6 := am_ (show w1004.heap.size ≤ w1009.heap.size from (hb).size)
        clear HB HO5 BK1
        have HB := n0_
        have HO5 := n1_
        have BK1 := n2_
        clear n0_ n1_ n2_
        have BK9 := am_ hbox
        have GL9 := am_ (show w1004.heap.size ≤ g9 from Nat.le_of_eq hg.symm)
        have GU9 := am_ (blk_lt hbox)
        clear hbox hg hb
        refine hK.out _ _ ⟨cz_ BK1.out 0, cz_ BK1.out 1, cz_ BK1.out 2⟩ (fun hHeld => ?_)
        clear hK K
        refine norm_ (a' := ?_) ?_ ?_
        rotate_left
        · show Act.put _ (some 8) _ = _
          simp only [Act.put, List.setIfInBounds_toArray, List.set_cons_zero, List.set_cons_succ, i64_w, i32_w]
          rfl
        refine oS_ 3 35 HT_ (fun K hK => ?_)
        refine goes_ Tryd.func9 (by kernel_rfl) rfl #[.agg #[.string a1_0, .int .i64 a1_1, .string a1_2]] (by rfl) rfl rfl (by (try simp only [List.map_toArray, List.map_cons, List.map_nil]); first | done | rfl) ?_
        (with_reducible refine (laws_toMusic.calls a1_0 a1_1 a1_2 t6_0 t6_1 t6_2 _  A6.out).mono ?_)
        rintro e w1006 ⟨rfl, hb⟩
        refine ⟨_, rfl, ?_⟩
        have hs_ := below_size HB.out
        have n0_ := am_ (below_step HB.out hb)
        have n1_ := am_ (Kd.S_below HO5.out hb)
        have n2_ := am_ (blk_below BK1.out hb)
        have n3_ := am_ (blk_below BK9.out hb)
        have SZ7 := am_ (show w1009.heap.size ≤ w1006.heap.size from (hb).size)
        clear HB HO5 BK1 BK9
        have HB := n0_
        have HO5 := n1_
        have BK1 := n2_
        have BK9 := n3_
        clear n0_ n1_ n2_ n3_
        clear hb hs_
        refine hK.out _ _ ⟨cz_ BK1.out 0, cz_ BK1.out 1, cz_ BK1.out 2⟩ (fun hHeld => ?_)
        clear hK K
        refine norm_ (a' := ?_) ?_ ?_
        rotate_left
        · show Act.put _ (some 35) _ = _
          simp only [Act.put, List.setIfInBounds_toArray, List.set_cons_zero, List.set_cons_succ, i64_w, i32_w]
          rfl
        refine oS_ 5 37 HT_ (fun K hK => ?_)
        refine goes_ Tryd.func7 (by kernel_rfl) rfl #[.slice A_5 t4.length c_5, .agg #[.string t6_0, .int .i64 t6_1, .string t6_2], .int .i64 a2] (by rfl) rfl rfl (by (try simp only [List.map_toArray, List.map_cons, List.map_nil]); first | done | rfl) ?_
        (with_reducible refine (spec_RunMusic.calls k _ _ t4 t6_0 t6_1 t6_2 a2 t7_0 t7_1 t7_2 t7_3 t29_4 _ ?sd7_1 ?sd7_2 A7.out).mono ?_)
        (case sd7_1 => exact (Kd.S_reads' HO5.out).2.2)
        (case sd7_2 => exact (Kd.S_reads' HO5.out).2.1)
        rintro e w1007 ⟨v_8, rfl, ho0, hb⟩
        refine ⟨_, rfl, ?_⟩
        have hs_ := below_size HB.out
        have n0_ := am_ (below_step HB.out hb)
        have n1_ := am_ (Kd.S_below HO5.out hb)
        have n2_ := am_ (blk_below BK1.out hb)
        have n3_ := am_ (blk_below BK9.out hb)
        have SZ8 := am_ (show w1006.heap.size ≤ w1007.heap.size from (hb).size)
        clear HB HO5 BK1 BK9
        have HB := n0_
        have HO5 := n1_
        have BK1 := n2_
        have BK9 := n3_
        clear n0_ n1_ n2_ n3_
        have HO8 := am_ (R_zone ho0 hs_)
        clear ho0
        obtain ⟨A_8, c_8, e_8⟩ := Kd.R_slice HO8.out
        subst e_8
        clear hb hs_
        refine hK.out _ _ ⟨cz_ BK1.out 0, cz_ BK1.out 1, cz_ BK1.out 2⟩ (fun hHeld => ?_)
        clear hK K
        refine norm_ (a' := ?_) ?_ ?_
        rotate_left
        · show Act.put _ (some 37) _ = _
          simp only [Act.put, List.setIfInBounds_toArray, List.set_cons_zero, List.set_cons_succ, i64_w, i32_w]
          rfl
        refine pure_ (i := 6) (N := some 31) (v := ?_) (a' := ?_) #[true, true, true, true, true, true, true, false, false, false, true, false, false, false] rfl rfl (any_of HT_.out (by kernel_rfl)) (fun _ _ _ h => h) (Or.inl ⟨by rfl, ?_⟩) ?_ ?_
        rotate_left
        · intro w'
          go_simp
          with_reducible rfl
        rotate_left
        · simp only [Act.put, List.setIfInBounds_toArray, List.set_cons_zero, List.set_cons_succ, i64_w, i32_w]
          rfl
        refine pure_ (i := 7) (N := some 38) (v := ?_) (a' := ?_) #[true, true, true, true, true, true, true, true, false, false, true, false, false, false] rfl rfl (any_of HT_.out (by kernel_rfl)) (fun _ _ _ h => h) (Or.inl ⟨by rfl, ?_⟩) ?_ ?_
        rotate_left
        · intro w'
          go_simp
          with_reducible rfl
        rotate_left
        · simp only [Act.put, List.setIfInBounds_toArray, List.set_cons_zero, List.set_cons_succ, i64_w, i32_w]
          rfl
        refine pure_ (i := 8) (N := some 39) (v := ?_) (a' := ?_) #[true, true, true, true, true, true, true, true, true, false, true, false, false, false] rfl rfl (any_of HT_.out (by kernel_rfl)) (fun _ _ _ h => h) (Or.inl ⟨by rfl, ?_⟩) ?_ ?_
        rotate_left
        · intro w'
          go_simp
          with_reducible rfl
        rotate_left
        · simp only [Act.put, List.setIfInBounds_toArray, List.set_cons_zero, List.set_cons_succ, i64_w, i32_w]
          rfl
        refine pure_ (i := 9) (N := some 40) (v := ?_) (a' := ?_) #[true, true, true, true, true, true, true, true, true, true, true, false, false, false] rfl rfl (any_of HT_.out (by kernel_rfl)) (fun _ _ _ h => h) (Or.inl ⟨by rfl, ?_⟩) ?_ ?_
        rotate_left
        · intro w'
          go_simp
          with_reducible rfl
        rotate_left
        · simp only [Act.put, List.setIfInBounds_toArray, List.set_cons_zero, List.set_cons_succ, i64_w, i32_w]
          rfl
        exact nm_ (hCont ((.slice A_5 t4.length c_5), (.agg #[.string t6_0, .int .i64 t6_1, .string t6_2]), A_8, c_8, w1006, w1007, g9) _ ⟨HB.out, BK1.out, HO8.out, BK9.out, (show w3003.heap.size ≤ w1006.heap.size by first | exact Nat.le_refl _ | (have := SZ5.out; have := SZ6.out; have := SZ7.out; omega)), (show w1006.heap.size ≤ w1007.heap.size by first | exact Nat.le_refl _ | (have := SZ8.out; omega)), (show w1007.heap.size ≤ w1007.heap.size by first | exact Nat.le_refl _ | (omega)), (show w1007.heap.size ≤ g9 ∨ g9 < w1006.heap.size by have := GL9.out; have := GU9.out; have := SZ7.out; omega), (show w3003.heap.size ≤ g9 by have := GL9.out; have := SZ5.out; omega), (show g9 < w1007.heap.size by have := GU9.out; have := SZ7.out; have := SZ8.out; omega)⟩)
    · skip
      refine box_step ?hg (N := 8) ?hd (cs := #[.string (⟨#[]⟩ : ByteArray), .int .i64 0, .string (⟨#[]⟩ : ByteArray)]) (t := 27) ?hr ?_; (case hd => rfl); (case hg => rfl); (case hr => first | (go_simp; done) | (go_simp; rfl))
      intro g9 hg w1009 hbox hb
      have n0_ := am_ (below_step HB.out hb)
      have n1_ := am_ (blk_below BK1.out hb)
      have SZ5 := am_ (show w3003.heap.size ≤ w1009.heap.size from (hb).size)
      clear HB BK1
      have HB := n0_
      have BK1 := n1_
      clear n0_ n1_
      have BK9 := am_ hbox
      have GL9 := am_ (show w3003.heap.size ≤ g9 from Nat.le_of_eq hg.symm)
      have GU9 := am_ (blk_lt hbox)
      clear hbox hg hb
      refine hK.out _ _ ⟨cz_ BK1.out 0, cz_ BK1.out 1, cz_ BK1.out 2⟩ (fun hHeld => ?_)
      clear hK K
      refine norm_ (a' := ?_) ?_ ?_
      rotate_left
      · show Act.put _ (some 8) _ = _
        simp only [Act.put, List.setIfInBounds_toArray, List.set_cons_zero, List.set_cons_succ, i64_w, i32_w]
        rfl
      refine oS_ 1 33 HT_ (fun K hK => ?_)
      refine goes_ Tryd.func8 (by kernel_rfl) rfl #[.slice A0 l0.length c0] (by rfl) rfl rfl (by (try simp only [List.map_toArray, List.map_cons, List.map_nil]); first | done | rfl) ?_
      (with_reducible refine (laws_toSectionS.calls k _ _ l0 t4 _ ?sd4_1 ?sd4_2 A4.out).mono ?_)
      (case sd4_1 => exact Kd.C_below HR0.out HB.out)
      (case sd4_2 => exact HC0.out)
      rintro e w1004 ⟨v_5, rfl, ho0, hb⟩
      refine ⟨_, rfl, ?_⟩
      have hs_ := below_size HB.out
      have n0_ := am_ (below_step HB.out hb)
      have n1_ := am_ (blk_below BK1.out hb)
      have n2_ := am_ (blk_below BK9.out hb)
      have SZ6 := am_ (show w1009.heap.size ≤ w1004.heap.size from (hb).size)
      clear HB BK1 BK9
      have HB := n0_
      have BK1 := n1_
      have BK9 := n2_
      clear n0_ n1_ n2_
      have HO5 := am_ (S_zone ho0 hs_)
      clear ho0
      obtain ⟨A_5, c_5, e_5⟩ := Kd.S_slice HO5.out
      subst e_5
      clear hb hs_
      refine hK.out _ _ ⟨cz_ BK1.out 0, cz_ BK1.out 1, cz_ BK1.out 2⟩ (fun hHeld => ?_)
      clear hK K
      refine norm_ (a' := ?_) ?_ ?_
      rotate_left
      · show Act.put _ (some 33) _ = _
        simp only [Act.put, List.setIfInBounds_toArray, List.set_cons_zero, List.set_cons_succ, i64_w, i32_w]
        rfl
      refine oS_ 3 35 HT_ (fun K hK => ?_)
      refine goes_ Tryd.func9 (by kernel_rfl) rfl #[.agg #[.string a1_0, .int .i64 a1_1, .string a1_2]] (by rfl) rfl rfl (by (try simp only [List.map_toArray, List.map_cons, List.map_nil]); first | done | rfl) ?_
      (with_reducible refine (laws_toMusic.calls a1_0 a1_1 a1_2 t6_0 t6_1 t6_2 _  A6.out).mono ?_)
      rintro e w1006 ⟨rfl, hb⟩
      refine ⟨_, rfl, ?_⟩
      have hs_ := below_size HB.out
      have n0_ := am_ (below_step HB.out hb)
      have n1_ := am_ (Kd.S_below HO5.out hb)
      have n2_ := am_ (blk_below BK1.out hb)
      have n3_ := am_ (blk_below BK9.out hb)
      have SZ7 := am_ (show w1004.heap.size ≤ w1006.heap.size from (hb).size)
      clear HB HO5 BK1 BK9
      have HB := n0_
      have HO5 := n1_
      have BK1 := n2_
      have BK9 := n3_
      clear n0_ n1_ n2_ n3_
      clear hb hs_
      refine hK.out _ _ ⟨cz_ BK1.out 0, cz_ BK1.out 1, cz_ BK1.out 2⟩ (fun hHeld => ?_)
      clear hK K
      refine norm_ (a' := ?_) ?_ ?_
      rotate_left
      · show Act.put _ (some 35) _ = _
        simp only [Act.put, List.setIfInBounds_toArray, List.set_cons_zero, List.set_cons_succ, i64_w, i32_w]
        rfl
      refine oS_ 5 37 HT_ (fun K hK => ?_)
      refine goes_ Tryd.func7 (by kernel_rfl) rfl #[.slice A_5 t4.length c_5, .agg #[.string t6_0, .int .i64 t6_1, .string t6_2], .int .i64 a2] (by rfl) rfl rfl (by (try simp only [List.map_toArray, List.map_cons, List.map_nil]); first | done | rfl) ?_
      (with_reducible refine (spec_RunMusic.calls k _ _ t4 t6_0 t6_1 t6_2 a2 t7_0 t7_1 t7_2 t7_3 t29_4 _ ?sd7_1 ?sd7_2 A7.out).mono ?_)
      (case sd7_1 => exact (Kd.S_reads' HO5.out).2.2)
      (case sd7_2 => exact (Kd.S_reads' HO5.out).2.1)
      rintro e w1007 ⟨v_8, rfl, ho0, hb⟩
      refine ⟨_, rfl, ?_⟩
      have hs_ := below_size HB.out
      have n0_ := am_ (below_step HB.out hb)
      have n1_ := am_ (Kd.S_below HO5.out hb)
      have n2_ := am_ (blk_below BK1.out hb)
      have n3_ := am_ (blk_below BK9.out hb)
      have SZ8 := am_ (show w1006.heap.size ≤ w1007.heap.size from (hb).size)
      clear HB HO5 BK1 BK9
      have HB := n0_
      have HO5 := n1_
      have BK1 := n2_
      have BK9 := n3_
      clear n0_ n1_ n2_ n3_
      have HO8 := am_ (R_zone ho0 hs_)
      clear ho0
      obtain ⟨A_8, c_8, e_8⟩ := Kd.R_slice HO8.out
      subst e_8
      clear hb hs_
      refine hK.out _ _ ⟨cz_ BK1.out 0, cz_ BK1.out 1, cz_ BK1.out 2⟩ (fun hHeld => ?_)
      clear hK K
      refine norm_ (a' := ?_) ?_ ?_
      rotate_left
      · show Act.put _ (some 37) _ = _
        simp only [Act.put, List.setIfInBounds_toArray, List.set_cons_zero, List.set_cons_succ, i64_w, i32_w]
        rfl
      refine pure_ (i := 6) (N := some 31) (v := ?_) (a' := ?_) #[true, true, true, true, true, true, true, false, false, false, true, false, false, false] rfl rfl (any_of HT_.out (by kernel_rfl)) (fun _ _ _ h => h) (Or.inl ⟨by rfl, ?_⟩) ?_ ?_
      rotate_left
      · intro w'
        go_simp
        with_reducible rfl
      rotate_left
      · simp only [Act.put, List.setIfInBounds_toArray, List.set_cons_zero, List.set_cons_succ, i64_w, i32_w]
        rfl
      refine pure_ (i := 7) (N := some 38) (v := ?_) (a' := ?_) #[true, true, true, true, true, true, true, true, false, false, true, false, false, false] rfl rfl (any_of HT_.out (by kernel_rfl)) (fun _ _ _ h => h) (Or.inl ⟨by rfl, ?_⟩) ?_ ?_
      rotate_left
      · intro w'
        go_simp
        with_reducible rfl
      rotate_left
      · simp only [Act.put, List.setIfInBounds_toArray, List.set_cons_zero, List.set_cons_succ, i64_w, i32_w]
        rfl
      refine pure_ (i := 8) (N := some 39) (v := ?_) (a' := ?_) #[true, true, true, true, true, true, true, true, true, false, true, false, false, false] rfl rfl (any_of HT_.out (by kernel_rfl)) (fun _ _ _ h => h) (Or.inl ⟨by rfl, ?_⟩) ?_ ?_
      rotate_left
      · intro w'
        go_simp
        with_reducible rfl
      rotate_left
      · simp only [Act.put, List.setIfInBounds_toArray, List.set_cons_zero, List.set_cons_succ, i64_w, i32_w]
        rfl
      refine pure_ (i := 9) (N := some 40) (v := ?_) (a' := ?_) #[true, true, true, true, true, true, true, true, true, true, true, false, false, false] rfl rfl (any_of HT_.out (by kernel_rfl)) (fun _ _ _ h => h) (Or.inl ⟨by rfl, ?_⟩) ?_ ?_
      rotate_left
      · intro w'
        go_simp
        with_reducible rfl
      rotate_left
      · simp only [Act.put, List.setIfInBounds_toArray, List.set_cons_zero, List.set_cons_succ, i64_w, i32_w]
        rfl
      exact nm_ (hCont ((.slice A_5 t4.length c_5), (.agg #[.string t6_0, .int .i64 t6_1, .string t6_2]), A_8, c_8, w1006, w1007, g9) _ ⟨HB.out, BK1.out, HO8.out, BK9.out, (show w3003.heap.size ≤ w1006.heap.size by first | exact Nat.le_refl _ | (have := SZ5.out; have := SZ6.out; have := SZ7.out; omega)), (show w1006.heap.size ≤ w1007.heap.size by first | exact Nat.le_refl _ | (have := SZ8.out; omega)), (show w1007.heap.size ≤ w1007.heap.size by first | exact Nat.le_refl _ | (omega)), (show w1007.heap.size ≤ g9 ∨ g9 < w1006.heap.size by have := GL9.out; have := GU9.out; have := SZ6.out; have := SZ7.out; omega), (show w3003.heap.size ≤ g9 by have := GL9.out; omega), (show g9 < w1007.heap.size by have := GU9.out; have := SZ6.out; have := SZ7.out; have := SZ8.out; omega)⟩)
  rintro ⟨vv33, vv35, A_8, c_8, za9, zb9, g9⟩ w4009 ⟨h0_, h1_, h2_, h3_, h4_, h5_, h6_, h7_, h8_, h9_⟩
  have n0_ : Aside0 (Below w.heap.size w w4009) := ⟨h0_⟩
  have n1_ : Aside0 (w4009.heap[g1]? = some (.cells #[.string a1_0, .int .i64 a1_1, .string a1_2] 24 (0, 0))) := ⟨h1_⟩
  have n2_ : Aside0 (Kd.R Kd.string 9 w4009 w.heap.size (Zone za9 zb9 (9 :: (Kd.string).E)) (.slice A_8 t7_3.length c_8) t7_3) := ⟨h2_⟩
  have n3_ : Aside0 (w4009.heap[g9]? = some (.cells #[.string (⟨#[]⟩ : ByteArray), .int .i64 0, .string (⟨#[]⟩ : ByteArray)] 27 (0, 0))) := ⟨h3_⟩
  have n4_ : Aside0 (w3003.heap.size ≤ za9.heap.size) := ⟨h4_⟩
  have n5_ : Aside0 (za9.heap.size ≤ zb9.heap.size) := ⟨h5_⟩
  have n6_ : Aside0 (zb9.heap.size ≤ w4009.heap.size) := ⟨h6_⟩
  have n7_ : Aside0 (zb9.heap.size ≤ g9 ∨ g9 < za9.heap.size) := ⟨h7_⟩
  have n8_ : Aside0 (w3003.heap.size ≤ g9) := ⟨h8_⟩
  have n9_ : Aside0 (g9 < w4009.heap.size) := ⟨h9_⟩
  clear HB BK1
  clear h0_ h1_ h2_ h3_ h4_ h5_ h6_ h7_ h8_ h9_
  have HB := n0_
  have BK1 := n1_
  have HO8 := n2_
  have BK9 := n3_
  have SZ5 := n4_
  have SZ6 := n5_
  have SZ7 := n6_
  have DJ9 := n7_
  have GL9 := n8_
  have GU9 := n9_
  clear n0_ n1_ n2_ n3_ n4_ n5_ n6_ n7_ n8_ n9_
  have hHeld : w4009.cell? ⟨g1, 0, none⟩ = some (.string a1_0) ∧ w4009.cell? ⟨g1, 1, none⟩ = some (.int .i64 a1_1) ∧ w4009.cell? ⟨g1, 2, none⟩ = some (.string a1_2) := ⟨cz_ BK1.out 0, cz_ BK1.out 1, cz_ BK1.out 2⟩
  refine norm_ (a' := ?_) ?_ ?_
  rotate_left
  · simp only [putAll, Act.put, List.setIfInBounds_toArray, List.set_cons_zero, List.set_cons_succ]
    rfl
  refine one_ (i := 11) (N := none) #[true, true, true, true, true, true, true, true, true, true, true, true, false, false] rfl rfl (one_of HT_.out (by kernel_rfl)) (by decide) (fun K hK => ?_)
  have hx9_0 := cz_ BK9.out 0; have hf9_0 : w4009.frozen? ⟨g9, 0, none⟩ = false := blk_frozen BK9.out 0
  have hx9_1 := cz_ BK9.out 1; have hf9_1 : w4009.frozen? ⟨g9, 1, none⟩ = false := blk_frozen BK9.out 1
  have hx9_2 := cz_ BK9.out 2; have hf9_2 : w4009.frozen? ⟨g9, 2, none⟩ = false := blk_frozen BK9.out 2
  obtain ⟨w5009, hw⟩ : ∃ x_, x_ = (((w4009.setCell ⟨g9, 0, none⟩ (.string t7_0)).setCell ⟨g9, 1, none⟩ (.int .i64 t7_1)).setCell ⟨g9, 2, none⟩ (.string t7_2)) := ⟨_, rfl⟩
  refine skip_ (w1 := w5009) (by rfl) rfl ?_ ?_
  · rw [hw]; first | (go_simp; done) | (go_simp; rfl)
  clear hx9_0 hf9_0 hx9_1 hf9_1 hx9_2 hf9_2
  have hge_ : w.heap.size ≤ g9 := (by have := GL9.out; have := SZ1.out; have := SZ2.out; have := SZ3.out; have := SZ4.out; omega)
  have hb : Below w.heap.size w w5009 := (by rw [hw]; exact below_set (below_set (below_set (HB.out) hge_) hge_) hge_)
  have hkp : Kept w4009 w5009 (fun k_ => k_ = g9) := (by rw [hw]; exact Kept.setCell (Kept.setCell (Kept.setCell (Kept.refl w4009 (fun k_ => k_ = g9)) (.inl rfl) (.string t7_0)) (.inl rfl) (.int .i64 t7_1)) (.inl rfl) (.string t7_2))
  have hbk : w5009.heap[g9]? = some (.cells #[.string t7_0, .int .i64 t7_1, .string t7_2] 27 (0, 0)) := (by rw [hw]; exact blk_put (cs' := #[.string t7_0, .int .i64 t7_1, .string t7_2]) (blk_put (cs' := #[.string t7_0, .int .i64 t7_1, .string (⟨#[]⟩ : ByteArray)]) (blk_put (cs' := #[.string t7_0, .int .i64 0, .string (⟨#[]⟩ : ByteArray)]) (BK9.out) 0 (.string t7_0) rfl) 1 (.int .i64 t7_1) rfl) 2 (.string t7_2) rfl)
  have n0_ := am_ (hb)
  have n1_ := am_ (Kd.R_step HO8.out (fun k_ h_ hlt_ => hkp.2 k_ hlt_ (fun e_ => (show False from Zone.notblk h_ e_ DJ9.out).elim)))
  have n2_ := am_ ((hkp.2 g1 (blk_lt BK1.out) (fun e_ => (by have e2_ : g1 = g9 := e_; have := GL1.out; have := GU1.out; have := GL9.out; have := GU9.out; have := SZ2.out; have := SZ3.out; have := SZ4.out; omega))).trans BK1.out)
  have n3_ := am_ (hbk)
  have SZ8 := am_ (show w4009.heap.size ≤ w5009.heap.size from hkp.1)
  clear HB HO8 BK1 BK9
  have HB := n0_
  have HO8 := n1_
  have BK1 := n2_
  have BK9 := n3_
  clear n0_ n1_ n2_ n3_
  clear hb hkp hbk hw hge_
  refine hK.out _ _ ⟨cz_ BK1.out 0, cz_ BK1.out 1, cz_ BK1.out 2⟩ (fun hHeld => ?_)
  clear hK K
  refine pure_ (i := 12) (N := some 9) (v := ?_) (a' := ?_) #[true, true, true, true, true, true, true, true, true, true, true, true, true, false] rfl rfl (any_of HT_.out (by kernel_rfl)) (fun _ _ _ h => h) (Or.inl ⟨by rfl, ?_⟩) ?_ ?_
  rotate_left
  · intro w'
    go_simp
    with_reducible rfl
  rotate_left
  · simp only [Act.put, List.setIfInBounds_toArray, List.set_cons_zero, List.set_cons_succ, i64_w, i32_w]
    rfl
  refine pure_ (i := 13) (N := some 10) (v := ?_) (a' := ?_) #[true, true, true, true, true, true, true, true, true, true, true, true, true, true] rfl rfl (any_of HT_.out (by kernel_rfl)) (fun _ _ _ h => h) (Or.inl ⟨by rfl, ?_⟩) ?_ ?_
  rotate_left
  · intro w'
    go_simp
    with_reducible rfl
  rotate_left
  · simp only [Act.put, List.setIfInBounds_toArray, List.set_cons_zero, List.set_cons_succ, i64_w, i32_w]
    rfl
  refine done_ (done_of HT_.out (by kernel_rfl)) ?_
  clear hHeld
  try clear HT_ HW_
  have hx1_0 := cz_ BK1.out 0
  have hf1_0 : w5009.frozen? ⟨g1, 0, none⟩ = false := blk_frozen BK1.out 0
  have hx1_1 := cz_ BK1.out 1
  have hf1_1 : w5009.frozen? ⟨g1, 1, none⟩ = false := blk_frozen BK1.out 1
  have hx1_2 := cz_ BK1.out 2
  have hf1_2 : w5009.frozen? ⟨g1, 2, none⟩ = false := blk_frozen BK1.out 2
  have hx9_0 := cz_ BK9.out 0
  have hf9_0 : w5009.frozen? ⟨g9, 0, none⟩ = false := blk_frozen BK9.out 0
  have hx9_1 := cz_ BK9.out 1
  have hf9_1 : w5009.frozen? ⟨g9, 1, none⟩ = false := blk_frozen BK9.out 1
  have hx9_2 := cz_ BK9.out 2
  have hf9_2 : w5009.frozen? ⟨g9, 2, none⟩ = false := blk_frozen BK9.out 2
  skip
  go_upto_region 27 with (first | (go_at_call 8; (with_reducible refine (laws_toSectionS.calls k _ _ l0 t10 _ ?sd10_1 ?sd10_2 A10.out).mono ?_); (case sd10_1 => exact Kd.C_below HR0.out HB.out); (case sd10_2 => exact HC0.out); rintro e w1010 ⟨v_11, rfl, ho0, hb⟩; have hs_ := below_size HB.out; clear hx1_0 hf1_0 hx1_1 hf1_1 hx1_2 hf1_2 hx9_0 hf9_0 hx9_1 hf9_1 hx9_2 hf9_2; have n0_ := am_ (below_step HB.out hb); have n1_ := am_ (Kd.R_below HO8.out hb); have n2_ := am_ (blk_below BK1.out hb); have n3_ := am_ (blk_below BK9.out hb); have SZ9 := am_ (show w5009.heap.size ≤ w1010.heap.size from (hb).size); clear HB HO8 BK1 BK9; have HB := n0_; have HO8 := n1_; have BK1 := n2_; have BK9 := n3_; clear n0_ n1_ n2_ n3_; have HO11 := am_ (S_zone ho0 hs_); clear ho0; obtain ⟨A_11, c_11, e_11⟩ := Kd.S_slice HO11.out; subst e_11; clear hb hs_; have hx1_0 := cz_ BK1.out 0; have hf1_0 : w1010.frozen? ⟨g1, 0, none⟩ = false := blk_frozen BK1.out 0; have hx1_1 := cz_ BK1.out 1; have hf1_1 : w1010.frozen? ⟨g1, 1, none⟩ = false := blk_frozen BK1.out 1; have hx1_2 := cz_ BK1.out 2; have hf1_2 : w1010.frozen? ⟨g1, 2, none⟩ = false := blk_frozen BK1.out 2; have hx9_0 := cz_ BK9.out 0; have hf9_0 : w1010.frozen? ⟨g9, 0, none⟩ = false := blk_frozen BK9.out 0; have hx9_1 := cz_ BK9.out 1; have hf9_1 : w1010.frozen? ⟨g9, 1, none⟩ = false := blk_frozen BK9.out 1; have hx9_2 := cz_ BK9.out 2; have hf9_2 : w1010.frozen? ⟨g9, 2, none⟩ = false := blk_frozen BK9.out 2) | (go_at_call 9; (with_reducible refine (laws_toMusic.calls a1_0 a1_1 a1_2 t12_0 t12_1 t12_2 _  A12.out).mono ?_); rintro e w1012 ⟨rfl, hb⟩; have hs_ := below_size HB.out; clear hx1_0 hf1_0 hx1_1 hf1_1 hx1_2 hf1_2 hx9_0 hf9_0 hx9_1 hf9_1 hx9_2 hf9_2; have n0_ := am_ (below_step HB.out hb); have n1_ := am_ (Kd.R_below HO8.out hb); have n2_ := am_ (Kd.S_below HO11.out hb); have n3_ := am_ (blk_below BK1.out hb); have n4_ := am_ (blk_below BK9.out hb); have SZ10 := am_ (show w1010.heap.size ≤ w1012.heap.size from (hb).size); clear HB HO8 HO11 BK1 BK9; have HB := n0_; have HO8 := n1_; have HO11 := n2_; have BK1 := n3_; have BK9 := n4_; clear n0_ n1_ n2_ n3_ n4_; clear hb hs_; have hx1_0 := cz_ BK1.out 0; have hf1_0 : w1012.frozen? ⟨g1, 0, none⟩ = false := blk_frozen BK1.out 0; have hx1_1 := cz_ BK1.out 1; have hf1_1 : w1012.frozen? ⟨g1, 1, none⟩ = false := blk_frozen BK1.out 1; have hx1_2 := cz_ BK1.out 2; have hf1_2 : w1012.frozen? ⟨g1, 2, none⟩ = false := blk_frozen BK1.out 2; have hx9_0 := cz_ BK9.out 0; have hf9_0 : w1012.frozen? ⟨g9, 0, none⟩ = false := blk_frozen BK9.out 0; have hx9_1 := cz_ BK9.out 1; have hf9_1 : w1012.frozen? ⟨g9, 1, none⟩ = false := blk_frozen BK9.out 1; have hx9_2 := cz_ BK9.out 2; have hf9_2 : w1012.frozen? ⟨g9, 2, none⟩ = false := blk_frozen BK9.out 2) | (go_at_call 10; (with_reducible refine (impl_RunMusic.calls k _ _ t10 t12_0 t12_1 t12_2 a2 t13_0 t13_1 t13_2 t13_3 t29_4 _ ?sd13_1 ?sd13_2 A13.out).mono ?_); (case sd13_1 => exact (Kd.S_reads' HO11.out).2.2); (case sd13_2 => exact (Kd.S_reads' HO11.out).2.1); rintro e w1013 ⟨v_14, rfl, ho0, hb⟩; have hs_ := below_size HB.out; clear hx1_0 hf1_0 hx1_1 hf1_1 hx1_2 hf1_2 hx9_0 hf9_0 hx9_1 hf9_1 hx9_2 hf9_2; have n0_ := am_ (below_step HB.out hb); have n1_ := am_ (Kd.R_below HO8.out hb); have n2_ := am_ (Kd.S_below HO11.out hb); have n3_ := am_ (blk_below BK1.out hb); have n4_ := am_ (blk_below BK9.out hb); have SZ11 := am_ (show w1012.heap.size ≤ w1013.heap.size from (hb).size); clear HB HO8 HO11 BK1 BK9; have HB := n0_; have HO8 := n1_; have HO11 := n2_; have BK1 := n3_; have BK9 := n4_; clear n0_ n1_ n2_ n3_ n4_; have HO14 := am_ (R_zone ho0 hs_); clear ho0; obtain ⟨A_14, c_14, e_14⟩ := Kd.R_slice HO14.out; subst e_14; clear hb hs_; have hx1_0 := cz_ BK1.out 0; have hf1_0 : w1013.frozen? ⟨g1, 0, none⟩ = false := blk_frozen BK1.out 0; have hx1_1 := cz_ BK1.out 1; have hf1_1 : w1013.frozen? ⟨g1, 1, none⟩ = false := blk_frozen BK1.out 1; have hx1_2 := cz_ BK1.out 2; have hf1_2 : w1013.frozen? ⟨g1, 2, none⟩ = false := blk_frozen BK1.out 2; have hx9_0 := cz_ BK9.out 0; have hf9_0 : w1013.frozen? ⟨g9, 0, none⟩ = false := blk_frozen BK9.out 0; have hx9_1 := cz_ BK9.out 1; have hf9_1 : w1013.frozen? ⟨g9, 1, none⟩ = false := blk_frozen BK9.out 1; have hx9_2 := cz_ BK9.out 2; have hf9_2 : w1013.frozen? ⟨g9, 2, none⟩ = false := blk_frozen BK9.out 2) | ((with_reducible refine gate_dst (N := 12) rfl ?_); refine bx_ 12 #[.string (⟨#[]⟩ : ByteArray), .int .i64 0, .string (⟨#[]⟩ : ByteArray)] 27 ?_; intro g15 hg w1015 hbox hb; clear hx1_0 hf1_0 hx1_1 hf1_1 hx1_2 hf1_2 hx9_0 hf9_0 hx9_1 hf9_1 hx9_2 hf9_2; have n0_ := am_ (below_step HB.out hb); have n1_ := am_ (Kd.R_below HO8.out hb); have n2_ := am_ (Kd.S_below HO11.out hb); have n3_ := am_ (Kd.R_below HO14.out hb); have n4_ := am_ (blk_below BK1.out hb); have n5_ := am_ (blk_below BK9.out hb); have SZ12 := am_ (show w1013.heap.size ≤ w1015.heap.size from (hb).size); clear HB HO8 HO11 HO14 BK1 BK9; have HB := n0_; have HO8 := n1_; have HO11 := n2_; have HO14 := n3_; have BK1 := n4_; have BK9 := n5_; clear n0_ n1_ n2_ n3_ n4_ n5_; have BK15 := am_ hbox; have GL15 := am_ (show w1013.heap.size ≤ g15 from Nat.le_of_eq hg.symm); have GU15 := am_ (blk_lt hbox); clear hbox hg hb; have hx1_0 := cz_ BK1.out 0; have hf1_0 : w1015.frozen? ⟨g1, 0, none⟩ = false := blk_frozen BK1.out 0; have hx1_1 := cz_ BK1.out 1; have hf1_1 : w1015.frozen? ⟨g1, 1, none⟩ = false := blk_frozen BK1.out 1; have hx1_2 := cz_ BK1.out 2; have hf1_2 : w1015.frozen? ⟨g1, 2, none⟩ = false := blk_frozen BK1.out 2; have hx9_0 := cz_ BK9.out 0; have hf9_0 : w1015.frozen? ⟨g9, 0, none⟩ = false := blk_frozen BK9.out 0; have hx9_1 := cz_ BK9.out 1; have hf9_1 : w1015.frozen? ⟨g9, 1, none⟩ = false := blk_frozen BK9.out 1; have hx9_2 := cz_ BK9.out 2; have hf9_2 : w1015.frozen? ⟨g9, 2, none⟩ = false := blk_frozen BK9.out 2; have hx15_0 := cz_ BK15.out 0; have hf15_0 : w1015.frozen? ⟨g15, 0, none⟩ = false := blk_frozen BK15.out 0; have hx15_1 := cz_ BK15.out 1; have hf15_1 : w1015.frozen? ⟨g15, 1, none⟩ = false := blk_frozen BK15.out 1; have hx15_2 := cz_ BK15.out 2; have hf15_2 : w1015.frozen? ⟨g15, 2, none⟩ = false := blk_frozen BK15.out 2) | ((with_reducible refine gate_store (t := 27) (p := 12) rfl ?_); refine se_ 27 12 (((w1015.setCell ⟨g15, 0, none⟩ (.string t13_0)).setCell ⟨g15, 1, none⟩ (.int .i64 t13_1)).setCell ⟨g15, 2, none⟩ (.string t13_2)) ?_; intro w2014 hw; have hge_ : w.heap.size ≤ g15 := (by have := GL15.out; have := SZ1.out; have := SZ2.out; have := SZ3.out; have := SZ4.out; have := SZ5.out; have := SZ6.out; have := SZ7.out; have := SZ8.out; have := SZ9.out; have := SZ10.out; have := SZ11.out; omega); have hb : Below w.heap.size w w2014 := (by rw [hw]; exact below_set (below_set (below_set (HB.out) hge_) hge_) hge_); have hkp : Kept w1015 w2014 (fun k_ => k_ = g15) := (by rw [hw]; exact Kept.setCell (Kept.setCell (Kept.setCell (Kept.refl w1015 (fun k_ => k_ = g15)) (.inl rfl) (.string t13_0)) (.inl rfl) (.int .i64 t13_1)) (.inl rfl) (.string t13_2)); have hbk : w2014.heap[g15]? = some (.cells #[.string t13_0, .int .i64 t13_1, .string t13_2] 27 (0, 0)) := (by rw [hw]; exact blk_put (cs' := #[.string t13_0, .int .i64 t13_1, .string t13_2]) (blk_put (cs' := #[.string t13_0, .int .i64 t13_1, .string (⟨#[]⟩ : ByteArray)]) (blk_put (cs' := #[.string t13_0, .int .i64 0, .string (⟨#[]⟩ : ByteArray)]) (BK15.out) 0 (.string t13_0) rfl) 1 (.int .i64 t13_1) rfl) 2 (.string t13_2) rfl); clear hx1_0 hf1_0 hx1_1 hf1_1 hx1_2 hf1_2 hx9_0 hf9_0 hx9_1 hf9_1 hx9_2 hf9_2 hx15_0 hf15_0 hx15_1 hf15_1 hx15_2 hf15_2; have n0_ := am_ (hb); have n1_ := am_ (Kd.R_step HO8.out (fun k_ h_ hlt_ => hkp.2 k_ hlt_ (fun e_ => (show False from Zone.notblk h_ e_ (by have := GL15.out; have := GU15.out; have := SZ7.out; have := SZ8.out; have := SZ9.out; have := SZ10.out; have := SZ11.out; first | exact .inl (by omega) | exact .inr (by omega))).elim))); have n2_ := am_ (Kd.S_step HO11.out (fun k_ h_ hlt_ => hkp.2 k_ hlt_ (fun e_ => (show False from Zone.notblk h_ e_ (by have := GL15.out; have := GU15.out; have := SZ10.out; have := SZ11.out; first | exact .inl (by omega) | exact .inr (by omega))).elim))); have n3_ := am_ (Kd.R_step HO14.out (fun k_ h_ hlt_ => hkp.2 k_ hlt_ (fun e_ => (show False from Zone.notblk h_ e_ (by have := GL15.out; have := GU15.out; first | exact .inl (by omega) | exact .inr (by omega))).elim))); have n4_ := am_ ((hkp.2 g1 (blk_lt BK1.out) (fun e_ => (by have e2_ : g1 = g15 := e_; have := GL1.out; have := GU1.out; have := GL15.out; have := GU15.out; have := SZ2.out; have := SZ3.out; have := SZ4.out; have := SZ5.out; have := SZ6.out; have := SZ7.out; have := SZ8.out; have := SZ9.out; have := SZ10.out; have := SZ11.out; omega))).trans BK1.out); have n5_ := am_ ((hkp.2 g9 (blk_lt BK9.out) (fun e_ => (by have e2_ : g9 = g15 := e_; have := GL9.out; have := GU9.out; have := GL15.out; have := GU15.out; have := SZ8.out; have := SZ9.out; have := SZ10.out; have := SZ11.out; omega))).trans BK9.out); have n6_ := am_ (hbk); have SZ13 := am_ (show w1015.heap.size ≤ w2014.heap.size from hkp.1); clear HB HO8 HO11 HO14 BK1 BK9 BK15; have HB := n0_; have HO8 := n1_; have HO11 := n2_; have HO14 := n3_; have BK1 := n4_; have BK9 := n5_; have BK15 := n6_; clear n0_ n1_ n2_ n3_ n4_ n5_ n6_; clear hb hkp hbk hw hge_; have hx1_0 := cz_ BK1.out 0; have hf1_0 : w2014.frozen? ⟨g1, 0, none⟩ = false := blk_frozen BK1.out 0; have hx1_1 := cz_ BK1.out 1; have hf1_1 : w2014.frozen? ⟨g1, 1, none⟩ = false := blk_frozen BK1.out 1; have hx1_2 := cz_ BK1.out 2; have hf1_2 : w2014.frozen? ⟨g1, 2, none⟩ = false := blk_frozen BK1.out 2; have hx9_0 := cz_ BK9.out 0; have hf9_0 : w2014.frozen? ⟨g9, 0, none⟩ = false := blk_frozen BK9.out 0; have hx9_1 := cz_ BK9.out 1; have hf9_1 : w2014.frozen? ⟨g9, 1, none⟩ = false := blk_frozen BK9.out 1; have hx9_2 := cz_ BK9.out 2; have hf9_2 : w2014.frozen? ⟨g9, 2, none⟩ = false := blk_frozen BK9.out 2; have hx15_0 := cz_ BK15.out 0; have hf15_0 : w2014.frozen? ⟨g15, 0, none⟩ = false := blk_frozen BK15.out 0; have hx15_1 := cz_ BK15.out 1; have hf15_1 : w2014.frozen? ⟨g15, 1, none⟩ = false := blk_frozen BK15.out 1; have hx15_2 := cz_ BK15.out 2; have hf15_2 : w2014.frozen? ⟨g15, 2, none⟩ = false := blk_frozen BK15.out 2) | (go_at_call 11; (with_reducible refine (laws_eqMusic.calls t13_0 t13_1 t13_2 t7_0 t7_1 t7_2 true _  A16.out).mono ?_); rintro e w1016 ⟨rfl, hb⟩; have hs_ := below_size HB.out; clear hx1_0 hf1_0 hx1_1 hf1_1 hx1_2 hf1_2 hx9_0 hf9_0 hx9_1 hf9_1 hx9_2 hf9_2 hx15_0 hf15_0 hx15_1 hf15_1 hx15_2 hf15_2; have n0_ := am_ (below_step HB.out hb); have n1_ := am_ (Kd.R_below HO8.out hb); have n2_ := am_ (Kd.S_below HO11.out hb); have n3_ := am_ (Kd.R_below HO14.out hb); have n4_ := am_ (blk_below BK1.out hb); have n5_ := am_ (blk_below BK9.out hb); have n6_ := am_ (blk_below BK15.out hb); have SZ14 := am_ (show w2014.heap.size ≤ w1016.heap.size from (hb).size); clear HB HO8 HO11 HO14 BK1 BK9 BK15; have HB := n0_; have HO8 := n1_; have HO11 := n2_; have HO14 := n3_; have BK1 := n4_; have BK9 := n5_; have BK15 := n6_; clear n0_ n1_ n2_ n3_ n4_ n5_ n6_; clear hb hs_; have hx1_0 := cz_ BK1.out 0; have hf1_0 : w1016.frozen? ⟨g1, 0, none⟩ = false := blk_frozen BK1.out 0; have hx1_1 := cz_ BK1.out 1; have hf1_1 : w1016.frozen? ⟨g1, 1, none⟩ = false := blk_frozen BK1.out 1; have hx1_2 := cz_ BK1.out 2; have hf1_2 : w1016.frozen? ⟨g1, 2, none⟩ = false := blk_frozen BK1.out 2; have hx9_0 := cz_ BK9.out 0; have hf9_0 : w1016.frozen? ⟨g9, 0, none⟩ = false := blk_frozen BK9.out 0; have hx9_1 := cz_ BK9.out 1; have hf9_1 : w1016.frozen? ⟨g9, 1, none⟩ = false := blk_frozen BK9.out 1; have hx9_2 := cz_ BK9.out 2; have hf9_2 : w1016.frozen? ⟨g9, 2, none⟩ = false := blk_frozen BK9.out 2; have hx15_0 := cz_ BK15.out 0; have hf15_0 : w1016.frozen? ⟨g15, 0, none⟩ = false := blk_frozen BK15.out 0; have hx15_1 := cz_ BK15.out 1; have hf15_1 : w1016.frozen? ⟨g15, 1, none⟩ = false := blk_frozen BK15.out 1; have hx15_2 := cz_ BK15.out 2; have hf15_2 : w1016.frozen? ⟨g15, 2, none⟩ = false := blk_frozen BK15.out 2) | (go_at_call 12; (with_reducible refine (laws_eqStringS.calls k _ _ t13_3 _ _ t7_3 true _ ?sd17_1 ?sd17_2 ?sd17_3 ?sd17_4 A17.out).mono ?_); (case sd17_1 => exact (Kd.R_reads' HO14.out).2.2); (case sd17_2 => exact (Kd.R_reads' HO14.out).2.1); (case sd17_3 => exact (Kd.R_reads' HO8.out).2.2); (case sd17_4 => exact (Kd.R_reads' HO8.out).2.1); rintro e w1017 ⟨rfl, hd⟩; have hb := hd.below; clear hd; have hs_ := below_size HB.out; clear hx1_0 hf1_0 hx1_1 hf1_1 hx1_2 hf1_2 hx9_0 hf9_0 hx9_1 hf9_1 hx9_2 hf9_2 hx15_0 hf15_0 hx15_1 hf15_1 hx15_2 hf15_2; have n0_ := am_ (below_step HB.out hb); have n1_ := am_ (Kd.R_below HO8.out hb); have n2_ := am_ (Kd.S_below HO11.out hb); have n3_ := am_ (Kd.R_below HO14.out hb); have n4_ := am_ (blk_below BK1.out hb); have n5_ := am_ (blk_below BK9.out hb); have n6_ := am_ (blk_below BK15.out hb); have SZ15 := am_ (show w1016.heap.size ≤ w1017.heap.size from (hb).size); clear HB HO8 HO11 HO14 BK1 BK9 BK15; have HB := n0_; have HO8 := n1_; have HO11 := n2_; have HO14 := n3_; have BK1 := n4_; have BK9 := n5_; have BK15 := n6_; clear n0_ n1_ n2_ n3_ n4_ n5_ n6_; clear hb hs_; have hx1_0 := cz_ BK1.out 0; have hf1_0 : w1017.frozen? ⟨g1, 0, none⟩ = false := blk_frozen BK1.out 0; have hx1_1 := cz_ BK1.out 1; have hf1_1 : w1017.frozen? ⟨g1, 1, none⟩ = false := blk_frozen BK1.out 1; have hx1_2 := cz_ BK1.out 2; have hf1_2 : w1017.frozen? ⟨g1, 2, none⟩ = false := blk_frozen BK1.out 2; have hx9_0 := cz_ BK9.out 0; have hf9_0 : w1017.frozen? ⟨g9, 0, none⟩ = false := blk_frozen BK9.out 0; have hx9_1 := cz_ BK9.out 1; have hf9_1 : w1017.frozen? ⟨g9, 1, none⟩ = false := blk_frozen BK9.out 1; have hx9_2 := cz_ BK9.out 2; have hf9_2 : w1017.frozen? ⟨g9, 2, none⟩ = false := blk_frozen BK9.out 2; have hx15_0 := cz_ BK15.out 0; have hf15_0 : w1017.frozen? ⟨g15, 0, none⟩ = false := blk_frozen BK15.out 0; have hx15_1 := cz_ BK15.out 1; have hf15_1 : w1017.frozen? ⟨g15, 1, none⟩ = false := blk_frozen BK15.out 1; have hx15_2 := cz_ BK15.out 2; have hf15_2 : w1017.frozen? ⟨g15, 2, none⟩ = false := blk_frozen BK15.out 2) | (go_at_call 8; (with_reducible refine (laws_toSectionS.calls k _ _ l0 t18 _ ?sd18_1 ?sd18_2 A18.out).mono ?_); (case sd18_1 => exact Kd.C_below HR0.out HB.out); (case sd18_2 => exact HC0.out); rintro e w1018 ⟨v_19, rfl, ho0, hb⟩; have hs_ := below_size HB.out; clear hx1_0 hf1_0 hx1_1 hf1_1 hx1_2 hf1_2 hx9_0 hf9_0 hx9_1 hf9_1 hx9_2 hf9_2 hx15_0 hf15_0 hx15_1 hf15_1 hx15_2 hf15_2; have n0_ := am_ (below_step HB.out hb); have n1_ := am_ (Kd.R_below HO8.out hb); have n2_ := am_ (Kd.S_below HO11.out hb); have n3_ := am_ (Kd.R_below HO14.out hb); have n4_ := am_ (blk_below BK1.out hb); have n5_ := am_ (blk_below BK9.out hb); have n6_ := am_ (blk_below BK15.out hb); have SZ16 := am_ (show w1017.heap.size ≤ w1018.heap.size from (hb).size); clear HB HO8 HO11 HO14 BK1 BK9 BK15; have HB := n0_; have HO8 := n1_; have HO11 := n2_; have HO14 := n3_; have BK1 := n4_; have BK9 := n5_; have BK15 := n6_; clear n0_ n1_ n2_ n3_ n4_ n5_ n6_; have HO19 := am_ (S_zone ho0 hs_); clear ho0; obtain ⟨A_19, c_19, e_19⟩ := Kd.S_slice HO19.out; subst e_19; clear hb hs_; have hx1_0 := cz_ BK1.out 0; have hf1_0 : w1018.frozen? ⟨g1, 0, none⟩ = false := blk_frozen BK1.out 0; have hx1_1 := cz_ BK1.out 1; have hf1_1 : w1018.frozen? ⟨g1, 1, none⟩ = false := blk_frozen BK1.out 1; have hx1_2 := cz_ BK1.out 2; have hf1_2 : w1018.frozen? ⟨g1, 2, none⟩ = false := blk_frozen BK1.out 2; have hx9_0 := cz_ BK9.out 0; have hf9_0 : w1018.frozen? ⟨g9, 0, none⟩ = false := blk_frozen BK9.out 0; have hx9_1 := cz_ BK9.out 1; have hf9_1 : w1018.frozen? ⟨g9, 1, none⟩ = false := blk_frozen BK9.out 1; have hx9_2 := cz_ BK9.out 2; have hf9_2 : w1018.frozen? ⟨g9, 2, none⟩ = false := blk_frozen BK9.out 2; have hx15_0 := cz_ BK15.out 0; have hf15_0 : w1018.frozen? ⟨g15, 0, none⟩ = false := blk_frozen BK15.out 0; have hx15_1 := cz_ BK15.out 1; have hf15_1 : w1018.frozen? ⟨g15, 1, none⟩ = false := blk_frozen BK15.out 1; have hx15_2 := cz_ BK15.out 2; have hf15_2 : w1018.frozen? ⟨g15, 2, none⟩ = false := blk_frozen BK15.out 2) | (go_at_call 13; (with_reducible refine (laws_eqSectionS.calls k _ _ t10 _ _ t18 true _ ?sd20_1 ?sd20_2 ?sd20_3 ?sd20_4 A20.out).mono ?_); (case sd20_1 => exact (Kd.S_reads' HO11.out).2.2); (case sd20_2 => exact (Kd.S_reads' HO11.out).2.1); (case sd20_3 => exact (Kd.S_reads' HO19.out).2.2); (case sd20_4 => exact (Kd.S_reads' HO19.out).2.1); rintro e w1020 ⟨rfl, hb⟩; have hs_ := below_size HB.out; clear hx1_0 hf1_0 hx1_1 hf1_1 hx1_2 hf1_2 hx9_0 hf9_0 hx9_1 hf9_1 hx9_2 hf9_2 hx15_0 hf15_0 hx15_1 hf15_1 hx15_2 hf15_2; have n0_ := am_ (below_step HB.out hb); have n1_ := am_ (Kd.R_below HO8.out hb); have n2_ := am_ (Kd.S_below HO11.out hb); have n3_ := am_ (Kd.R_below HO14.out hb); have n4_ := am_ (Kd.S_below HO19.out hb); have n5_ := am_ (blk_below BK1.out hb); have n6_ := am_ (blk_below BK9.out hb); have n7_ := am_ (blk_below BK15.out hb); have SZ17 := am_ (show w1018.heap.size ≤ w1020.heap.size from (hb).size); clear HB HO8 HO11 HO14 HO19 BK1 BK9 BK15; have HB := n0_; have HO8 := n1_; have HO11 := n2_; have HO14 := n3_; have HO19 := n4_; have BK1 := n5_; have BK9 := n6_; have BK15 := n7_; clear n0_ n1_ n2_ n3_ n4_ n5_ n6_ n7_; clear hb hs_; have hx1_0 := cz_ BK1.out 0; have hf1_0 : w1020.frozen? ⟨g1, 0, none⟩ = false := blk_frozen BK1.out 0; have hx1_1 := cz_ BK1.out 1; have hf1_1 : w1020.frozen? ⟨g1, 1, none⟩ = false := blk_frozen BK1.out 1; have hx1_2 := cz_ BK1.out 2; have hf1_2 : w1020.frozen? ⟨g1, 2, none⟩ = false := blk_frozen BK1.out 2; have hx9_0 := cz_ BK9.out 0; have hf9_0 : w1020.frozen? ⟨g9, 0, none⟩ = false := blk_frozen BK9.out 0; have hx9_1 := cz_ BK9.out 1; have hf9_1 : w1020.frozen? ⟨g9, 1, none⟩ = false := blk_frozen BK9.out 1; have hx9_2 := cz_ BK9.out 2; have hf9_2 : w1020.frozen? ⟨g9, 2, none⟩ = false := blk_frozen BK9.out 2; have hx15_0 := cz_ BK15.out 0; have hf15_0 : w1020.frozen? ⟨g15, 0, none⟩ = false := blk_frozen BK15.out 0; have hx15_1 := cz_ BK15.out 1; have hf15_1 : w1020.frozen? ⟨g15, 1, none⟩ = false := blk_frozen BK15.out 1; have hx15_2 := cz_ BK15.out 2; have hf15_2 : w1020.frozen? ⟨g15, 2, none⟩ = false := blk_frozen BK15.out 2) | (go_at_call 14; (with_reducible refine (laws_markSectionS.callsP k (Zone w5009 w1010 (49 :: (k49).E)) (.slice A_11 t10.length c_11) t10 1 t21_0 t21_1 w _ ?sd21_1 ?sd21_2 A21.out).mono ?_); (case sd21_1 => exact HB.out); (case sd21_2 => exact HO11.out); rintro e w1021 ⟨rfl, hy0, hb, hkp⟩; clear hx1_0 hf1_0 hx1_1 hf1_1 hx1_2 hf1_2 hx9_0 hf9_0 hx9_1 hf9_1 hx9_2 hf9_2 hx15_0 hf15_0 hx15_1 hf15_1 hx15_2 hf15_2; have n0_ := am_ (hb); have n1_ := am_ (Kd.R_step HO8.out (fun k_ h_ hlt_ => hkp.2 k_ hlt_ (fun e_ => (show False from Zone.apart h_ e_ (by have := SZ7.out; have := SZ8.out; first | exact .inl (by omega) | exact .inr (by omega))).elim))); have n2_ := am_ (hy0); have n3_ := am_ (Kd.R_step HO14.out (fun k_ h_ hlt_ => hkp.2 k_ hlt_ (fun e_ => (show False from Zone.apart h_ e_ (by have := SZ10.out; first | exact .inl (by omega) | exact .inr (by omega))).elim))); have n4_ := am_ (Kd.S_step HO19.out (fun k_ h_ hlt_ => hkp.2 k_ hlt_ (fun e_ => (show False from Zone.apart h_ e_ (by have := SZ10.out; have := SZ11.out; have := SZ12.out; have := SZ13.out; have := SZ14.out; have := SZ15.out; first | exact .inl (by omega) | exact .inr (by omega))).elim))); have n5_ := am_ ((hkp.2 g1 (blk_lt BK1.out) (fun e_ => (show False from Zone.notblk e_ rfl (by have := GL1.out; have := GU1.out; have := SZ2.out; have := SZ3.out; have := SZ4.out; have := SZ5.out; have := SZ6.out; have := SZ7.out; have := SZ8.out; first | exact .inl (by omega) | exact .inr (by omega))).elim)).trans BK1.out); have n6_ := am_ ((hkp.2 g9 (blk_lt BK9.out) (fun e_ => (show False from Zone.notblk e_ rfl (by have := GL9.out; have := GU9.out; have := SZ8.out; first | exact .inl (by omega) | exact .inr (by omega))).elim)).trans BK9.out); have n7_ := am_ ((hkp.2 g15 (blk_lt BK15.out) (fun e_ => (show False from Zone.notblk e_ rfl (by have := GL15.out; have := GU15.out; have := SZ10.out; have := SZ11.out; first | exact .inl (by omega) | exact .inr (by omega))).elim)).trans BK15.out); have SZ18 := am_ (show w1020.heap.size ≤ w1021.heap.size from hkp.1); clear HB HO8 HO11 HO14 HO19 BK1 BK9 BK15; have HB := n0_; have HO8 := n1_; have HO11 := n2_; have HO14 := n3_; have HO19 := n4_; have BK1 := n5_; have BK9 := n6_; have BK15 := n7_; clear n0_ n1_ n2_ n3_ n4_ n5_ n6_ n7_; clear hb hkp hy0; have hx1_0 := cz_ BK1.out 0; have hf1_0 : w1021.frozen? ⟨g1, 0, none⟩ = false := blk_frozen BK1.out 0; have hx1_1 := cz_ BK1.out 1; have hf1_1 : w1021.frozen? ⟨g1, 1, none⟩ = false := blk_frozen BK1.out 1; have hx1_2 := cz_ BK1.out 2; have hf1_2 : w1021.frozen? ⟨g1, 2, none⟩ = false := blk_frozen BK1.out 2; have hx9_0 := cz_ BK9.out 0; have hf9_0 : w1021.frozen? ⟨g9, 0, none⟩ = false := blk_frozen BK9.out 0; have hx9_1 := cz_ BK9.out 1; have hf9_1 : w1021.frozen? ⟨g9, 1, none⟩ = false := blk_frozen BK9.out 1; have hx9_2 := cz_ BK9.out 2; have hf9_2 : w1021.frozen? ⟨g9, 2, none⟩ = false := blk_frozen BK9.out 2; have hx15_0 := cz_ BK15.out 0; have hf15_0 : w1021.frozen? ⟨g15, 0, none⟩ = false := blk_frozen BK15.out 0; have hx15_1 := cz_ BK15.out 1; have hf15_1 : w1021.frozen? ⟨g15, 1, none⟩ = false := blk_frozen BK15.out 1; have hx15_2 := cz_ BK15.out 2; have hf15_2 : w1021.frozen? ⟨g15, 2, none⟩ = false := blk_frozen BK15.out 2) | (go_at_call 11; (with_reducible refine (laws_eqMusic.calls t13_0 t13_1 t13_2 t7_0 t7_1 t7_2 true _  A22.out).mono ?_); rintro e w1022 ⟨rfl, hb⟩; have hs_ := below_size HB.out; clear hx1_0 hf1_0 hx1_1 hf1_1 hx1_2 hf1_2 hx9_0 hf9_0 hx9_1 hf9_1 hx9_2 hf9_2 hx15_0 hf15_0 hx15_1 hf15_1 hx15_2 hf15_2; have n0_ := am_ (below_step HB.out hb); have n1_ := am_ (Kd.R_below HO8.out hb); have n2_ := am_ (Kd.S_below HO11.out hb); have n3_ := am_ (Kd.R_below HO14.out hb); have n4_ := am_ (Kd.S_below HO19.out hb); have n5_ := am_ (blk_below BK1.out hb); have n6_ := am_ (blk_below BK9.out hb); have n7_ := am_ (blk_below BK15.out hb); have SZ19 := am_ (show w1021.heap.size ≤ w1022.heap.size from (hb).size); clear HB HO8 HO11 HO14 HO19 BK1 BK9 BK15; have HB := n0_; have HO8 := n1_; have HO11 := n2_; have HO14 := n3_; have HO19 := n4_; have BK1 := n5_; have BK9 := n6_; have BK15 := n7_; clear n0_ n1_ n2_ n3_ n4_ n5_ n6_ n7_; clear hb hs_; have hx1_0 := cz_ BK1.out 0; have hf1_0 : w1022.frozen? ⟨g1, 0, none⟩ = false := blk_frozen BK1.out 0; have hx1_1 := cz_ BK1.out 1; have hf1_1 : w1022.frozen? ⟨g1, 1, none⟩ = false := blk_frozen BK1.out 1; have hx1_2 := cz_ BK1.out 2; have hf1_2 : w1022.frozen? ⟨g1, 2, none⟩ = false := blk_frozen BK1.out 2; have hx9_0 := cz_ BK9.out 0; have hf9_0 : w1022.frozen? ⟨g9, 0, none⟩ = false := blk_frozen BK9.out 0; have hx9_1 := cz_ BK9.out 1; have hf9_1 : w1022.frozen? ⟨g9, 1, none⟩ = false := blk_frozen BK9.out 1; have hx9_2 := cz_ BK9.out 2; have hf9_2 : w1022.frozen? ⟨g9, 2, none⟩ = false := blk_frozen BK9.out 2; have hx15_0 := cz_ BK15.out 0; have hf15_0 : w1022.frozen? ⟨g15, 0, none⟩ = false := blk_frozen BK15.out 0; have hx15_1 := cz_ BK15.out 1; have hf15_1 : w1022.frozen? ⟨g15, 1, none⟩ = false := blk_frozen BK15.out 1; have hx15_2 := cz_ BK15.out 2; have hf15_2 : w1022.frozen? ⟨g15, 2, none⟩ = false := blk_frozen BK15.out 2) | (go_at_call 12; (with_reducible refine (laws_eqStringS.calls k _ _ t13_3 _ _ t7_3 true _ ?sd23_1 ?sd23_2 ?sd23_3 ?sd23_4 A23.out).mono ?_); (case sd23_1 => exact (Kd.R_reads' HO14.out).2.2); (case sd23_2 => exact (Kd.R_reads' HO14.out).2.1); (case sd23_3 => exact (Kd.R_reads' HO8.out).2.2); (case sd23_4 => exact (Kd.R_reads' HO8.out).2.1); rintro e w1023 ⟨rfl, hd⟩; have hb := hd.below; clear hd; have hs_ := below_size HB.out; clear hx1_0 hf1_0 hx1_1 hf1_1 hx1_2 hf1_2 hx9_0 hf9_0 hx9_1 hf9_1 hx9_2 hf9_2 hx15_0 hf15_0 hx15_1 hf15_1 hx15_2 hf15_2; have n0_ := am_ (below_step HB.out hb); have n1_ := am_ (Kd.R_below HO8.out hb); have n2_ := am_ (Kd.S_below HO11.out hb); have n3_ := am_ (Kd.R_below HO14.out hb); have n4_ := am_ (Kd.S_below HO19.out hb); have n5_ := am_ (blk_below BK1.out hb); have n6_ := am_ (blk_below BK9.out hb); have n7_ := am_ (blk_below BK15.out hb); have SZ20 := am_ (show w1022.heap.size ≤ w1023.heap.size from (hb).size); clear HB HO8 HO11 HO14 HO19 BK1 BK9 BK15; have HB := n0_; have HO8 := n1_; have HO11 := n2_; have HO14 := n3_; have HO19 := n4_; have BK1 := n5_; have BK9 := n6_; have BK15 := n7_; clear n0_ n1_ n2_ n3_ n4_ n5_ n6_ n7_; clear hb hs_; have hx1_0 := cz_ BK1.out 0; have hf1_0 : w1023.frozen? ⟨g1, 0, none⟩ = false := blk_frozen BK1.out 0; have hx1_1 := cz_ BK1.out 1; have hf1_1 : w1023.frozen? ⟨g1, 1, none⟩ = false := blk_frozen BK1.out 1; have hx1_2 := cz_ BK1.out 2; have hf1_2 : w1023.frozen? ⟨g1, 2, none⟩ = false := blk_frozen BK1.out 2; have hx9_0 := cz_ BK9.out 0; have hf9_0 : w1023.frozen? ⟨g9, 0, none⟩ = false := blk_frozen BK9.out 0; have hx9_1 := cz_ BK9.out 1; have hf9_1 : w1023.frozen? ⟨g9, 1, none⟩ = false := blk_frozen BK9.out 1; have hx9_2 := cz_ BK9.out 2; have hf9_2 : w1023.frozen? ⟨g9, 2, none⟩ = false := blk_frozen BK9.out 2; have hx15_0 := cz_ BK15.out 0; have hf15_0 : w1023.frozen? ⟨g15, 0, none⟩ = false := blk_frozen BK15.out 0; have hx15_1 := cz_ BK15.out 1; have hf15_1 : w1023.frozen? ⟨g15, 1, none⟩ = false := blk_frozen BK15.out 1; have hx15_2 := cz_ BK15.out 2; have hf15_2 : w1023.frozen? ⟨g15, 2, none⟩ = false := blk_frozen BK15.out 2) | (go_at_call 15; (with_reducible refine (laws_markStringS.calls k (Zone w1012 w1013 (9 :: (Kd.string).E)) (.slice A_14 t13_3.length c_14) t13_3 1 t34 t24_1 w _ ?sd24_1 ?sd24_2 A24.out).mono ?_); (case sd24_1 => exact HB.out); (case sd24_2 => exact HO14.out); rintro e w1024 ⟨rfl, hy0, hb, hkp⟩; clear hx1_0 hf1_0 hx1_1 hf1_1 hx1_2 hf1_2 hx9_0 hf9_0 hx9_1 hf9_1 hx9_2 hf9_2 hx15_0 hf15_0 hx15_1 hf15_1 hx15_2 hf15_2; have n0_ := am_ (hb); have n1_ := am_ (Kd.R_step HO8.out (fun k_ h_ hlt_ => hkp.2 k_ hlt_ (fun e_ => (show False from Zone.apart h_ e_ (by have := SZ7.out; have := SZ8.out; have := SZ9.out; have := SZ10.out; first | exact .inl (by omega) | exact .inr (by omega))).elim))); have n2_ := am_ (Kd.S_step HO11.out (fun k_ h_ hlt_ => hkp.2 k_ hlt_ (fun e_ => (show False from Zone.apart h_ e_ (by have := SZ10.out; first | exact .inl (by omega) | exact .inr (by omega))).elim))); have n3_ := am_ (Kd.R_reok rfl hy0 HO14.out.1); have n4_ := am_ (Kd.S_step HO19.out (fun k_ h_ hlt_ => hkp.2 k_ hlt_ (fun e_ => (show False from Zone.apart h_ e_ (by have := SZ12.out; have := SZ13.out; have := SZ14.out; have := SZ15.out; first | exact .inl (by omega) | exact .inr (by omega))).elim))); have n5_ := am_ ((hkp.2 g1 (blk_lt BK1.out) (fun e_ => (show False from Zone.notblk e_ rfl (by have := GL1.out; have := GU1.out; have := SZ2.out; have := SZ3.out; have := SZ4.out; have := SZ5.out; have := SZ6.out; have := SZ7.out; have := SZ8.out; have := SZ9.out; have := SZ10.out; first | exact .inl (by omega) | exact .inr (by omega))).elim)).trans BK1.out); have n6_ := am_ ((hkp.2 g9 (blk_lt BK9.out) (fun e_ => (show False from Zone.notblk e_ rfl (by have := GL9.out; have := GU9.out; have := SZ8.out; have := SZ9.out; have := SZ10.out; first | exact .inl (by omega) | exact .inr (by omega))).elim)).trans BK9.out); have n7_ := am_ ((hkp.2 g15 (blk_lt BK15.out) (fun e_ => (show False from Zone.notblk e_ rfl (by have := GL15.out; have := GU15.out; first | exact .inl (by omega) | exact .inr (by omega))).elim)).trans BK15.out); have SZ21 := am_ (show w1023.heap.size ≤ w1024.heap.size from hkp.1); clear HB HO8 HO11 HO14 HO19 BK1 BK9 BK15; have HB := n0_; have HO8 := n1_; have HO11 := n2_; have HO14 := n3_; have HO19 := n4_; have BK1 := n5_; have BK9 := n6_; have BK15 := n7_; clear n0_ n1_ n2_ n3_ n4_ n5_ n6_ n7_; clear hb hkp hy0; have hx1_0 := cz_ BK1.out 0; have hf1_0 : w1024.frozen? ⟨g1, 0, none⟩ = false := blk_frozen BK1.out 0; have hx1_1 := cz_ BK1.out 1; have hf1_1 : w1024.frozen? ⟨g1, 1, none⟩ = false := blk_frozen BK1.out 1; have hx1_2 := cz_ BK1.out 2; have hf1_2 : w1024.frozen? ⟨g1, 2, none⟩ = false := blk_frozen BK1.out 2; have hx9_0 := cz_ BK9.out 0; have hf9_0 : w1024.frozen? ⟨g9, 0, none⟩ = false := blk_frozen BK9.out 0; have hx9_1 := cz_ BK9.out 1; have hf9_1 : w1024.frozen? ⟨g9, 1, none⟩ = false := blk_frozen BK9.out 1; have hx9_2 := cz_ BK9.out 2; have hf9_2 : w1024.frozen? ⟨g9, 2, none⟩ = false := blk_frozen BK9.out 2; have hx15_0 := cz_ BK15.out 0; have hf15_0 : w1024.frozen? ⟨g15, 0, none⟩ = false := blk_frozen BK15.out 0; have hx15_1 := cz_ BK15.out 1; have hf15_1 : w1024.frozen? ⟨g15, 1, none⟩ = false := blk_frozen BK15.out 1; have hx15_2 := cz_ BK15.out 2; have hf15_2 : w1024.frozen? ⟨g15, 2, none⟩ = false := blk_frozen BK15.out 2) | (go_at_call 16; refine calls_of_args (args' := #[.slice A_14 t24_1.length c_14, .int .i64 1]) (by first | (rw [show t24_1.length = t13_3.length from (Kd.R_reads' HO14.out).1.symm] <;> rfl) | rfl) ?_; (with_reducible refine (laws_heldStringS.calls k _ _ t24_1 1 t34 _ ?sd25_1 ?sd25_2 A25.out).mono ?_); (case sd25_1 => exact (Kd.R_reads' HO14.out).2.2); (case sd25_2 => exact (by rw [show t24_1.length = t13_3.length from (Kd.R_reads' HO14.out).1.symm]; exact (Kd.R_reads' HO14.out).2.1)); rintro e w1025 ⟨rfl, hb⟩; have hs_ := below_size HB.out; clear hx1_0 hf1_0 hx1_1 hf1_1 hx1_2 hf1_2 hx9_0 hf9_0 hx9_1 hf9_1 hx9_2 hf9_2 hx15_0 hf15_0 hx15_1 hf15_1 hx15_2 hf15_2; have n0_ := am_ (below_step HB.out hb); have n1_ := am_ (Kd.R_below HO8.out hb); have n2_ := am_ (Kd.S_below HO11.out hb); have n3_ := am_ (Kd.R_below HO14.out hb); have n4_ := am_ (Kd.S_below HO19.out hb); have n5_ := am_ (blk_below BK1.out hb); have n6_ := am_ (blk_below BK9.out hb); have n7_ := am_ (blk_below BK15.out hb); have SZ22 := am_ (show w1024.heap.size ≤ w1025.heap.size from (hb).size); clear HB HO8 HO11 HO14 HO19 BK1 BK9 BK15; have HB := n0_; have HO8 := n1_; have HO11 := n2_; have HO14 := n3_; have HO19 := n4_; have BK1 := n5_; have BK9 := n6_; have BK15 := n7_; clear n0_ n1_ n2_ n3_ n4_ n5_ n6_ n7_; clear hb hs_; have hx1_0 := cz_ BK1.out 0; have hf1_0 : w1025.frozen? ⟨g1, 0, none⟩ = false := blk_frozen BK1.out 0; have hx1_1 := cz_ BK1.out 1; have hf1_1 : w1025.frozen? ⟨g1, 1, none⟩ = false := blk_frozen BK1.out 1; have hx1_2 := cz_ BK1.out 2; have hf1_2 : w1025.frozen? ⟨g1, 2, none⟩ = false := blk_frozen BK1.out 2; have hx9_0 := cz_ BK9.out 0; have hf9_0 : w1025.frozen? ⟨g9, 0, none⟩ = false := blk_frozen BK9.out 0; have hx9_1 := cz_ BK9.out 1; have hf9_1 : w1025.frozen? ⟨g9, 1, none⟩ = false := blk_frozen BK9.out 1; have hx9_2 := cz_ BK9.out 2; have hf9_2 : w1025.frozen? ⟨g9, 2, none⟩ = false := blk_frozen BK9.out 2; have hx15_0 := cz_ BK15.out 0; have hf15_0 : w1025.frozen? ⟨g15, 0, none⟩ = false := blk_frozen BK15.out 0; have hx15_1 := cz_ BK15.out 1; have hf15_1 : w1025.frozen? ⟨g15, 1, none⟩ = false := blk_frozen BK15.out 1; have hx15_2 := cz_ BK15.out 2; have hf15_2 : w1025.frozen? ⟨g15, 2, none⟩ = false := blk_frozen BK15.out 2))
  (try simp only [Act.put, List.setIfInBounds_toArray, List.set_cons_zero, List.set_cons_succ])
  clear hx1_0 hf1_0 hx1_1 hf1_1 hx1_2 hf1_2 hx9_0 hf9_0 hx9_1 hf9_1 hx9_2 hf9_2 hx15_0 hf15_0 hx15_1 hf15_1 hx15_2 hf15_2
  have n0_ := am_ (below_step HB.out (below_drew1 (Below.refl w1025.heap.size w1025)))
  have n1_ := am_ (Kd.R_below HO8.out (below_drew1 (Below.refl w1025.heap.size w1025)))
  have n2_ := am_ (Kd.S_below HO11.out (below_drew1 (Below.refl w1025.heap.size w1025)))
  have n3_ := am_ (Kd.R_below HO14.out (below_drew1 (Below.refl w1025.heap.size w1025)))
  have n4_ := am_ (Kd.S_below HO19.out (below_drew1 (Below.refl w1025.heap.size w1025)))
  have n5_ := am_ (blk_below BK1.out (below_drew1 (Below.refl w1025.heap.size w1025)))
  have n6_ := am_ (blk_below BK9.out (below_drew1 (Below.refl w1025.heap.size w1025)))
  have n7_ := am_ (blk_below BK15.out (below_drew1 (Below.refl w1025.heap.size w1025)))
  have SZ23 := am_ (show w1025.heap.size ≤ w1025.drew.heap.size from ((below_drew1 (Below.refl w1025.heap.size w1025))).size)
  clear HB HO8 HO11 HO14 HO19 BK1 BK9 BK15
  have HB := n0_
  have HO8 := n1_
  have HO11 := n2_
  have HO14 := n3_
  have HO19 := n4_
  have BK1 := n5_
  have BK9 := n6_
  have BK15 := n7_
  clear n0_ n1_ n2_ n3_ n4_ n5_ n6_ n7_
  refine start_ (n := 14) (S := fun w' => w'.cell? ⟨g1, 0, none⟩ = some (.string a1_0) ∧ w'.cell? ⟨g1, 1, none⟩ = some (.int .i64 a1_1) ∧ w'.cell? ⟨g1, 2, none⟩ = some (.string a1_2) ∧ w'.cell? ⟨g9, 0, none⟩ = some (.string t7_0) ∧ w'.cell? ⟨g9, 1, none⟩ = some (.int .i64 t7_1) ∧ w'.cell? ⟨g9, 2, none⟩ = some (.string t7_2) ∧ w'.cell? ⟨g15, 0, none⟩ = some (.string t13_0) ∧ w'.cell? ⟨g15, 1, none⟩ = some (.int .i64 t13_1) ∧ w'.cell? ⟨g15, 2, none⟩ = some (.string t13_2)) (ds := []) (Array.replicate 14 false) (by kernel_rfl) rfl rfl ⟨cz_ BK1.out 0, cz_ BK1.out 1, cz_ BK1.out 2, cz_ BK9.out 0, cz_ BK9.out 1, cz_ BK9.out 2, cz_ BK15.out 0, cz_ BK15.out 1, cz_ BK15.out 2⟩ (fun hHeld => ?_); refine with_tabW laws_FnExactRunMusic.tab27 laws_FnExactRunMusic.bits27 (fun HT_ HW_ => ?_)
  generalize w1025.drew = w3024 at HB HO8 HO11 HO14 HO19 BK1 BK9 BK15 SZ23 hHeld ⊢
  refine pure_ (i := 0) (N := some 106) (v := ?_) (a' := ?_) #[true, false, false, false, false, false, false, false, false, false, false, false, false, false] rfl rfl (any_of HT_.out (by kernel_rfl)) (fun _ _ _ h => h) (Or.inl ⟨by rfl, ?_⟩) ?_ ?_
  rotate_left
  · intro w'
    go_simp
    with_reducible rfl
  rotate_left
  · simp only [Act.put, List.setIfInBounds_toArray, List.set_cons_zero, List.set_cons_succ, i64_w, i32_w]
    rfl
  refine pure_ (i := 4) (N := some 110) (v := ?_) (a' := ?_) #[true, false, false, false, true, false, false, false, false, false, false, false, false, false] rfl rfl (any_of HT_.out (by kernel_rfl)) (fun _ _ _ h => h) (Or.inl ⟨by rfl, ?_⟩) ?_ ?_
  rotate_left
  · intro w'
    go_simp
    with_reducible rfl
  rotate_left
  · simp only [Act.put, List.setIfInBounds_toArray, List.set_cons_zero, List.set_cons_succ, i64_w, i32_w]
    rfl
  refine take_ (i := 2) (N := some 108) (v := ?_) (a' := ?_) #[true, false, true, false, true, false, false, false, false, false, false, false, false, false] rfl rfl (take_ofW HT_.out HW_.out (by kernel_rfl)) (fun _ _ _ h => h) (Or.inl ⟨by rfl, ?_⟩) hHeld ?_ ?_
  rotate_left
  · rintro w' ⟨s0, s1, s2, s3, s4, s5, s6, s7, s8⟩
    go_simp
    with_reducible rfl
  rotate_left
  · simp only [Act.put, List.setIfInBounds_toArray, List.set_cons_zero, List.set_cons_succ, i64_w, i32_w]
    rfl
  refine join_ (σ := Value × Value × Option Addr × Nat × World × World × Nat) 3 #[true, true, true, true, true, true, true, true, true, true, true, false, false, false] (fun s_ => [(107, s_.1), (109, s_.2.1), (111, .tuple #[.agg #[.string t29_0, .int .i64 t29_1, .string t29_2], .slice s_.2.2.1 t29_3.length s_.2.2.2.1, .bool t29_4]), (18, .pointer (some ⟨s_.2.2.2.2.2.2, 0, none⟩)), (105, .tuple #[.agg #[.string t29_0, .int .i64 t29_1, .string t29_2], .slice s_.2.2.1 t29_3.length s_.2.2.2.1, .bool t29_4]), (112, .agg #[.string t29_0, .int .i64 t29_1, .string t29_2]), (113, .slice s_.2.2.1 t29_3.length s_.2.2.2.1), (114, .bool t29_4)]) (fun s_ w' => (Below w.heap.size w w') ∧ (Kd.R Kd.string 9 w' w.heap.size (Zone za9 zb9 (9 :: (Kd.string).E)) (.slice A_8 t7_3.length c_8) t7_3) ∧ (Kd.S k49 49 w' w.heap.size (Zone w5009 w1010 (49 :: (k49).E)) (.slice A_11 t10.length c_11) t21_1) ∧ (Kd.R Kd.string 9 w' w.heap.size (Zone w1012 w1013 (9 :: (Kd.string).E)) (.slice A_14 t13_3.length c_14) t24_1) ∧ (Kd.S k49 49 w' w.heap.size (Zone w1017 w1018 (49 :: (k49).E)) (.slice A_19 t18.length c_19) t18) ∧ (w'.heap[g1]? = some (.cells #[.string a1_0, .int .i64 a1_1, .string a1_2] 24 (0, 0))) ∧ (w'.heap[g9]? = some (.cells #[.string t7_0, .int .i64 t7_1, .string t7_2] 27 (0, 0))) ∧ (w'.heap[g15]? = some (.cells #[.string t13_0, .int .i64 t13_1, .string t13_2] 27 (0, 0))) ∧ (Kd.R Kd.string 9 w' w.heap.size (Zone s_.2.2.2.2.1 s_.2.2.2.2.2.1 (9 :: (Kd.string).E)) (.slice s_.2.2.1 t29_3.length s_.2.2.2.1) t29_3) ∧ (w'.heap[s_.2.2.2.2.2.2]? = some (.cells #[.string (⟨#[]⟩ : ByteArray), .int .i64 0, .string (⟨#[]⟩ : ByteArray)] 27 (0, 0))) ∧ (w3024.heap.size ≤ s_.2.2.2.2.1.heap.size) ∧ (s_.2.2.2.2.1.heap.size ≤ s_.2.2.2.2.2.1.heap.size) ∧ (s_.2.2.2.2.2.1.heap.size ≤ w'.heap.size) ∧ (s_.2.2.2.2.2.1.heap.size ≤ s_.2.2.2.2.2.2 ∨ s_.2.2.2.2.2.2 < s_.2.2.2.2.1.heap.size) ∧ (w3024.heap.size ≤ s_.2.2.2.2.2.2) ∧ (s_.2.2.2.2.2.2 < w'.heap.size)) ?_ ?_
  rotate_left
  · intro hCont
    refine two_ (i := 1) (j := 10) (Ni := some 107) (Nj := some 18) #[true, true, true, false, true, false, false, false, false, false, false, false, false, false] #[true, false, true, false, true, false, false, false, false, false, true, false, false, false] rfl rfl rfl rfl (two_of HT_.out (by kernel_rfl)) (by decide) (by decide) (fun K hK => ?_) (fun K hK => ?_)
    · skip
      refine goes_ Tryd.func8 (by kernel_rfl) rfl #[.slice A0 l0.length c0] (by rfl) rfl rfl (by (try simp only [List.map_toArray, List.map_cons, List.map_nil]); first | done | rfl) ?_
      (with_reducible refine (laws_toSectionS.calls k _ _ l0 t26 _ ?sd26_1 ?sd26_2 A26.out).mono ?_)
      (case sd26_1 => exact Kd.C_below HR0.out HB.out)
      (case sd26_2 => exact HC0.out)
      rintro e w1026 ⟨v_27, rfl, ho0, hb⟩
      refine ⟨_, rfl, ?_⟩
      have hs_ := below_size HB.out
      have n0_ := am_ (below_step HB.out hb)
      have n1_ := am_ (Kd.R_below HO8.out hb)
      have n2_ := am_ (Kd.S_below HO11.out hb)
      have n3_ := am_ (Kd.R_below HO14.out hb)
      have n4_ := am_ (Kd.S_below HO19.out hb)
      have n5_ := am_ (blk_below BK1.out hb)
      have n6_ := am_ (blk_below BK9.out hb)
      have n7_ := am_ (blk_below BK15.out hb)
      have SZ24 := am_ (show w3024.heap.size ≤ w1026.heap.size from (hb).size)
      clear HB HO8 HO11 HO14 HO19 BK1 BK9 BK15
      have HB := n0_
      have HO8 := n1_
      have HO11 := n2_
      have HO14 := n3_
      have HO19 := n4_
      have BK1 := n5_
      have BK9 := n6_
      have BK15 := n7_
      clear n0_ n1_ n2_ n3_ n4_ n5_ n6_ n7_
      have HO27 := am_ (S_zone ho0 hs_)
      clear ho0
      obtain ⟨A_27, c_27, e_27⟩ := Kd.S_slice HO27.out
      subst e_27
      clear hb hs_
      refine hK.out _ _ ⟨cz_ BK1.out 0, cz_ BK1.out 1, cz_ BK1.out 2, cz_ BK9.out 0, cz_ BK9.out 1, cz_ BK9.out 2, cz_ BK15.out 0, cz_ BK15.out 1, cz_ BK15.out 2⟩ (fun hHeld => ?_)
      clear hK K
      refine norm_ (a' := ?_) ?_ ?_
      rotate_left
      · show Act.put _ (some 107) _ = _
        simp only [Act.put, List.setIfInBounds_toArray, List.set_cons_zero, List.set_cons_succ, i64_w, i32_w]
        rfl
      refine two_ (i := 3) (j := 10) (Ni := some 109) (Nj := some 18) #[true, true, true, true, true, false, false, false, false, false, false, false, false, false] #[true, true, true, false, true, false, false, false, false, false, true, false, false, false] rfl rfl rfl rfl (two_of HT_.out (by kernel_rfl)) (by decide) (by decide) (fun K hK => ?_) (fun K hK => ?_)
      · skip
        refine goes_ Tryd.func9 (by kernel_rfl) rfl #[.agg #[.string a1_0, .int .i64 a1_1, .string a1_2]] (by rfl) rfl rfl (by (try simp only [List.map_toArray, List.map_cons, List.map_nil]); first | done | rfl) ?_
        (with_reducible refine (laws_toMusic.calls a1_0 a1_1 a1_2 t28_0 t28_1 t28_2 _  A28.out).mono ?_)
        rintro e w1028 ⟨rfl, hb⟩
        refine ⟨_, rfl, ?_⟩
        have hs_ := below_size HB.out
        have n0_ := am_ (below_step HB.out hb)
        have n1_ := am_ (Kd.R_below HO8.out hb)
        have n2_ := am_ (Kd.S_below HO11.out hb)
        have n3_ := am_ (Kd.R_below HO14.out hb)
        have n4_ := am_ (Kd.S_below HO19.out hb)
        have n5_ := am_ (Kd.S_below HO27.out hb)
        have n6_ := am_ (blk_below BK1.out hb)
        have n7_ := am_ (blk_below BK9.out hb)
        have n8_ := am_ (blk_below BK15.out hb)
        have SZ25 := am_ (show w1026.heap.size ≤ w1028.heap.size from (hb).size)
        clear HB HO8 HO11 HO14 HO19 HO27 BK1 BK9 BK15
        have HB := n0_
        have HO8 := n1_
        have HO11 := n2_
        have HO14 := n3_
        have HO19 := n4_
        have HO27 := n5_
        have BK1 := n6_
        have BK9 := n7_
        have BK15 := n8_
        clear n0_ n1_ n2_ n3_ n4_ n5_ n6_ n7_ n8_
        clear hb hs_
        refine hK.out _ _ ⟨cz_ BK1.out 0, cz_ BK1.out 1, cz_ BK1.out 2, cz_ BK9.out 0, cz_ BK9.out 1, cz_ BK9.out 2, cz_ BK15.out 0, cz_ BK15.out 1, cz_ BK15.out 2⟩ (fun hHeld => ?_)
        clear hK K
        refine norm_ (a' := ?_) ?_ ?_
        rotate_left
        · show Act.put _ (some 109) _ = _
          simp only [Act.put, List.setIfInBounds_toArray, List.set_cons_zero, List.set_cons_succ, i64_w, i32_w]
          rfl
        refine two_ (i := 5) (j := 10) (Ni := some 111) (Nj := some 18) #[true, true, true, true, true, true, false, false, false, false, false, false, false, false] #[true, true, true, true, true, false, false, false, false, false, true, false, false, false] rfl rfl rfl rfl (two_of HT_.out (by kernel_rfl)) (by decide) (by decide) (fun K hK => ?_) (fun K hK => ?_)
        · skip
          refine goes_ Tryd.func10 (by kernel_rfl) rfl #[.slice A_27 t26.length c_27, .agg #[.string t28_0, .int .i64 t28_1, .string t28_2], .int .i64 a2] (by rfl) rfl rfl (by (try simp only [List.map_toArray, List.map_cons, List.map_nil]); first | done | rfl) ?_
          (with_reducible refine (impl_RunMusic.calls k _ _ t26 t28_0 t28_1 t28_2 a2 t29_0 t29_1 t29_2 t29_3 t29_4 _ ?sd29_1 ?sd29_2 A29.out).mono ?_)
          (case sd29_1 => exact (Kd.S_reads' HO27.out).2.2)
          (case sd29_2 => exact (Kd.S_reads' HO27.out).2.1)
          rintro e w1029 ⟨v_30, rfl, ho0, hb⟩
          refine ⟨_, rfl, ?_⟩
          have hs_ := below_size HB.out
          have n0_ := am_ (below_step HB.out hb)
          have n1_ := am_ (Kd.R_below HO8.out hb)
          have n2_ := am_ (Kd.S_below HO11.out hb)
          have n3_ := am_ (Kd.R_below HO14.out hb)
          have n4_ := am_ (Kd.S_below HO19.out hb)
          have n5_ := am_ (Kd.S_below HO27.out hb)
          have n6_ := am_ (blk_below BK1.out hb)
          have n7_ := am_ (blk_below BK9.out hb)
          have n8_ := am_ (blk_below BK15.out hb)
          have SZ26 := am_ (show w1028.heap.size ≤ w1029.heap.size from (hb).size)
          clear HB HO8 HO11 HO14 HO19 HO27 BK1 BK9 BK15
          have HB := n0_
          have HO8 := n1_
          have HO11 := n2_
          have HO14 := n3_
          have HO19 := n4_
          have HO27 := n5_
          have BK1 := n6_
          have BK9 := n7_
          have BK15 := n8_
          clear n0_ n1_ n2_ n3_ n4_ n5_ n6_ n7_ n8_
          have HO30 := am_ (R_zone ho0 hs_)
          clear ho0
          obtain ⟨A_30, c_30, e_30⟩ := Kd.R_slice HO30.out
          subst e_30
          clear hb hs_
          refine hK.out _ _ ⟨cz_ BK1.out 0, cz_ BK1.out 1, cz_ BK1.out 2, cz_ BK9.out 0, cz_ BK9.out 1, cz_ BK9.out 2, cz_ BK15.out 0, cz_ BK15.out 1, cz_ BK15.out 2⟩ (fun hHeld => ?_)
          clear hK K
          refine norm_ (a' := ?_) ?_ ?_
          rotate_left
          · show Act.put _ (some 111) _ = _
            simp only [Act.put, List.setIfInBounds_toArray, List.set_cons_zero, List.set_cons_succ, i64_w, i32_w]
            rfl
          refine pure_ (i := 6) (N := some 105) (v := ?_) (a' := ?_) #[true, true, true, true, true, true, true, false, false, false, false, false, false, false] rfl rfl (any_of HT_.out (by kernel_rfl)) (fun _ _ _ h => h) (Or.inl ⟨by rfl, ?_⟩) ?_ ?_
          rotate_left
          · intro w'
            go_simp
            with_reducible rfl
          rotate_left
          · simp only [Act.put, List.setIfInBounds_toArray, List.set_cons_zero, List.set_cons_succ, i64_w, i32_w]
            rfl
          refine pure_ (i := 7) (N := some 112) (v := ?_) (a' := ?_) #[true, true, true, true, true, true, true, true, false, false, false, false, false, false] rfl rfl (any_of HT_.out (by kernel_rfl)) (fun _ _ _ h => h) (Or.inl ⟨by rfl, ?_⟩) ?_ ?_
          rotate_left
          · intro w'
            go_simp
            with_reducible rfl
          rotate_left
          · simp only [Act.put, List.setIfInBounds_toArray, List.set_cons_zero, List.set_cons_succ, i64_w, i32_w]
            rfl
          refine pure_ (i := 8) (N := some 113) (v := ?_) (a' := ?_) #[true, true, true, true, true, true, true, true, true, false, false, false, false, false] rfl rfl (any_of HT_.out (by kernel_rfl)) (fun _ _ _ h => h) (Or.inl ⟨by rfl, ?_⟩) ?_ ?_
          rotate_left
          · intro w'
            go_simp
            with_reducible rfl
          rotate_left
          · simp only [Act.put, List.setIfInBounds_toArray, List.set_cons_zero, List.set_cons_succ, i64_w, i32_w]
            rfl
          refine pure_ (i := 9) (N := some 114) (v := ?_) (a' := ?_) #[true, true, true, true, true, true, true, true, true, true, false, false, false, false] rfl rfl (any_of HT_.out (by kernel_rfl)) (fun _ _ _ h => h) (Or.inl ⟨by rfl, ?_⟩) ?_ ?_
          rotate_left
          · intro w'
            go_simp
            with_reducible rfl
          rotate_left
          · simp only [Act.put, List.setIfInBounds_toArray, List.set_cons_zero, List.set_cons_succ, i64_w, i32_w]
            rfl
          refine oS_ 10 18 HT_ (fun K hK => ?_)
          refine box_step ?hg (N := 18) ?hd (cs := #[.string (⟨#[]⟩ : ByteArray), .int .i64 0, .string (⟨#[]⟩ : ByteArray)]) (t := 27) ?hr ?_; (case hd => rfl); (case hg => rfl); (case hr => first | (go_simp; done) | (go_simp; rfl))
          intro g31 hg w1031 hbox hb
          have n0_ := am_ (below_step HB.out hb)
          have n1_ := am_ (Kd.R_below HO8.out hb)
          have n2_ := am_ (Kd.S_below HO11.out hb)
          have n3_ := am_ (Kd.R_below HO14.out hb)
          have n4_ := am_ (Kd.S_below HO19.out hb)
          have n5_ := am_ (Kd.S_below HO27.out hb)
          have n6_ := am_ (Kd.R_below HO30.out hb)
          have n7_ := am_ (blk_below BK1.out hb)
          have n8_ := am_ (blk_below BK9.out hb)
          have n9_ := am_ (blk_below BK15.out hb)
          have SZ27 := am_ (show w1029.heap.size ≤ w1031.heap.size from (hb).size)
          clear HB HO8 HO11 HO14 HO19 HO27 HO30 BK1 BK9 BK15
          have HB := n0_
          have HO8 := n1_
          have HO11 := n2_
          have HO14 := n3_
          have HO19 := n4_
          have HO27 := n5_
          have HO30 := n6_
          have BK1 := n7_
          have BK9 := n8_
          have BK15 := n9_
          clear n0_ n1_ n2_ n3_ n4_ n5_ n6_ n7_ n8_ n9_
          have BK31 := am_ hbox
          have GL31 := am_ (show w1029.heap.size ≤ g31 from Nat.le_of_eq hg.symm)
          have GU31 := am_ (blk_lt hbox)
          clear hbox hg hb
          refine hK.out _ _ ⟨cz_ BK1.out 0, cz_ BK1.out 1, cz_ BK1.out 2, cz_ BK9.out 0, cz_ BK9.out 1, cz_ BK9.out 2, cz_ BK15.out 0, cz_ BK15.out 1, cz_ BK15.out 2⟩ (fun hHeld => ?_)
          clear hK K
          refine norm_ (a' := ?_) ?_ ?_
          rotate_left
          · show Act.put _ (some 18) _ = _
            simp only [Act.put, List.setIfInBounds_toArray, List.set_cons_zero, List.set_cons_succ, i64_w, i32_w]
            rfl
          exact nm_ (hCont ((.slice A_27 t26.length c_27), (.agg #[.string t28_0, .int .i64 t28_1, .string t28_2]), A_30, c_30, w1028, w1029, g31) _ ⟨HB.out, HO8.out, HO11.out, HO14.out, HO19.out, BK1.out, BK9.out, BK15.out, HO30.out, BK31.out, (show w3024.heap.size ≤ w1028.heap.size by first | exact Nat.le_refl _ | (have := SZ24.out; have := SZ25.out; omega)), (show w1028.heap.size ≤ w1029.heap.size by first | exact Nat.le_refl _ | (have := SZ26.out; omega)), (show w1029.heap.size ≤ w1031.heap.size by first | exact Nat.le_refl _ | (have := SZ27.out; omega)), (show w1029.heap.size ≤ g31 ∨ g31 < w1028.heap.size by have := GL31.out; have := GU31.out; omega), (show w3024.heap.size ≤ g31 by have := GL31.out; have := SZ24.out; have := SZ25.out; have := SZ26.out; omega), (show g31 < w1031.heap.size by have := GU31.out; omega)⟩)
        · skip
          refine box_step ?hg (N := 18) ?hd (cs := #[.string (⟨#[]⟩ : ByteArray), .int .i64 0, .string (⟨#[]⟩ : ByteArray)]) (t := 27) ?hr ?_; (case hd => rfl); (case hg => rfl); (case hr => first | (go_simp; done) | (go_simp; rfl))
          intro g31 hg w1031 hbox hb
          have n0_ := am_ (below_step HB.out hb)
          have n1_ := am_ (Kd.R_below HO8.out hb)
          have n2_ := am_ (Kd.S_below HO11.out hb)
          have n3_ := am_ (Kd.R_below HO14.out hb)
          have n4_ := am_ (Kd.S_below HO19.out hb)
          have n5_ := am_ (Kd.S_below HO27.out hb)
          have n6_ := am_ (blk_below BK1.out hb)
          have n7_ := am_ (blk_below BK9.out hb)
          have n8_ := am_ (blk_below BK15.out hb)
          have SZ26 := am_ (show w1028.heap.size ≤ w1031.heap.size from (hb).size)
          clear HB HO8 HO11 HO14 HO19 HO27 BK1 BK9 BK15
          have HB := n0_
          have HO8 := n1_
          have HO11 := n2_
          have HO14 := n3_
          have HO19 := n4_
          have HO27 := n5_
          have BK1 := n6_
          have BK9 := n7_
          have BK15 := n8_
          clear n0_ n1_ n2_ n3_ n4_ n5_ n6_ n7_ n8_
          have BK31 := am_ hbox
          have GL31 := am_ (show w1028.heap.size ≤ g31 from Nat.le_of_eq hg.symm)
          have GU31 := am_ (blk_lt hbox)
          clear hbox hg hb
          refine hK.out _ _ ⟨cz_ BK1.out 0, cz_ BK1.out 1, cz_ BK1.out 2, cz_ BK9.out 0, cz_ BK9.out 1, cz_ BK9.out 2, cz_ BK15.out 0, cz_ BK15.out 1, cz_ BK15.out 2⟩ (fun hHeld => ?_)
          clear hK K
          refine norm_ (a' := ?_) ?_ ?_
          rotate_left
          · show Act.put _ (some 18) _ = _
            simp only [Act.put, List.setIfInBounds_toArray, List.set_cons_zero, List.set_cons_succ, i64_w, i32_w]
            rfl
          refine oS_ 5 111 HT_ (fun K hK => ?_)
          refine goes_ Tryd.func10 (by kernel_rfl) rfl #[.slice A_27 t26.length c_27, .agg #[.string t28_0, .int .i64 t28_1, .string t28_2], .int .i64 a2] (by rfl) rfl rfl (by (try simp only [List.map_toArray, List.map_cons, List.map_nil]); first | done | rfl) ?_
          (with_reducible refine (impl_RunMusic.calls k _ _ t26 t28_0 t28_1 t28_2 a2 t29_0 t29_1 t29_2 t29_3 t29_4 _ ?sd29_1 ?sd29_2 A29.out).mono ?_)
          (case sd29_1 => exact (Kd.S_reads' HO27.out).2.2)
          (case sd29_2 => exact (Kd.S_reads' HO27.out).2.1)
          rintro e w1029 ⟨v_30, rfl, ho0, hb⟩
          refine ⟨_, rfl, ?_⟩
          have hs_ := below_size HB.out
          have n0_ := am_ (below_step HB.out hb)
          have n1_ := am_ (Kd.R_below HO8.out hb)
          have n2_ := am_ (Kd.S_below HO11.out hb)
          have n3_ := am_ (Kd.R_below HO14.out hb)
          have n4_ := am_ (Kd.S_below HO19.out hb)
          have n5_ := am_ (Kd.S_below HO27.out hb)
          have n6_ := am_ (blk_below BK1.out hb)
          have n7_ := am_ (blk_below BK9.out hb)
          have n8_ := am_ (blk_below BK15.out hb)
          have n9_ := am_ (blk_below BK31.out hb)
          have SZ27 := am_ (show w1031.heap.size ≤ w1029.heap.size from (hb).size)
          clear HB HO8 HO11 HO14 HO19 HO27 BK1 BK9 BK15 BK31
          have HB := n0_
          have HO8 := n1_
          have HO11 := n2_
          have HO14 := n3_
          have HO19 := n4_
          have HO27 := n5_
          have BK1 := n6_
          have BK9 := n7_
          have BK15 := n8_
          have BK31 := n9_
          clear n0_ n1_ n2_ n3_ n4_ n5_ n6_ n7_ n8_ n9_
          have HO30 := am_ (R_zone ho0 hs_)
          clear ho0
          obtain ⟨A_30, c_30, e_30⟩ := Kd.R_slice HO30.out
          subst e_30
          clear hb hs_
          refine hK.out _ _ ⟨cz_ BK1.out 0, cz_ BK1.out 1, cz_ BK1.out 2, cz_ BK9.out 0, cz_ BK9.out 1, cz_ BK9.out 2, cz_ BK15.out 0, cz_ BK15.out 1, cz_ BK15.out 2⟩ (fun hHeld => ?_)
          clear hK K
          refine norm_ (a' := ?_) ?_ ?_
          rotate_left
          · show Act.put _ (some 111) _ = _
            simp only [Act.put, List.setIfInBounds_toArray, List.set_cons_zero, List.set_cons_succ, i64_w, i32_w]
            rfl
          refine pure_ (i := 6) (N := some 105) (v := ?_) (a' := ?_) #[true, true, true, true, true, true, true, false, false, false, true, false, false, false] rfl rfl (any_of HT_.out (by kernel_rfl)) (fun _ _ _ h => h) (Or.inl ⟨by rfl, ?_⟩) ?_ ?_
          rotate_left
          · intro w'
            go_simp
            with_reducible rfl
          rotate_left
          · simp only [Act.put, List.setIfInBounds_toArray, List.set_cons_zero, List.set_cons_succ, i64_w, i32_w]
            rfl
          refine pure_ (i := 7) (N := some 112) (v := ?_) (a' := ?_) #[true, true, true, true, true, true, true, true, false, false, true, false, false, false] rfl rfl (any_of HT_.out (by kernel_rfl)) (fun _ _ _ h => h) (Or.inl ⟨by rfl, ?_⟩) ?_ ?_
          rotate_left
          · intro w'
            go_simp
            with_reducible rfl
          rotate_left
          · simp only [Act.put, List.setIfInBounds_toArray, List.set_cons_zero, List.set_cons_succ, i64_w, i32_w]
            rfl
          refine pure_ (i := 8) (N := some 113) (v := ?_) (a' := ?_) #[true, true, true, true, true, true, true, true, true, false, true, false, false, false] rfl rfl (any_of HT_.out (by kernel_rfl)) (fun _ _ _ h => h) (Or.inl ⟨by rfl, ?_⟩) ?_ ?_
          rotate_left
          · intro w'
            go_simp
            with_reducible rfl
          rotate_left
          · simp only [Act.put, List.setIfInBounds_toArray, List.set_cons_zero, List.set_cons_succ, i64_w, i32_w]
            rfl
          refine pure_ (i := 9) (N := some 114) (v := ?_) (a' := ?_) #[true, true, true, true, true, true, true, true, true, true, true, false, false, false] rfl rfl (any_of HT_.out (by kernel_rfl)) (fun _ _ _ h => h) (Or.inl ⟨by rfl, ?_⟩) ?_ ?_
          rotate_left
          · intro w'
            go_simp
            with_reducible rfl
          rotate_left
          · simp only [Act.put, List.setIfInBounds_toArray, List.set_cons_zero, List.set_cons_succ, i64_w, i32_w]
            rfl
          exact nm_ (hCont ((.slice A_27 t26.length c_27), (.agg #[.string t28_0, .int .i64 t28_1, .string t28_2]), A_30, c_30, w1031, w1029, g31) _ ⟨HB.out, HO8.out, HO11.out, HO14.out, HO19.out, BK1.out, BK9.out, BK15.out, HO30.out, BK31.out, (show w3024.heap.size ≤ w1031.heap.size by first | exact Nat.le_refl _ | (have := SZ24.out; have := SZ25.out; have := SZ26.out; omega)), (show w1031.heap.size ≤ w1029.heap.size by first | exact Nat.le_refl _ | (have := SZ27.out; omega)), (show w1029.heap.size ≤ w1029.heap.size by first | exact Nat.le_refl _ | (omega)), (show w1029.heap.size ≤ g31 ∨ g31 < w1031.heap.size by have := GL31.out; have := GU31.out; omega), (show w3024.heap.size ≤ g31 by have := GL31.out; have := SZ24.out; have := SZ25.out; omega), (show g31 < w1029.heap.size by have := GU31.out; have := SZ27.out; omega)⟩)
      · skip
        refine box_step ?hg (N := 18) ?hd (cs := #[.string (⟨#[]⟩ : ByteArray), .int .i64 0, .string (⟨#[]⟩ : ByteArray)]) (t := 27) ?hr ?_; (case hd => rfl); (case hg => rfl); (case hr => first | (go_simp; done) | (go_simp; rfl))
        intro g31 hg w1031 hbox hb
        have n0_ := am_ (below_step HB.out hb)
        have n1_ := am_ (Kd.R_below HO8.out hb)
        have n2_ := am_ (Kd.S_below HO11.out hb)
        have n3_ := am_ (Kd.R_below HO14.out hb)
        have n4_ := am_ (Kd.S_below HO19.out hb)
        have n5_ := am_ (Kd.S_below HO27.out hb)
        have n6_ := am_ (blk_below BK1.out hb)
        have n7_ := am_ (blk_below BK9.out hb)
        have n8_ := am_ (blk_below BK15.out hb)
        have SZ25 := am_ (show w1026.heap.size ≤ w1031.heap.size from (hb).size)
        clear HB HO8 HO11 HO14 HO19 HO27 BK1 BK9 BK15
        have HB := n0_
        have HO8 := n1_
        have HO11 := n2_
        have HO14 := n3_
        have HO19 := n4_
        have HO27 := n5_
        have BK1 := n6_
        have BK9 := n7_
        have BK15 := n8_
        clear n0_ n1_ n2_ n3_ n4_ n5_ n6_ n7_ n8_
        have BK31 := am_ hbox
        have GL31 := am_ (show w1026.heap.size ≤ g31 from Nat.le_of_eq hg.symm)
        have GU31 := am_ (blk_lt hbox)
        clear hbox hg hb
        refine hK.out _ _ ⟨cz_ BK1.out 0, cz_ BK1.out 1, cz_ BK1.out 2, cz_ BK9.out 0, cz_ BK9.out 1, cz_ BK9.out 2, cz_ BK15.out 0, cz_ BK15.out 1, cz_ BK15.out 2⟩ (fun hHeld => ?_)
        clear hK K
        refine norm_ (a' := ?_) ?_ ?_
        rotate_left
        · show Act.put _ (some 18) _ = _
          simp only [Act.put, List.setIfInBounds_toArray, List.set_cons_zero, List.set_cons_succ, i64_w, i32_w]
          rfl
        refine oS_ 3 109 HT_ (fun K hK => ?_)
        refine goes_ Tryd.func9 (by kernel_rfl) rfl #[.agg #[.string a1_0, .int .i64 a1_1, .string a1_2]] (by rfl) rfl rfl (by (try simp only [List.map_toArray, List.map_cons, List.map_nil]); first | done | rfl) ?_
        (with_reducible refine (laws_toMusic.calls a1_0 a1_1 a1_2 t28_0 t28_1 t28_2 _  A28.out).mono ?_)
        rintro e w1028 ⟨rfl, hb⟩
        refine ⟨_, rfl, ?_⟩
        have hs_ := below_size HB.out
        have n0_ := am_ (below_step HB.out hb)
        have n1_ := am_ (Kd.R_below HO8.out hb)
        have n2_ := am_ (Kd.S_below HO11.out hb)
        have n3_ := am_ (Kd.R_below HO14.out hb)
        have n4_ := am_ (Kd.S_below HO19.out hb)
        have n5_ := am_ (Kd.S_below HO27.out hb)
        have n6_ := am_ (blk_below BK1.out hb)
        have n7_ := am_ (blk_below BK9.out hb)
        have n8_ := am_ (blk_below BK15.out hb)
        have n9_ := am_ (blk_below BK31.out hb)
        have SZ26 := am_ (show w1031.heap.size ≤ w1028.heap.size from (hb).size)
        clear HB HO8 HO11 HO14 HO19 HO27 BK1 BK9 BK15 BK31
        have HB := n0_
        have HO8 := n1_
        have HO11 := n2_
        have HO14 := n3_
        have HO19 := n4_
        have HO27 := n5_
        have BK1 := n6_
        have BK9 := n7_
        have BK15 := n8_
        have BK31 := n9_
        clear n0_ n1_ n2_ n3_ n4_ n5_ n6_ n7_ n8_ n9_
        clear hb hs_
        refine hK.out _ _ ⟨cz_ BK1.out 0, cz_ BK1.out 1, cz_ BK1.out 2, cz_ BK9.out 0, cz_ BK9.out 1, cz_ BK9.out 2, cz_ BK15.out 0, cz_ BK15.out 1, cz_ BK15.out 2⟩ (fun hHeld => ?_)
        clear hK K
        refine norm_ (a' := ?_) ?_ ?_
        rotate_left
        · show Act.put _ (some 109) _ = _
          simp only [Act.put, List.setIfInBounds_toArray, List.set_cons_zero, List.set_cons_succ, i64_w, i32_w]
          rfl
        refine oS_ 5 111 HT_ (fun K hK => ?_)
        refine goes_ Tryd.func10 (by kernel_rfl) rfl #[.slice A_27 t26.length c_27, .agg #[.string t28_0, .int .i64 t28_1, .string t28_2], .int .i64 a2] (by rfl) rfl rfl (by (try simp only [List.map_toArray, List.map_cons, List.map_nil]); first | done | rfl) ?_
        (with_reducible refine (impl_RunMusic.calls k _ _ t26 t28_0 t28_1 t28_2 a2 t29_0 t29_1 t29_2 t29_3 t29_4 _ ?sd29_1 ?sd29_2 A29.out).mono ?_)
        (case sd29_1 => exact (Kd.S_reads' HO27.out).2.2)
        (case sd29_2 => exact (Kd.S_reads' HO27.out).2.1)
        rintro e w1029 ⟨v_30, rfl, ho0, hb⟩
        refine ⟨_, rfl, ?_⟩
        have hs_ := below_size HB.out
        have n0_ := am_ (below_step HB.out hb)
        have n1_ := am_ (Kd.R_below HO8.out hb)
        have n2_ := am_ (Kd.S_below HO11.out hb)
        have n3_ := am_ (Kd.R_below HO14.out hb)
        have n4_ := am_ (Kd.S_below HO19.out hb)
        have n5_ := am_ (Kd.S_below HO27.out hb)
        have n6_ := am_ (blk_below BK1.out hb)
        have n7_ := am_ (blk_below BK9.out hb)
        have n8_ := am_ (blk_below BK15.out hb)
        have n9_ := am_ (blk_below BK31.out hb)
        have SZ27 := am_ (show w1028.heap.size ≤ w1029.heap.size from (hb).size)
        clear HB HO8 HO11 HO14 HO19 HO27 BK1 BK9 BK15 BK31
        have HB := n0_
        have HO8 := n1_
        have HO11 := n2_
        have HO14 := n3_
        have HO19 := n4_
        have HO27 := n5_
        have BK1 := n6_
        have BK9 := n7_
        have BK15 := n8_
        have BK31 := n9_
        clear n0_ n1_ n2_ n3_ n4_ n5_ n6_ n7_ n8_ n9_
        have HO30 := am_ (R_zone ho0 hs_)
        clear ho0
        obtain ⟨A_30, c_30, e_30⟩ := Kd.R_slice HO30.out
        subst e_30
        clear hb hs_
        refine hK.out _ _ ⟨cz_ BK1.out 0, cz_ BK1.out 1, cz_ BK1.out 2, cz_ BK9.out 0, cz_ BK9.out 1, cz_ BK9.out 2, cz_ BK15.out 0, cz_ BK15.out 1, cz_ BK15.out 2⟩ (fun hHeld => ?_)
        clear hK K
        refine norm_ (a' := ?_) ?_ ?_
        rotate_left
        · show Act.put _ (some 111) _ = _
          simp only [Act.put, List.setIfInBounds_toArray, List.set_cons_zero, List.set_cons_succ, i64_w, i32_w]
          rfl
        refine pure_ (i := 6) (N := some 105) (v := ?_) (a' := ?_) #[true, true, true, true, true, true, true, false, false, false, true, false, false, false] rfl rfl (any_of HT_.out (by kernel_rfl)) (fun _ _ _ h => h) (Or.inl ⟨by rfl, ?_⟩) ?_ ?_
        rotate_left
        · intro w'
          go_simp
          with_reducible rfl
        rotate_left
        · simp only [Act.put, List.setIfInBounds_toArray, List.set_cons_zero, List.set_cons_succ, i64_w, i32_w]
          rfl
        refine pure_ (i := 7) (N := some 112) (v := ?_) (a' := ?_) #[true, true, true, true, true, true, true, true, false, false, true, false, false, false] rfl rfl (any_of HT_.out (by kernel_rfl)) (fun _ _ _ h => h) (Or.inl ⟨by rfl, ?_⟩) ?_ ?_
        rotate_left
        · intro w'
          go_simp
          with_reducible rfl
        rotate_left
        · simp only [Act.put, List.setIfInBounds_toArray, List.set_cons_zero, List.set_cons_succ, i64_w, i32_w]
          rfl
        refine pure_ (i := 8) (N := some 113) (v := ?_) (a' := ?_) #[true, true, true, true, true, true, true, true, true, false, true, false, false, false] rfl rfl (any_of HT_.out (by kernel_rfl)) (fun _ _ _ h => h) (Or.inl ⟨by rfl, ?_⟩) ?_ ?_
        rotate_left
        · intro w'
          go_simp
          with_reducible rfl
        rotate_left
        · simp only [Act.put, List.setIfInBounds_toArray, List.set_cons_zero, List.set_cons_succ, i64_w, i32_w]
          rfl
        refine pure_ (i := 9) (N := some 114) (v := ?_) (a' := ?_) #[true, true, true, true, true, true, true, true, true, true, true, false, false, false] rfl rfl (any_of HT_.out (by kernel_rfl)) (fun _ _ _ h => h) (Or.inl ⟨by rfl, ?_⟩) ?_ ?_
        rotate_left
        · intro w'
          go_simp
          with_reducible rfl
        rotate_left
        · simp only [Act.put, List.setIfInBounds_toArray, List.set_cons_zero, List.set_cons_succ, i64_w, i32_w]
          rfl
        exact nm_ (hCont ((.slice A_27 t26.length c_27), (.agg #[.string t28_0, .int .i64 t28_1, .string t28_2]), A_30, c_30, w1028, w1029, g31) _ ⟨HB.out, HO8.out, HO11.out, HO14.out, HO19.out, BK1.out, BK9.out, BK15.out, HO30.out, BK31.out, (show w3024.heap.size ≤ w1028.heap.size by first | exact Nat.le_refl _ | (have := SZ24.out; have := SZ25.out; have := SZ26.out; omega)), (show w1028.heap.size ≤ w1029.heap.size by first | exact Nat.le_refl _ | (have := SZ27.out; omega)), (show w1029.heap.size ≤ w1029.heap.size by first | exact Nat.le_refl _ | (omega)), (show w1029.heap.size ≤ g31 ∨ g31 < w1028.heap.size by have := GL31.out; have := GU31.out; have := SZ26.out; omega), (show w3024.heap.size ≤ g31 by have := GL31.out; have := SZ24.out; omega), (show g31 < w1029.heap.size by have := GU31.out; have := SZ26.out; have := SZ27.out; omega)⟩)
    · skip
      refine box_step ?hg (N := 18) ?hd (cs := #[.string (⟨#[]⟩ : ByteArray), .int .i64 0, .string (⟨#[]⟩ : ByteArray)]) (t := 27) ?hr ?_; (case hd => rfl); (case hg => rfl); (case hr => first | (go_simp; done) | (go_simp; rfl))
      intro g31 hg w1031 hbox hb
      have n0_ := am_ (below_step HB.out hb)
      have n1_ := am_ (Kd.R_below HO8.out hb)
      have n2_ := am_ (Kd.S_below HO11.out hb)
      have n3_ := am_ (Kd.R_below HO14.out hb)
      have n4_ := am_ (Kd.S_below HO19.out hb)
      have n5_ := am_ (blk_below BK1.out hb)
      have n6_ := am_ (blk_below BK9.out hb)
      have n7_ := am_ (blk_below BK15.out hb)
      have SZ24 := am_ (show w3024.heap.size ≤ w1031.heap.size from (hb).size)
      clear HB HO8 HO11 HO14 HO19 BK1 BK9 BK15
      have HB := n0_
      have HO8 := n1_
      have HO11 := n2_
      have HO14 := n3_
      have HO19 := n4_
      have BK1 := n5_
      have BK9 := n6_
      have BK15 := n7_
      clear n0_ n1_ n2_ n3_ n4_ n5_ n6_ n7_
      have BK31 := am_ hbox
      have GL31 := am_ (show w3024.heap.size ≤ g31 from Nat.le_of_eq hg.symm)
      have GU31 := am_ (blk_lt hbox)
      clear hbox hg hb
      refine hK.out _ _ ⟨cz_ BK1.out 0, cz_ BK1.out 1, cz_ BK1.out 2, cz_ BK9.out 0, cz_ BK9.out 1, cz_ BK9.out 2, cz_ BK15.out 0, cz_ BK15.out 1, cz_ BK15.out 2⟩ (fun hHeld => ?_)
      clear hK K
      refine norm_ (a' := ?_) ?_ ?_
      rotate_left
      · show Act.put _ (some 18) _ = _
        simp only [Act.put, List.setIfInBounds_toArray, List.set_cons_zero, List.set_cons_succ, i64_w, i32_w]
        rfl
      refine oS_ 1 107 HT_ (fun K hK => ?_)
      refine goes_ Tryd.func8 (by kernel_rfl) rfl #[.slice A0 l0.length c0] (by rfl) rfl rfl (by (try simp only [List.map_toArray, List.map_cons, List.map_nil]); first | done | rfl) ?_
      (with_reducible refine (laws_toSectionS.calls k _ _ l0 t26 _ ?sd26_1 ?sd26_2 A26.out).mono ?_)
      (case sd26_1 => exact Kd.C_below HR0.out HB.out)
      (case sd26_2 => exact HC0.out)
      rintro e w1026 ⟨v_27, rfl, ho0, hb⟩
      refine ⟨_, rfl, ?_⟩
      have hs_ := below_size HB.out
      have n0_ := am_ (below_step HB.out hb)
      have n1_ := am_ (Kd.R_below HO8.out hb)
      have n2_ := am_ (Kd.S_below HO11.out hb)
      have n3_ := am_ (Kd.R_below HO14.out hb)
      have n4_ := am_ (Kd.S_below HO19.out hb)
      have n5_ := am_ (blk_below BK1.out hb)
      have n6_ := am_ (blk_below BK9.out hb)
      have n7_ := am_ (blk_below BK15.out hb)
      have n8_ := am_ (blk_below BK31.out hb)
      have SZ25 := am_ (show w1031.heap.size ≤ w1026.heap.size from (hb).size)
      clear HB HO8 HO11 HO14 HO19 BK1 BK9 BK15 BK31
      have HB := n0_
      have HO8 := n1_
      have HO11 := n2_
      have HO14 := n3_
      have HO19 := n4_
      have BK1 := n5_
      have BK9 := n6_
      have BK15 := n7_
      have BK31 := n8_
      clear n0_ n1_ n2_ n3_ n4_ n5_ n6_ n7_ n8_
      have HO27 := am_ (S_zone ho0 hs_)
      clear ho0
      obtain ⟨A_27, c_27, e_27⟩ := Kd.S_slice HO27.out
      subst e_27
      clear hb hs_
      refine hK.out _ _ ⟨cz_ BK1.out 0, cz_ BK1.out 1, cz_ BK1.out 2, cz_ BK9.out 0, cz_ BK9.out 1, cz_ BK9.out 2, cz_ BK15.out 0, cz_ BK15.out 1, cz_ BK15.out 2⟩ (fun hHeld => ?_)
      clear hK K
      refine norm_ (a' := ?_) ?_ ?_
      rotate_left
      · show Act.put _ (some 107) _ = _
        simp only [Act.put, List.setIfInBounds_toArray, List.set_cons_zero, List.set_cons_succ, i64_w, i32_w]
        rfl
      refine oS_ 3 109 HT_ (fun K hK => ?_)
      refine goes_ Tryd.func9 (by kernel_rfl) rfl #[.agg #[.string a1_0, .int .i64 a1_1, .string a1_2]] (by rfl) rfl rfl (by (try simp only [List.map_toArray, List.map_cons, List.map_nil]); first | done | rfl) ?_
      (with_reducible refine (laws_toMusic.calls a1_0 a1_1 a1_2 t28_0 t28_1 t28_2 _  A28.out).mono ?_)
      rintro e w1028 ⟨rfl, hb⟩
      refine ⟨_, rfl, ?_⟩
      have hs_ := below_size HB.out
      have n0_ := am_ (below_step HB.out hb)
      have n1_ := am_ (Kd.R_below HO8.out hb)
      have n2_ := am_ (Kd.S_below HO11.out hb)
      have n3_ := am_ (Kd.R_below HO14.out hb)
      have n4_ := am_ (Kd.S_below HO19.out hb)
      have n5_ := am_ (Kd.S_below HO27.out hb)
      have n6_ := am_ (blk_below BK1.out hb)
      have n7_ := am_ (blk_below BK9.out hb)
      have n8_ := am_ (blk_below BK15.out hb)
      have n9_ := am_ (blk_below BK31.out hb)
      have SZ26 := am_ (show w1026.heap.size ≤ w1028.heap.size from (hb).size)
      clear HB HO8 HO11 HO14 HO19 HO27 BK1 BK9 BK15 BK31
      have HB := n0_
      have HO8 := n1_
      have HO11 := n2_
      have HO14 := n3_
      have HO19 := n4_
      have HO27 := n5_
      have BK1 := n6_
      have BK9 := n7_
      have BK15 := n8_
      have BK31 := n9_
      clear n0_ n1_ n2_ n3_ n4_ n5_ n6_ n7_ n8_ n9_
      clear hb hs_
      refine hK.out _ _ ⟨cz_ BK1.out 0, cz_ BK1.out 1, cz_ BK1.out 2, cz_ BK9.out 0, cz_ BK9.out 1, cz_ BK9.out 2, cz_ BK15.out 0, cz_ BK15.out 1, cz_ BK15.out 2⟩ (fun hHeld => ?_)
      clear hK K
      refine norm_ (a' := ?_) ?_ ?_
      rotate_left
      · show Act.put _ (some 109) _ = _
        simp only [Act.put, List.setIfInBounds_toArray, List.set_cons_zero, List.set_cons_succ, i64_w, i32_w]
        rfl
      refine oS_ 5 111 HT_ (fun K hK => ?_)
      refine goes_ Tryd.func10 (by kernel_rfl) rfl #[.slice A_27 t26.length c_27, .agg #[.string t28_0, .int .i64 t28_1, .string t28_2], .int .i64 a2] (by rfl) rfl rfl (by (try simp only [List.map_toArray, List.map_cons, List.map_nil]); first | done | rfl) ?_
      (with_reducible refine (impl_RunMusic.calls k _ _ t26 t28_0 t28_1 t28_2 a2 t29_0 t29_1 t29_2 t29_3 t29_4 _ ?sd29_1 ?sd29_2 A29.out).mono ?_)
      (case sd29_1 => exact (Kd.S_reads' HO27.out).2.2)
      (case sd29_2 => exact (Kd.S_reads' HO27.out).2.1)
      rintro e w1029 ⟨v_30, rfl, ho0, hb⟩
      refine ⟨_, rfl, ?_⟩
      have hs_ := below_size HB.out
      have n0_ := am_ (below_step HB.out hb)
      have n1_ := am_ (Kd.R_below HO8.out hb)
      have n2_ := am_ (Kd.S_below HO11.out hb)
      have n3_ := am_ (Kd.R_below HO14.out hb)
      have n4_ := am_ (Kd.S_below HO19.out hb)
      have n5_ := am_ (Kd.S_below HO27.out hb)
      have n6_ := am_ (blk_below BK1.out hb)
      have n7_ := am_ (blk_below BK9.out hb)
      have n8_ := am_ (blk_below BK15.out hb)
      have n9_ := am_ (blk_below BK31.out hb)
      have SZ27 := am_ (show w1028.heap.size ≤ w1029.heap.size from (hb).size)
      clear HB HO8 HO11 HO14 HO19 HO27 BK1 BK9 BK15 BK31
      have HB := n0_
      have HO8 := n1_
      have HO11 := n2_
      have HO14 := n3_
      have HO19 := n4_
      have HO27 := n5_
      have BK1 := n6_
      have BK9 := n7_
      have BK15 := n8_
      have BK31 := n9_
      clear n0_ n1_ n2_ n3_ n4_ n5_ n6_ n7_ n8_ n9_
      have HO30 := am_ (R_zone ho0 hs_)
      clear ho0
      obtain ⟨A_30, c_30, e_30⟩ := Kd.R_slice HO30.out
      subst e_30
      clear hb hs_
      refine hK.out _ _ ⟨cz_ BK1.out 0, cz_ BK1.out 1, cz_ BK1.out 2, cz_ BK9.out 0, cz_ BK9.out 1, cz_ BK9.out 2, cz_ BK15.out 0, cz_ BK15.out 1, cz_ BK15.out 2⟩ (fun hHeld => ?_)
      clear hK K
      refine norm_ (a' := ?_) ?_ ?_
      rotate_left
      · show Act.put _ (some 111) _ = _
        simp only [Act.put, List.setIfInBounds_toArray, List.set_cons_zero, List.set_cons_succ, i64_w, i32_w]
        rfl
      refine pure_ (i := 6) (N := some 105) (v := ?_) (a' := ?_) #[true, true, true, true, true, true, true, false, false, false, true, false, false, false] rfl rfl (any_of HT_.out (by kernel_rfl)) (fun _ _ _ h => h) (Or.inl ⟨by rfl, ?_⟩) ?_ ?_
      rotate_left
      · intro w'
        go_simp
        with_reducible rfl
      rotate_left
      · simp only [Act.put, List.setIfInBounds_toArray, List.set_cons_zero, List.set_cons_succ, i64_w, i32_w]
        rfl
      refine pure_ (i := 7) (N := some 112) (v := ?_) (a' := ?_) #[true, true, true, true, true, true, true, true, false, false, true, false, false, false] rfl rfl (any_of HT_.out (by kernel_rfl)) (fun _ _ _ h => h) (Or.inl ⟨by rfl, ?_⟩) ?_ ?_
      rotate_left
      · intro w'
        go_simp
        with_reducible rfl
      rotate_left
      · simp only [Act.put, List.setIfInBounds_toArray, List.set_cons_zero, List.set_cons_succ, i64_w, i32_w]
        rfl
      refine pure_ (i := 8) (N := some 113) (v := ?_) (a' := ?_) #[true, true, true, true, true, true, true, true, true, false, true, false, false, false] rfl rfl (any_of HT_.out (by kernel_rfl)) (fun _ _ _ h => h) (Or.inl ⟨by rfl, ?_⟩) ?_ ?_
      rotate_left
      · intro w'
        go_simp
        with_reducible rfl
      rotate_left
      · simp only [Act.put, List.setIfInBounds_toArray, List.set_cons_zero, List.set_cons_succ, i64_w, i32_w]
        rfl
      refine pure_ (i := 9) (N := some 114) (v := ?_) (a' := ?_) #[true, true, true, true, true, true, true, true, true, true, true, false, false, false] rfl rfl (any_of HT_.out (by kernel_rfl)) (fun _ _ _ h => h) (Or.inl ⟨by rfl, ?_⟩) ?_ ?_
      rotate_left
      · intro w'
        go_simp
        with_reducible rfl
      rotate_left
      · simp only [Act.put, List.setIfInBounds_toArray, List.set_cons_zero, List.set_cons_succ, i64_w, i32_w]
        rfl
      exact nm_ (hCont ((.slice A_27 t26.length c_27), (.agg #[.string t28_0, .int .i64 t28_1, .string t28_2]), A_30, c_30, w1028, w1029, g31) _ ⟨HB.out, HO8.out, HO11.out, HO14.out, HO19.out, BK1.out, BK9.out, BK15.out, HO30.out, BK31.out, (show w3024.heap.size ≤ w1028.heap.size by first | exact Nat.le_refl _ | (have := SZ24.out; have := SZ25.out; have := SZ26.out; omega)), (show w1028.heap.size ≤ w1029.heap.size by first | exact Nat.le_refl _ | (have := SZ27.out; omega)), (show w1029.heap.size ≤ w1029.heap.size by first | exact Nat.le_refl _ | (omega)), (show w1029.heap.size ≤ g31 ∨ g31 < w1028.heap.size by have := GL31.out; have := GU31.out; have := SZ25.out; have := SZ26.out; omega), (show w3024.heap.size ≤ g31 by have := GL31.out; omega), (show g31 < w1029.heap.size by have := GU31.out; have := SZ25.out; have := SZ26.out; have := SZ27.out; omega)⟩)
  rintro ⟨vv107, vv109, A_30, c_30, za31, zb31, g31⟩ w4031 ⟨h0_, h1_, h2_, h3_, h4_, h5_, h6_, h7_, h8_, h9_, h10_, h11_, h12_, h13_, h14_, h15_⟩
  have n0_ : Aside0 (Below w.heap.size w w4031) := ⟨h0_⟩
  have n1_ : Aside0 (Kd.R Kd.string 9 w4031 w.heap.size (Zone za9 zb9 (9 :: (Kd.string).E)) (.slice A_8 t7_3.length c_8) t7_3) := ⟨h1_⟩
  have n2_ : Aside0 (Kd.S k49 49 w4031 w.heap.size (Zone w5009 w1010 (49 :: (k49).E)) (.slice A_11 t10.length c_11) t21_1) := ⟨h2_⟩
  have n3_ : Aside0 (Kd.R Kd.string 9 w4031 w.heap.size (Zone w1012 w1013 (9 :: (Kd.string).E)) (.slice A_14 t13_3.length c_14) t24_1) := ⟨h3_⟩
  have n4_ : Aside0 (Kd.S k49 49 w4031 w.heap.size (Zone w1017 w1018 (49 :: (k49).E)) (.slice A_19 t18.length c_19) t18) := ⟨h4_⟩
  have n5_ : Aside0 (w4031.heap[g1]? = some (.cells #[.string a1_0, .int .i64 a1_1, .string a1_2] 24 (0, 0))) := ⟨h5_⟩
  have n6_ : Aside0 (w4031.heap[g9]? = some (.cells #[.string t7_0, .int .i64 t7_1, .string t7_2] 27 (0, 0))) := ⟨h6_⟩
  have n7_ : Aside0 (w4031.heap[g15]? = some (.cells #[.string t13_0, .int .i64 t13_1, .string t13_2] 27 (0, 0))) := ⟨h7_⟩
  have n8_ : Aside0 (Kd.R Kd.string 9 w4031 w.heap.size (Zone za31 zb31 (9 :: (Kd.string).E)) (.slice A_30 t29_3.length c_30) t29_3) := ⟨h8_⟩
  have n9_ : Aside0 (w4031.heap[g31]? = some (.cells #[.string (⟨#[]⟩ : ByteArray), .int .i64 0, .string (⟨#[]⟩ : ByteArray)] 27 (0, 0))) := ⟨h9_⟩
  have n10_ : Aside0 (w3024.heap.size ≤ za31.heap.size) := ⟨h10_⟩
  have n11_ : Aside0 (za31.heap.size ≤ zb31.heap.size) := ⟨h11_⟩
  have n12_ : Aside0 (zb31.heap.size ≤ w4031.heap.size) := ⟨h12_⟩
  have n13_ : Aside0 (zb31.heap.size ≤ g31 ∨ g31 < za31.heap.size) := ⟨h13_⟩
  have n14_ : Aside0 (w3024.heap.size ≤ g31) := ⟨h14_⟩
  have n15_ : Aside0 (g31 < w4031.heap.size) := ⟨h15_⟩
  clear HB HO8 HO11 HO14 HO19 BK1 BK9 BK15
  clear h0_ h1_ h2_ h3_ h4_ h5_ h6_ h7_ h8_ h9_ h10_ h11_ h12_ h13_ h14_ h15_
  have HB := n0_
  have HO8 := n1_
  have HO11 := n2_
  have HO14 := n3_
  have HO19 := n4_
  have BK1 := n5_
  have BK9 := n6_
  have BK15 := n7_
  have HO30 := n8_
  have BK31 := n9_
  have SZ24 := n10_
  have SZ25 := n11_
  have SZ26 := n12_
  have DJ31 := n13_
  have GL31 := n14_
  have GU31 := n15_
  clear n0_ n1_ n2_ n3_ n4_ n5_ n6_ n7_ n8_ n9_ n10_ n11_ n12_ n13_ n14_ n15_
  have hHeld : w4031.cell? ⟨g1, 0, none⟩ = some (.string a1_0) ∧ w4031.cell? ⟨g1, 1, none⟩ = some (.int .i64 a1_1) ∧ w4031.cell? ⟨g1, 2, none⟩ = some (.string a1_2) ∧ w4031.cell? ⟨g9, 0, none⟩ = some (.string t7_0) ∧ w4031.cell? ⟨g9, 1, none⟩ = some (.int .i64 t7_1) ∧ w4031.cell? ⟨g9, 2, none⟩ = some (.string t7_2) ∧ w4031.cell? ⟨g15, 0, none⟩ = some (.string t13_0) ∧ w4031.cell? ⟨g15, 1, none⟩ = some (.int .i64 t13_1) ∧ w4031.cell? ⟨g15, 2, none⟩ = some (.string t13_2) := ⟨cz_ BK1.out 0, cz_ BK1.out 1, cz_ BK1.out 2, cz_ BK9.out 0, cz_ BK9.out 1, cz_ BK9.out 2, cz_ BK15.out 0, cz_ BK15.out 1, cz_ BK15.out 2⟩
  refine norm_ (a' := ?_) ?_ ?_
  rotate_left
  · simp only [putAll, Act.put, List.setIfInBounds_toArray, List.set_cons_zero, List.set_cons_succ]
    rfl
  refine one_ (i := 11) (N := none) #[true, true, true, true, true, true, true, true, true, true, true, true, false, false] rfl rfl (one_of HT_.out (by kernel_rfl)) (by decide) (fun K hK => ?_)
  have hx31_0 := cz_ BK31.out 0; have hf31_0 : w4031.frozen? ⟨g31, 0, none⟩ = false := blk_frozen BK31.out 0
  have hx31_1 := cz_ BK31.out 1; have hf31_1 : w4031.frozen? ⟨g31, 1, none⟩ = false := blk_frozen BK31.out 1
  have hx31_2 := cz_ BK31.out 2; have hf31_2 : w4031.frozen? ⟨g31, 2, none⟩ = false := blk_frozen BK31.out 2
  obtain ⟨w5031, hw⟩ : ∃ x_, x_ = (((w4031.setCell ⟨g31, 0, none⟩ (.string t29_0)).setCell ⟨g31, 1, none⟩ (.int .i64 t29_1)).setCell ⟨g31, 2, none⟩ (.string t29_2)) := ⟨_, rfl⟩
  refine skip_ (w1 := w5031) (by rfl) rfl ?_ ?_
  · rw [hw]; first | (go_simp; done) | (go_simp; rfl)
  clear hx31_0 hf31_0 hx31_1 hf31_1 hx31_2 hf31_2
  have hge_ : w.heap.size ≤ g31 := (by have := GL31.out; have := SZ1.out; have := SZ2.out; have := SZ3.out; have := SZ4.out; have := SZ5.out; have := SZ6.out; have := SZ7.out; have := SZ8.out; have := SZ9.out; have := SZ10.out; have := SZ11.out; have := SZ12.out; have := SZ13.out; have := SZ14.out; have := SZ15.out; have := SZ16.out; have := SZ17.out; have := SZ18.out; have := SZ19.out; have := SZ20.out; have := SZ21.out; have := SZ22.out; have := SZ23.out; omega)
  have hb : Below w.heap.size w w5031 := (by rw [hw]; exact below_set (below_set (below_set (HB.out) hge_) hge_) hge_)
  have hkp : Kept w4031 w5031 (fun k_ => k_ = g31) := (by rw [hw]; exact Kept.setCell (Kept.setCell (Kept.setCell (Kept.refl w4031 (fun k_ => k_ = g31)) (.inl rfl) (.string t29_0)) (.inl rfl) (.int .i64 t29_1)) (.inl rfl) (.string t29_2))
  have hbk : w5031.heap[g31]? = some (.cells #[.string t29_0, .int .i64 t29_1, .string t29_2] 27 (0, 0)) := (by rw [hw]; exact blk_put (cs' := #[.string t29_0, .int .i64 t29_1, .string t29_2]) (blk_put (cs' := #[.string t29_0, .int .i64 t29_1, .string (⟨#[]⟩ : ByteArray)]) (blk_put (cs' := #[.string t29_0, .int .i64 0, .string (⟨#[]⟩ : ByteArray)]) (BK31.out) 0 (.string t29_0) rfl) 1 (.int .i64 t29_1) rfl) 2 (.string t29_2) rfl)
  have n0_ := am_ (hb)
  have n1_ := am_ (Kd.R_step HO8.out (fun k_ h_ hlt_ => hkp.2 k_ hlt_ (fun e_ => (show False from Zone.notblk h_ e_ (by have := GL31.out; have := GU31.out; have := SZ7.out; have := SZ8.out; have := SZ9.out; have := SZ10.out; have := SZ11.out; have := SZ12.out; have := SZ13.out; have := SZ14.out; have := SZ15.out; have := SZ16.out; have := SZ17.out; have := SZ18.out; have := SZ19.out; have := SZ20.out; have := SZ21.out; have := SZ22.out; have := SZ23.out; first | exact .inl (by omega) | exact .inr (by omega))).elim)))
  have n2_ := am_ (Kd.S_step HO11.out (fun k_ h_ hlt_ => hkp.2 k_ hlt_ (fun e_ => (show False from Zone.notblk h_ e_ (by have := GL31.out; have := GU31.out; have := SZ10.out; have := SZ11.out; have := SZ12.out; have := SZ13.out; have := SZ14.out; have := SZ15.out; have := SZ16.out; have := SZ17.out; have := SZ18.out; have := SZ19.out; have := SZ20.out; have := SZ21.out; have := SZ22.out; have := SZ23.out; first | exact .inl (by omega) | exact .inr (by omega))).elim)))
  have n3_ := am_ (Kd.R_step HO14.out (fun k_ h_ hlt_ => hkp.2 k_ hlt_ (fun e_ => (show False from Zone.notblk h_ e_ (by have := GL31.out; have := GU31.out; have := SZ12.out; have := SZ13.out; have := SZ14.out; have := SZ15.out; have := SZ16.out; have := SZ17.out; have := SZ18.out; have := SZ19.out; have := SZ20.out; have := SZ21.out; have := SZ22.out; have := SZ23.out; first | exact .inl (by omega) | exact .inr (by omega))).elim)))
  have n4_ := am_ (Kd.S_step HO19.out (fun k_ h_ hlt_ => hkp.2 k_ hlt_ (fun e_ => (show False from Zone.notblk h_ e_ (by have := GL31.out; have := GU31.out; have := SZ17.out; have := SZ18.out; have := SZ19.out; have := SZ20.out; have := SZ21.out; have := SZ22.out; have := SZ23.out; first | exact .inl (by omega) | exact .inr (by omega))).elim)))
  have n5_ := am_ (Kd.R_step HO30.out (fun k_ h_ hlt_ => hkp.2 k_ hlt_ (fun e_ => (show False from Zone.notblk h_ e_ DJ31.out).elim)))
  have n6_ := am_ ((hkp.2 g1 (blk_lt BK1.out) (fun e_ => (by have e2_ : g1 = g31 := e_; have := GL1.out; have := GU1.out; have := GL31.out; have := GU31.out; have := SZ2.out; have := SZ3.out; have := SZ4.out; have := SZ5.out; have := SZ6.out; have := SZ7.out; have := SZ8.out; have := SZ9.out; have := SZ10.out; have := SZ11.out; have := SZ12.out; have := SZ13.out; have := SZ14.out; have := SZ15.out; have := SZ16.out; have := SZ17.out; have := SZ18.out; have := SZ19.out; have := SZ20.out; have := SZ21.out; have := SZ22.out; have := SZ23.out; omega))).trans BK1.out)
  have n7_ := am_ ((hkp.2 g9 (blk_lt BK9.out) (fun e_ => (by have e2_ : g9 = g31 := e_; have := GL9.out; have := GU9.out; have := GL31.out; have := GU31.out; have := SZ8.out; have := SZ9.out; have := SZ10.out; have := SZ11.out; have := SZ12.out; have := SZ13.out; have := SZ14.out; have := SZ15.out; have := SZ16.out; have := SZ17.out; have := SZ18.out; have := SZ19.out; have := SZ20.out; have := SZ21.out; have := SZ22.out; have := SZ23.out; omega))).trans BK9.out)
  have n8_ := am_ ((hkp.2 g15 (blk_lt BK15.out) (fun e_ => (by have e2_ : g15 = g31 := e_; have := GL15.out; have := GU15.out; have := GL31.out; have := GU31.out; have := SZ13.out; have := SZ14.out; have := SZ15.out; have := SZ16.out; have := SZ17.out; have := SZ18.out; have := SZ19.out; have := SZ20.out; have := SZ21.out; have := SZ22.out; have := SZ23.out; omega))).trans BK15.out)
  have n9_ := am_ (hbk)
  have SZ27 := am_ (show w4031.heap.size ≤ w5031.heap.size from hkp.1)
  clear HB HO8 HO11 HO14 HO19 HO30 BK1 BK9 BK15 BK31
  have HB := n0_
  have HO8 := n1_
  have HO11 := n2_
  have HO14 := n3_
  have HO19 := n4_
  have HO30 := n5_
  have BK1 := n6_
  have BK9 := n7_
  have BK15 := n8_
  have BK31 := n9_
  clear n0_ n1_ n2_ n3_ n4_ n5_ n6_ n7_ n8_ n9_
  clear hb hkp hbk hw hge_
  refine hK.out _ _ ⟨cz_ BK1.out 0, cz_ BK1.out 1, cz_ BK1.out 2, cz_ BK9.out 0, cz_ BK9.out 1, cz_ BK9.out 2, cz_ BK15.out 0, cz_ BK15.out 1, cz_ BK15.out 2⟩ (fun hHeld => ?_)
  clear hK K
  refine pure_ (i := 12) (N := some 19) (v := ?_) (a' := ?_) #[true, true, true, true, true, true, true, true, true, true, true, true, true, false] rfl rfl (any_of HT_.out (by kernel_rfl)) (fun _ _ _ h => h) (Or.inl ⟨by rfl, ?_⟩) ?_ ?_
  rotate_left
  · intro w'
    go_simp
    with_reducible rfl
  rotate_left
  · simp only [Act.put, List.setIfInBounds_toArray, List.set_cons_zero, List.set_cons_succ, i64_w, i32_w]
    rfl
  refine pure_ (i := 13) (N := some 20) (v := ?_) (a' := ?_) #[true, true, true, true, true, true, true, true, true, true, true, true, true, true] rfl rfl (any_of HT_.out (by kernel_rfl)) (fun _ _ _ h => h) (Or.inl ⟨by rfl, ?_⟩) ?_ ?_
  rotate_left
  · intro w'
    go_simp
    with_reducible rfl
  rotate_left
  · simp only [Act.put, List.setIfInBounds_toArray, List.set_cons_zero, List.set_cons_succ, i64_w, i32_w]
    rfl
  refine done_ (done_of HT_.out (by kernel_rfl)) ?_
  clear hHeld
  try clear HT_ HW_
  have hx1_0 := cz_ BK1.out 0
  have hf1_0 : w5031.frozen? ⟨g1, 0, none⟩ = false := blk_frozen BK1.out 0
  have hx1_1 := cz_ BK1.out 1
  have hf1_1 : w5031.frozen? ⟨g1, 1, none⟩ = false := blk_frozen BK1.out 1
  have hx1_2 := cz_ BK1.out 2
  have hf1_2 : w5031.frozen? ⟨g1, 2, none⟩ = false := blk_frozen BK1.out 2
  have hx9_0 := cz_ BK9.out 0
  have hf9_0 : w5031.frozen? ⟨g9, 0, none⟩ = false := blk_frozen BK9.out 0
  have hx9_1 := cz_ BK9.out 1
  have hf9_1 : w5031.frozen? ⟨g9, 1, none⟩ = false := blk_frozen BK9.out 1
  have hx9_2 := cz_ BK9.out 2
  have hf9_2 : w5031.frozen? ⟨g9, 2, none⟩ = false := blk_frozen BK9.out 2
  have hx15_0 := cz_ BK15.out 0
  have hf15_0 : w5031.frozen? ⟨g15, 0, none⟩ = false := blk_frozen BK15.out 0
  have hx15_1 := cz_ BK15.out 1
  have hf15_1 : w5031.frozen? ⟨g15, 1, none⟩ = false := blk_frozen BK15.out 1
  have hx15_2 := cz_ BK15.out 2
  have hf15_2 : w5031.frozen? ⟨g15, 2, none⟩ = false := blk_frozen BK15.out 2
  have hx31_0 := cz_ BK31.out 0
  have hf31_0 : w5031.frozen? ⟨g31, 0, none⟩ = false := blk_frozen BK31.out 0
  have hx31_1 := cz_ BK31.out 1
  have hf31_1 : w5031.frozen? ⟨g31, 1, none⟩ = false := blk_frozen BK31.out 1
  have hx31_2 := cz_ BK31.out 2
  have hf31_2 : w5031.frozen? ⟨g31, 2, none⟩ = false := blk_frozen BK31.out 2
  skip
  go_wp2_with (first | (go_at_call 11; (with_reducible refine (laws_eqMusic.calls t29_0 t29_1 t29_2 t7_0 t7_1 t7_2 true _  A32.out).mono ?_); rintro e w1032 ⟨rfl, hb⟩; have hs_ := below_size HB.out; clear hx1_0 hf1_0 hx1_1 hf1_1 hx1_2 hf1_2 hx9_0 hf9_0 hx9_1 hf9_1 hx9_2 hf9_2 hx15_0 hf15_0 hx15_1 hf15_1 hx15_2 hf15_2 hx31_0 hf31_0 hx31_1 hf31_1 hx31_2 hf31_2; have n0_ := am_ (below_step HB.out hb); have n1_ := am_ (Kd.R_below HO8.out hb); have n2_ := am_ (Kd.S_below HO11.out hb); have n3_ := am_ (Kd.R_below HO14.out hb); have n4_ := am_ (Kd.S_below HO19.out hb); have n5_ := am_ (Kd.R_below HO30.out hb); have n6_ := am_ (blk_below BK1.out hb); have n7_ := am_ (blk_below BK9.out hb); have n8_ := am_ (blk_below BK15.out hb); have n9_ := am_ (blk_below BK31.out hb); have SZ28 := am_ (show w5031.heap.size ≤ w1032.heap.size from (hb).size); clear HB HO8 HO11 HO14 HO19 HO30 BK1 BK9 BK15 BK31; have HB := n0_; have HO8 := n1_; have HO11 := n2_; have HO14 := n3_; have HO19 := n4_; have HO30 := n5_; have BK1 := n6_; have BK9 := n7_; have BK15 := n8_; have BK31 := n9_; clear n0_ n1_ n2_ n3_ n4_ n5_ n6_ n7_ n8_ n9_; clear hb hs_; have hx1_0 := cz_ BK1.out 0; have hf1_0 : w1032.frozen? ⟨g1, 0, none⟩ = false := blk_frozen BK1.out 0; have hx1_1 := cz_ BK1.out 1; have hf1_1 : w1032.frozen? ⟨g1, 1, none⟩ = false := blk_frozen BK1.out 1; have hx1_2 := cz_ BK1.out 2; have hf1_2 : w1032.frozen? ⟨g1, 2, none⟩ = false := blk_frozen BK1.out 2; have hx9_0 := cz_ BK9.out 0; have hf9_0 : w1032.frozen? ⟨g9, 0, none⟩ = false := blk_frozen BK9.out 0; have hx9_1 := cz_ BK9.out 1; have hf9_1 : w1032.frozen? ⟨g9, 1, none⟩ = false := blk_frozen BK9.out 1; have hx9_2 := cz_ BK9.out 2; have hf9_2 : w1032.frozen? ⟨g9, 2, none⟩ = false := blk_frozen BK9.out 2; have hx15_0 := cz_ BK15.out 0; have hf15_0 : w1032.frozen? ⟨g15, 0, none⟩ = false := blk_frozen BK15.out 0; have hx15_1 := cz_ BK15.out 1; have hf15_1 : w1032.frozen? ⟨g15, 1, none⟩ = false := blk_frozen BK15.out 1; have hx15_2 := cz_ BK15.out 2; have hf15_2 : w1032.frozen? ⟨g15, 2, none⟩ = false := blk_frozen BK15.out 2; have hx31_0 := cz_ BK31.out 0; have hf31_0 : w1032.frozen? ⟨g31, 0, none⟩ = false := blk_frozen BK31.out 0; have hx31_1 := cz_ BK31.out 1; have hf31_1 : w1032.frozen? ⟨g31, 1, none⟩ = false := blk_frozen BK31.out 1; have hx31_2 := cz_ BK31.out 2; have hf31_2 : w1032.frozen? ⟨g31, 2, none⟩ = false := blk_frozen BK31.out 2) | (go_at_call 12; (with_reducible refine (laws_eqStringS.calls k _ _ t29_3 _ _ t7_3 true _ ?sd33_1 ?sd33_2 ?sd33_3 ?sd33_4 A33.out).mono ?_); (case sd33_1 => exact (Kd.R_reads' HO30.out).2.2); (case sd33_2 => exact (Kd.R_reads' HO30.out).2.1); (case sd33_3 => exact (Kd.R_reads' HO8.out).2.2); (case sd33_4 => exact (Kd.R_reads' HO8.out).2.1); rintro e w1033 ⟨rfl, hd⟩; have hb := hd.below; clear hd; have hs_ := below_size HB.out; clear hx1_0 hf1_0 hx1_1 hf1_1 hx1_2 hf1_2 hx9_0 hf9_0 hx9_1 hf9_1 hx9_2 hf9_2 hx15_0 hf15_0 hx15_1 hf15_1 hx15_2 hf15_2 hx31_0 hf31_0 hx31_1 hf31_1 hx31_2 hf31_2; have n0_ := am_ (below_step HB.out hb); have n1_ := am_ (Kd.R_below HO8.out hb); have n2_ := am_ (Kd.S_below HO11.out hb); have n3_ := am_ (Kd.R_below HO14.out hb); have n4_ := am_ (Kd.S_below HO19.out hb); have n5_ := am_ (Kd.R_below HO30.out hb); have n6_ := am_ (blk_below BK1.out hb); have n7_ := am_ (blk_below BK9.out hb); have n8_ := am_ (blk_below BK15.out hb); have n9_ := am_ (blk_below BK31.out hb); have SZ29 := am_ (show w1032.heap.size ≤ w1033.heap.size from (hb).size); clear HB HO8 HO11 HO14 HO19 HO30 BK1 BK9 BK15 BK31; have HB := n0_; have HO8 := n1_; have HO11 := n2_; have HO14 := n3_; have HO19 := n4_; have HO30 := n5_; have BK1 := n6_; have BK9 := n7_; have BK15 := n8_; have BK31 := n9_; clear n0_ n1_ n2_ n3_ n4_ n5_ n6_ n7_ n8_ n9_; clear hb hs_; have hx1_0 := cz_ BK1.out 0; have hf1_0 : w1033.frozen? ⟨g1, 0, none⟩ = false := blk_frozen BK1.out 0; have hx1_1 := cz_ BK1.out 1; have hf1_1 : w1033.frozen? ⟨g1, 1, none⟩ = false := blk_frozen BK1.out 1; have hx1_2 := cz_ BK1.out 2; have hf1_2 : w1033.frozen? ⟨g1, 2, none⟩ = false := blk_frozen BK1.out 2; have hx9_0 := cz_ BK9.out 0; have hf9_0 : w1033.frozen? ⟨g9, 0, none⟩ = false := blk_frozen BK9.out 0; have hx9_1 := cz_ BK9.out 1; have hf9_1 : w1033.frozen? ⟨g9, 1, none⟩ = false := blk_frozen BK9.out 1; have hx9_2 := cz_ BK9.out 2; have hf9_2 : w1033.frozen? ⟨g9, 2, none⟩ = false := blk_frozen BK9.out 2; have hx15_0 := cz_ BK15.out 0; have hf15_0 : w1033.frozen? ⟨g15, 0, none⟩ = false := blk_frozen BK15.out 0; have hx15_1 := cz_ BK15.out 1; have hf15_1 : w1033.frozen? ⟨g15, 1, none⟩ = false := blk_frozen BK15.out 1; have hx15_2 := cz_ BK15.out 2; have hf15_2 : w1033.frozen? ⟨g15, 2, none⟩ = false := blk_frozen BK15.out 2; have hx31_0 := cz_ BK31.out 0; have hf31_0 : w1033.frozen? ⟨g31, 0, none⟩ = false := blk_frozen BK31.out 0; have hx31_1 := cz_ BK31.out 1; have hf31_1 : w1033.frozen? ⟨g31, 1, none⟩ = false := blk_frozen BK31.out 1; have hx31_2 := cz_ BK31.out 2; have hf31_2 : w1033.frozen? ⟨g31, 2, none⟩ = false := blk_frozen BK31.out 2) | (go_at_call 16; refine calls_of_args (args' := #[.slice A_14 t24_1.length c_14, .int .i64 1]) (by first | (rw [show t24_1.length = t13_3.length from (Kd.R_reads' HO14.out).1.symm] <;> rfl) | rfl) ?_; (with_reducible refine (laws_heldStringS.calls k _ _ t24_1 1 t34 _ ?sd34_1 ?sd34_2 A34.out).mono ?_); (case sd34_1 => exact (Kd.R_reads' HO14.out).2.2); (case sd34_2 => exact (by rw [show t24_1.length = t13_3.length from (Kd.R_reads' HO14.out).1.symm]; exact (Kd.R_reads' HO14.out).2.1)); rintro e w1034 ⟨rfl, hb⟩; have hs_ := below_size HB.out; clear hx1_0 hf1_0 hx1_1 hf1_1 hx1_2 hf1_2 hx9_0 hf9_0 hx9_1 hf9_1 hx9_2 hf9_2 hx15_0 hf15_0 hx15_1 hf15_1 hx15_2 hf15_2 hx31_0 hf31_0 hx31_1 hf31_1 hx31_2 hf31_2; have n0_ := am_ (below_step HB.out hb); have n1_ := am_ (Kd.R_below HO8.out hb); have n2_ := am_ (Kd.S_below HO11.out hb); have n3_ := am_ (Kd.R_below HO14.out hb); have n4_ := am_ (Kd.S_below HO19.out hb); have n5_ := am_ (Kd.R_below HO30.out hb); have n6_ := am_ (blk_below BK1.out hb); have n7_ := am_ (blk_below BK9.out hb); have n8_ := am_ (blk_below BK15.out hb); have n9_ := am_ (blk_below BK31.out hb); have SZ30 := am_ (show w1033.heap.size ≤ w1034.heap.size from (hb).size); clear HB HO8 HO11 HO14 HO19 HO30 BK1 BK9 BK15 BK31; have HB := n0_; have HO8 := n1_; have HO11 := n2_; have HO14 := n3_; have HO19 := n4_; have HO30 := n5_; have BK1 := n6_; have BK9 := n7_; have BK15 := n8_; have BK31 := n9_; clear n0_ n1_ n2_ n3_ n4_ n5_ n6_ n7_ n8_ n9_; clear hb hs_; have hx1_0 := cz_ BK1.out 0; have hf1_0 : w1034.frozen? ⟨g1, 0, none⟩ = false := blk_frozen BK1.out 0; have hx1_1 := cz_ BK1.out 1; have hf1_1 : w1034.frozen? ⟨g1, 1, none⟩ = false := blk_frozen BK1.out 1; have hx1_2 := cz_ BK1.out 2; have hf1_2 : w1034.frozen? ⟨g1, 2, none⟩ = false := blk_frozen BK1.out 2; have hx9_0 := cz_ BK9.out 0; have hf9_0 : w1034.frozen? ⟨g9, 0, none⟩ = false := blk_frozen BK9.out 0; have hx9_1 := cz_ BK9.out 1; have hf9_1 : w1034.frozen? ⟨g9, 1, none⟩ = false := blk_frozen BK9.out 1; have hx9_2 := cz_ BK9.out 2; have hf9_2 : w1034.frozen? ⟨g9, 2, none⟩ = false := blk_frozen BK9.out 2; have hx15_0 := cz_ BK15.out 0; have hf15_0 : w1034.frozen? ⟨g15, 0, none⟩ = false := blk_frozen BK15.out 0; have hx15_1 := cz_ BK15.out 1; have hf15_1 : w1034.frozen? ⟨g15, 1, none⟩ = false := blk_frozen BK15.out 1; have hx15_2 := cz_ BK15.out 2; have hf15_2 : w1034.frozen? ⟨g15, 2, none⟩ = false := blk_frozen BK15.out 2; have hx31_0 := cz_ BK31.out 0; have hf31_0 : w1034.frozen? ⟨g31, 0, none⟩ = false := blk_frozen BK31.out 0; have hx31_1 := cz_ BK31.out 1; have hf31_1 : w1034.frozen? ⟨g31, 1, none⟩ = false := blk_frozen BK31.out 1; have hx31_2 := cz_ BK31.out 2; have hf31_2 : w1034.frozen? ⟨g31, 2, none⟩ = false := blk_frozen BK31.out 2))
  go_ret
  exact ⟨rfl, HB.out⟩

/-! the law's reading -/
def ok46 (z : S46) : Prop := (z.f0.size ≤ maxLen) ∧ ((Lit.int .i64 z.f1).wf = true) ∧ (z.f2.length ≤ maxLen ∧ ∀ z268 ∈ z.f2, (Lit.int .i64 z268).wf = true) ∧ (z.f3.size ≤ maxLen)
def ok24 (z : S24) : Prop := (z.f0.size ≤ maxLen) ∧ ((Lit.int .i64 z.f1).wf = true) ∧ (z.f2.size ≤ maxLen)
/-- THE ONE PURE STATEMENT of laws_FnExactRunMusic. -/
def laws_FnExactRunMusic.Pure : Prop := ∀ (l0 : List (S46)) (a1_0 : ByteArray) (a1_1 : Int) (a1_2 : ByteArray) (a2 : Int), (l0.length ≤ maxLen ∧ ∀ z271 ∈ l0, ok46 z271) → (a1_0.size ≤ maxLen) → ((Lit.int .i64 a1_1).wf = true) → (a1_2.size ≤ maxLen) → ((Lit.int .i64 a2).wf = true) → ∃ k, laws_FnExactRunMusic.f k l0 a1_0 a1_1 a1_2 a2 = some true


end Go.Proofs.YtcabbfphidjapaaDoor.XFnExactRunMusic
