/- What the Go functions that this law comes to compute, each walked; written by a program of this session. -/
import Derived.Test.YtblmejanjhmjdaaXMark
import Derived.Test.YtblmejanjhmjdaaXFnExactMayStandx0
import Derived.Test.YtblmejanjhmjdaaXFnExactMayStandx1
import Derived.Test.YtblmejanjhmjdaaXFnExactMayStandx5
import Derived.Test.YtblmejanjhmjdaaXFnExactMayStandx9
import Derived.Test.YtblmejanjhmjdaaXFnExactMayStandx10
namespace Go.Proofs.Ytblmejanjhmjdaa.XFnExactMayStand
open Go.RowKit Go.Proofs.YtblmejanjhmjdaaW.PrintWords Go.Proofs.YtblmejanjhmjdaaW.PrintLast Go.Proofs.YtblmejanjhmjdaaW.PrintMore
attribute [local go_sem] str_geq max2_int min2_int max_two min_two max_three min_three max_four min_four   -- for this text's walks alone
set_option linter.unusedVariables false
set_option linter.unusedSimpArgs false

/-! ### laws_FnExactMayStand: function 3 -/
def laws_FnExactMayStand.f (k : Nat) (a0_0 : Int) (l0_1 : List (List Int)) (l0_2 : List (List Int)) (a1_0 : Int) (a1_1 : Int) (l1_2 : List Int) (a2 : Int) : Option (Bool) := (laws_szRules.f k a0_0 l0_1 l0_2 1048576).bind fun t3 => if t3 < 0 then some true else ((laws_szField.f a1_0 a1_1 l1_2 t3).bind fun t4 => if t4 < 0 then some true else ((laws_toRules.f k a0_0 l0_1 l0_2).bind fun t5 => (laws_toField.f k a1_0 a1_1 l1_2).bind fun t8 => (spec_MayStand.f k t5.1 t5.2.1 t5.2.2 t8.1 t8.2.1 t8.2.2 a2).bind fun t10 => (laws_toRules.f k a0_0 l0_1 l0_2).bind fun t12 => (laws_toField.f k a1_0 a1_1 l1_2).bind fun t16 => (impl_MayStand.f k t12.1 t12.2.1 t12.2.2 t16.1 t16.2.1 t16.2.2 a2).bind fun t19 => (laws_eqIntS.f k t19.1 t10.1).bind fun t21 => if t21 = true then (if t19.2 = t10.2 then ((laws_toRules.f k a0_0 l0_1 l0_2).bind fun t22 => (laws_eqRules.f k t12.1 t12.2.1 t12.2.2 t22.1 t22.2.1 t22.2.2).bind fun t25 => if t25 = true then ((laws_toField.f k a1_0 a1_1 l1_2).bind fun t26 => (laws_eqField.f k t16.1 t16.2.1 t16.2.2 t26.1 t26.2.1 t26.2.2).bind fun t28 => if t28 = true then ((laws_markRules.f k t12.1 t12.2.1 t12.2.2 1).bind fun t29 => (laws_markField.f k t16.1 t16.2.1 t16.2.2 t29.1).bind fun t30 => if ¬ (t30.1 < 0) then ((laws_eqIntS.f k t19.1 t10.1).bind fun t31 => if t31 = true then (if t19.2 = t10.2 then ((laws_markIntS.f k t19.1 1).bind fun t32 => (laws_heldIntS.f k t32.2 1).bind fun t33 => if ¬ (t33 < 0) then (if t33 = t32.1 then ((laws_toRules.f k a0_0 l0_1 l0_2).bind fun t34 => (laws_toField.f k a1_0 a1_1 l1_2).bind fun t37 => (impl_MayStand.f k t34.1 t34.2.1 t34.2.2 t37.1 t37.2.1 t37.2.2 a2).bind fun t39 => (laws_eqIntS.f k t39.1 t10.1).bind fun t41 => if t41 = true then (if t39.2 = t10.2 then ((laws_heldIntS.f k t32.2 1).bind fun t42 => if ¬ (t42 < 0) then (if t42 = t32.1 then (some true) else none) else none) else none) else none) else none) else none) else none) else none) else none) else none) else none) else none) else none))
theorem laws_FnExactMayStand.mono : ∀ a0 a1 a2 a3 a4 a5 a6 k, LeO (laws_FnExactMayStand.f k a0 a1 a2 a3 a4 a5 a6) (laws_FnExactMayStand.f (k + 1) a0 a1 a2 a3 a4 a5 a6) := by
  intro a0 a1 a2 a3 a4 a5 a6 k
  unfold laws_FnExactMayStand.f
  repeat' first
  | (with_reducible exact laws_szRules.mono _ _ _ _ _)
  | (with_reducible exact spec_MayStand.mono _ _ _ _ _ _ _ _)
  | (with_reducible exact laws_toRules.mono _ _ _ _)
  | (with_reducible exact laws_toField.mono _ _ _ _)
  | (with_reducible exact impl_MayStand.mono _ _ _ _ _ _ _ _)
  | (with_reducible exact laws_eqIntS.mono _ _ _)
  | (with_reducible exact laws_eqRules.mono _ _ _ _ _ _ _)
  | (with_reducible exact laws_eqField.mono _ _ _ _ _ _ _)
  | (with_reducible exact laws_markRules.mono _ _ _ _ _)
  | (with_reducible exact laws_markField.mono _ _ _ _ _)
  | (with_reducible exact laws_markIntS.mono _ _ _)
  | (with_reducible exact laws_heldIntS.mono _ _ _)
  | (with_reducible exact LeO.refl _)
  | (with_reducible exact LeO.none _)
  | (with_reducible refine LeO.ite ?_ ?_)
  | refine LeO.bind ?_ (fun _ => ?_)
  | exact LeO.none _
def laws_FnExactMayStand.T8 : Bool × List (List Nat × List Nat) := (true, [([], []), ([0], [0]), ([], []), ([2, 1], [2]), ([], []), ([1, 3, 4, 3], [1, 3, 4]), ([5], [5]), ([6], [6]), ([6], [6]), ([7, 5, 0, 1, 2, 3, 4, 5, 6, 7], [7]), ([8, 9, 0, 1, 2, 3, 4, 5, 6, 7, 8, 9], [8])])
def laws_FnExactMayStand.B8 : List Nat := [0, 1, 0, 7, 0, 31, 63, 127, 127, 255, 1023]
theorem laws_FnExactMayStand.tab8 : rtab .any (opsOf Try.f3 8) = laws_FnExactMayStand.T8 := by kernel_rfl
theorem laws_FnExactMayStand.bits8 : waitsOk laws_FnExactMayStand.T8.2 laws_FnExactMayStand.B8 = true := by kernel_rfl
def laws_FnExactMayStand.T14 : Bool × List (List Nat × List Nat) := (true, [([], []), ([], []), ([1], [1]), ([0, 2, 2], [0, 2]), ([3], [3])])
def laws_FnExactMayStand.B14 : List Nat := [0, 0, 2, 7, 15]
theorem laws_FnExactMayStand.tab14 : rtab .any (opsOf Try.f3 14) = laws_FnExactMayStand.T14 := by kernel_rfl
theorem laws_FnExactMayStand.bits14 : waitsOk laws_FnExactMayStand.T14.2 laws_FnExactMayStand.B14 = true := by kernel_rfl
def laws_FnExactMayStand.T16 : Bool × List (List Nat × List Nat) := (true, [([], []), ([], []), ([1], [1]), ([0, 2, 2], [0, 2]), ([3], [3])])
def laws_FnExactMayStand.B16 : List Nat := [0, 0, 2, 7, 15]
theorem laws_FnExactMayStand.tab16 : rtab .any (opsOf Try.f3 16) = laws_FnExactMayStand.T16 := by kernel_rfl
theorem laws_FnExactMayStand.bits16 : waitsOk laws_FnExactMayStand.T16.2 laws_FnExactMayStand.B16 = true := by kernel_rfl
def laws_FnExactMayStand.T31 : Bool × List (List Nat × List Nat) := (true, [([], []), ([0], [0]), ([], []), ([2, 1], [2]), ([], []), ([1, 3, 4, 3], [1, 3, 4]), ([5], [5]), ([6], [6]), ([6], [6]), ([7, 5, 0, 1, 2, 3, 4, 5, 6, 7], [7]), ([8, 9, 0, 1, 2, 3, 4, 5, 6, 7, 8, 9], [8])])
def laws_FnExactMayStand.B31 : List Nat := [0, 1, 0, 7, 0, 31, 63, 127, 127, 255, 1023]
theorem laws_FnExactMayStand.tab31 : rtab .any (opsOf Try.f3 31) = laws_FnExactMayStand.T31 := by kernel_rfl
theorem laws_FnExactMayStand.bits31 : waitsOk laws_FnExactMayStand.T31.2 laws_FnExactMayStand.B31 = true := by kernel_rfl
set_option maxHeartbeats 8000000 in
set_option maxRecDepth 100000 in
theorem laws_FnExactMayStand.calls (k : Nat) (a0_0 : Int) (A0_1 : Option Addr) (c0_1 : Nat) (l0_1 : List (List Int)) (A0_2 : Option Addr) (c0_2 : Nat) (l0_2 : List (List Int)) (a1_0 : Int) (a1_1 : Int) (A1_2 : Option Addr) (c1_2 : Nat) (l1_2 : List Int) (a2 : Int) (r : Bool) (w : World) (hr0_1 : Kd.C (Kd.slice 3 (Kd.int .i64)) w A0_1 l0_1.length l0_1) (hc0_1 : l0_1.length ≤ c0_1) (hr0_2 : Kd.C (Kd.slice 3 (Kd.int .i64)) w A0_2 l0_2.length l0_2) (hc0_2 : l0_2.length ≤ c0_2) (hr1_2 : Kd.C (Kd.int .i64) w A1_2 l1_2.length l1_2) (hc1_2 : l1_2.length ≤ c1_2) (h : laws_FnExactMayStand.f k a0_0 l0_1 l0_2 a1_0 a1_1 l1_2 a2 = some r) :
    Calls Try.prog 3 #[.agg #[.int .i64 a0_0, .slice A0_1 l0_1.length c0_1, .slice A0_2 l0_2.length c0_2], .agg #[.int .i64 a1_0, .int .i64 a1_1, .slice A1_2 l1_2.length c1_2], .int .i64 a2] w fun e w' => e = .returned (.bool r) ∧ Below w.heap.size w w' := by
  have HR0_1 := Aside0.mk hr0_1
  have HC0_1 := Aside0.mk hc0_1
  clear hr0_1 hc0_1
  have HR0_2 := Aside0.mk hr0_2
  have HC0_2 := Aside0.mk hc0_2
  clear hr0_2 hc0_2
  have HR1_2 := Aside0.mk hr1_2
  have HC1_2 := Aside0.mk hc1_2
  clear hr1_2 hc1_2
  have HB := Aside0.mk (Below.refl w.heap.size w)
  unfold laws_FnExactMayStand.f at h
  have H := h
  clear h
  replace H := bE_ H
  obtain ⟨t3, hA3, H⟩ := H
  have A3 := Aside0.mk hA3
  clear hA3
  by_cases c_ : t3 < 0
  · rw [if_pos c_] at H
    have fb43 : decide (t3 < 0) = true := decide_eq_true c_
    clear c_
    obtain rfl := Option.some.inj H
    go_enter Try.func3, Try.ntmps3
    go_wp2_with (first | ((with_reducible refine gate_dst (N := 3) rfl ?_); refine bx_ 3 #[.int .i64 a0_0, .slice A0_1 l0_1.length c0_1, .slice A0_2 l0_2.length c0_2] 24 ?_; intro g1 hg w1001 hbox hb; have n0_ := Aside0.mk (below_step HB.out hb); have SZ1 := Aside0.mk (show w.heap.size ≤ w1001.heap.size from (hb).size); clear HB; have HB := n0_; clear n0_; have BK1 := Aside0.mk hbox; have GL1 := Aside0.mk (show w.heap.size ≤ g1 from Nat.le_of_eq hg.symm); have GU1 := Aside0.mk (blk_lt hbox); clear hbox hg hb; have hx1_0 := cz_ BK1.out 0; have hf1_0 : w1001.frozen? ⟨g1, 0, none⟩ = false := blk_frozen BK1.out 0; have hx1_1 := cz_ BK1.out 1; have hf1_1 : w1001.frozen? ⟨g1, 1, none⟩ = false := blk_frozen BK1.out 1; have hx1_2 := cz_ BK1.out 2; have hf1_2 : w1001.frozen? ⟨g1, 2, none⟩ = false := blk_frozen BK1.out 2) | ((with_reducible refine gate_dst (N := 4) rfl ?_); refine bx_ 4 #[.int .i64 a1_0, .int .i64 a1_1, .slice A1_2 l1_2.length c1_2] 27 ?_; intro g2 hg w1002 hbox hb; clear hx1_0 hf1_0 hx1_1 hf1_1 hx1_2 hf1_2; have n0_ := Aside0.mk (below_step HB.out hb); have n1_ := Aside0.mk (blk_below BK1.out hb); have SZ2 := Aside0.mk (show w1001.heap.size ≤ w1002.heap.size from (hb).size); clear HB BK1; have HB := n0_; have BK1 := n1_; clear n0_ n1_; have BK2 := Aside0.mk hbox; have GL2 := Aside0.mk (show w1001.heap.size ≤ g2 from Nat.le_of_eq hg.symm); have GU2 := Aside0.mk (blk_lt hbox); clear hbox hg hb; have hx1_0 := cz_ BK1.out 0; have hf1_0 : w1002.frozen? ⟨g1, 0, none⟩ = false := blk_frozen BK1.out 0; have hx1_1 := cz_ BK1.out 1; have hf1_1 : w1002.frozen? ⟨g1, 1, none⟩ = false := blk_frozen BK1.out 1; have hx1_2 := cz_ BK1.out 2; have hf1_2 : w1002.frozen? ⟨g1, 2, none⟩ = false := blk_frozen BK1.out 2; have hx2_0 := cz_ BK2.out 0; have hf2_0 : w1002.frozen? ⟨g2, 0, none⟩ = false := blk_frozen BK2.out 0; have hx2_1 := cz_ BK2.out 1; have hf2_1 : w1002.frozen? ⟨g2, 1, none⟩ = false := blk_frozen BK2.out 1; have hx2_2 := cz_ BK2.out 2; have hf2_2 : w1002.frozen? ⟨g2, 2, none⟩ = false := blk_frozen BK2.out 2) | (go_at_call 5; (with_reducible refine (laws_szRules.calls k a0_0 _ _ l0_1 _ _ l0_2 1048576 t3 _ ?sd3_1 ?sd3_2 ?sd3_3 ?sd3_4 A3.out).mono ?_); (case sd3_1 => exact Kd.C_below HR0_1.out HB.out); (case sd3_2 => exact HC0_1.out); (case sd3_3 => exact Kd.C_below HR0_2.out HB.out); (case sd3_4 => exact HC0_2.out); rintro e w1003 ⟨rfl, hb⟩; have hs_ := below_size HB.out; clear hx1_0 hf1_0 hx1_1 hf1_1 hx1_2 hf1_2 hx2_0 hf2_0 hx2_1 hf2_1 hx2_2 hf2_2; have n0_ := Aside0.mk (below_step HB.out hb); have n1_ := Aside0.mk (blk_below BK1.out hb); have n2_ := Aside0.mk (blk_below BK2.out hb); have SZ3 := Aside0.mk (show w1002.heap.size ≤ w1003.heap.size from (hb).size); clear HB BK1 BK2; have HB := n0_; have BK1 := n1_; have BK2 := n2_; clear n0_ n1_ n2_; clear hb hs_; have hx1_0 := cz_ BK1.out 0; have hf1_0 : w1003.frozen? ⟨g1, 0, none⟩ = false := blk_frozen BK1.out 0; have hx1_1 := cz_ BK1.out 1; have hf1_1 : w1003.frozen? ⟨g1, 1, none⟩ = false := blk_frozen BK1.out 1; have hx1_2 := cz_ BK1.out 2; have hf1_2 : w1003.frozen? ⟨g1, 2, none⟩ = false := blk_frozen BK1.out 2; have hx2_0 := cz_ BK2.out 0; have hf2_0 : w1003.frozen? ⟨g2, 0, none⟩ = false := blk_frozen BK2.out 0; have hx2_1 := cz_ BK2.out 1; have hf2_1 : w1003.frozen? ⟨g2, 1, none⟩ = false := blk_frozen BK2.out 1; have hx2_2 := cz_ BK2.out 2; have hf2_2 : w1003.frozen? ⟨g2, 2, none⟩ = false := blk_frozen BK2.out 2))
    go_ret
    exact ⟨rfl, HB.out⟩
  rw [if_neg c_] at H
  have fb44 : decide (t3 < 0) = false := decide_eq_false c_
  clear c_
  replace H := bE_ H
  obtain ⟨t4, hA4, H⟩ := H
  have A4 := Aside0.mk hA4
  clear hA4
  by_cases c_ : t4 < 0
  · rw [if_pos c_] at H
    have fb45 : decide (t4 < 0) = true := decide_eq_true c_
    clear c_
    obtain rfl := Option.some.inj H
    go_enter Try.func3, Try.ntmps3
    go_wp2_with (first | ((with_reducible refine gate_dst (N := 3) rfl ?_); refine bx_ 3 #[.int .i64 a0_0, .slice A0_1 l0_1.length c0_1, .slice A0_2 l0_2.length c0_2] 24 ?_; intro g1 hg w1001 hbox hb; have n0_ := Aside0.mk (below_step HB.out hb); have SZ1 := Aside0.mk (show w.heap.size ≤ w1001.heap.size from (hb).size); clear HB; have HB := n0_; clear n0_; have BK1 := Aside0.mk hbox; have GL1 := Aside0.mk (show w.heap.size ≤ g1 from Nat.le_of_eq hg.symm); have GU1 := Aside0.mk (blk_lt hbox); clear hbox hg hb; have hx1_0 := cz_ BK1.out 0; have hf1_0 : w1001.frozen? ⟨g1, 0, none⟩ = false := blk_frozen BK1.out 0; have hx1_1 := cz_ BK1.out 1; have hf1_1 : w1001.frozen? ⟨g1, 1, none⟩ = false := blk_frozen BK1.out 1; have hx1_2 := cz_ BK1.out 2; have hf1_2 : w1001.frozen? ⟨g1, 2, none⟩ = false := blk_frozen BK1.out 2) | ((with_reducible refine gate_dst (N := 4) rfl ?_); refine bx_ 4 #[.int .i64 a1_0, .int .i64 a1_1, .slice A1_2 l1_2.length c1_2] 27 ?_; intro g2 hg w1002 hbox hb; clear hx1_0 hf1_0 hx1_1 hf1_1 hx1_2 hf1_2; have n0_ := Aside0.mk (below_step HB.out hb); have n1_ := Aside0.mk (blk_below BK1.out hb); have SZ2 := Aside0.mk (show w1001.heap.size ≤ w1002.heap.size from (hb).size); clear HB BK1; have HB := n0_; have BK1 := n1_; clear n0_ n1_; have BK2 := Aside0.mk hbox; have GL2 := Aside0.mk (show w1001.heap.size ≤ g2 from Nat.le_of_eq hg.symm); have GU2 := Aside0.mk (blk_lt hbox); clear hbox hg hb; have hx1_0 := cz_ BK1.out 0; have hf1_0 : w1002.frozen? ⟨g1, 0, none⟩ = false := blk_frozen BK1.out 0; have hx1_1 := cz_ BK1.out 1; have hf1_1 : w1002.frozen? ⟨g1, 1, none⟩ = false := blk_frozen BK1.out 1; have hx1_2 := cz_ BK1.out 2; have hf1_2 : w1002.frozen? ⟨g1, 2, none⟩ = false := blk_frozen BK1.out 2; have hx2_0 := cz_ BK2.out 0; have hf2_0 : w1002.frozen? ⟨g2, 0, none⟩ = false := blk_frozen BK2.out 0; have hx2_1 := cz_ BK2.out 1; have hf2_1 : w1002.frozen? ⟨g2, 1, none⟩ = false := blk_frozen BK2.out 1; have hx2_2 := cz_ BK2.out 2; have hf2_2 : w1002.frozen? ⟨g2, 2, none⟩ = false := blk_frozen BK2.out 2) | (go_at_call 5; (with_reducible refine (laws_szRules.calls k a0_0 _ _ l0_1 _ _ l0_2 1048576 t3 _ ?sd3_1 ?sd3_2 ?sd3_3 ?sd3_4 A3.out).mono ?_); (case sd3_1 => exact Kd.C_below HR0_1.out HB.out); (case sd3_2 => exact HC0_1.out); (case sd3_3 => exact Kd.C_below HR0_2.out HB.out); (case sd3_4 => exact HC0_2.out); rintro e w1003 ⟨rfl, hb⟩; have hs_ := below_size HB.out; clear hx1_0 hf1_0 hx1_1 hf1_1 hx1_2 hf1_2 hx2_0 hf2_0 hx2_1 hf2_1 hx2_2 hf2_2; have n0_ := Aside0.mk (below_step HB.out hb); have n1_ := Aside0.mk (blk_below BK1.out hb); have n2_ := Aside0.mk (blk_below BK2.out hb); have SZ3 := Aside0.mk (show w1002.heap.size ≤ w1003.heap.size from (hb).size); clear HB BK1 BK2; have HB := n0_; have BK1 := n1_; have BK2 := n2_; clear n0_ n1_ n2_; clear hb hs_; have hx1_0 := cz_ BK1.out 0; have hf1_0 : w1003.frozen? ⟨g1, 0, none⟩ = false := blk_frozen BK1.out 0; have hx1_1 := cz_ BK1.out 1; have hf1_1 : w1003.frozen? ⟨g1, 1, none⟩ = false := blk_frozen BK1.out 1; have hx1_2 := cz_ BK1.out 2; have hf1_2 : w1003.frozen? ⟨g1, 2, none⟩ = false := blk_frozen BK1.out 2; have hx2_0 := cz_ BK2.out 0; have hf2_0 : w1003.frozen? ⟨g2, 0, none⟩ = false := blk_frozen BK2.out 0; have hx2_1 := cz_ BK2.out 1; have hf2_1 : w1003.frozen? ⟨g2, 1, none⟩ = false := blk_frozen BK2.out 1; have hx2_2 := cz_ BK2.out 2; have hf2_2 : w1003.frozen? ⟨g2, 2, none⟩ = false := blk_frozen BK2.out 2) | (go_at_call 6; (with_reducible refine (laws_szField.calls a1_0 a1_1 _ _ l1_2 t3 t4 _ ?sd4_1 ?sd4_2 A4.out).mono ?_); (case sd4_1 => exact Kd.C_below HR1_2.out HB.out); (case sd4_2 => exact HC1_2.out); rintro e w1004 ⟨rfl, hb⟩; have hs_ := below_size HB.out; clear hx1_0 hf1_0 hx1_1 hf1_1 hx1_2 hf1_2 hx2_0 hf2_0 hx2_1 hf2_1 hx2_2 hf2_2; have n0_ := Aside0.mk (below_step HB.out hb); have n1_ := Aside0.mk (blk_below BK1.out hb); have n2_ := Aside0.mk (blk_below BK2.out hb); have SZ4 := Aside0.mk (show w1003.heap.size ≤ w1004.heap.size from (hb).size); clear HB BK1 BK2; have HB := n0_; have BK1 := n1_; have BK2 := n2_; clear n0_ n1_ n2_; clear hb hs_; have hx1_0 := cz_ BK1.out 0; have hf1_0 : w1004.frozen? ⟨g1, 0, none⟩ = false := blk_frozen BK1.out 0; have hx1_1 := cz_ BK1.out 1; have hf1_1 : w1004.frozen? ⟨g1, 1, none⟩ = false := blk_frozen BK1.out 1; have hx1_2 := cz_ BK1.out 2; have hf1_2 : w1004.frozen? ⟨g1, 2, none⟩ = false := blk_frozen BK1.out 2; have hx2_0 := cz_ BK2.out 0; have hf2_0 : w1004.frozen? ⟨g2, 0, none⟩ = false := blk_frozen BK2.out 0; have hx2_1 := cz_ BK2.out 1; have hf2_1 : w1004.frozen? ⟨g2, 1, none⟩ = false := blk_frozen BK2.out 1; have hx2_2 := cz_ BK2.out 2; have hf2_2 : w1004.frozen? ⟨g2, 2, none⟩ = false := blk_frozen BK2.out 2))
    go_ret
    exact ⟨rfl, HB.out⟩
  rw [if_neg c_] at H
  have fb46 : decide (t4 < 0) = false := decide_eq_false c_
  clear c_
  replace H := bE_ H
  obtain ⟨⟨t5_0, t5_1, t5_2⟩, hA5, H⟩ := H
  try dsimp only at H
  have A5 := Aside0.mk hA5
  clear hA5
  replace H := bE_ H
  obtain ⟨⟨t8_0, t8_1, t8_2⟩, hA8, H⟩ := H
  try dsimp only at H
  have A8 := Aside0.mk hA8
  clear hA8
  replace H := bE_ H
  obtain ⟨⟨t10_0, t10_1⟩, hA10, H⟩ := H
  try dsimp only at H
  have A10 := Aside0.mk hA10
  clear hA10
  replace H := bE_ H
  obtain ⟨⟨t12_0, t12_1, t12_2⟩, hA12, H⟩ := H
  try dsimp only at H
  have A12 := Aside0.mk hA12
  clear hA12
  replace H := bE_ H
  obtain ⟨⟨t16_0, t16_1, t16_2⟩, hA16, H⟩ := H
  try dsimp only at H
  have A16 := Aside0.mk hA16
  clear hA16
  replace H := bE_ H
  obtain ⟨⟨t19_0, t19_1⟩, hA19, H⟩ := H
  try dsimp only at H
  have A19 := Aside0.mk hA19
  clear hA19
  replace H := bE_ H
  obtain ⟨t21, hA21, H⟩ := H
  have A21 := Aside0.mk hA21
  clear hA21
  replace H := nd_ H
  obtain ⟨c_, H⟩ := H
  subst c_
  replace H := nd_ H
  obtain ⟨c_, H⟩ := H
  subst c_
  have fb47 : (t19_1 == t19_1) = true := beq_self_eq_true _
  have fb48 : (t19_1 != t19_1) = false := by simp
  replace H := bE_ H
  obtain ⟨⟨t22_0, t22_1, t22_2⟩, hA22, H⟩ := H
  try dsimp only at H
  have A22 := Aside0.mk hA22
  clear hA22
  replace H := bE_ H
  obtain ⟨t25, hA25, H⟩ := H
  have A25 := Aside0.mk hA25
  clear hA25
  replace H := nd_ H
  obtain ⟨c_, H⟩ := H
  subst c_
  replace H := bE_ H
  obtain ⟨⟨t26_0, t26_1, t26_2⟩, hA26, H⟩ := H
  try dsimp only at H
  have A26 := Aside0.mk hA26
  clear hA26
  replace H := bE_ H
  obtain ⟨t28, hA28, H⟩ := H
  have A28 := Aside0.mk hA28
  clear hA28
  replace H := nd_ H
  obtain ⟨c_, H⟩ := H
  subst c_
  replace H := bE_ H
  obtain ⟨⟨t29_0, t29_1, t29_2⟩, hA29, H⟩ := H
  try dsimp only at H
  have A29 := Aside0.mk hA29
  clear hA29
  replace H := bE_ H
  obtain ⟨⟨t30_0, t30_1⟩, hA30, H⟩ := H
  try dsimp only at H
  have A30 := Aside0.mk hA30
  clear hA30
  replace H := nd_ H
  obtain ⟨c_, H⟩ := H
  have fb49 : decide (t30_0 < 0) = false := decide_eq_false c_
  clear c_
  replace H := bE_ H
  obtain ⟨t31, hA31, H⟩ := H
  have A31 := Aside0.mk hA31
  clear hA31
  replace H := nd_ H
  obtain ⟨c_, H⟩ := H
  subst c_
  replace H := nd_ H
  obtain ⟨c_, H⟩ := H
  clear c_
  replace H := bE_ H
  obtain ⟨⟨t32_0, t32_1⟩, hA32, H⟩ := H
  try dsimp only at H
  have A32 := Aside0.mk hA32
  clear hA32
  replace H := bE_ H
  obtain ⟨t33, hA33, H⟩ := H
  have A33 := Aside0.mk hA33
  clear hA33
  replace H := nd_ H
  obtain ⟨c_, H⟩ := H
  have fb50 : decide (t33 < 0) = false := decide_eq_false c_
  clear c_
  replace H := nd_ H
  obtain ⟨c_, H⟩ := H
  subst c_
  have fb51 : (t33 == t33) = true := beq_self_eq_true _
  have fb52 : (t33 != t33) = false := by simp
  replace H := bE_ H
  obtain ⟨⟨t34_0, t34_1, t34_2⟩, hA34, H⟩ := H
  try dsimp only at H
  have A34 := Aside0.mk hA34
  clear hA34
  replace H := bE_ H
  obtain ⟨⟨t37_0, t37_1, t37_2⟩, hA37, H⟩ := H
  try dsimp only at H
  have A37 := Aside0.mk hA37
  clear hA37
  replace H := bE_ H
  obtain ⟨⟨t39_0, t39_1⟩, hA39, H⟩ := H
  try dsimp only at H
  have A39 := Aside0.mk hA39
  clear hA39
  replace H := bE_ H
  obtain ⟨t41, hA41, H⟩ := H
  have A41 := Aside0.mk hA41
  clear hA41
  replace H := nd_ H
  obtain ⟨c_, H⟩ := H
  subst c_
  replace H := nd_ H
  obtain ⟨c_, H⟩ := H
  subst c_
  have fb53 : (t39_1 == t39_1) = true := beq_self_eq_true _
  have fb54 : (t39_1 != t39_1) = false := by simp
  replace H := bE_ H
  obtain ⟨t42, hA42, H⟩ := H
  have A42 := Aside0.mk hA42
  clear hA42
  replace H := nd_ H
  obtain ⟨c_, H⟩ := H
  have fb55 : decide (t42 < 0) = false := decide_eq_false c_
  clear c_
  replace H := nd_ H
  obtain ⟨c_, H⟩ := H
  subst c_
  have fb56 : (t42 == t42) = true := beq_self_eq_true _
  have fb57 : (t42 != t42) = false := by simp
  obtain rfl := Option.some.inj H
  go_enter Try.func3, Try.ntmps3
  go_upto_region 8 with (first | ((with_reducible refine gate_dst (N := 3) rfl ?_); refine bx_ 3 #[.int .i64 a0_0, .slice A0_1 l0_1.length c0_1, .slice A0_2 l0_2.length c0_2] 24 ?_; intro g1 hg w1001 hbox hb; have n0_ := Aside0.mk (below_step HB.out hb); have SZ1 := Aside0.mk (show w.heap.size ≤ w1001.heap.size from (hb).size); clear HB; have HB := n0_; clear n0_; have BK1 := Aside0.mk hbox; have GL1 := Aside0.mk (show w.heap.size ≤ g1 from Nat.le_of_eq hg.symm); have GU1 := Aside0.mk (blk_lt hbox); clear hbox hg hb; have hx1_0 := cz_ BK1.out 0; have hf1_0 : w1001.frozen? ⟨g1, 0, none⟩ = false := blk_frozen BK1.out 0; have hx1_1 := cz_ BK1.out 1; have hf1_1 : w1001.frozen? ⟨g1, 1, none⟩ = false := blk_frozen BK1.out 1; have hx1_2 := cz_ BK1.out 2; have hf1_2 : w1001.frozen? ⟨g1, 2, none⟩ = false := blk_frozen BK1.out 2) | ((with_reducible refine gate_dst (N := 4) rfl ?_); refine bx_ 4 #[.int .i64 a1_0, .int .i64 a1_1, .slice A1_2 l1_2.length c1_2] 27 ?_; intro g2 hg w1002 hbox hb; clear hx1_0 hf1_0 hx1_1 hf1_1 hx1_2 hf1_2; have n0_ := Aside0.mk (below_step HB.out hb); have n1_ := Aside0.mk (blk_below BK1.out hb); have SZ2 := Aside0.mk (show w1001.heap.size ≤ w1002.heap.size from (hb).size); clear HB BK1; have HB := n0_; have BK1 := n1_; clear n0_ n1_; have BK2 := Aside0.mk hbox; have GL2 := Aside0.mk (show w1001.heap.size ≤ g2 from Nat.le_of_eq hg.symm); have GU2 := Aside0.mk (blk_lt hbox); clear hbox hg hb; have hx1_0 := cz_ BK1.out 0; have hf1_0 : w1002.frozen? ⟨g1, 0, none⟩ = false := blk_frozen BK1.out 0; have hx1_1 := cz_ BK1.out 1; have hf1_1 : w1002.frozen? ⟨g1, 1, none⟩ = false := blk_frozen BK1.out 1; have hx1_2 := cz_ BK1.out 2; have hf1_2 : w1002.frozen? ⟨g1, 2, none⟩ = false := blk_frozen BK1.out 2; have hx2_0 := cz_ BK2.out 0; have hf2_0 : w1002.frozen? ⟨g2, 0, none⟩ = false := blk_frozen BK2.out 0; have hx2_1 := cz_ BK2.out 1; have hf2_1 : w1002.frozen? ⟨g2, 1, none⟩ = false := blk_frozen BK2.out 1; have hx2_2 := cz_ BK2.out 2; have hf2_2 : w1002.frozen? ⟨g2, 2, none⟩ = false := blk_frozen BK2.out 2) | (go_at_call 5; (with_reducible refine (laws_szRules.calls k a0_0 _ _ l0_1 _ _ l0_2 1048576 t3 _ ?sd3_1 ?sd3_2 ?sd3_3 ?sd3_4 A3.out).mono ?_); (case sd3_1 => exact Kd.C_below HR0_1.out HB.out); (case sd3_2 => exact HC0_1.out); (case sd3_3 => exact Kd.C_below HR0_2.out HB.out); (case sd3_4 => exact HC0_2.out); rintro e w1003 ⟨rfl, hb⟩; have hs_ := below_size HB.out; clear hx1_0 hf1_0 hx1_1 hf1_1 hx1_2 hf1_2 hx2_0 hf2_0 hx2_1 hf2_1 hx2_2 hf2_2; have n0_ := Aside0.mk (below_step HB.out hb); have n1_ := Aside0.mk (blk_below BK1.out hb); have n2_ := Aside0.mk (blk_below BK2.out hb); have SZ3 := Aside0.mk (show w1002.heap.size ≤ w1003.heap.size from (hb).size); clear HB BK1 BK2; have HB := n0_; have BK1 := n1_; have BK2 := n2_; clear n0_ n1_ n2_; clear hb hs_; have hx1_0 := cz_ BK1.out 0; have hf1_0 : w1003.frozen? ⟨g1, 0, none⟩ = false := blk_frozen BK1.out 0; have hx1_1 := cz_ BK1.out 1; have hf1_1 : w1003.frozen? ⟨g1, 1, none⟩ = false := blk_frozen BK1.out 1; have hx1_2 := cz_ BK1.out 2; have hf1_2 : w1003.frozen? ⟨g1, 2, none⟩ = false := blk_frozen BK1.out 2; have hx2_0 := cz_ BK2.out 0; have hf2_0 : w1003.frozen? ⟨g2, 0, none⟩ = false := blk_frozen BK2.out 0; have hx2_1 := cz_ BK2.out 1; have hf2_1 : w1003.frozen? ⟨g2, 1, none⟩ = false := blk_frozen BK2.out 1; have hx2_2 := cz_ BK2.out 2; have hf2_2 : w1003.frozen? ⟨g2, 2, none⟩ = false := blk_frozen BK2.out 2) | (go_at_call 6; (with_reducible refine (laws_szField.calls a1_0 a1_1 _ _ l1_2 t3 t4 _ ?sd4_1 ?sd4_2 A4.out).mono ?_); (case sd4_1 => exact Kd.C_below HR1_2.out HB.out); (case sd4_2 => exact HC1_2.out); rintro e w1004 ⟨rfl, hb⟩; have hs_ := below_size HB.out; clear hx1_0 hf1_0 hx1_1 hf1_1 hx1_2 hf1_2 hx2_0 hf2_0 hx2_1 hf2_1 hx2_2 hf2_2; have n0_ := Aside0.mk (below_step HB.out hb); have n1_ := Aside0.mk (blk_below BK1.out hb); have n2_ := Aside0.mk (blk_below BK2.out hb); have SZ4 := Aside0.mk (show w1003.heap.size ≤ w1004.heap.size from (hb).size); clear HB BK1 BK2; have HB := n0_; have BK1 := n1_; have BK2 := n2_; clear n0_ n1_ n2_; clear hb hs_; have hx1_0 := cz_ BK1.out 0; have hf1_0 : w1004.frozen? ⟨g1, 0, none⟩ = false := blk_frozen BK1.out 0; have hx1_1 := cz_ BK1.out 1; have hf1_1 : w1004.frozen? ⟨g1, 1, none⟩ = false := blk_frozen BK1.out 1; have hx1_2 := cz_ BK1.out 2; have hf1_2 : w1004.frozen? ⟨g1, 2, none⟩ = false := blk_frozen BK1.out 2; have hx2_0 := cz_ BK2.out 0; have hf2_0 : w1004.frozen? ⟨g2, 0, none⟩ = false := blk_frozen BK2.out 0; have hx2_1 := cz_ BK2.out 1; have hf2_1 : w1004.frozen? ⟨g2, 1, none⟩ = false := blk_frozen BK2.out 1; have hx2_2 := cz_ BK2.out 2; have hf2_2 : w1004.frozen? ⟨g2, 2, none⟩ = false := blk_frozen BK2.out 2))
  (try simp only [Act.put, List.setIfInBounds_toArray, List.set_cons_zero, List.set_cons_succ])
  clear hx1_0 hf1_0 hx1_1 hf1_1 hx1_2 hf1_2 hx2_0 hf2_0 hx2_1 hf2_1 hx2_2 hf2_2
  have n0_ := Aside0.mk (below_step HB.out (below_drew1 (Below.refl w1004.heap.size w1004)))
  have n1_ := Aside0.mk (blk_below BK1.out (below_drew1 (Below.refl w1004.heap.size w1004)))
  have n2_ := Aside0.mk (blk_below BK2.out (below_drew1 (Below.refl w1004.heap.size w1004)))
  have SZ5 := Aside0.mk (show w1004.heap.size ≤ w1004.drew.heap.size from ((below_drew1 (Below.refl w1004.heap.size w1004))).size)
  clear HB BK1 BK2
  have HB := n0_
  have BK1 := n1_
  have BK2 := n2_
  clear n0_ n1_ n2_
  refine start_ (n := 11) (S := fun w' => w'.cell? ⟨g1, 0, none⟩ = some (.int .i64 a0_0) ∧ w'.cell? ⟨g1, 1, none⟩ = some (.slice A0_1 l0_1.length c0_1) ∧ w'.cell? ⟨g1, 2, none⟩ = some (.slice A0_2 l0_2.length c0_2) ∧ w'.cell? ⟨g2, 0, none⟩ = some (.int .i64 a1_0) ∧ w'.cell? ⟨g2, 1, none⟩ = some (.int .i64 a1_1) ∧ w'.cell? ⟨g2, 2, none⟩ = some (.slice A1_2 l1_2.length c1_2)) (ds := []) (Array.replicate 11 false) (by kernel_rfl) rfl rfl ⟨cz_ BK1.out 0, cz_ BK1.out 1, cz_ BK1.out 2, cz_ BK2.out 0, cz_ BK2.out 1, cz_ BK2.out 2⟩ (fun hHeld => ?_); refine with_tabW laws_FnExactMayStand.tab8 laws_FnExactMayStand.bits8 (fun HT_ HW_ => ?_)
  generalize w1004.drew = w3004 at HB BK1 BK2 SZ5 hHeld ⊢
  refine pure_ (i := 4) (N := some 34) (v := ?_) (a' := ?_) #[false, false, false, false, true, false, false, false, false, false, false] rfl rfl (any_of HT_.out (by kernel_rfl)) (fun _ _ _ h => h) (Or.inl ⟨by rfl, ?_⟩) ?_ ?_
  rotate_left
  · intro w'
    go_simp
    with_reducible rfl
  rotate_left
  · simp only [Act.put, List.setIfInBounds_toArray, List.set_cons_zero, List.set_cons_succ, i64_w, i32_w]
    rfl
  refine take_ (i := 0) (N := some 30) (v := ?_) (a' := ?_) #[true, false, false, false, true, false, false, false, false, false, false] rfl rfl (take_ofW HT_.out HW_.out (by kernel_rfl)) (fun _ _ _ h => h) (Or.inl ⟨by rfl, ?_⟩) hHeld ?_ ?_
  rotate_left
  · rintro w' ⟨s0, s1, s2, s3, s4, s5⟩
    go_simp
    with_reducible rfl
  rotate_left
  · simp only [Act.put, List.setIfInBounds_toArray, List.set_cons_zero, List.set_cons_succ, i64_w, i32_w]
    rfl
  refine take_ (i := 2) (N := some 32) (v := ?_) (a' := ?_) #[true, false, true, false, true, false, false, false, false, false, false] rfl rfl (take_ofW HT_.out HW_.out (by kernel_rfl)) (fun _ _ _ h => h) (Or.inl ⟨by rfl, ?_⟩) hHeld ?_ ?_
  rotate_left
  · rintro w' ⟨s0, s1, s2, s3, s4, s5⟩
    go_simp
    with_reducible rfl
  rotate_left
  · simp only [Act.put, List.setIfInBounds_toArray, List.set_cons_zero, List.set_cons_succ, i64_w, i32_w]
    rfl
  refine oS_ 1 31 HT_ (fun K hK => ?_)
  refine goes_ Try.func8 (by kernel_rfl) rfl #[.agg #[.int .i64 a0_0, .slice A0_1 l0_1.length c0_1, .slice A0_2 l0_2.length c0_2]] (by rfl) rfl rfl (by (try simp only [List.map_toArray, List.map_cons, List.map_nil]); first | done | rfl) ?_
  (with_reducible refine (laws_toRules.callsZ k a0_0 _ _ l0_1 _ _ l0_2 t5_0 t5_1 t5_2 _ ?sd5_1 ?sd5_2 ?sd5_3 ?sd5_4 A5.out).mono ?_)
  (case sd5_1 => exact Kd.C_below HR0_1.out HB.out)
  (case sd5_2 => exact HC0_1.out)
  (case sd5_3 => exact Kd.C_below HR0_2.out HB.out)
  (case sd5_4 => exact HC0_2.out)
  rintro e w1005 ⟨v_6, v_7, wz5_0a, wz5_0b, wz5_1a, wz5_1b, rfl, ho0, ho1, ⟨hz0, hz1, hz2, hz3, hz4⟩, hb⟩
  refine ⟨_, rfl, ?_⟩
  have hs_ := below_size HB.out
  have n0_ := Aside0.mk (below_step HB.out hb)
  have n1_ := Aside0.mk (blk_below BK1.out hb)
  have n2_ := Aside0.mk (blk_below BK2.out hb)
  clear HB BK1 BK2
  have HB := n0_
  have BK1 := n1_
  have BK2 := n2_
  clear n0_ n1_ n2_
  have SZ6 := Aside0.mk hz0
  have SZ7 := Aside0.mk hz1
  have SZ8 := Aside0.mk hz2
  have SZ9 := Aside0.mk hz3
  have SZ10 := Aside0.mk hz4
  clear hz0 hz1 hz2 hz3 hz4
  have HO6 := Aside0.mk (Kd.S_lower ho0 hs_)
  clear ho0
  obtain ⟨A_6, c_6, e_6⟩ := Kd.S_slice HO6.out
  subst e_6
  have HO7 := Aside0.mk (Kd.S_lower ho1 hs_)
  clear ho1
  obtain ⟨A_7, c_7, e_7⟩ := Kd.S_slice HO7.out
  subst e_7
  clear hb hs_
  refine hK.out _ _ ⟨cz_ BK1.out 0, cz_ BK1.out 1, cz_ BK1.out 2, cz_ BK2.out 0, cz_ BK2.out 1, cz_ BK2.out 2⟩ (fun hHeld => ?_)
  clear hK K
  refine norm_ (a' := ?_) ?_ ?_
  rotate_left
  · show Act.put _ (some 31) _ = _
    simp only [Act.put, List.setIfInBounds_toArray, List.set_cons_zero, List.set_cons_succ, i64_w, i32_w]
    rfl
  refine oS_ 3 33 HT_ (fun K hK => ?_)
  refine goes_ Try.func9 (by kernel_rfl) rfl #[.agg #[.int .i64 a1_0, .int .i64 a1_1, .slice A1_2 l1_2.length c1_2]] (by rfl) rfl rfl (by (try simp only [List.map_toArray, List.map_cons, List.map_nil]); first | done | rfl) ?_
  (with_reducible refine (laws_toField.calls k a1_0 a1_1 _ _ l1_2 t8_0 t8_1 t8_2 _ ?sd8_1 ?sd8_2 A8.out).mono ?_)
  (case sd8_1 => exact Kd.C_below HR1_2.out HB.out)
  (case sd8_2 => exact HC1_2.out)
  rintro e w1008 ⟨v_9, rfl, ho0, hb⟩
  refine ⟨_, rfl, ?_⟩
  have hs_ := below_size HB.out
  have n0_ := Aside0.mk (below_step HB.out hb)
  have n1_ := Aside0.mk (Kd.S_below HO6.out hb)
  have n2_ := Aside0.mk (Kd.S_below HO7.out hb)
  have n3_ := Aside0.mk (blk_below BK1.out hb)
  have n4_ := Aside0.mk (blk_below BK2.out hb)
  have SZ11 := Aside0.mk (show w1005.heap.size ≤ w1008.heap.size from (hb).size)
  clear HB HO6 HO7 BK1 BK2
  have HB := n0_
  have HO6 := n1_
  have HO7 := n2_
  have BK1 := n3_
  have BK2 := n4_
  clear n0_ n1_ n2_ n3_ n4_
  have HO9 := Aside0.mk (R_zone ho0 hs_)
  clear ho0
  obtain ⟨A_9, c_9, e_9⟩ := Kd.R_slice HO9.out
  subst e_9
  clear hb hs_
  refine hK.out _ _ ⟨cz_ BK1.out 0, cz_ BK1.out 1, cz_ BK1.out 2, cz_ BK2.out 0, cz_ BK2.out 1, cz_ BK2.out 2⟩ (fun hHeld => ?_)
  clear hK K
  refine norm_ (a' := ?_) ?_ ?_
  rotate_left
  · show Act.put _ (some 33) _ = _
    simp only [Act.put, List.setIfInBounds_toArray, List.set_cons_zero, List.set_cons_succ, i64_w, i32_w]
    rfl
  refine oS_ 5 35 HT_ (fun K hK => ?_)
  refine goes_ Try.func7 (by kernel_rfl) rfl #[.agg #[.int .i64 t5_0, .slice A_6 t5_1.length c_6, .slice A_7 t5_2.length c_7], .agg #[.int .i64 t8_0, .int .i64 t8_1, .slice A_9 t8_2.length c_9], .int .i64 a2] (by rfl) rfl rfl (by (try simp only [List.map_toArray, List.map_cons, List.map_nil]); first | done | rfl) ?_
  (with_reducible refine (spec_MayStand.calls k t5_0 _ _ t5_1 _ _ t5_2 t8_0 t8_1 _ _ t8_2 a2 t10_0 t39_1 _ ?sd10_1 ?sd10_2 ?sd10_3 ?sd10_4 ?sd10_5 ?sd10_6 A10.out).mono ?_)
  (case sd10_1 => exact (Kd.S_reads' HO6.out).2.2)
  (case sd10_2 => exact (Kd.S_reads' HO6.out).2.1)
  (case sd10_3 => exact (Kd.S_reads' HO7.out).2.2)
  (case sd10_4 => exact (Kd.S_reads' HO7.out).2.1)
  (case sd10_5 => exact (Kd.R_reads' HO9.out).2.2)
  (case sd10_6 => exact (Kd.R_reads' HO9.out).2.1)
  rintro e w1010 ⟨v_11, rfl, ho0, hb⟩
  refine ⟨_, rfl, ?_⟩
  have hs_ := below_size HB.out
  have n0_ := Aside0.mk (below_step HB.out hb)
  have n1_ := Aside0.mk (Kd.S_below HO6.out hb)
  have n2_ := Aside0.mk (Kd.S_below HO7.out hb)
  have n3_ := Aside0.mk (Kd.R_below HO9.out hb)
  have n4_ := Aside0.mk (blk_below BK1.out hb)
  have n5_ := Aside0.mk (blk_below BK2.out hb)
  have SZ12 := Aside0.mk (show w1008.heap.size ≤ w1010.heap.size from (hb).size)
  clear HB HO6 HO7 HO9 BK1 BK2
  have HB := n0_
  have HO6 := n1_
  have HO7 := n2_
  have HO9 := n3_
  have BK1 := n4_
  have BK2 := n5_
  clear n0_ n1_ n2_ n3_ n4_ n5_
  have HO11 := Aside0.mk (R_zone ho0 hs_)
  clear ho0
  obtain ⟨A_11, c_11, e_11⟩ := Kd.R_slice HO11.out
  subst e_11
  clear hb hs_
  refine hK.out _ _ ⟨cz_ BK1.out 0, cz_ BK1.out 1, cz_ BK1.out 2, cz_ BK2.out 0, cz_ BK2.out 1, cz_ BK2.out 2⟩ (fun hHeld => ?_)
  clear hK K
  refine norm_ (a' := ?_) ?_ ?_
  rotate_left
  · show Act.put _ (some 35) _ = _
    simp only [Act.put, List.setIfInBounds_toArray, List.set_cons_zero, List.set_cons_succ, i64_w, i32_w]
    rfl
  refine pure_ (i := 6) (N := some 29) (v := ?_) (a' := ?_) #[true, true, true, true, true, true, true, false, false, false, false] rfl rfl (any_of HT_.out (by kernel_rfl)) (fun _ _ _ h => h) (Or.inl ⟨by rfl, ?_⟩) ?_ ?_
  rotate_left
  · intro w'
    go_simp
    with_reducible rfl
  rotate_left
  · simp only [Act.put, List.setIfInBounds_toArray, List.set_cons_zero, List.set_cons_succ, i64_w, i32_w]
    rfl
  refine pure_ (i := 7) (N := some 36) (v := ?_) (a' := ?_) #[true, true, true, true, true, true, true, true, false, false, false] rfl rfl (any_of HT_.out (by kernel_rfl)) (fun _ _ _ h => h) (Or.inl ⟨by rfl, ?_⟩) ?_ ?_
  rotate_left
  · intro w'
    go_simp
    with_reducible rfl
  rotate_left
  · simp only [Act.put, List.setIfInBounds_toArray, List.set_cons_zero, List.set_cons_succ, i64_w, i32_w]
    rfl
  refine pure_ (i := 8) (N := some 37) (v := ?_) (a' := ?_) #[true, true, true, true, true, true, true, true, true, false, false] rfl rfl (any_of HT_.out (by kernel_rfl)) (fun _ _ _ h => h) (Or.inl ⟨by rfl, ?_⟩) ?_ ?_
  rotate_left
  · intro w'
    go_simp
    with_reducible rfl
  rotate_left
  · simp only [Act.put, List.setIfInBounds_toArray, List.set_cons_zero, List.set_cons_succ, i64_w, i32_w]
    rfl
  refine pure_ (i := 9) (N := some 8) (v := ?_) (a' := ?_) #[true, true, true, true, true, true, true, true, true, true, false] rfl rfl (any_of HT_.out (by kernel_rfl)) (fun _ _ _ h => h) (Or.inl ⟨by rfl, ?_⟩) ?_ ?_
  rotate_left
  · intro w'
    go_simp
    with_reducible rfl
  rotate_left
  · simp only [Act.put, List.setIfInBounds_toArray, List.set_cons_zero, List.set_cons_succ, i64_w, i32_w]
    rfl
  refine pure_ (i := 10) (N := some 9) (v := ?_) (a' := ?_) #[true, true, true, true, true, true, true, true, true, true, true] rfl rfl (any_of HT_.out (by kernel_rfl)) (fun _ _ _ h => h) (Or.inl ⟨by rfl, ?_⟩) ?_ ?_
  rotate_left
  · intro w'
    go_simp
    with_reducible rfl
  rotate_left
  · simp only [Act.put, List.setIfInBounds_toArray, List.set_cons_zero, List.set_cons_succ, i64_w, i32_w]
    rfl
  refine done_ (done_of HT_.out (by kernel_rfl)) ?_
  clear hHeld
  try clear HT_ HW_
  have hx1_0 := cz_ BK1.out 0
  have hf1_0 : w1010.frozen? ⟨g1, 0, none⟩ = false := blk_frozen BK1.out 0
  have hx1_1 := cz_ BK1.out 1
  have hf1_1 : w1010.frozen? ⟨g1, 1, none⟩ = false := blk_frozen BK1.out 1
  have hx1_2 := cz_ BK1.out 2
  have hf1_2 : w1010.frozen? ⟨g1, 2, none⟩ = false := blk_frozen BK1.out 2
  have hx2_0 := cz_ BK2.out 0
  have hf2_0 : w1010.frozen? ⟨g2, 0, none⟩ = false := blk_frozen BK2.out 0
  have hx2_1 := cz_ BK2.out 1
  have hf2_1 : w1010.frozen? ⟨g2, 1, none⟩ = false := blk_frozen BK2.out 1
  have hx2_2 := cz_ BK2.out 2
  have hf2_2 : w1010.frozen? ⟨g2, 2, none⟩ = false := blk_frozen BK2.out 2
  skip
  go_upto_region 14 with (first | (go_at_call 8; (with_reducible refine (laws_toRules.callsZ k a0_0 _ _ l0_1 _ _ l0_2 t12_0 t12_1 t12_2 _ ?sd12_1 ?sd12_2 ?sd12_3 ?sd12_4 A12.out).mono ?_); (case sd12_1 => exact Kd.C_below HR0_1.out HB.out); (case sd12_2 => exact HC0_1.out); (case sd12_3 => exact Kd.C_below HR0_2.out HB.out); (case sd12_4 => exact HC0_2.out); rintro e w1012 ⟨v_13, v_14, wz12_0a, wz12_0b, wz12_1a, wz12_1b, rfl, ho0, ho1, ⟨hz0, hz1, hz2, hz3, hz4⟩, hb⟩; have hs_ := below_size HB.out; clear hx1_0 hf1_0 hx1_1 hf1_1 hx1_2 hf1_2 hx2_0 hf2_0 hx2_1 hf2_1 hx2_2 hf2_2; have n0_ := Aside0.mk (below_step HB.out hb); have n1_ := Aside0.mk (Kd.S_below HO6.out hb); have n2_ := Aside0.mk (Kd.S_below HO7.out hb); have n3_ := Aside0.mk (Kd.R_below HO9.out hb); have n4_ := Aside0.mk (Kd.R_below HO11.out hb); have n5_ := Aside0.mk (blk_below BK1.out hb); have n6_ := Aside0.mk (blk_below BK2.out hb); clear HB HO6 HO7 HO9 HO11 BK1 BK2; have HB := n0_; have HO6 := n1_; have HO7 := n2_; have HO9 := n3_; have HO11 := n4_; have BK1 := n5_; have BK2 := n6_; clear n0_ n1_ n2_ n3_ n4_ n5_ n6_; have SZ13 := Aside0.mk hz0; have SZ14 := Aside0.mk hz1; have SZ15 := Aside0.mk hz2; have SZ16 := Aside0.mk hz3; have SZ17 := Aside0.mk hz4; clear hz0 hz1 hz2 hz3 hz4; have HO13 := Aside0.mk (Kd.S_lower ho0 hs_); clear ho0; obtain ⟨A_13, c_13, e_13⟩ := Kd.S_slice HO13.out; subst e_13; have HO14 := Aside0.mk (Kd.S_lower ho1 hs_); clear ho1; obtain ⟨A_14, c_14, e_14⟩ := Kd.S_slice HO14.out; subst e_14; clear hb hs_; have hx1_0 := cz_ BK1.out 0; have hf1_0 : w1012.frozen? ⟨g1, 0, none⟩ = false := blk_frozen BK1.out 0; have hx1_1 := cz_ BK1.out 1; have hf1_1 : w1012.frozen? ⟨g1, 1, none⟩ = false := blk_frozen BK1.out 1; have hx1_2 := cz_ BK1.out 2; have hf1_2 : w1012.frozen? ⟨g1, 2, none⟩ = false := blk_frozen BK1.out 2; have hx2_0 := cz_ BK2.out 0; have hf2_0 : w1012.frozen? ⟨g2, 0, none⟩ = false := blk_frozen BK2.out 0; have hx2_1 := cz_ BK2.out 1; have hf2_1 : w1012.frozen? ⟨g2, 1, none⟩ = false := blk_frozen BK2.out 1; have hx2_2 := cz_ BK2.out 2; have hf2_2 : w1012.frozen? ⟨g2, 2, none⟩ = false := blk_frozen BK2.out 2) | ((with_reducible refine gate_dst (N := 10) rfl ?_); refine bx_ 10 #[.int .i64 0, .slice none 0 0, .slice none 0 0] 32 ?_; intro g15 hg w1015 hbox hb; clear hx1_0 hf1_0 hx1_1 hf1_1 hx1_2 hf1_2 hx2_0 hf2_0 hx2_1 hf2_1 hx2_2 hf2_2; have n0_ := Aside0.mk (below_step HB.out hb); have n1_ := Aside0.mk (Kd.S_below HO6.out hb); have n2_ := Aside0.mk (Kd.S_below HO7.out hb); have n3_ := Aside0.mk (Kd.R_below HO9.out hb); have n4_ := Aside0.mk (Kd.R_below HO11.out hb); have n5_ := Aside0.mk (Kd.S_below HO13.out hb); have n6_ := Aside0.mk (Kd.S_below HO14.out hb); have n7_ := Aside0.mk (blk_below BK1.out hb); have n8_ := Aside0.mk (blk_below BK2.out hb); have SZ18 := Aside0.mk (show w1012.heap.size ≤ w1015.heap.size from (hb).size); clear HB HO6 HO7 HO9 HO11 HO13 HO14 BK1 BK2; have HB := n0_; have HO6 := n1_; have HO7 := n2_; have HO9 := n3_; have HO11 := n4_; have HO13 := n5_; have HO14 := n6_; have BK1 := n7_; have BK2 := n8_; clear n0_ n1_ n2_ n3_ n4_ n5_ n6_ n7_ n8_; have BK15 := Aside0.mk hbox; have GL15 := Aside0.mk (show w1012.heap.size ≤ g15 from Nat.le_of_eq hg.symm); have GU15 := Aside0.mk (blk_lt hbox); clear hbox hg hb; have hx1_0 := cz_ BK1.out 0; have hf1_0 : w1015.frozen? ⟨g1, 0, none⟩ = false := blk_frozen BK1.out 0; have hx1_1 := cz_ BK1.out 1; have hf1_1 : w1015.frozen? ⟨g1, 1, none⟩ = false := blk_frozen BK1.out 1; have hx1_2 := cz_ BK1.out 2; have hf1_2 : w1015.frozen? ⟨g1, 2, none⟩ = false := blk_frozen BK1.out 2; have hx2_0 := cz_ BK2.out 0; have hf2_0 : w1015.frozen? ⟨g2, 0, none⟩ = false := blk_frozen BK2.out 0; have hx2_1 := cz_ BK2.out 1; have hf2_1 : w1015.frozen? ⟨g2, 1, none⟩ = false := blk_frozen BK2.out 1; have hx2_2 := cz_ BK2.out 2; have hf2_2 : w1015.frozen? ⟨g2, 2, none⟩ = false := blk_frozen BK2.out 2; have hx15_0 := cz_ BK15.out 0; have hf15_0 : w1015.frozen? ⟨g15, 0, none⟩ = false := blk_frozen BK15.out 0; have hx15_1 := cz_ BK15.out 1; have hf15_1 : w1015.frozen? ⟨g15, 1, none⟩ = false := blk_frozen BK15.out 1; have hx15_2 := cz_ BK15.out 2; have hf15_2 : w1015.frozen? ⟨g15, 2, none⟩ = false := blk_frozen BK15.out 2) | ((with_reducible refine gate_store (t := 32) (p := 10) rfl ?_); refine se_ 32 10 (((w1015.setCell ⟨g15, 0, none⟩ (.int .i64 t12_0)).setCell ⟨g15, 1, none⟩ (.slice A_13 t12_1.length c_13)).setCell ⟨g15, 2, none⟩ (.slice A_14 t12_2.length c_14)) ?_; intro w2011 hw; have hge_ : w.heap.size ≤ g15 := (by have := GL15.out; have := SZ1.out; have := SZ2.out; have := SZ3.out; have := SZ4.out; have := SZ5.out; have := SZ6.out; have := SZ7.out; have := SZ8.out; have := SZ9.out; have := SZ10.out; have := SZ11.out; have := SZ12.out; have := SZ13.out; have := SZ14.out; have := SZ15.out; have := SZ16.out; have := SZ17.out; omega); have hb : Below w.heap.size w w2011 := (by rw [hw]; exact below_set (below_set (below_set (HB.out) hge_) hge_) hge_); have hkp : Kept w1015 w2011 (fun k_ => k_ = g15) := (by rw [hw]; exact Kept.setCell (Kept.setCell (Kept.setCell (Kept.refl w1015 (fun k_ => k_ = g15)) (.inl rfl) (.int .i64 t12_0)) (.inl rfl) (.slice A_13 t12_1.length c_13)) (.inl rfl) (.slice A_14 t12_2.length c_14)); have hbk : w2011.heap[g15]? = some (.cells #[.int .i64 t12_0, .slice A_13 t12_1.length c_13, .slice A_14 t12_2.length c_14] 32 (0, 0)) := (by rw [hw]; exact blk_put (cs' := #[.int .i64 t12_0, .slice A_13 t12_1.length c_13, .slice A_14 t12_2.length c_14]) (blk_put (cs' := #[.int .i64 t12_0, .slice A_13 t12_1.length c_13, .slice none 0 0]) (blk_put (cs' := #[.int .i64 t12_0, .slice none 0 0, .slice none 0 0]) (BK15.out) 0 (.int .i64 t12_0) rfl) 1 (.slice A_13 t12_1.length c_13) rfl) 2 (.slice A_14 t12_2.length c_14) rfl); clear hx1_0 hf1_0 hx1_1 hf1_1 hx1_2 hf1_2 hx2_0 hf2_0 hx2_1 hf2_1 hx2_2 hf2_2 hx15_0 hf15_0 hx15_1 hf15_1 hx15_2 hf15_2; have n0_ := Aside0.mk (hb); have n1_ := Aside0.mk (Kd.S_step HO6.out (fun k_ h_ hlt_ => hkp.2 k_ hlt_ (fun e_ => (show False from Zone.notblk h_ e_ (by have := GL15.out; have := GU15.out; have := SZ8.out; have := SZ9.out; have := SZ10.out; have := SZ11.out; have := SZ12.out; have := SZ13.out; have := SZ14.out; have := SZ15.out; have := SZ16.out; have := SZ17.out; first | exact .inl (by omega) | exact .inr (by omega))).elim))); have n2_ := Aside0.mk (Kd.S_step HO7.out (fun k_ h_ hlt_ => hkp.2 k_ hlt_ (fun e_ => (show False from Zone.notblk h_ e_ (by have := GL15.out; have := GU15.out; have := SZ10.out; have := SZ11.out; have := SZ12.out; have := SZ13.out; have := SZ14.out; have := SZ15.out; have := SZ16.out; have := SZ17.out; first | exact .inl (by omega) | exact .inr (by omega))).elim))); have n3_ := Aside0.mk (Kd.R_step HO9.out (fun k_ h_ hlt_ => hkp.2 k_ hlt_ (fun e_ => (show False from Zone.notblk h_ e_ (by have := GL15.out; have := GU15.out; have := SZ12.out; have := SZ13.out; have := SZ14.out; have := SZ15.out; have := SZ16.out; have := SZ17.out; first | exact .inl (by omega) | exact .inr (by omega))).elim))); have n4_ := Aside0.mk (Kd.R_step HO11.out (fun k_ h_ hlt_ => hkp.2 k_ hlt_ (fun e_ => (show False from Zone.notblk h_ e_ (by have := GL15.out; have := GU15.out; have := SZ13.out; have := SZ14.out; have := SZ15.out; have := SZ16.out; have := SZ17.out; first | exact .inl (by omega) | exact .inr (by omega))).elim))); have n5_ := Aside0.mk (Kd.S_step HO13.out (fun k_ h_ hlt_ => hkp.2 k_ hlt_ (fun e_ => (show False from Zone.notblk h_ e_ (by have := GL15.out; have := GU15.out; have := SZ15.out; have := SZ16.out; have := SZ17.out; first | exact .inl (by omega) | exact .inr (by omega))).elim))); have n6_ := Aside0.mk (Kd.S_step HO14.out (fun k_ h_ hlt_ => hkp.2 k_ hlt_ (fun e_ => (show False from Zone.notblk h_ e_ (by have := GL15.out; have := GU15.out; have := SZ17.out; first | exact .inl (by omega) | exact .inr (by omega))).elim))); have n7_ := Aside0.mk ((hkp.2 g1 (blk_lt BK1.out) (fun e_ => (by have e2_ : g1 = g15 := e_; have := GL1.out; have := GU1.out; have := GL15.out; have := GU15.out; have := SZ2.out; have := SZ3.out; have := SZ4.out; have := SZ5.out; have := SZ6.out; have := SZ7.out; have := SZ8.out; have := SZ9.out; have := SZ10.out; have := SZ11.out; have := SZ12.out; have := SZ13.out; have := SZ14.out; have := SZ15.out; have := SZ16.out; have := SZ17.out; omega))).trans BK1.out); have n8_ := Aside0.mk ((hkp.2 g2 (blk_lt BK2.out) (fun e_ => (by have e2_ : g2 = g15 := e_; have := GL2.out; have := GU2.out; have := GL15.out; have := GU15.out; have := SZ3.out; have := SZ4.out; have := SZ5.out; have := SZ6.out; have := SZ7.out; have := SZ8.out; have := SZ9.out; have := SZ10.out; have := SZ11.out; have := SZ12.out; have := SZ13.out; have := SZ14.out; have := SZ15.out; have := SZ16.out; have := SZ17.out; omega))).trans BK2.out); have n9_ := Aside0.mk (hbk); have SZ19 := Aside0.mk (show w1015.heap.size ≤ w2011.heap.size from hkp.1); clear HB HO6 HO7 HO9 HO11 HO13 HO14 BK1 BK2 BK15; have HB := n0_; have HO6 := n1_; have HO7 := n2_; have HO9 := n3_; have HO11 := n4_; have HO13 := n5_; have HO14 := n6_; have BK1 := n7_; have BK2 := n8_; have BK15 := n9_; clear n0_ n1_ n2_ n3_ n4_ n5_ n6_ n7_ n8_ n9_; clear hb hkp hbk hw hge_; have hx1_0 := cz_ BK1.out 0; have hf1_0 : w2011.frozen? ⟨g1, 0, none⟩ = false := blk_frozen BK1.out 0; have hx1_1 := cz_ BK1.out 1; have hf1_1 : w2011.frozen? ⟨g1, 1, none⟩ = false := blk_frozen BK1.out 1; have hx1_2 := cz_ BK1.out 2; have hf1_2 : w2011.frozen? ⟨g1, 2, none⟩ = false := blk_frozen BK1.out 2; have hx2_0 := cz_ BK2.out 0; have hf2_0 : w2011.frozen? ⟨g2, 0, none⟩ = false := blk_frozen BK2.out 0; have hx2_1 := cz_ BK2.out 1; have hf2_1 : w2011.frozen? ⟨g2, 1, none⟩ = false := blk_frozen BK2.out 1; have hx2_2 := cz_ BK2.out 2; have hf2_2 : w2011.frozen? ⟨g2, 2, none⟩ = false := blk_frozen BK2.out 2; have hx15_0 := cz_ BK15.out 0; have hf15_0 : w2011.frozen? ⟨g15, 0, none⟩ = false := blk_frozen BK15.out 0; have hx15_1 := cz_ BK15.out 1; have hf15_1 : w2011.frozen? ⟨g15, 1, none⟩ = false := blk_frozen BK15.out 1; have hx15_2 := cz_ BK15.out 2; have hf15_2 : w2011.frozen? ⟨g15, 2, none⟩ = false := blk_frozen BK15.out 2) | (go_at_call 9; (with_reducible refine (laws_toField.calls k a1_0 a1_1 _ _ l1_2 t16_0 t16_1 t16_2 _ ?sd16_1 ?sd16_2 A16.out).mono ?_); (case sd16_1 => exact Kd.C_below HR1_2.out HB.out); (case sd16_2 => exact HC1_2.out); rintro e w1016 ⟨v_17, rfl, ho0, hb⟩; have hs_ := below_size HB.out; clear hx1_0 hf1_0 hx1_1 hf1_1 hx1_2 hf1_2 hx2_0 hf2_0 hx2_1 hf2_1 hx2_2 hf2_2 hx15_0 hf15_0 hx15_1 hf15_1 hx15_2 hf15_2; have n0_ := Aside0.mk (below_step HB.out hb); have n1_ := Aside0.mk (Kd.S_below HO6.out hb); have n2_ := Aside0.mk (Kd.S_below HO7.out hb); have n3_ := Aside0.mk (Kd.R_below HO9.out hb); have n4_ := Aside0.mk (Kd.R_below HO11.out hb); have n5_ := Aside0.mk (Kd.S_below HO13.out hb); have n6_ := Aside0.mk (Kd.S_below HO14.out hb); have n7_ := Aside0.mk (blk_below BK1.out hb); have n8_ := Aside0.mk (blk_below BK2.out hb); have n9_ := Aside0.mk (blk_below BK15.out hb); have SZ20 := Aside0.mk (show w2011.heap.size ≤ w1016.heap.size from (hb).size); clear HB HO6 HO7 HO9 HO11 HO13 HO14 BK1 BK2 BK15; have HB := n0_; have HO6 := n1_; have HO7 := n2_; have HO9 := n3_; have HO11 := n4_; have HO13 := n5_; have HO14 := n6_; have BK1 := n7_; have BK2 := n8_; have BK15 := n9_; clear n0_ n1_ n2_ n3_ n4_ n5_ n6_ n7_ n8_ n9_; have HO17 := Aside0.mk (R_zone ho0 hs_); clear ho0; obtain ⟨A_17, c_17, e_17⟩ := Kd.R_slice HO17.out; subst e_17; clear hb hs_; have hx1_0 := cz_ BK1.out 0; have hf1_0 : w1016.frozen? ⟨g1, 0, none⟩ = false := blk_frozen BK1.out 0; have hx1_1 := cz_ BK1.out 1; have hf1_1 : w1016.frozen? ⟨g1, 1, none⟩ = false := blk_frozen BK1.out 1; have hx1_2 := cz_ BK1.out 2; have hf1_2 : w1016.frozen? ⟨g1, 2, none⟩ = false := blk_frozen BK1.out 2; have hx2_0 := cz_ BK2.out 0; have hf2_0 : w1016.frozen? ⟨g2, 0, none⟩ = false := blk_frozen BK2.out 0; have hx2_1 := cz_ BK2.out 1; have hf2_1 : w1016.frozen? ⟨g2, 1, none⟩ = false := blk_frozen BK2.out 1; have hx2_2 := cz_ BK2.out 2; have hf2_2 : w1016.frozen? ⟨g2, 2, none⟩ = false := blk_frozen BK2.out 2; have hx15_0 := cz_ BK15.out 0; have hf15_0 : w1016.frozen? ⟨g15, 0, none⟩ = false := blk_frozen BK15.out 0; have hx15_1 := cz_ BK15.out 1; have hf15_1 : w1016.frozen? ⟨g15, 1, none⟩ = false := blk_frozen BK15.out 1; have hx15_2 := cz_ BK15.out 2; have hf15_2 : w1016.frozen? ⟨g15, 2, none⟩ = false := blk_frozen BK15.out 2) | ((with_reducible refine gate_dst (N := 11) rfl ?_); refine bx_ 11 #[.int .i64 0, .int .i64 0, .slice none 0 0] 34 ?_; intro g18 hg w1018 hbox hb; clear hx1_0 hf1_0 hx1_1 hf1_1 hx1_2 hf1_2 hx2_0 hf2_0 hx2_1 hf2_1 hx2_2 hf2_2 hx15_0 hf15_0 hx15_1 hf15_1 hx15_2 hf15_2; have n0_ := Aside0.mk (below_step HB.out hb); have n1_ := Aside0.mk (Kd.S_below HO6.out hb); have n2_ := Aside0.mk (Kd.S_below HO7.out hb); have n3_ := Aside0.mk (Kd.R_below HO9.out hb); have n4_ := Aside0.mk (Kd.R_below HO11.out hb); have n5_ := Aside0.mk (Kd.S_below HO13.out hb); have n6_ := Aside0.mk (Kd.S_below HO14.out hb); have n7_ := Aside0.mk (Kd.R_below HO17.out hb); have n8_ := Aside0.mk (blk_below BK1.out hb); have n9_ := Aside0.mk (blk_below BK2.out hb); have n10_ := Aside0.mk (blk_below BK15.out hb); have SZ21 := Aside0.mk (show w1016.heap.size ≤ w1018.heap.size from (hb).size); clear HB HO6 HO7 HO9 HO11 HO13 HO14 HO17 BK1 BK2 BK15; have HB := n0_; have HO6 := n1_; have HO7 := n2_; have HO9 := n3_; have HO11 := n4_; have HO13 := n5_; have HO14 := n6_; have HO17 := n7_; have BK1 := n8_; have BK2 := n9_; have BK15 := n10_; clear n0_ n1_ n2_ n3_ n4_ n5_ n6_ n7_ n8_ n9_ n10_; have BK18 := Aside0.mk hbox; have GL18 := Aside0.mk (show w1016.heap.size ≤ g18 from Nat.le_of_eq hg.symm); have GU18 := Aside0.mk (blk_lt hbox); clear hbox hg hb; have hx1_0 := cz_ BK1.out 0; have hf1_0 : w1018.frozen? ⟨g1, 0, none⟩ = false := blk_frozen BK1.out 0; have hx1_1 := cz_ BK1.out 1; have hf1_1 : w1018.frozen? ⟨g1, 1, none⟩ = false := blk_frozen BK1.out 1; have hx1_2 := cz_ BK1.out 2; have hf1_2 : w1018.frozen? ⟨g1, 2, none⟩ = false := blk_frozen BK1.out 2; have hx2_0 := cz_ BK2.out 0; have hf2_0 : w1018.frozen? ⟨g2, 0, none⟩ = false := blk_frozen BK2.out 0; have hx2_1 := cz_ BK2.out 1; have hf2_1 : w1018.frozen? ⟨g2, 1, none⟩ = false := blk_frozen BK2.out 1; have hx2_2 := cz_ BK2.out 2; have hf2_2 : w1018.frozen? ⟨g2, 2, none⟩ = false := blk_frozen BK2.out 2; have hx15_0 := cz_ BK15.out 0; have hf15_0 : w1018.frozen? ⟨g15, 0, none⟩ = false := blk_frozen BK15.out 0; have hx15_1 := cz_ BK15.out 1; have hf15_1 : w1018.frozen? ⟨g15, 1, none⟩ = false := blk_frozen BK15.out 1; have hx15_2 := cz_ BK15.out 2; have hf15_2 : w1018.frozen? ⟨g15, 2, none⟩ = false := blk_frozen BK15.out 2; have hx18_0 := cz_ BK18.out 0; have hf18_0 : w1018.frozen? ⟨g18, 0, none⟩ = false := blk_frozen BK18.out 0; have hx18_1 := cz_ BK18.out 1; have hf18_1 : w1018.frozen? ⟨g18, 1, none⟩ = false := blk_frozen BK18.out 1; have hx18_2 := cz_ BK18.out 2; have hf18_2 : w1018.frozen? ⟨g18, 2, none⟩ = false := blk_frozen BK18.out 2) | ((with_reducible refine gate_store (t := 34) (p := 11) rfl ?_); refine se_ 34 11 (((w1018.setCell ⟨g18, 0, none⟩ (.int .i64 t16_0)).setCell ⟨g18, 1, none⟩ (.int .i64 t16_1)).setCell ⟨g18, 2, none⟩ (.slice A_17 t16_2.length c_17)) ?_; intro w2014 hw; have hge_ : w.heap.size ≤ g18 := (by have := GL18.out; have := SZ1.out; have := SZ2.out; have := SZ3.out; have := SZ4.out; have := SZ5.out; have := SZ6.out; have := SZ7.out; have := SZ8.out; have := SZ9.out; have := SZ10.out; have := SZ11.out; have := SZ12.out; have := SZ13.out; have := SZ14.out; have := SZ15.out; have := SZ16.out; have := SZ17.out; have := SZ18.out; have := SZ19.out; have := SZ20.out; omega); have hb : Below w.heap.size w w2014 := (by rw [hw]; exact below_set (below_set (below_set (HB.out) hge_) hge_) hge_); have hkp : Kept w1018 w2014 (fun k_ => k_ = g18) := (by rw [hw]; exact Kept.setCell (Kept.setCell (Kept.setCell (Kept.refl w1018 (fun k_ => k_ = g18)) (.inl rfl) (.int .i64 t16_0)) (.inl rfl) (.int .i64 t16_1)) (.inl rfl) (.slice A_17 t16_2.length c_17)); have hbk : w2014.heap[g18]? = some (.cells #[.int .i64 t16_0, .int .i64 t16_1, .slice A_17 t16_2.length c_17] 34 (0, 0)) := (by rw [hw]; exact blk_put (cs' := #[.int .i64 t16_0, .int .i64 t16_1, .slice A_17 t16_2.length c_17]) (blk_put (cs' := #[.int .i64 t16_0, .int .i64 t16_1, .slice none 0 0]) (blk_put (cs' := #[.int .i64 t16_0, .int .i64 0, .slice none 0 0]) (BK18.out) 0 (.int .i64 t16_0) rfl) 1 (.int .i64 t16_1) rfl) 2 (.slice A_17 t16_2.length c_17) rfl); clear hx1_0 hf1_0 hx1_1 hf1_1 hx1_2 hf1_2 hx2_0 hf2_0 hx2_1 hf2_1 hx2_2 hf2_2 hx15_0 hf15_0 hx15_1 hf15_1 hx15_2 hf15_2 hx18_0 hf18_0 hx18_1 hf18_1 hx18_2 hf18_2; have n0_ := Aside0.mk (hb); have n1_ := Aside0.mk (Kd.S_step HO6.out (fun k_ h_ hlt_ => hkp.2 k_ hlt_ (fun e_ => (show False from Zone.notblk h_ e_ (by have := GL18.out; have := GU18.out; have := SZ8.out; have := SZ9.out; have := SZ10.out; have := SZ11.out; have := SZ12.out; have := SZ13.out; have := SZ14.out; have := SZ15.out; have := SZ16.out; have := SZ17.out; have := SZ18.out; have := SZ19.out; have := SZ20.out; first | exact .inl (by omega) | exact .inr (by omega))).elim))); have n2_ := Aside0.mk (Kd.S_step HO7.out (fun k_ h_ hlt_ => hkp.2 k_ hlt_ (fun e_ => (show False from Zone.notblk h_ e_ (by have := GL18.out; have := GU18.out; have := SZ10.out; have := SZ11.out; have := SZ12.out; have := SZ13.out; have := SZ14.out; have := SZ15.out; have := SZ16.out; have := SZ17.out; have := SZ18.out; have := SZ19.out; have := SZ20.out; first | exact .inl (by omega) | exact .inr (by omega))).elim))); have n3_ := Aside0.mk (Kd.R_step HO9.out (fun k_ h_ hlt_ => hkp.2 k_ hlt_ (fun e_ => (show False from Zone.notblk h_ e_ (by have := GL18.out; have := GU18.out; have := SZ12.out; have := SZ13.out; have := SZ14.out; have := SZ15.out; have := SZ16.out; have := SZ17.out; have := SZ18.out; have := SZ19.out; have := SZ20.out; first | exact .inl (by omega) | exact .inr (by omega))).elim))); have n4_ := Aside0.mk (Kd.R_step HO11.out (fun k_ h_ hlt_ => hkp.2 k_ hlt_ (fun e_ => (show False from Zone.notblk h_ e_ (by have := GL18.out; have := GU18.out; have := SZ13.out; have := SZ14.out; have := SZ15.out; have := SZ16.out; have := SZ17.out; have := SZ18.out; have := SZ19.out; have := SZ20.out; first | exact .inl (by omega) | exact .inr (by omega))).elim))); have n5_ := Aside0.mk (Kd.S_step HO13.out (fun k_ h_ hlt_ => hkp.2 k_ hlt_ (fun e_ => (show False from Zone.notblk h_ e_ (by have := GL18.out; have := GU18.out; have := SZ15.out; have := SZ16.out; have := SZ17.out; have := SZ18.out; have := SZ19.out; have := SZ20.out; first | exact .inl (by omega) | exact .inr (by omega))).elim))); have n6_ := Aside0.mk (Kd.S_step HO14.out (fun k_ h_ hlt_ => hkp.2 k_ hlt_ (fun e_ => (show False from Zone.notblk h_ e_ (by have := GL18.out; have := GU18.out; have := SZ17.out; have := SZ18.out; have := SZ19.out; have := SZ20.out; first | exact .inl (by omega) | exact .inr (by omega))).elim))); have n7_ := Aside0.mk (Kd.R_step HO17.out (fun k_ h_ hlt_ => hkp.2 k_ hlt_ (fun e_ => (show False from Zone.notblk h_ e_ (by have := GL18.out; have := GU18.out; first | exact .inl (by omega) | exact .inr (by omega))).elim))); have n8_ := Aside0.mk ((hkp.2 g1 (blk_lt BK1.out) (fun e_ => (by have e2_ : g1 = g18 := e_; have := GL1.out; have := GU1.out; have := GL18.out; have := GU18.out; have := SZ2.out; have := SZ3.out; have := SZ4.out; have := SZ5.out; have := SZ6.out; have := SZ7.out; have := SZ8.out; have := SZ9.out; have := SZ10.out; have := SZ11.out; have := SZ12.out; have := SZ13.out; have := SZ14.out; have := SZ15.out; have := SZ16.out; have := SZ17.out; have := SZ18.out; have := SZ19.out; have := SZ20.out; omega))).trans BK1.out); have n9_ := Aside0.mk ((hkp.2 g2 (blk_lt BK2.out) (fun e_ => (by have e2_ : g2 = g18 := e_; have := GL2.out; have := GU2.out; have := GL18.out; have := GU18.out; have := SZ3.out; have := SZ4.out; have := SZ5.out; have := SZ6.out; have := SZ7.out; have := SZ8.out; have := SZ9.out; have := SZ10.out; have := SZ11.out; have := SZ12.out; have := SZ13.out; have := SZ14.out; have := SZ15.out; have := SZ16.out; have := SZ17.out; have := SZ18.out; have := SZ19.out; have := SZ20.out; omega))).trans BK2.out); have n10_ := Aside0.mk ((hkp.2 g15 (blk_lt BK15.out) (fun e_ => (by have e2_ : g15 = g18 := e_; have := GL15.out; have := GU15.out; have := GL18.out; have := GU18.out; have := SZ19.out; have := SZ20.out; omega))).trans BK15.out); have n11_ := Aside0.mk (hbk); have SZ22 := Aside0.mk (show w1018.heap.size ≤ w2014.heap.size from hkp.1); clear HB HO6 HO7 HO9 HO11 HO13 HO14 HO17 BK1 BK2 BK15 BK18; have HB := n0_; have HO6 := n1_; have HO7 := n2_; have HO9 := n3_; have HO11 := n4_; have HO13 := n5_; have HO14 := n6_; have HO17 := n7_; have BK1 := n8_; have BK2 := n9_; have BK15 := n10_; have BK18 := n11_; clear n0_ n1_ n2_ n3_ n4_ n5_ n6_ n7_ n8_ n9_ n10_ n11_; clear hb hkp hbk hw hge_; have hx1_0 := cz_ BK1.out 0; have hf1_0 : w2014.frozen? ⟨g1, 0, none⟩ = false := blk_frozen BK1.out 0; have hx1_1 := cz_ BK1.out 1; have hf1_1 : w2014.frozen? ⟨g1, 1, none⟩ = false := blk_frozen BK1.out 1; have hx1_2 := cz_ BK1.out 2; have hf1_2 : w2014.frozen? ⟨g1, 2, none⟩ = false := blk_frozen BK1.out 2; have hx2_0 := cz_ BK2.out 0; have hf2_0 : w2014.frozen? ⟨g2, 0, none⟩ = false := blk_frozen BK2.out 0; have hx2_1 := cz_ BK2.out 1; have hf2_1 : w2014.frozen? ⟨g2, 1, none⟩ = false := blk_frozen BK2.out 1; have hx2_2 := cz_ BK2.out 2; have hf2_2 : w2014.frozen? ⟨g2, 2, none⟩ = false := blk_frozen BK2.out 2; have hx15_0 := cz_ BK15.out 0; have hf15_0 : w2014.frozen? ⟨g15, 0, none⟩ = false := blk_frozen BK15.out 0; have hx15_1 := cz_ BK15.out 1; have hf15_1 : w2014.frozen? ⟨g15, 1, none⟩ = false := blk_frozen BK15.out 1; have hx15_2 := cz_ BK15.out 2; have hf15_2 : w2014.frozen? ⟨g15, 2, none⟩ = false := blk_frozen BK15.out 2; have hx18_0 := cz_ BK18.out 0; have hf18_0 : w2014.frozen? ⟨g18, 0, none⟩ = false := blk_frozen BK18.out 0; have hx18_1 := cz_ BK18.out 1; have hf18_1 : w2014.frozen? ⟨g18, 1, none⟩ = false := blk_frozen BK18.out 1; have hx18_2 := cz_ BK18.out 2; have hf18_2 : w2014.frozen? ⟨g18, 2, none⟩ = false := blk_frozen BK18.out 2) | (go_at_call 10; (with_reducible refine (impl_MayStand.calls k t12_0 _ _ t12_1 _ _ t12_2 t16_0 t16_1 _ _ t16_2 a2 t19_0 t39_1 _ ?sd19_1 ?sd19_2 ?sd19_3 ?sd19_4 ?sd19_5 ?sd19_6 A19.out).mono ?_); (case sd19_1 => exact (Kd.S_reads' HO13.out).2.2); (case sd19_2 => exact (Kd.S_reads' HO13.out).2.1); (case sd19_3 => exact (Kd.S_reads' HO14.out).2.2); (case sd19_4 => exact (Kd.S_reads' HO14.out).2.1); (case sd19_5 => exact (Kd.R_reads' HO17.out).2.2); (case sd19_6 => exact (Kd.R_reads' HO17.out).2.1); rintro e w1019 ⟨v_20, rfl, ho0, hb⟩; have hs_ := below_size HB.out; clear hx1_0 hf1_0 hx1_1 hf1_1 hx1_2 hf1_2 hx2_0 hf2_0 hx2_1 hf2_1 hx2_2 hf2_2 hx15_0 hf15_0 hx15_1 hf15_1 hx15_2 hf15_2 hx18_0 hf18_0 hx18_1 hf18_1 hx18_2 hf18_2; have n0_ := Aside0.mk (below_step HB.out hb); have n1_ := Aside0.mk (Kd.S_below HO6.out hb); have n2_ := Aside0.mk (Kd.S_below HO7.out hb); have n3_ := Aside0.mk (Kd.R_below HO9.out hb); have n4_ := Aside0.mk (Kd.R_below HO11.out hb); have n5_ := Aside0.mk (Kd.S_below HO13.out hb); have n6_ := Aside0.mk (Kd.S_below HO14.out hb); have n7_ := Aside0.mk (Kd.R_below HO17.out hb); have n8_ := Aside0.mk (blk_below BK1.out hb); have n9_ := Aside0.mk (blk_below BK2.out hb); have n10_ := Aside0.mk (blk_below BK15.out hb); have n11_ := Aside0.mk (blk_below BK18.out hb); have SZ23 := Aside0.mk (show w2014.heap.size ≤ w1019.heap.size from (hb).size); clear HB HO6 HO7 HO9 HO11 HO13 HO14 HO17 BK1 BK2 BK15 BK18; have HB := n0_; have HO6 := n1_; have HO7 := n2_; have HO9 := n3_; have HO11 := n4_; have HO13 := n5_; have HO14 := n6_; have HO17 := n7_; have BK1 := n8_; have BK2 := n9_; have BK15 := n10_; have BK18 := n11_; clear n0_ n1_ n2_ n3_ n4_ n5_ n6_ n7_ n8_ n9_ n10_ n11_; have HO20 := Aside0.mk (R_zone ho0 hs_); clear ho0; obtain ⟨A_20, c_20, e_20⟩ := Kd.R_slice HO20.out; subst e_20; clear hb hs_; have hx1_0 := cz_ BK1.out 0; have hf1_0 : w1019.frozen? ⟨g1, 0, none⟩ = false := blk_frozen BK1.out 0; have hx1_1 := cz_ BK1.out 1; have hf1_1 : w1019.frozen? ⟨g1, 1, none⟩ = false := blk_frozen BK1.out 1; have hx1_2 := cz_ BK1.out 2; have hf1_2 : w1019.frozen? ⟨g1, 2, none⟩ = false := blk_frozen BK1.out 2; have hx2_0 := cz_ BK2.out 0; have hf2_0 : w1019.frozen? ⟨g2, 0, none⟩ = false := blk_frozen BK2.out 0; have hx2_1 := cz_ BK2.out 1; have hf2_1 : w1019.frozen? ⟨g2, 1, none⟩ = false := blk_frozen BK2.out 1; have hx2_2 := cz_ BK2.out 2; have hf2_2 : w1019.frozen? ⟨g2, 2, none⟩ = false := blk_frozen BK2.out 2; have hx15_0 := cz_ BK15.out 0; have hf15_0 : w1019.frozen? ⟨g15, 0, none⟩ = false := blk_frozen BK15.out 0; have hx15_1 := cz_ BK15.out 1; have hf15_1 : w1019.frozen? ⟨g15, 1, none⟩ = false := blk_frozen BK15.out 1; have hx15_2 := cz_ BK15.out 2; have hf15_2 : w1019.frozen? ⟨g15, 2, none⟩ = false := blk_frozen BK15.out 2; have hx18_0 := cz_ BK18.out 0; have hf18_0 : w1019.frozen? ⟨g18, 0, none⟩ = false := blk_frozen BK18.out 0; have hx18_1 := cz_ BK18.out 1; have hf18_1 : w1019.frozen? ⟨g18, 1, none⟩ = false := blk_frozen BK18.out 1; have hx18_2 := cz_ BK18.out 2; have hf18_2 : w1019.frozen? ⟨g18, 2, none⟩ = false := blk_frozen BK18.out 2) | (go_at_call 11; (with_reducible refine (laws_eqIntS.calls k _ _ t19_0 _ _ t10_0 true _ ?sd21_1 ?sd21_2 ?sd21_3 ?sd21_4 A21.out).mono ?_); (case sd21_1 => exact (Kd.R_reads' HO20.out).2.2); (case sd21_2 => exact (Kd.R_reads' HO20.out).2.1); (case sd21_3 => exact (Kd.R_reads' HO11.out).2.2); (case sd21_4 => exact (Kd.R_reads' HO11.out).2.1); rintro e w1021 ⟨rfl, hd⟩; have hb := hd.below; clear hd; have hs_ := below_size HB.out; clear hx1_0 hf1_0 hx1_1 hf1_1 hx1_2 hf1_2 hx2_0 hf2_0 hx2_1 hf2_1 hx2_2 hf2_2 hx15_0 hf15_0 hx15_1 hf15_1 hx15_2 hf15_2 hx18_0 hf18_0 hx18_1 hf18_1 hx18_2 hf18_2; have n0_ := Aside0.mk (below_step HB.out hb); have n1_ := Aside0.mk (Kd.S_below HO6.out hb); have n2_ := Aside0.mk (Kd.S_below HO7.out hb); have n3_ := Aside0.mk (Kd.R_below HO9.out hb); have n4_ := Aside0.mk (Kd.R_below HO11.out hb); have n5_ := Aside0.mk (Kd.S_below HO13.out hb); have n6_ := Aside0.mk (Kd.S_below HO14.out hb); have n7_ := Aside0.mk (Kd.R_below HO17.out hb); have n8_ := Aside0.mk (Kd.R_below HO20.out hb); have n9_ := Aside0.mk (blk_below BK1.out hb); have n10_ := Aside0.mk (blk_below BK2.out hb); have n11_ := Aside0.mk (blk_below BK15.out hb); have n12_ := Aside0.mk (blk_below BK18.out hb); have SZ24 := Aside0.mk (show w1019.heap.size ≤ w1021.heap.size from (hb).size); clear HB HO6 HO7 HO9 HO11 HO13 HO14 HO17 HO20 BK1 BK2 BK15 BK18; have HB := n0_; have HO6 := n1_; have HO7 := n2_; have HO9 := n3_; have HO11 := n4_; have HO13 := n5_; have HO14 := n6_; have HO17 := n7_; have HO20 := n8_; have BK1 := n9_; have BK2 := n10_; have BK15 := n11_; have BK18 := n12_; clear n0_ n1_ n2_ n3_ n4_ n5_ n6_ n7_ n8_ n9_ n10_ n11_ n12_; clear hb hs_; have hx1_0 := cz_ BK1.out 0; have hf1_0 : w1021.frozen? ⟨g1, 0, none⟩ = false := blk_frozen BK1.out 0; have hx1_1 := cz_ BK1.out 1; have hf1_1 : w1021.frozen? ⟨g1, 1, none⟩ = false := blk_frozen BK1.out 1; have hx1_2 := cz_ BK1.out 2; have hf1_2 : w1021.frozen? ⟨g1, 2, none⟩ = false := blk_frozen BK1.out 2; have hx2_0 := cz_ BK2.out 0; have hf2_0 : w1021.frozen? ⟨g2, 0, none⟩ = false := blk_frozen BK2.out 0; have hx2_1 := cz_ BK2.out 1; have hf2_1 : w1021.frozen? ⟨g2, 1, none⟩ = false := blk_frozen BK2.out 1; have hx2_2 := cz_ BK2.out 2; have hf2_2 : w1021.frozen? ⟨g2, 2, none⟩ = false := blk_frozen BK2.out 2; have hx15_0 := cz_ BK15.out 0; have hf15_0 : w1021.frozen? ⟨g15, 0, none⟩ = false := blk_frozen BK15.out 0; have hx15_1 := cz_ BK15.out 1; have hf15_1 : w1021.frozen? ⟨g15, 1, none⟩ = false := blk_frozen BK15.out 1; have hx15_2 := cz_ BK15.out 2; have hf15_2 : w1021.frozen? ⟨g15, 2, none⟩ = false := blk_frozen BK15.out 2; have hx18_0 := cz_ BK18.out 0; have hf18_0 : w1021.frozen? ⟨g18, 0, none⟩ = false := blk_frozen BK18.out 0; have hx18_1 := cz_ BK18.out 1; have hf18_1 : w1021.frozen? ⟨g18, 1, none⟩ = false := blk_frozen BK18.out 1; have hx18_2 := cz_ BK18.out 2; have hf18_2 : w1021.frozen? ⟨g18, 2, none⟩ = false := blk_frozen BK18.out 2))
  (try simp only [Act.put, List.setIfInBounds_toArray, List.set_cons_zero, List.set_cons_succ])
  clear hx1_0 hf1_0 hx1_1 hf1_1 hx1_2 hf1_2 hx2_0 hf2_0 hx2_1 hf2_1 hx2_2 hf2_2 hx15_0 hf15_0 hx15_1 hf15_1 hx15_2 hf15_2 hx18_0 hf18_0 hx18_1 hf18_1 hx18_2 hf18_2
  have n0_ := Aside0.mk (below_step HB.out (below_drew1 (Below.refl w1021.heap.size w1021)))
  have n1_ := Aside0.mk (Kd.S_below HO6.out (below_drew1 (Below.refl w1021.heap.size w1021)))
  have n2_ := Aside0.mk (Kd.S_below HO7.out (below_drew1 (Below.refl w1021.heap.size w1021)))
  have n3_ := Aside0.mk (Kd.R_below HO9.out (below_drew1 (Below.refl w1021.heap.size w1021)))
  have n4_ := Aside0.mk (Kd.R_below HO11.out (below_drew1 (Below.refl w1021.heap.size w1021)))
  have n5_ := Aside0.mk (Kd.S_below HO13.out (below_drew1 (Below.refl w1021.heap.size w1021)))
  have n6_ := Aside0.mk (Kd.S_below HO14.out (below_drew1 (Below.refl w1021.heap.size w1021)))
  have n7_ := Aside0.mk (Kd.R_below HO17.out (below_drew1 (Below.refl w1021.heap.size w1021)))
  have n8_ := Aside0.mk (Kd.R_below HO20.out (below_drew1 (Below.refl w1021.heap.size w1021)))
  have n9_ := Aside0.mk (blk_below BK1.out (below_drew1 (Below.refl w1021.heap.size w1021)))
  have n10_ := Aside0.mk (blk_below BK2.out (below_drew1 (Below.refl w1021.heap.size w1021)))
  have n11_ := Aside0.mk (blk_below BK15.out (below_drew1 (Below.refl w1021.heap.size w1021)))
  have n12_ := Aside0.mk (blk_below BK18.out (below_drew1 (Below.refl w1021.heap.size w1021)))
  have SZ25 := Aside0.mk (show w1021.heap.size ≤ w1021.drew.heap.size from ((below_drew1 (Below.refl w1021.heap.size w1021))).size)
  clear HB HO6 HO7 HO9 HO11 HO13 HO14 HO17 HO20 BK1 BK2 BK15 BK18
  have HB := n0_
  have HO6 := n1_
  have HO7 := n2_
  have HO9 := n3_
  have HO11 := n4_
  have HO13 := n5_
  have HO14 := n6_
  have HO17 := n7_
  have HO20 := n8_
  have BK1 := n9_
  have BK2 := n10_
  have BK15 := n11_
  have BK18 := n12_
  clear n0_ n1_ n2_ n3_ n4_ n5_ n6_ n7_ n8_ n9_ n10_ n11_ n12_
  refine start_ (n := 5) (S := fun w' => w'.cell? ⟨g1, 0, none⟩ = some (.int .i64 a0_0) ∧ w'.cell? ⟨g1, 1, none⟩ = some (.slice A0_1 l0_1.length c0_1) ∧ w'.cell? ⟨g1, 2, none⟩ = some (.slice A0_2 l0_2.length c0_2) ∧ w'.cell? ⟨g2, 0, none⟩ = some (.int .i64 a1_0) ∧ w'.cell? ⟨g2, 1, none⟩ = some (.int .i64 a1_1) ∧ w'.cell? ⟨g2, 2, none⟩ = some (.slice A1_2 l1_2.length c1_2) ∧ w'.cell? ⟨g15, 0, none⟩ = some (.int .i64 t12_0) ∧ w'.cell? ⟨g15, 1, none⟩ = some (.slice A_13 t12_1.length c_13) ∧ w'.cell? ⟨g15, 2, none⟩ = some (.slice A_14 t12_2.length c_14) ∧ w'.cell? ⟨g18, 0, none⟩ = some (.int .i64 t16_0) ∧ w'.cell? ⟨g18, 1, none⟩ = some (.int .i64 t16_1) ∧ w'.cell? ⟨g18, 2, none⟩ = some (.slice A_17 t16_2.length c_17)) (ds := []) #[false, false, false, false, false] (by kernel_rfl) rfl rfl ⟨cz_ BK1.out 0, cz_ BK1.out 1, cz_ BK1.out 2, cz_ BK2.out 0, cz_ BK2.out 1, cz_ BK2.out 2, cz_ BK15.out 0, cz_ BK15.out 1, cz_ BK15.out 2, cz_ BK18.out 0, cz_ BK18.out 1, cz_ BK18.out 2⟩ (fun hHeld => ?_); refine with_tabW laws_FnExactMayStand.tab14 laws_FnExactMayStand.bits14 (fun HT_ HW_ => ?_)
  generalize w1021.drew = w3017 at HB HO6 HO7 HO9 HO11 HO13 HO14 HO17 HO20 BK1 BK2 BK15 BK18 SZ25 hHeld ⊢
  refine take_ (i := 0) (N := some 58) (v := ?_) (a' := ?_) #[true, false, false, false, false] rfl rfl (take_ofW HT_.out HW_.out (by kernel_rfl)) (fun _ _ _ h => h) (Or.inl ⟨by rfl, ?_⟩) hHeld ?_ ?_
  rotate_left
  · rintro w' ⟨s0, s1, s2, s3, s4, s5, s6, s7, s8, s9, s10, s11⟩
    go_simp
    with_reducible rfl
  rotate_left
  · simp only [Act.put, List.setIfInBounds_toArray, List.set_cons_zero, List.set_cons_succ, i64_w, i32_w]
    rfl
  refine take_ (i := 1) (N := some 59) (v := ?_) (a' := ?_) #[true, true, false, false, false] rfl rfl (take_ofW HT_.out HW_.out (by kernel_rfl)) (fun _ _ _ h => h) (Or.inl ⟨by rfl, ?_⟩) hHeld ?_ ?_
  rotate_left
  · rintro w' ⟨s0, s1, s2, s3, s4, s5, s6, s7, s8, s9, s10, s11⟩
    go_simp
    with_reducible rfl
  rotate_left
  · simp only [Act.put, List.setIfInBounds_toArray, List.set_cons_zero, List.set_cons_succ, i64_w, i32_w]
    rfl
  refine oS_ 2 60 HT_ (fun K hK => ?_)
  refine goes_ Try.func8 (by kernel_rfl) rfl #[.agg #[.int .i64 a0_0, .slice A0_1 l0_1.length c0_1, .slice A0_2 l0_2.length c0_2]] (by rfl) rfl rfl (by (try simp only [List.map_toArray, List.map_cons, List.map_nil]); first | done | rfl) ?_
  (with_reducible refine (laws_toRules.callsZ k a0_0 _ _ l0_1 _ _ l0_2 t22_0 t22_1 t22_2 _ ?sd22_1 ?sd22_2 ?sd22_3 ?sd22_4 A22.out).mono ?_)
  (case sd22_1 => exact Kd.C_below HR0_1.out HB.out)
  (case sd22_2 => exact HC0_1.out)
  (case sd22_3 => exact Kd.C_below HR0_2.out HB.out)
  (case sd22_4 => exact HC0_2.out)
  rintro e w1022 ⟨v_23, v_24, wz22_0a, wz22_0b, wz22_1a, wz22_1b, rfl, ho0, ho1, ⟨hz0, hz1, hz2, hz3, hz4⟩, hb⟩
  refine ⟨_, rfl, ?_⟩
  have hs_ := below_size HB.out
  have n0_ := Aside0.mk (below_step HB.out hb)
  have n1_ := Aside0.mk (Kd.S_below HO6.out hb)
  have n2_ := Aside0.mk (Kd.S_below HO7.out hb)
  have n3_ := Aside0.mk (Kd.R_below HO9.out hb)
  have n4_ := Aside0.mk (Kd.R_below HO11.out hb)
  have n5_ := Aside0.mk (Kd.S_below HO13.out hb)
  have n6_ := Aside0.mk (Kd.S_below HO14.out hb)
  have n7_ := Aside0.mk (Kd.R_below HO17.out hb)
  have n8_ := Aside0.mk (Kd.R_below HO20.out hb)
  have n9_ := Aside0.mk (blk_below BK1.out hb)
  have n10_ := Aside0.mk (blk_below BK2.out hb)
  have n11_ := Aside0.mk (blk_below BK15.out hb)
  have n12_ := Aside0.mk (blk_below BK18.out hb)
  clear HB HO6 HO7 HO9 HO11 HO13 HO14 HO17 HO20 BK1 BK2 BK15 BK18
  have HB := n0_
  have HO6 := n1_
  have HO7 := n2_
  have HO9 := n3_
  have HO11 := n4_
  have HO13 := n5_
  have HO14 := n6_
  have HO17 := n7_
  have HO20 := n8_
  have BK1 := n9_
  have BK2 := n10_
  have BK15 := n11_
  have BK18 := n12_
  clear n0_ n1_ n2_ n3_ n4_ n5_ n6_ n7_ n8_ n9_ n10_ n11_ n12_
  have SZ26 := Aside0.mk hz0
  have SZ27 := Aside0.mk hz1
  have SZ28 := Aside0.mk hz2
  have SZ29 := Aside0.mk hz3
  have SZ30 := Aside0.mk hz4
  clear hz0 hz1 hz2 hz3 hz4
  have HO23 := Aside0.mk (Kd.S_lower ho0 hs_)
  clear ho0
  obtain ⟨A_23, c_23, e_23⟩ := Kd.S_slice HO23.out
  subst e_23
  have HO24 := Aside0.mk (Kd.S_lower ho1 hs_)
  clear ho1
  obtain ⟨A_24, c_24, e_24⟩ := Kd.S_slice HO24.out
  subst e_24
  clear hb hs_
  refine hK.out _ _ ⟨cz_ BK1.out 0, cz_ BK1.out 1, cz_ BK1.out 2, cz_ BK2.out 0, cz_ BK2.out 1, cz_ BK2.out 2, cz_ BK15.out 0, cz_ BK15.out 1, cz_ BK15.out 2, cz_ BK18.out 0, cz_ BK18.out 1, cz_ BK18.out 2⟩ (fun hHeld => ?_)
  clear hK K
  refine norm_ (a' := ?_) ?_ ?_
  rotate_left
  · show Act.put _ (some 60) _ = _
    simp only [Act.put, List.setIfInBounds_toArray, List.set_cons_zero, List.set_cons_succ, i64_w, i32_w]
    rfl
  refine oS_ 3 61 HT_ (fun K hK => ?_)
  refine goes_ Try.func12 (by kernel_rfl) rfl #[.agg #[.int .i64 t12_0, .slice A_13 t12_1.length c_13, .slice A_14 t12_2.length c_14], .agg #[.int .i64 t22_0, .slice A_23 t22_1.length c_23, .slice A_24 t22_2.length c_24]] (by rfl) rfl rfl (by (try simp only [List.map_toArray, List.map_cons, List.map_nil]); first | done | rfl) ?_
  (with_reducible refine (laws_eqRules.calls k t12_0 _ _ t12_1 _ _ t12_2 t22_0 _ _ t22_1 _ _ t22_2 true _ ?sd25_1 ?sd25_2 ?sd25_3 ?sd25_4 ?sd25_5 ?sd25_6 ?sd25_7 ?sd25_8 A25.out).mono ?_)
  (case sd25_1 => exact (Kd.S_reads' HO13.out).2.2)
  (case sd25_2 => exact (Kd.S_reads' HO13.out).2.1)
  (case sd25_3 => exact (Kd.S_reads' HO14.out).2.2)
  (case sd25_4 => exact (Kd.S_reads' HO14.out).2.1)
  (case sd25_5 => exact (Kd.S_reads' HO23.out).2.2)
  (case sd25_6 => exact (Kd.S_reads' HO23.out).2.1)
  (case sd25_7 => exact (Kd.S_reads' HO24.out).2.2)
  (case sd25_8 => exact (Kd.S_reads' HO24.out).2.1)
  rintro e w1025 ⟨rfl, hb⟩
  refine ⟨_, rfl, ?_⟩
  have hs_ := below_size HB.out
  have n0_ := Aside0.mk (below_step HB.out hb)
  have n1_ := Aside0.mk (Kd.S_below HO6.out hb)
  have n2_ := Aside0.mk (Kd.S_below HO7.out hb)
  have n3_ := Aside0.mk (Kd.R_below HO9.out hb)
  have n4_ := Aside0.mk (Kd.R_below HO11.out hb)
  have n5_ := Aside0.mk (Kd.S_below HO13.out hb)
  have n6_ := Aside0.mk (Kd.S_below HO14.out hb)
  have n7_ := Aside0.mk (Kd.R_below HO17.out hb)
  have n8_ := Aside0.mk (Kd.R_below HO20.out hb)
  have n9_ := Aside0.mk (Kd.S_below HO23.out hb)
  have n10_ := Aside0.mk (Kd.S_below HO24.out hb)
  have n11_ := Aside0.mk (blk_below BK1.out hb)
  have n12_ := Aside0.mk (blk_below BK2.out hb)
  have n13_ := Aside0.mk (blk_below BK15.out hb)
  have n14_ := Aside0.mk (blk_below BK18.out hb)
  have SZ31 := Aside0.mk (show w1022.heap.size ≤ w1025.heap.size from (hb).size)
  clear HB HO6 HO7 HO9 HO11 HO13 HO14 HO17 HO20 HO23 HO24 BK1 BK2 BK15 BK18
  have HB := n0_
  have HO6 := n1_
  have HO7 := n2_
  have HO9 := n3_
  have HO11 := n4_
  have HO13 := n5_
  have HO14 := n6_
  have HO17 := n7_
  have HO20 := n8_
  have HO23 := n9_
  have HO24 := n10_
  have BK1 := n11_
  have BK2 := n12_
  have BK15 := n13_
  have BK18 := n14_
  clear n0_ n1_ n2_ n3_ n4_ n5_ n6_ n7_ n8_ n9_ n10_ n11_ n12_ n13_ n14_
  clear hb hs_
  refine hK.out _ _ ⟨cz_ BK1.out 0, cz_ BK1.out 1, cz_ BK1.out 2, cz_ BK2.out 0, cz_ BK2.out 1, cz_ BK2.out 2, cz_ BK15.out 0, cz_ BK15.out 1, cz_ BK15.out 2, cz_ BK18.out 0, cz_ BK18.out 1, cz_ BK18.out 2⟩ (fun hHeld => ?_)
  clear hK K
  refine norm_ (a' := ?_) ?_ ?_
  rotate_left
  · show Act.put _ (some 61) _ = _
    simp only [Act.put, List.setIfInBounds_toArray, List.set_cons_zero, List.set_cons_succ, i64_w, i32_w]
    rfl
  refine pure_ (i := 4) (N := some 62) (v := ?_) (a' := ?_) #[true, true, true, true, true] rfl rfl (any_of HT_.out (by kernel_rfl)) (fun _ _ _ h => h) (Or.inl ⟨by rfl, ?_⟩) ?_ ?_
  rotate_left
  · intro w'
    go_simp
    with_reducible rfl
  rotate_left
  · simp only [Act.put, List.setIfInBounds_toArray, List.set_cons_zero, List.set_cons_succ, i64_w, i32_w]
    rfl
  refine done_ (done_of HT_.out (by kernel_rfl)) ?_
  clear hHeld
  try clear HT_ HW_
  have hx1_0 := cz_ BK1.out 0
  have hf1_0 : w1025.frozen? ⟨g1, 0, none⟩ = false := blk_frozen BK1.out 0
  have hx1_1 := cz_ BK1.out 1
  have hf1_1 : w1025.frozen? ⟨g1, 1, none⟩ = false := blk_frozen BK1.out 1
  have hx1_2 := cz_ BK1.out 2
  have hf1_2 : w1025.frozen? ⟨g1, 2, none⟩ = false := blk_frozen BK1.out 2
  have hx2_0 := cz_ BK2.out 0
  have hf2_0 : w1025.frozen? ⟨g2, 0, none⟩ = false := blk_frozen BK2.out 0
  have hx2_1 := cz_ BK2.out 1
  have hf2_1 : w1025.frozen? ⟨g2, 1, none⟩ = false := blk_frozen BK2.out 1
  have hx2_2 := cz_ BK2.out 2
  have hf2_2 : w1025.frozen? ⟨g2, 2, none⟩ = false := blk_frozen BK2.out 2
  have hx15_0 := cz_ BK15.out 0
  have hf15_0 : w1025.frozen? ⟨g15, 0, none⟩ = false := blk_frozen BK15.out 0
  have hx15_1 := cz_ BK15.out 1
  have hf15_1 : w1025.frozen? ⟨g15, 1, none⟩ = false := blk_frozen BK15.out 1
  have hx15_2 := cz_ BK15.out 2
  have hf15_2 : w1025.frozen? ⟨g15, 2, none⟩ = false := blk_frozen BK15.out 2
  have hx18_0 := cz_ BK18.out 0
  have hf18_0 : w1025.frozen? ⟨g18, 0, none⟩ = false := blk_frozen BK18.out 0
  have hx18_1 := cz_ BK18.out 1
  have hf18_1 : w1025.frozen? ⟨g18, 1, none⟩ = false := blk_frozen BK18.out 1
  have hx18_2 := cz_ BK18.out 2
  have hf18_2 : w1025.frozen? ⟨g18, 2, none⟩ = false := blk_frozen BK18.out 2
  skip
  go_upto_region 16 with (fail)
  (try simp only [Act.put, List.setIfInBounds_toArray, List.set_cons_zero, List.set_cons_succ])
  clear hx1_0 hf1_0 hx1_1 hf1_1 hx1_2 hf1_2 hx2_0 hf2_0 hx2_1 hf2_1 hx2_2 hf2_2 hx15_0 hf15_0 hx15_1 hf15_1 hx15_2 hf15_2 hx18_0 hf18_0 hx18_1 hf18_1 hx18_2 hf18_2
  have n0_ := Aside0.mk (below_step HB.out (below_drew1 (Below.refl w1025.heap.size w1025)))
  have n1_ := Aside0.mk (Kd.S_below HO6.out (below_drew1 (Below.refl w1025.heap.size w1025)))
  have n2_ := Aside0.mk (Kd.S_below HO7.out (below_drew1 (Below.refl w1025.heap.size w1025)))
  have n3_ := Aside0.mk (Kd.R_below HO9.out (below_drew1 (Below.refl w1025.heap.size w1025)))
  have n4_ := Aside0.mk (Kd.R_below HO11.out (below_drew1 (Below.refl w1025.heap.size w1025)))
  have n5_ := Aside0.mk (Kd.S_below HO13.out (below_drew1 (Below.refl w1025.heap.size w1025)))
  have n6_ := Aside0.mk (Kd.S_below HO14.out (below_drew1 (Below.refl w1025.heap.size w1025)))
  have n7_ := Aside0.mk (Kd.R_below HO17.out (below_drew1 (Below.refl w1025.heap.size w1025)))
  have n8_ := Aside0.mk (Kd.R_below HO20.out (below_drew1 (Below.refl w1025.heap.size w1025)))
  have n9_ := Aside0.mk (Kd.S_below HO23.out (below_drew1 (Below.refl w1025.heap.size w1025)))
  have n10_ := Aside0.mk (Kd.S_below HO24.out (below_drew1 (Below.refl w1025.heap.size w1025)))
  have n11_ := Aside0.mk (blk_below BK1.out (below_drew1 (Below.refl w1025.heap.size w1025)))
  have n12_ := Aside0.mk (blk_below BK2.out (below_drew1 (Below.refl w1025.heap.size w1025)))
  have n13_ := Aside0.mk (blk_below BK15.out (below_drew1 (Below.refl w1025.heap.size w1025)))
  have n14_ := Aside0.mk (blk_below BK18.out (below_drew1 (Below.refl w1025.heap.size w1025)))
  have SZ32 := Aside0.mk (show w1025.heap.size ≤ w1025.drew.heap.size from ((below_drew1 (Below.refl w1025.heap.size w1025))).size)
  clear HB HO6 HO7 HO9 HO11 HO13 HO14 HO17 HO20 HO23 HO24 BK1 BK2 BK15 BK18
  have HB := n0_
  have HO6 := n1_
  have HO7 := n2_
  have HO9 := n3_
  have HO11 := n4_
  have HO13 := n5_
  have HO14 := n6_
  have HO17 := n7_
  have HO20 := n8_
  have HO23 := n9_
  have HO24 := n10_
  have BK1 := n11_
  have BK2 := n12_
  have BK15 := n13_
  have BK18 := n14_
  clear n0_ n1_ n2_ n3_ n4_ n5_ n6_ n7_ n8_ n9_ n10_ n11_ n12_ n13_ n14_
  refine start_ (n := 5) (S := fun w' => w'.cell? ⟨g1, 0, none⟩ = some (.int .i64 a0_0) ∧ w'.cell? ⟨g1, 1, none⟩ = some (.slice A0_1 l0_1.length c0_1) ∧ w'.cell? ⟨g1, 2, none⟩ = some (.slice A0_2 l0_2.length c0_2) ∧ w'.cell? ⟨g2, 0, none⟩ = some (.int .i64 a1_0) ∧ w'.cell? ⟨g2, 1, none⟩ = some (.int .i64 a1_1) ∧ w'.cell? ⟨g2, 2, none⟩ = some (.slice A1_2 l1_2.length c1_2) ∧ w'.cell? ⟨g15, 0, none⟩ = some (.int .i64 t12_0) ∧ w'.cell? ⟨g15, 1, none⟩ = some (.slice A_13 t12_1.length c_13) ∧ w'.cell? ⟨g15, 2, none⟩ = some (.slice A_14 t12_2.length c_14) ∧ w'.cell? ⟨g18, 0, none⟩ = some (.int .i64 t16_0) ∧ w'.cell? ⟨g18, 1, none⟩ = some (.int .i64 t16_1) ∧ w'.cell? ⟨g18, 2, none⟩ = some (.slice A_17 t16_2.length c_17)) (ds := []) #[false, false, false, false, false] (by kernel_rfl) rfl rfl ⟨cz_ BK1.out 0, cz_ BK1.out 1, cz_ BK1.out 2, cz_ BK2.out 0, cz_ BK2.out 1, cz_ BK2.out 2, cz_ BK15.out 0, cz_ BK15.out 1, cz_ BK15.out 2, cz_ BK18.out 0, cz_ BK18.out 1, cz_ BK18.out 2⟩ (fun hHeld => ?_); refine with_tabW laws_FnExactMayStand.tab16 laws_FnExactMayStand.bits16 (fun HT_ HW_ => ?_)
  generalize w1025.drew = w3021 at HB HO6 HO7 HO9 HO11 HO13 HO14 HO17 HO20 HO23 HO24 BK1 BK2 BK15 BK18 SZ32 hHeld ⊢
  refine take_ (i := 0) (N := some 63) (v := ?_) (a' := ?_) #[true, false, false, false, false] rfl rfl (take_ofW HT_.out HW_.out (by kernel_rfl)) (fun _ _ _ h => h) (Or.inl ⟨by rfl, ?_⟩) hHeld ?_ ?_
  rotate_left
  · rintro w' ⟨s0, s1, s2, s3, s4, s5, s6, s7, s8, s9, s10, s11⟩
    go_simp
    with_reducible rfl
  rotate_left
  · simp only [Act.put, List.setIfInBounds_toArray, List.set_cons_zero, List.set_cons_succ, i64_w, i32_w]
    rfl
  refine take_ (i := 1) (N := some 64) (v := ?_) (a' := ?_) #[true, true, false, false, false] rfl rfl (take_ofW HT_.out HW_.out (by kernel_rfl)) (fun _ _ _ h => h) (Or.inl ⟨by rfl, ?_⟩) hHeld ?_ ?_
  rotate_left
  · rintro w' ⟨s0, s1, s2, s3, s4, s5, s6, s7, s8, s9, s10, s11⟩
    go_simp
    with_reducible rfl
  rotate_left
  · simp only [Act.put, List.setIfInBounds_toArray, List.set_cons_zero, List.set_cons_succ, i64_w, i32_w]
    rfl
  refine oS_ 2 65 HT_ (fun K hK => ?_)
  refine goes_ Try.func9 (by kernel_rfl) rfl #[.agg #[.int .i64 a1_0, .int .i64 a1_1, .slice A1_2 l1_2.length c1_2]] (by rfl) rfl rfl (by (try simp only [List.map_toArray, List.map_cons, List.map_nil]); first | done | rfl) ?_
  (with_reducible refine (laws_toField.calls k a1_0 a1_1 _ _ l1_2 t26_0 t26_1 t26_2 _ ?sd26_1 ?sd26_2 A26.out).mono ?_)
  (case sd26_1 => exact Kd.C_below HR1_2.out HB.out)
  (case sd26_2 => exact HC1_2.out)
  rintro e w1026 ⟨v_27, rfl, ho0, hb⟩
  refine ⟨_, rfl, ?_⟩
  have hs_ := below_size HB.out
  have n0_ := Aside0.mk (below_step HB.out hb)
  have n1_ := Aside0.mk (Kd.S_below HO6.out hb)
  have n2_ := Aside0.mk (Kd.S_below HO7.out hb)
  have n3_ := Aside0.mk (Kd.R_below HO9.out hb)
  have n4_ := Aside0.mk (Kd.R_below HO11.out hb)
  have n5_ := Aside0.mk (Kd.S_below HO13.out hb)
  have n6_ := Aside0.mk (Kd.S_below HO14.out hb)
  have n7_ := Aside0.mk (Kd.R_below HO17.out hb)
  have n8_ := Aside0.mk (Kd.R_below HO20.out hb)
  have n9_ := Aside0.mk (Kd.S_below HO23.out hb)
  have n10_ := Aside0.mk (Kd.S_below HO24.out hb)
  have n11_ := Aside0.mk (blk_below BK1.out hb)
  have n12_ := Aside0.mk (blk_below BK2.out hb)
  have n13_ := Aside0.mk (blk_below BK15.out hb)
  have n14_ := Aside0.mk (blk_below BK18.out hb)
  have SZ33 := Aside0.mk (show w3021.heap.size ≤ w1026.heap.size from (hb).size)
  clear HB HO6 HO7 HO9 HO11 HO13 HO14 HO17 HO20 HO23 HO24 BK1 BK2 BK15 BK18
  have HB := n0_
  have HO6 := n1_
  have HO7 := n2_
  have HO9 := n3_
  have HO11 := n4_
  have HO13 := n5_
  have HO14 := n6_
  have HO17 := n7_
  have HO20 := n8_
  have HO23 := n9_
  have HO24 := n10_
  have BK1 := n11_
  have BK2 := n12_
  have BK15 := n13_
  have BK18 := n14_
  clear n0_ n1_ n2_ n3_ n4_ n5_ n6_ n7_ n8_ n9_ n10_ n11_ n12_ n13_ n14_
  have HO27 := Aside0.mk (R_zone ho0 hs_)
  clear ho0
  obtain ⟨A_27, c_27, e_27⟩ := Kd.R_slice HO27.out
  subst e_27
  clear hb hs_
  refine hK.out _ _ ⟨cz_ BK1.out 0, cz_ BK1.out 1, cz_ BK1.out 2, cz_ BK2.out 0, cz_ BK2.out 1, cz_ BK2.out 2, cz_ BK15.out 0, cz_ BK15.out 1, cz_ BK15.out 2, cz_ BK18.out 0, cz_ BK18.out 1, cz_ BK18.out 2⟩ (fun hHeld => ?_)
  clear hK K
  refine norm_ (a' := ?_) ?_ ?_
  rotate_left
  · show Act.put _ (some 65) _ = _
    simp only [Act.put, List.setIfInBounds_toArray, List.set_cons_zero, List.set_cons_succ, i64_w, i32_w]
    rfl
  refine oS_ 3 66 HT_ (fun K hK => ?_)
  refine goes_ Try.func13 (by kernel_rfl) rfl #[.agg #[.int .i64 t16_0, .int .i64 t16_1, .slice A_17 t16_2.length c_17], .agg #[.int .i64 t26_0, .int .i64 t26_1, .slice A_27 t26_2.length c_27]] (by rfl) rfl rfl (by (try simp only [List.map_toArray, List.map_cons, List.map_nil]); first | done | rfl) ?_
  (with_reducible refine (laws_eqField.calls k t16_0 t16_1 _ _ t16_2 t26_0 t26_1 _ _ t26_2 true _ ?sd28_1 ?sd28_2 ?sd28_3 ?sd28_4 A28.out).mono ?_)
  (case sd28_1 => exact (Kd.R_reads' HO17.out).2.2)
  (case sd28_2 => exact (Kd.R_reads' HO17.out).2.1)
  (case sd28_3 => exact (Kd.R_reads' HO27.out).2.2)
  (case sd28_4 => exact (Kd.R_reads' HO27.out).2.1)
  rintro e w1028 ⟨rfl, hb⟩
  refine ⟨_, rfl, ?_⟩
  have hs_ := below_size HB.out
  have n0_ := Aside0.mk (below_step HB.out hb)
  have n1_ := Aside0.mk (Kd.S_below HO6.out hb)
  have n2_ := Aside0.mk (Kd.S_below HO7.out hb)
  have n3_ := Aside0.mk (Kd.R_below HO9.out hb)
  have n4_ := Aside0.mk (Kd.R_below HO11.out hb)
  have n5_ := Aside0.mk (Kd.S_below HO13.out hb)
  have n6_ := Aside0.mk (Kd.S_below HO14.out hb)
  have n7_ := Aside0.mk (Kd.R_below HO17.out hb)
  have n8_ := Aside0.mk (Kd.R_below HO20.out hb)
  have n9_ := Aside0.mk (Kd.S_below HO23.out hb)
  have n10_ := Aside0.mk (Kd.S_below HO24.out hb)
  have n11_ := Aside0.mk (Kd.R_below HO27.out hb)
  have n12_ := Aside0.mk (blk_below BK1.out hb)
  have n13_ := Aside0.mk (blk_below BK2.out hb)
  have n14_ := Aside0.mk (blk_below BK15.out hb)
  have n15_ := Aside0.mk (blk_below BK18.out hb)
  have SZ34 := Aside0.mk (show w1026.heap.size ≤ w1028.heap.size from (hb).size)
  clear HB HO6 HO7 HO9 HO11 HO13 HO14 HO17 HO20 HO23 HO24 HO27 BK1 BK2 BK15 BK18
  have HB := n0_
  have HO6 := n1_
  have HO7 := n2_
  have HO9 := n3_
  have HO11 := n4_
  have HO13 := n5_
  have HO14 := n6_
  have HO17 := n7_
  have HO20 := n8_
  have HO23 := n9_
  have HO24 := n10_
  have HO27 := n11_
  have BK1 := n12_
  have BK2 := n13_
  have BK15 := n14_
  have BK18 := n15_
  clear n0_ n1_ n2_ n3_ n4_ n5_ n6_ n7_ n8_ n9_ n10_ n11_ n12_ n13_ n14_ n15_
  clear hb hs_
  refine hK.out _ _ ⟨cz_ BK1.out 0, cz_ BK1.out 1, cz_ BK1.out 2, cz_ BK2.out 0, cz_ BK2.out 1, cz_ BK2.out 2, cz_ BK15.out 0, cz_ BK15.out 1, cz_ BK15.out 2, cz_ BK18.out 0, cz_ BK18.out 1, cz_ BK18.out 2⟩ (fun hHeld => ?_)
  clear hK K
  refine norm_ (a' := ?_) ?_ ?_
  rotate_left
  · show Act.put _ (some 66) _ = _
    simp only [Act.put, List.setIfInBounds_toArray, List.set_cons_zero, List.set_cons_succ, i64_w, i32_w]
    rfl
  refine pure_ (i := 4) (N := some 67) (v := ?_) (a' := ?_) #[true, true, true, true, true] rfl rfl (any_of HT_.out (by kernel_rfl)) (fun _ _ _ h => h) (Or.inl ⟨by rfl, ?_⟩) ?_ ?_
  rotate_left
  · intro w'
    go_simp
    with_reducible rfl
  rotate_left
  · simp only [Act.put, List.setIfInBounds_toArray, List.set_cons_zero, List.set_cons_succ, i64_w, i32_w]
    rfl
  refine done_ (done_of HT_.out (by kernel_rfl)) ?_
  clear hHeld
  try clear HT_ HW_
  have hx1_0 := cz_ BK1.out 0
  have hf1_0 : w1028.frozen? ⟨g1, 0, none⟩ = false := blk_frozen BK1.out 0
  have hx1_1 := cz_ BK1.out 1
  have hf1_1 : w1028.frozen? ⟨g1, 1, none⟩ = false := blk_frozen BK1.out 1
  have hx1_2 := cz_ BK1.out 2
  have hf1_2 : w1028.frozen? ⟨g1, 2, none⟩ = false := blk_frozen BK1.out 2
  have hx2_0 := cz_ BK2.out 0
  have hf2_0 : w1028.frozen? ⟨g2, 0, none⟩ = false := blk_frozen BK2.out 0
  have hx2_1 := cz_ BK2.out 1
  have hf2_1 : w1028.frozen? ⟨g2, 1, none⟩ = false := blk_frozen BK2.out 1
  have hx2_2 := cz_ BK2.out 2
  have hf2_2 : w1028.frozen? ⟨g2, 2, none⟩ = false := blk_frozen BK2.out 2
  have hx15_0 := cz_ BK15.out 0
  have hf15_0 : w1028.frozen? ⟨g15, 0, none⟩ = false := blk_frozen BK15.out 0
  have hx15_1 := cz_ BK15.out 1
  have hf15_1 : w1028.frozen? ⟨g15, 1, none⟩ = false := blk_frozen BK15.out 1
  have hx15_2 := cz_ BK15.out 2
  have hf15_2 : w1028.frozen? ⟨g15, 2, none⟩ = false := blk_frozen BK15.out 2
  have hx18_0 := cz_ BK18.out 0
  have hf18_0 : w1028.frozen? ⟨g18, 0, none⟩ = false := blk_frozen BK18.out 0
  have hx18_1 := cz_ BK18.out 1
  have hf18_1 : w1028.frozen? ⟨g18, 1, none⟩ = false := blk_frozen BK18.out 1
  have hx18_2 := cz_ BK18.out 2
  have hf18_2 : w1028.frozen? ⟨g18, 2, none⟩ = false := blk_frozen BK18.out 2
  skip
  go_upto_region 31 with (first | (go_at_call 14; (with_reducible refine (laws_markRules.callsP k t12_0 (Zone wz12_0a wz12_0b (25 :: ((Kd.slice 3 (Kd.int .i64))).E)) (.slice A_13 t12_1.length c_13) t12_1 (Zone wz12_1a wz12_1b (25 :: ((Kd.slice 3 (Kd.int .i64))).E)) (.slice A_14 t12_2.length c_14) t12_2 1 t29_0 t29_1 t29_2 w _ ?sd29_1 ?sd29_2 ?sd29_3 ?sd29_4 ?sd29_5 A29.out).mono ?_); (case sd29_1 => exact HB.out); (case sd29_2 => exact HO13.out); (case sd29_3 => exact (fun k_ h_ e_ => Zone.apart h_ e_ (by have := SZ15.out; first | exact .inl (by omega) | exact .inr (by omega)))); (case sd29_4 => exact HO14.out); (case sd29_5 => exact (fun k_ h_ e_ => Zone.apart h_ e_ (by have := SZ15.out; first | exact .inl (by omega) | exact .inr (by omega)))); rintro e w1029 ⟨rfl, hy0, hy1, hb, hkp⟩; clear hx1_0 hf1_0 hx1_1 hf1_1 hx1_2 hf1_2 hx2_0 hf2_0 hx2_1 hf2_1 hx2_2 hf2_2 hx15_0 hf15_0 hx15_1 hf15_1 hx15_2 hf15_2 hx18_0 hf18_0 hx18_1 hf18_1 hx18_2 hf18_2; have n0_ := Aside0.mk (hb); have n1_ := Aside0.mk (Kd.S_step HO6.out (fun k_ h_ hlt_ => hkp.2 k_ hlt_ (fun e_ => Or.elim e_ (fun e1_ => (show False from Zone.apart h_ e1_ (by have := SZ8.out; have := SZ9.out; have := SZ10.out; have := SZ11.out; have := SZ12.out; have := SZ13.out; first | exact .inl (by omega) | exact .inr (by omega))).elim) (fun e_ => (show False from Zone.apart h_ e_ (by have := SZ8.out; have := SZ9.out; have := SZ10.out; have := SZ11.out; have := SZ12.out; have := SZ13.out; have := SZ14.out; have := SZ15.out; first | exact .inl (by omega) | exact .inr (by omega))).elim)))); have n2_ := Aside0.mk (Kd.S_step HO7.out (fun k_ h_ hlt_ => hkp.2 k_ hlt_ (fun e_ => Or.elim e_ (fun e1_ => (show False from Zone.apart h_ e1_ (by have := SZ10.out; have := SZ11.out; have := SZ12.out; have := SZ13.out; first | exact .inl (by omega) | exact .inr (by omega))).elim) (fun e_ => (show False from Zone.apart h_ e_ (by have := SZ10.out; have := SZ11.out; have := SZ12.out; have := SZ13.out; have := SZ14.out; have := SZ15.out; first | exact .inl (by omega) | exact .inr (by omega))).elim)))); have n3_ := Aside0.mk (Kd.R_step HO9.out (fun k_ h_ hlt_ => hkp.2 k_ hlt_ (fun e_ => Or.elim e_ (fun e1_ => (show False from Zone.apart h_ e1_ (by have := SZ12.out; have := SZ13.out; first | exact .inl (by omega) | exact .inr (by omega))).elim) (fun e_ => (show False from Zone.apart h_ e_ (by have := SZ12.out; have := SZ13.out; have := SZ14.out; have := SZ15.out; first | exact .inl (by omega) | exact .inr (by omega))).elim)))); have n4_ := Aside0.mk (Kd.R_step HO11.out (fun k_ h_ hlt_ => hkp.2 k_ hlt_ (fun e_ => Or.elim e_ (fun e1_ => (show False from Zone.apart h_ e1_ (by have := SZ13.out; first | exact .inl (by omega) | exact .inr (by omega))).elim) (fun e_ => (show False from Zone.apart h_ e_ (by have := SZ13.out; have := SZ14.out; have := SZ15.out; first | exact .inl (by omega) | exact .inr (by omega))).elim)))); have n5_ := Aside0.mk (hy0); have n6_ := Aside0.mk (hy1); have n7_ := Aside0.mk (Kd.R_step HO17.out (fun k_ h_ hlt_ => hkp.2 k_ hlt_ (fun e_ => Or.elim e_ (fun e1_ => (show False from Zone.apart h_ e1_ (by have := SZ15.out; have := SZ16.out; have := SZ17.out; have := SZ18.out; have := SZ19.out; first | exact .inl (by omega) | exact .inr (by omega))).elim) (fun e_ => (show False from Zone.apart h_ e_ (by have := SZ17.out; have := SZ18.out; have := SZ19.out; first | exact .inl (by omega) | exact .inr (by omega))).elim)))); have n8_ := Aside0.mk (Kd.R_step HO20.out (fun k_ h_ hlt_ => hkp.2 k_ hlt_ (fun e_ => Or.elim e_ (fun e1_ => (show False from Zone.apart h_ e1_ (by have := SZ15.out; have := SZ16.out; have := SZ17.out; have := SZ18.out; have := SZ19.out; have := SZ20.out; have := SZ21.out; have := SZ22.out; first | exact .inl (by omega) | exact .inr (by omega))).elim) (fun e_ => (show False from Zone.apart h_ e_ (by have := SZ17.out; have := SZ18.out; have := SZ19.out; have := SZ20.out; have := SZ21.out; have := SZ22.out; first | exact .inl (by omega) | exact .inr (by omega))).elim)))); have n9_ := Aside0.mk (Kd.S_step HO23.out (fun k_ h_ hlt_ => hkp.2 k_ hlt_ (fun e_ => Or.elim e_ (fun e1_ => (show False from Zone.apart h_ e1_ (by have := SZ15.out; have := SZ16.out; have := SZ17.out; have := SZ18.out; have := SZ19.out; have := SZ20.out; have := SZ21.out; have := SZ22.out; have := SZ23.out; have := SZ24.out; have := SZ25.out; have := SZ26.out; first | exact .inl (by omega) | exact .inr (by omega))).elim) (fun e_ => (show False from Zone.apart h_ e_ (by have := SZ17.out; have := SZ18.out; have := SZ19.out; have := SZ20.out; have := SZ21.out; have := SZ22.out; have := SZ23.out; have := SZ24.out; have := SZ25.out; have := SZ26.out; first | exact .inl (by omega) | exact .inr (by omega))).elim)))); have n10_ := Aside0.mk (Kd.S_step HO24.out (fun k_ h_ hlt_ => hkp.2 k_ hlt_ (fun e_ => Or.elim e_ (fun e1_ => (show False from Zone.apart h_ e1_ (by have := SZ15.out; have := SZ16.out; have := SZ17.out; have := SZ18.out; have := SZ19.out; have := SZ20.out; have := SZ21.out; have := SZ22.out; have := SZ23.out; have := SZ24.out; have := SZ25.out; have := SZ26.out; have := SZ27.out; have := SZ28.out; first | exact .inl (by omega) | exact .inr (by omega))).elim) (fun e_ => (show False from Zone.apart h_ e_ (by have := SZ17.out; have := SZ18.out; have := SZ19.out; have := SZ20.out; have := SZ21.out; have := SZ22.out; have := SZ23.out; have := SZ24.out; have := SZ25.out; have := SZ26.out; have := SZ27.out; have := SZ28.out; first | exact .inl (by omega) | exact .inr (by omega))).elim)))); have n11_ := Aside0.mk (Kd.R_step HO27.out (fun k_ h_ hlt_ => hkp.2 k_ hlt_ (fun e_ => Or.elim e_ (fun e1_ => (show False from Zone.apart h_ e1_ (by have := SZ15.out; have := SZ16.out; have := SZ17.out; have := SZ18.out; have := SZ19.out; have := SZ20.out; have := SZ21.out; have := SZ22.out; have := SZ23.out; have := SZ24.out; have := SZ25.out; have := SZ26.out; have := SZ27.out; have := SZ28.out; have := SZ29.out; have := SZ30.out; have := SZ31.out; have := SZ32.out; first | exact .inl (by omega) | exact .inr (by omega))).elim) (fun e_ => (show False from Zone.apart h_ e_ (by have := SZ17.out; have := SZ18.out; have := SZ19.out; have := SZ20.out; have := SZ21.out; have := SZ22.out; have := SZ23.out; have := SZ24.out; have := SZ25.out; have := SZ26.out; have := SZ27.out; have := SZ28.out; have := SZ29.out; have := SZ30.out; have := SZ31.out; have := SZ32.out; first | exact .inl (by omega) | exact .inr (by omega))).elim)))); have n12_ := Aside0.mk ((hkp.2 g1 (blk_lt BK1.out) (fun e_ => Or.elim e_ (fun e1_ => (show False from Zone.notblk e1_ rfl (by have := GL1.out; have := GU1.out; have := SZ2.out; have := SZ3.out; have := SZ4.out; have := SZ5.out; have := SZ6.out; have := SZ7.out; have := SZ8.out; have := SZ9.out; have := SZ10.out; have := SZ11.out; have := SZ12.out; have := SZ13.out; first | exact .inl (by omega) | exact .inr (by omega))).elim) (fun e_ => (show False from Zone.notblk e_ rfl (by have := GL1.out; have := GU1.out; have := SZ2.out; have := SZ3.out; have := SZ4.out; have := SZ5.out; have := SZ6.out; have := SZ7.out; have := SZ8.out; have := SZ9.out; have := SZ10.out; have := SZ11.out; have := SZ12.out; have := SZ13.out; have := SZ14.out; have := SZ15.out; first | exact .inl (by omega) | exact .inr (by omega))).elim))).trans BK1.out); have n13_ := Aside0.mk ((hkp.2 g2 (blk_lt BK2.out) (fun e_ => Or.elim e_ (fun e1_ => (show False from Zone.notblk e1_ rfl (by have := GL2.out; have := GU2.out; have := SZ3.out; have := SZ4.out; have := SZ5.out; have := SZ6.out; have := SZ7.out; have := SZ8.out; have := SZ9.out; have := SZ10.out; have := SZ11.out; have := SZ12.out; have := SZ13.out; first | exact .inl (by omega) | exact .inr (by omega))).elim) (fun e_ => (show False from Zone.notblk e_ rfl (by have := GL2.out; have := GU2.out; have := SZ3.out; have := SZ4.out; have := SZ5.out; have := SZ6.out; have := SZ7.out; have := SZ8.out; have := SZ9.out; have := SZ10.out; have := SZ11.out; have := SZ12.out; have := SZ13.out; have := SZ14.out; have := SZ15.out; first | exact .inl (by omega) | exact .inr (by omega))).elim))).trans BK2.out); have n14_ := Aside0.mk ((hkp.2 g15 (blk_lt BK15.out) (fun e_ => Or.elim e_ (fun e1_ => (show False from Zone.notblk e1_ rfl (by have := GL15.out; have := GU15.out; have := SZ15.out; have := SZ16.out; have := SZ17.out; first | exact .inl (by omega) | exact .inr (by omega))).elim) (fun e_ => (show False from Zone.notblk e_ rfl (by have := GL15.out; have := GU15.out; have := SZ17.out; first | exact .inl (by omega) | exact .inr (by omega))).elim))).trans BK15.out); have n15_ := Aside0.mk ((hkp.2 g18 (blk_lt BK18.out) (fun e_ => Or.elim e_ (fun e1_ => (show False from Zone.notblk e1_ rfl (by have := GL18.out; have := GU18.out; have := SZ15.out; have := SZ16.out; have := SZ17.out; have := SZ18.out; have := SZ19.out; have := SZ20.out; first | exact .inl (by omega) | exact .inr (by omega))).elim) (fun e_ => (show False from Zone.notblk e_ rfl (by have := GL18.out; have := GU18.out; have := SZ17.out; have := SZ18.out; have := SZ19.out; have := SZ20.out; first | exact .inl (by omega) | exact .inr (by omega))).elim))).trans BK18.out); have SZ35 := Aside0.mk (show w1028.heap.size ≤ w1029.heap.size from hkp.1); clear HB HO6 HO7 HO9 HO11 HO13 HO14 HO17 HO20 HO23 HO24 HO27 BK1 BK2 BK15 BK18; have HB := n0_; have HO6 := n1_; have HO7 := n2_; have HO9 := n3_; have HO11 := n4_; have HO13 := n5_; have HO14 := n6_; have HO17 := n7_; have HO20 := n8_; have HO23 := n9_; have HO24 := n10_; have HO27 := n11_; have BK1 := n12_; have BK2 := n13_; have BK15 := n14_; have BK18 := n15_; clear n0_ n1_ n2_ n3_ n4_ n5_ n6_ n7_ n8_ n9_ n10_ n11_ n12_ n13_ n14_ n15_; clear hb hkp hy0 hy1; have hx1_0 := cz_ BK1.out 0; have hf1_0 : w1029.frozen? ⟨g1, 0, none⟩ = false := blk_frozen BK1.out 0; have hx1_1 := cz_ BK1.out 1; have hf1_1 : w1029.frozen? ⟨g1, 1, none⟩ = false := blk_frozen BK1.out 1; have hx1_2 := cz_ BK1.out 2; have hf1_2 : w1029.frozen? ⟨g1, 2, none⟩ = false := blk_frozen BK1.out 2; have hx2_0 := cz_ BK2.out 0; have hf2_0 : w1029.frozen? ⟨g2, 0, none⟩ = false := blk_frozen BK2.out 0; have hx2_1 := cz_ BK2.out 1; have hf2_1 : w1029.frozen? ⟨g2, 1, none⟩ = false := blk_frozen BK2.out 1; have hx2_2 := cz_ BK2.out 2; have hf2_2 : w1029.frozen? ⟨g2, 2, none⟩ = false := blk_frozen BK2.out 2; have hx15_0 := cz_ BK15.out 0; have hf15_0 : w1029.frozen? ⟨g15, 0, none⟩ = false := blk_frozen BK15.out 0; have hx15_1 := cz_ BK15.out 1; have hf15_1 : w1029.frozen? ⟨g15, 1, none⟩ = false := blk_frozen BK15.out 1; have hx15_2 := cz_ BK15.out 2; have hf15_2 : w1029.frozen? ⟨g15, 2, none⟩ = false := blk_frozen BK15.out 2; have hx18_0 := cz_ BK18.out 0; have hf18_0 : w1029.frozen? ⟨g18, 0, none⟩ = false := blk_frozen BK18.out 0; have hx18_1 := cz_ BK18.out 1; have hf18_1 : w1029.frozen? ⟨g18, 1, none⟩ = false := blk_frozen BK18.out 1; have hx18_2 := cz_ BK18.out 2; have hf18_2 : w1029.frozen? ⟨g18, 2, none⟩ = false := blk_frozen BK18.out 2) | (go_at_call 15; (with_reducible refine (laws_markField.calls k t16_0 t16_1 (Zone w2011 w1016 (3 :: ((Kd.int .i64)).E)) (.slice A_17 t16_2.length c_17) t16_2 t29_0 t30_0 t30_1 w _ ?sd30_1 ?sd30_2 A30.out).mono ?_); (case sd30_1 => exact HB.out); (case sd30_2 => exact HO17.out); rintro e w1030 ⟨rfl, hy0, hb, hkp⟩; clear hx1_0 hf1_0 hx1_1 hf1_1 hx1_2 hf1_2 hx2_0 hf2_0 hx2_1 hf2_1 hx2_2 hf2_2 hx15_0 hf15_0 hx15_1 hf15_1 hx15_2 hf15_2 hx18_0 hf18_0 hx18_1 hf18_1 hx18_2 hf18_2; have n0_ := Aside0.mk (hb); have n1_ := Aside0.mk (Kd.S_step HO6.out (fun k_ h_ hlt_ => hkp.2 k_ hlt_ (fun e_ => (show False from Zone.apart h_ e_ (by have := SZ8.out; have := SZ9.out; have := SZ10.out; have := SZ11.out; have := SZ12.out; have := SZ13.out; have := SZ14.out; have := SZ15.out; have := SZ16.out; have := SZ17.out; have := SZ18.out; have := SZ19.out; first | exact .inl (by omega) | exact .inr (by omega))).elim))); have n2_ := Aside0.mk (Kd.S_step HO7.out (fun k_ h_ hlt_ => hkp.2 k_ hlt_ (fun e_ => (show False from Zone.apart h_ e_ (by have := SZ10.out; have := SZ11.out; have := SZ12.out; have := SZ13.out; have := SZ14.out; have := SZ15.out; have := SZ16.out; have := SZ17.out; have := SZ18.out; have := SZ19.out; first | exact .inl (by omega) | exact .inr (by omega))).elim))); have n3_ := Aside0.mk (Kd.R_step HO9.out (fun k_ h_ hlt_ => hkp.2 k_ hlt_ (fun e_ => (show False from Zone.apart h_ e_ (by have := SZ12.out; have := SZ13.out; have := SZ14.out; have := SZ15.out; have := SZ16.out; have := SZ17.out; have := SZ18.out; have := SZ19.out; first | exact .inl (by omega) | exact .inr (by omega))).elim))); have n4_ := Aside0.mk (Kd.R_step HO11.out (fun k_ h_ hlt_ => hkp.2 k_ hlt_ (fun e_ => (show False from Zone.apart h_ e_ (by have := SZ13.out; have := SZ14.out; have := SZ15.out; have := SZ16.out; have := SZ17.out; have := SZ18.out; have := SZ19.out; first | exact .inl (by omega) | exact .inr (by omega))).elim))); have n5_ := Aside0.mk (Kd.S_step HO13.out (fun k_ h_ hlt_ => hkp.2 k_ hlt_ (fun e_ => (show False from Zone.apart h_ e_ (by have := SZ15.out; have := SZ16.out; have := SZ17.out; have := SZ18.out; have := SZ19.out; first | exact .inl (by omega) | exact .inr (by omega))).elim))); have n6_ := Aside0.mk (Kd.S_step HO14.out (fun k_ h_ hlt_ => hkp.2 k_ hlt_ (fun e_ => (show False from Zone.apart h_ e_ (by have := SZ17.out; have := SZ18.out; have := SZ19.out; first | exact .inl (by omega) | exact .inr (by omega))).elim))); have n7_ := Aside0.mk (Kd.R_reok rfl hy0 HO17.out.1); have n8_ := Aside0.mk (Kd.R_step HO20.out (fun k_ h_ hlt_ => hkp.2 k_ hlt_ (fun e_ => (show False from Zone.apart h_ e_ (by have := SZ21.out; have := SZ22.out; first | exact .inl (by omega) | exact .inr (by omega))).elim))); have n9_ := Aside0.mk (Kd.S_step HO23.out (fun k_ h_ hlt_ => hkp.2 k_ hlt_ (fun e_ => (show False from Zone.apart h_ e_ (by have := SZ21.out; have := SZ22.out; have := SZ23.out; have := SZ24.out; have := SZ25.out; have := SZ26.out; first | exact .inl (by omega) | exact .inr (by omega))).elim))); have n10_ := Aside0.mk (Kd.S_step HO24.out (fun k_ h_ hlt_ => hkp.2 k_ hlt_ (fun e_ => (show False from Zone.apart h_ e_ (by have := SZ21.out; have := SZ22.out; have := SZ23.out; have := SZ24.out; have := SZ25.out; have := SZ26.out; have := SZ27.out; have := SZ28.out; first | exact .inl (by omega) | exact .inr (by omega))).elim))); have n11_ := Aside0.mk (Kd.R_step HO27.out (fun k_ h_ hlt_ => hkp.2 k_ hlt_ (fun e_ => (show False from Zone.apart h_ e_ (by have := SZ21.out; have := SZ22.out; have := SZ23.out; have := SZ24.out; have := SZ25.out; have := SZ26.out; have := SZ27.out; have := SZ28.out; have := SZ29.out; have := SZ30.out; have := SZ31.out; have := SZ32.out; first | exact .inl (by omega) | exact .inr (by omega))).elim))); have n12_ := Aside0.mk ((hkp.2 g1 (blk_lt BK1.out) (fun e_ => (show False from Zone.notblk e_ rfl (by have := GL1.out; have := GU1.out; have := SZ2.out; have := SZ3.out; have := SZ4.out; have := SZ5.out; have := SZ6.out; have := SZ7.out; have := SZ8.out; have := SZ9.out; have := SZ10.out; have := SZ11.out; have := SZ12.out; have := SZ13.out; have := SZ14.out; have := SZ15.out; have := SZ16.out; have := SZ17.out; have := SZ18.out; have := SZ19.out; first | exact .inl (by omega) | exact .inr (by omega))).elim)).trans BK1.out); have n13_ := Aside0.mk ((hkp.2 g2 (blk_lt BK2.out) (fun e_ => (show False from Zone.notblk e_ rfl (by have := GL2.out; have := GU2.out; have := SZ3.out; have := SZ4.out; have := SZ5.out; have := SZ6.out; have := SZ7.out; have := SZ8.out; have := SZ9.out; have := SZ10.out; have := SZ11.out; have := SZ12.out; have := SZ13.out; have := SZ14.out; have := SZ15.out; have := SZ16.out; have := SZ17.out; have := SZ18.out; have := SZ19.out; first | exact .inl (by omega) | exact .inr (by omega))).elim)).trans BK2.out); have n14_ := Aside0.mk ((hkp.2 g15 (blk_lt BK15.out) (fun e_ => (show False from Zone.notblk e_ rfl (by have := GL15.out; have := GU15.out; have := SZ19.out; first | exact .inl (by omega) | exact .inr (by omega))).elim)).trans BK15.out); have n15_ := Aside0.mk ((hkp.2 g18 (blk_lt BK18.out) (fun e_ => (show False from Zone.notblk e_ rfl (by have := GL18.out; have := GU18.out; first | exact .inl (by omega) | exact .inr (by omega))).elim)).trans BK18.out); have SZ36 := Aside0.mk (show w1029.heap.size ≤ w1030.heap.size from hkp.1); clear HB HO6 HO7 HO9 HO11 HO13 HO14 HO17 HO20 HO23 HO24 HO27 BK1 BK2 BK15 BK18; have HB := n0_; have HO6 := n1_; have HO7 := n2_; have HO9 := n3_; have HO11 := n4_; have HO13 := n5_; have HO14 := n6_; have HO17 := n7_; have HO20 := n8_; have HO23 := n9_; have HO24 := n10_; have HO27 := n11_; have BK1 := n12_; have BK2 := n13_; have BK15 := n14_; have BK18 := n15_; clear n0_ n1_ n2_ n3_ n4_ n5_ n6_ n7_ n8_ n9_ n10_ n11_ n12_ n13_ n14_ n15_; clear hb hkp hy0; have hx1_0 := cz_ BK1.out 0; have hf1_0 : w1030.frozen? ⟨g1, 0, none⟩ = false := blk_frozen BK1.out 0; have hx1_1 := cz_ BK1.out 1; have hf1_1 : w1030.frozen? ⟨g1, 1, none⟩ = false := blk_frozen BK1.out 1; have hx1_2 := cz_ BK1.out 2; have hf1_2 : w1030.frozen? ⟨g1, 2, none⟩ = false := blk_frozen BK1.out 2; have hx2_0 := cz_ BK2.out 0; have hf2_0 : w1030.frozen? ⟨g2, 0, none⟩ = false := blk_frozen BK2.out 0; have hx2_1 := cz_ BK2.out 1; have hf2_1 : w1030.frozen? ⟨g2, 1, none⟩ = false := blk_frozen BK2.out 1; have hx2_2 := cz_ BK2.out 2; have hf2_2 : w1030.frozen? ⟨g2, 2, none⟩ = false := blk_frozen BK2.out 2; have hx15_0 := cz_ BK15.out 0; have hf15_0 : w1030.frozen? ⟨g15, 0, none⟩ = false := blk_frozen BK15.out 0; have hx15_1 := cz_ BK15.out 1; have hf15_1 : w1030.frozen? ⟨g15, 1, none⟩ = false := blk_frozen BK15.out 1; have hx15_2 := cz_ BK15.out 2; have hf15_2 : w1030.frozen? ⟨g15, 2, none⟩ = false := blk_frozen BK15.out 2; have hx18_0 := cz_ BK18.out 0; have hf18_0 : w1030.frozen? ⟨g18, 0, none⟩ = false := blk_frozen BK18.out 0; have hx18_1 := cz_ BK18.out 1; have hf18_1 : w1030.frozen? ⟨g18, 1, none⟩ = false := blk_frozen BK18.out 1; have hx18_2 := cz_ BK18.out 2; have hf18_2 : w1030.frozen? ⟨g18, 2, none⟩ = false := blk_frozen BK18.out 2) | (go_at_call 11; (with_reducible refine (laws_eqIntS.calls k _ _ t19_0 _ _ t10_0 true _ ?sd31_1 ?sd31_2 ?sd31_3 ?sd31_4 A31.out).mono ?_); (case sd31_1 => exact (Kd.R_reads' HO20.out).2.2); (case sd31_2 => exact (Kd.R_reads' HO20.out).2.1); (case sd31_3 => exact (Kd.R_reads' HO11.out).2.2); (case sd31_4 => exact (Kd.R_reads' HO11.out).2.1); rintro e w1031 ⟨rfl, hd⟩; have hb := hd.below; clear hd; have hs_ := below_size HB.out; clear hx1_0 hf1_0 hx1_1 hf1_1 hx1_2 hf1_2 hx2_0 hf2_0 hx2_1 hf2_1 hx2_2 hf2_2 hx15_0 hf15_0 hx15_1 hf15_1 hx15_2 hf15_2 hx18_0 hf18_0 hx18_1 hf18_1 hx18_2 hf18_2; have n0_ := Aside0.mk (below_step HB.out hb); have n1_ := Aside0.mk (Kd.S_below HO6.out hb); have n2_ := Aside0.mk (Kd.S_below HO7.out hb); have n3_ := Aside0.mk (Kd.R_below HO9.out hb); have n4_ := Aside0.mk (Kd.R_below HO11.out hb); have n5_ := Aside0.mk (Kd.S_below HO13.out hb); have n6_ := Aside0.mk (Kd.S_below HO14.out hb); have n7_ := Aside0.mk (Kd.R_below HO17.out hb); have n8_ := Aside0.mk (Kd.R_below HO20.out hb); have n9_ := Aside0.mk (Kd.S_below HO23.out hb); have n10_ := Aside0.mk (Kd.S_below HO24.out hb); have n11_ := Aside0.mk (Kd.R_below HO27.out hb); have n12_ := Aside0.mk (blk_below BK1.out hb); have n13_ := Aside0.mk (blk_below BK2.out hb); have n14_ := Aside0.mk (blk_below BK15.out hb); have n15_ := Aside0.mk (blk_below BK18.out hb); have SZ37 := Aside0.mk (show w1030.heap.size ≤ w1031.heap.size from (hb).size); clear HB HO6 HO7 HO9 HO11 HO13 HO14 HO17 HO20 HO23 HO24 HO27 BK1 BK2 BK15 BK18; have HB := n0_; have HO6 := n1_; have HO7 := n2_; have HO9 := n3_; have HO11 := n4_; have HO13 := n5_; have HO14 := n6_; have HO17 := n7_; have HO20 := n8_; have HO23 := n9_; have HO24 := n10_; have HO27 := n11_; have BK1 := n12_; have BK2 := n13_; have BK15 := n14_; have BK18 := n15_; clear n0_ n1_ n2_ n3_ n4_ n5_ n6_ n7_ n8_ n9_ n10_ n11_ n12_ n13_ n14_ n15_; clear hb hs_; have hx1_0 := cz_ BK1.out 0; have hf1_0 : w1031.frozen? ⟨g1, 0, none⟩ = false := blk_frozen BK1.out 0; have hx1_1 := cz_ BK1.out 1; have hf1_1 : w1031.frozen? ⟨g1, 1, none⟩ = false := blk_frozen BK1.out 1; have hx1_2 := cz_ BK1.out 2; have hf1_2 : w1031.frozen? ⟨g1, 2, none⟩ = false := blk_frozen BK1.out 2; have hx2_0 := cz_ BK2.out 0; have hf2_0 : w1031.frozen? ⟨g2, 0, none⟩ = false := blk_frozen BK2.out 0; have hx2_1 := cz_ BK2.out 1; have hf2_1 : w1031.frozen? ⟨g2, 1, none⟩ = false := blk_frozen BK2.out 1; have hx2_2 := cz_ BK2.out 2; have hf2_2 : w1031.frozen? ⟨g2, 2, none⟩ = false := blk_frozen BK2.out 2; have hx15_0 := cz_ BK15.out 0; have hf15_0 : w1031.frozen? ⟨g15, 0, none⟩ = false := blk_frozen BK15.out 0; have hx15_1 := cz_ BK15.out 1; have hf15_1 : w1031.frozen? ⟨g15, 1, none⟩ = false := blk_frozen BK15.out 1; have hx15_2 := cz_ BK15.out 2; have hf15_2 : w1031.frozen? ⟨g15, 2, none⟩ = false := blk_frozen BK15.out 2; have hx18_0 := cz_ BK18.out 0; have hf18_0 : w1031.frozen? ⟨g18, 0, none⟩ = false := blk_frozen BK18.out 0; have hx18_1 := cz_ BK18.out 1; have hf18_1 : w1031.frozen? ⟨g18, 1, none⟩ = false := blk_frozen BK18.out 1; have hx18_2 := cz_ BK18.out 2; have hf18_2 : w1031.frozen? ⟨g18, 2, none⟩ = false := blk_frozen BK18.out 2) | (go_at_call 16; (with_reducible refine (laws_markIntS.calls k (Zone w2014 w1019 (3 :: ((Kd.int .i64)).E)) (.slice A_20 t19_0.length c_20) t19_0 1 t42 t32_1 w _ ?sd32_1 ?sd32_2 A32.out).mono ?_); (case sd32_1 => exact HB.out); (case sd32_2 => exact HO20.out); rintro e w1032 ⟨rfl, hy0, hb, hkp⟩; clear hx1_0 hf1_0 hx1_1 hf1_1 hx1_2 hf1_2 hx2_0 hf2_0 hx2_1 hf2_1 hx2_2 hf2_2 hx15_0 hf15_0 hx15_1 hf15_1 hx15_2 hf15_2 hx18_0 hf18_0 hx18_1 hf18_1 hx18_2 hf18_2; have n0_ := Aside0.mk (hb); have n1_ := Aside0.mk (Kd.S_step HO6.out (fun k_ h_ hlt_ => hkp.2 k_ hlt_ (fun e_ => (show False from Zone.apart h_ e_ (by have := SZ8.out; have := SZ9.out; have := SZ10.out; have := SZ11.out; have := SZ12.out; have := SZ13.out; have := SZ14.out; have := SZ15.out; have := SZ16.out; have := SZ17.out; have := SZ18.out; have := SZ19.out; have := SZ20.out; have := SZ21.out; have := SZ22.out; first | exact .inl (by omega) | exact .inr (by omega))).elim))); have n2_ := Aside0.mk (Kd.S_step HO7.out (fun k_ h_ hlt_ => hkp.2 k_ hlt_ (fun e_ => (show False from Zone.apart h_ e_ (by have := SZ10.out; have := SZ11.out; have := SZ12.out; have := SZ13.out; have := SZ14.out; have := SZ15.out; have := SZ16.out; have := SZ17.out; have := SZ18.out; have := SZ19.out; have := SZ20.out; have := SZ21.out; have := SZ22.out; first | exact .inl (by omega) | exact .inr (by omega))).elim))); have n3_ := Aside0.mk (Kd.R_step HO9.out (fun k_ h_ hlt_ => hkp.2 k_ hlt_ (fun e_ => (show False from Zone.apart h_ e_ (by have := SZ12.out; have := SZ13.out; have := SZ14.out; have := SZ15.out; have := SZ16.out; have := SZ17.out; have := SZ18.out; have := SZ19.out; have := SZ20.out; have := SZ21.out; have := SZ22.out; first | exact .inl (by omega) | exact .inr (by omega))).elim))); have n4_ := Aside0.mk (Kd.R_step HO11.out (fun k_ h_ hlt_ => hkp.2 k_ hlt_ (fun e_ => (show False from Zone.apart h_ e_ (by have := SZ13.out; have := SZ14.out; have := SZ15.out; have := SZ16.out; have := SZ17.out; have := SZ18.out; have := SZ19.out; have := SZ20.out; have := SZ21.out; have := SZ22.out; first | exact .inl (by omega) | exact .inr (by omega))).elim))); have n5_ := Aside0.mk (Kd.S_step HO13.out (fun k_ h_ hlt_ => hkp.2 k_ hlt_ (fun e_ => (show False from Zone.apart h_ e_ (by have := SZ15.out; have := SZ16.out; have := SZ17.out; have := SZ18.out; have := SZ19.out; have := SZ20.out; have := SZ21.out; have := SZ22.out; first | exact .inl (by omega) | exact .inr (by omega))).elim))); have n6_ := Aside0.mk (Kd.S_step HO14.out (fun k_ h_ hlt_ => hkp.2 k_ hlt_ (fun e_ => (show False from Zone.apart h_ e_ (by have := SZ17.out; have := SZ18.out; have := SZ19.out; have := SZ20.out; have := SZ21.out; have := SZ22.out; first | exact .inl (by omega) | exact .inr (by omega))).elim))); have n7_ := Aside0.mk (Kd.R_step HO17.out (fun k_ h_ hlt_ => hkp.2 k_ hlt_ (fun e_ => (show False from Zone.apart h_ e_ (by have := SZ21.out; have := SZ22.out; first | exact .inl (by omega) | exact .inr (by omega))).elim))); have n8_ := Aside0.mk (Kd.R_reok rfl hy0 HO20.out.1); have n9_ := Aside0.mk (Kd.S_step HO23.out (fun k_ h_ hlt_ => hkp.2 k_ hlt_ (fun e_ => (show False from Zone.apart h_ e_ (by have := SZ24.out; have := SZ25.out; have := SZ26.out; first | exact .inl (by omega) | exact .inr (by omega))).elim))); have n10_ := Aside0.mk (Kd.S_step HO24.out (fun k_ h_ hlt_ => hkp.2 k_ hlt_ (fun e_ => (show False from Zone.apart h_ e_ (by have := SZ24.out; have := SZ25.out; have := SZ26.out; have := SZ27.out; have := SZ28.out; first | exact .inl (by omega) | exact .inr (by omega))).elim))); have n11_ := Aside0.mk (Kd.R_step HO27.out (fun k_ h_ hlt_ => hkp.2 k_ hlt_ (fun e_ => (show False from Zone.apart h_ e_ (by have := SZ24.out; have := SZ25.out; have := SZ26.out; have := SZ27.out; have := SZ28.out; have := SZ29.out; have := SZ30.out; have := SZ31.out; have := SZ32.out; first | exact .inl (by omega) | exact .inr (by omega))).elim))); have n12_ := Aside0.mk ((hkp.2 g1 (blk_lt BK1.out) (fun e_ => (show False from Zone.notblk e_ rfl (by have := GL1.out; have := GU1.out; have := SZ2.out; have := SZ3.out; have := SZ4.out; have := SZ5.out; have := SZ6.out; have := SZ7.out; have := SZ8.out; have := SZ9.out; have := SZ10.out; have := SZ11.out; have := SZ12.out; have := SZ13.out; have := SZ14.out; have := SZ15.out; have := SZ16.out; have := SZ17.out; have := SZ18.out; have := SZ19.out; have := SZ20.out; have := SZ21.out; have := SZ22.out; first | exact .inl (by omega) | exact .inr (by omega))).elim)).trans BK1.out); have n13_ := Aside0.mk ((hkp.2 g2 (blk_lt BK2.out) (fun e_ => (show False from Zone.notblk e_ rfl (by have := GL2.out; have := GU2.out; have := SZ3.out; have := SZ4.out; have := SZ5.out; have := SZ6.out; have := SZ7.out; have := SZ8.out; have := SZ9.out; have := SZ10.out; have := SZ11.out; have := SZ12.out; have := SZ13.out; have := SZ14.out; have := SZ15.out; have := SZ16.out; have := SZ17.out; have := SZ18.out; have := SZ19.out; have := SZ20.out; have := SZ21.out; have := SZ22.out; first | exact .inl (by omega) | exact .inr (by omega))).elim)).trans BK2.out); have n14_ := Aside0.mk ((hkp.2 g15 (blk_lt BK15.out) (fun e_ => (show False from Zone.notblk e_ rfl (by have := GL15.out; have := GU15.out; have := SZ19.out; have := SZ20.out; have := SZ21.out; have := SZ22.out; first | exact .inl (by omega) | exact .inr (by omega))).elim)).trans BK15.out); have n15_ := Aside0.mk ((hkp.2 g18 (blk_lt BK18.out) (fun e_ => (show False from Zone.notblk e_ rfl (by have := GL18.out; have := GU18.out; have := SZ22.out; first | exact .inl (by omega) | exact .inr (by omega))).elim)).trans BK18.out); have SZ38 := Aside0.mk (show w1031.heap.size ≤ w1032.heap.size from hkp.1); clear HB HO6 HO7 HO9 HO11 HO13 HO14 HO17 HO20 HO23 HO24 HO27 BK1 BK2 BK15 BK18; have HB := n0_; have HO6 := n1_; have HO7 := n2_; have HO9 := n3_; have HO11 := n4_; have HO13 := n5_; have HO14 := n6_; have HO17 := n7_; have HO20 := n8_; have HO23 := n9_; have HO24 := n10_; have HO27 := n11_; have BK1 := n12_; have BK2 := n13_; have BK15 := n14_; have BK18 := n15_; clear n0_ n1_ n2_ n3_ n4_ n5_ n6_ n7_ n8_ n9_ n10_ n11_ n12_ n13_ n14_ n15_; clear hb hkp hy0; have hx1_0 := cz_ BK1.out 0; have hf1_0 : w1032.frozen? ⟨g1, 0, none⟩ = false := blk_frozen BK1.out 0; have hx1_1 := cz_ BK1.out 1; have hf1_1 : w1032.frozen? ⟨g1, 1, none⟩ = false := blk_frozen BK1.out 1; have hx1_2 := cz_ BK1.out 2; have hf1_2 : w1032.frozen? ⟨g1, 2, none⟩ = false := blk_frozen BK1.out 2; have hx2_0 := cz_ BK2.out 0; have hf2_0 : w1032.frozen? ⟨g2, 0, none⟩ = false := blk_frozen BK2.out 0; have hx2_1 := cz_ BK2.out 1; have hf2_1 : w1032.frozen? ⟨g2, 1, none⟩ = false := blk_frozen BK2.out 1; have hx2_2 := cz_ BK2.out 2; have hf2_2 : w1032.frozen? ⟨g2, 2, none⟩ = false := blk_frozen BK2.out 2; have hx15_0 := cz_ BK15.out 0; have hf15_0 : w1032.frozen? ⟨g15, 0, none⟩ = false := blk_frozen BK15.out 0; have hx15_1 := cz_ BK15.out 1; have hf15_1 : w1032.frozen? ⟨g15, 1, none⟩ = false := blk_frozen BK15.out 1; have hx15_2 := cz_ BK15.out 2; have hf15_2 : w1032.frozen? ⟨g15, 2, none⟩ = false := blk_frozen BK15.out 2; have hx18_0 := cz_ BK18.out 0; have hf18_0 : w1032.frozen? ⟨g18, 0, none⟩ = false := blk_frozen BK18.out 0; have hx18_1 := cz_ BK18.out 1; have hf18_1 : w1032.frozen? ⟨g18, 1, none⟩ = false := blk_frozen BK18.out 1; have hx18_2 := cz_ BK18.out 2; have hf18_2 : w1032.frozen? ⟨g18, 2, none⟩ = false := blk_frozen BK18.out 2) | (go_at_call 17; refine calls_of_args (args' := #[.slice A_20 t32_1.length c_20, .int .i64 1]) (by first | (rw [show t32_1.length = t19_0.length from (Kd.R_reads' HO20.out).1.symm] <;> rfl) | rfl) ?_; (with_reducible refine (laws_heldIntS.calls k _ _ t32_1 1 t42 _ ?sd33_1 ?sd33_2 A33.out).mono ?_); (case sd33_1 => exact (Kd.R_reads' HO20.out).2.2); (case sd33_2 => exact (by rw [show t32_1.length = t19_0.length from (Kd.R_reads' HO20.out).1.symm]; exact (Kd.R_reads' HO20.out).2.1)); rintro e w1033 ⟨rfl, hd⟩; have hb := hd.below; clear hd; have hs_ := below_size HB.out; clear hx1_0 hf1_0 hx1_1 hf1_1 hx1_2 hf1_2 hx2_0 hf2_0 hx2_1 hf2_1 hx2_2 hf2_2 hx15_0 hf15_0 hx15_1 hf15_1 hx15_2 hf15_2 hx18_0 hf18_0 hx18_1 hf18_1 hx18_2 hf18_2; have n0_ := Aside0.mk (below_step HB.out hb); have n1_ := Aside0.mk (Kd.S_below HO6.out hb); have n2_ := Aside0.mk (Kd.S_below HO7.out hb); have n3_ := Aside0.mk (Kd.R_below HO9.out hb); have n4_ := Aside0.mk (Kd.R_below HO11.out hb); have n5_ := Aside0.mk (Kd.S_below HO13.out hb); have n6_ := Aside0.mk (Kd.S_below HO14.out hb); have n7_ := Aside0.mk (Kd.R_below HO17.out hb); have n8_ := Aside0.mk (Kd.R_below HO20.out hb); have n9_ := Aside0.mk (Kd.S_below HO23.out hb); have n10_ := Aside0.mk (Kd.S_below HO24.out hb); have n11_ := Aside0.mk (Kd.R_below HO27.out hb); have n12_ := Aside0.mk (blk_below BK1.out hb); have n13_ := Aside0.mk (blk_below BK2.out hb); have n14_ := Aside0.mk (blk_below BK15.out hb); have n15_ := Aside0.mk (blk_below BK18.out hb); have SZ39 := Aside0.mk (show w1032.heap.size ≤ w1033.heap.size from (hb).size); clear HB HO6 HO7 HO9 HO11 HO13 HO14 HO17 HO20 HO23 HO24 HO27 BK1 BK2 BK15 BK18; have HB := n0_; have HO6 := n1_; have HO7 := n2_; have HO9 := n3_; have HO11 := n4_; have HO13 := n5_; have HO14 := n6_; have HO17 := n7_; have HO20 := n8_; have HO23 := n9_; have HO24 := n10_; have HO27 := n11_; have BK1 := n12_; have BK2 := n13_; have BK15 := n14_; have BK18 := n15_; clear n0_ n1_ n2_ n3_ n4_ n5_ n6_ n7_ n8_ n9_ n10_ n11_ n12_ n13_ n14_ n15_; clear hb hs_; have hx1_0 := cz_ BK1.out 0; have hf1_0 : w1033.frozen? ⟨g1, 0, none⟩ = false := blk_frozen BK1.out 0; have hx1_1 := cz_ BK1.out 1; have hf1_1 : w1033.frozen? ⟨g1, 1, none⟩ = false := blk_frozen BK1.out 1; have hx1_2 := cz_ BK1.out 2; have hf1_2 : w1033.frozen? ⟨g1, 2, none⟩ = false := blk_frozen BK1.out 2; have hx2_0 := cz_ BK2.out 0; have hf2_0 : w1033.frozen? ⟨g2, 0, none⟩ = false := blk_frozen BK2.out 0; have hx2_1 := cz_ BK2.out 1; have hf2_1 : w1033.frozen? ⟨g2, 1, none⟩ = false := blk_frozen BK2.out 1; have hx2_2 := cz_ BK2.out 2; have hf2_2 : w1033.frozen? ⟨g2, 2, none⟩ = false := blk_frozen BK2.out 2; have hx15_0 := cz_ BK15.out 0; have hf15_0 : w1033.frozen? ⟨g15, 0, none⟩ = false := blk_frozen BK15.out 0; have hx15_1 := cz_ BK15.out 1; have hf15_1 : w1033.frozen? ⟨g15, 1, none⟩ = false := blk_frozen BK15.out 1; have hx15_2 := cz_ BK15.out 2; have hf15_2 : w1033.frozen? ⟨g15, 2, none⟩ = false := blk_frozen BK15.out 2; have hx18_0 := cz_ BK18.out 0; have hf18_0 : w1033.frozen? ⟨g18, 0, none⟩ = false := blk_frozen BK18.out 0; have hx18_1 := cz_ BK18.out 1; have hf18_1 : w1033.frozen? ⟨g18, 1, none⟩ = false := blk_frozen BK18.out 1; have hx18_2 := cz_ BK18.out 2; have hf18_2 : w1033.frozen? ⟨g18, 2, none⟩ = false := blk_frozen BK18.out 2))
  (try simp only [Act.put, List.setIfInBounds_toArray, List.set_cons_zero, List.set_cons_succ])
  clear hx1_0 hf1_0 hx1_1 hf1_1 hx1_2 hf1_2 hx2_0 hf2_0 hx2_1 hf2_1 hx2_2 hf2_2 hx15_0 hf15_0 hx15_1 hf15_1 hx15_2 hf15_2 hx18_0 hf18_0 hx18_1 hf18_1 hx18_2 hf18_2
  have n0_ := Aside0.mk (below_step HB.out (below_drew1 (Below.refl w1033.heap.size w1033)))
  have n1_ := Aside0.mk (Kd.S_below HO6.out (below_drew1 (Below.refl w1033.heap.size w1033)))
  have n2_ := Aside0.mk (Kd.S_below HO7.out (below_drew1 (Below.refl w1033.heap.size w1033)))
  have n3_ := Aside0.mk (Kd.R_below HO9.out (below_drew1 (Below.refl w1033.heap.size w1033)))
  have n4_ := Aside0.mk (Kd.R_below HO11.out (below_drew1 (Below.refl w1033.heap.size w1033)))
  have n5_ := Aside0.mk (Kd.S_below HO13.out (below_drew1 (Below.refl w1033.heap.size w1033)))
  have n6_ := Aside0.mk (Kd.S_below HO14.out (below_drew1 (Below.refl w1033.heap.size w1033)))
  have n7_ := Aside0.mk (Kd.R_below HO17.out (below_drew1 (Below.refl w1033.heap.size w1033)))
  have n8_ := Aside0.mk (Kd.R_below HO20.out (below_drew1 (Below.refl w1033.heap.size w1033)))
  have n9_ := Aside0.mk (Kd.S_below HO23.out (below_drew1 (Below.refl w1033.heap.size w1033)))
  have n10_ := Aside0.mk (Kd.S_below HO24.out (below_drew1 (Below.refl w1033.heap.size w1033)))
  have n11_ := Aside0.mk (Kd.R_below HO27.out (below_drew1 (Below.refl w1033.heap.size w1033)))
  have n12_ := Aside0.mk (blk_below BK1.out (below_drew1 (Below.refl w1033.heap.size w1033)))
  have n13_ := Aside0.mk (blk_below BK2.out (below_drew1 (Below.refl w1033.heap.size w1033)))
  have n14_ := Aside0.mk (blk_below BK15.out (below_drew1 (Below.refl w1033.heap.size w1033)))
  have n15_ := Aside0.mk (blk_below BK18.out (below_drew1 (Below.refl w1033.heap.size w1033)))
  have SZ40 := Aside0.mk (show w1033.heap.size ≤ w1033.drew.heap.size from ((below_drew1 (Below.refl w1033.heap.size w1033))).size)
  clear HB HO6 HO7 HO9 HO11 HO13 HO14 HO17 HO20 HO23 HO24 HO27 BK1 BK2 BK15 BK18
  have HB := n0_
  have HO6 := n1_
  have HO7 := n2_
  have HO9 := n3_
  have HO11 := n4_
  have HO13 := n5_
  have HO14 := n6_
  have HO17 := n7_
  have HO20 := n8_
  have HO23 := n9_
  have HO24 := n10_
  have HO27 := n11_
  have BK1 := n12_
  have BK2 := n13_
  have BK15 := n14_
  have BK18 := n15_
  clear n0_ n1_ n2_ n3_ n4_ n5_ n6_ n7_ n8_ n9_ n10_ n11_ n12_ n13_ n14_ n15_
  refine start_ (n := 11) (S := fun w' => w'.cell? ⟨g1, 0, none⟩ = some (.int .i64 a0_0) ∧ w'.cell? ⟨g1, 1, none⟩ = some (.slice A0_1 l0_1.length c0_1) ∧ w'.cell? ⟨g1, 2, none⟩ = some (.slice A0_2 l0_2.length c0_2) ∧ w'.cell? ⟨g2, 0, none⟩ = some (.int .i64 a1_0) ∧ w'.cell? ⟨g2, 1, none⟩ = some (.int .i64 a1_1) ∧ w'.cell? ⟨g2, 2, none⟩ = some (.slice A1_2 l1_2.length c1_2) ∧ w'.cell? ⟨g15, 0, none⟩ = some (.int .i64 t12_0) ∧ w'.cell? ⟨g15, 1, none⟩ = some (.slice A_13 t12_1.length c_13) ∧ w'.cell? ⟨g15, 2, none⟩ = some (.slice A_14 t12_2.length c_14) ∧ w'.cell? ⟨g18, 0, none⟩ = some (.int .i64 t16_0) ∧ w'.cell? ⟨g18, 1, none⟩ = some (.int .i64 t16_1) ∧ w'.cell? ⟨g18, 2, none⟩ = some (.slice A_17 t16_2.length c_17)) (ds := []) (Array.replicate 11 false) (by kernel_rfl) rfl rfl ⟨cz_ BK1.out 0, cz_ BK1.out 1, cz_ BK1.out 2, cz_ BK2.out 0, cz_ BK2.out 1, cz_ BK2.out 2, cz_ BK15.out 0, cz_ BK15.out 1, cz_ BK15.out 2, cz_ BK18.out 0, cz_ BK18.out 1, cz_ BK18.out 2⟩ (fun hHeld => ?_); refine with_tabW laws_FnExactMayStand.tab31 laws_FnExactMayStand.bits31 (fun HT_ HW_ => ?_)
  generalize w1033.drew = w3030 at HB HO6 HO7 HO9 HO11 HO13 HO14 HO17 HO20 HO23 HO24 HO27 BK1 BK2 BK15 BK18 SZ40 hHeld ⊢
  refine pure_ (i := 4) (N := some 103) (v := ?_) (a' := ?_) #[false, false, false, false, true, false, false, false, false, false, false] rfl rfl (any_of HT_.out (by kernel_rfl)) (fun _ _ _ h => h) (Or.inl ⟨by rfl, ?_⟩) ?_ ?_
  rotate_left
  · intro w'
    go_simp
    with_reducible rfl
  rotate_left
  · simp only [Act.put, List.setIfInBounds_toArray, List.set_cons_zero, List.set_cons_succ, i64_w, i32_w]
    rfl
  refine take_ (i := 0) (N := some 99) (v := ?_) (a' := ?_) #[true, false, false, false, true, false, false, false, false, false, false] rfl rfl (take_ofW HT_.out HW_.out (by kernel_rfl)) (fun _ _ _ h => h) (Or.inl ⟨by rfl, ?_⟩) hHeld ?_ ?_
  rotate_left
  · rintro w' ⟨s0, s1, s2, s3, s4, s5, s6, s7, s8, s9, s10, s11⟩
    go_simp
    with_reducible rfl
  rotate_left
  · simp only [Act.put, List.setIfInBounds_toArray, List.set_cons_zero, List.set_cons_succ, i64_w, i32_w]
    rfl
  refine take_ (i := 2) (N := some 101) (v := ?_) (a' := ?_) #[true, false, true, false, true, false, false, false, false, false, false] rfl rfl (take_ofW HT_.out HW_.out (by kernel_rfl)) (fun _ _ _ h => h) (Or.inl ⟨by rfl, ?_⟩) hHeld ?_ ?_
  rotate_left
  · rintro w' ⟨s0, s1, s2, s3, s4, s5, s6, s7, s8, s9, s10, s11⟩
    go_simp
    with_reducible rfl
  rotate_left
  · simp only [Act.put, List.setIfInBounds_toArray, List.set_cons_zero, List.set_cons_succ, i64_w, i32_w]
    rfl
  refine oS_ 1 100 HT_ (fun K hK => ?_)
  refine goes_ Try.func8 (by kernel_rfl) rfl #[.agg #[.int .i64 a0_0, .slice A0_1 l0_1.length c0_1, .slice A0_2 l0_2.length c0_2]] (by rfl) rfl rfl (by (try simp only [List.map_toArray, List.map_cons, List.map_nil]); first | done | rfl) ?_
  (with_reducible refine (laws_toRules.callsZ k a0_0 _ _ l0_1 _ _ l0_2 t34_0 t34_1 t34_2 _ ?sd34_1 ?sd34_2 ?sd34_3 ?sd34_4 A34.out).mono ?_)
  (case sd34_1 => exact Kd.C_below HR0_1.out HB.out)
  (case sd34_2 => exact HC0_1.out)
  (case sd34_3 => exact Kd.C_below HR0_2.out HB.out)
  (case sd34_4 => exact HC0_2.out)
  rintro e w1034 ⟨v_35, v_36, wz34_0a, wz34_0b, wz34_1a, wz34_1b, rfl, ho0, ho1, ⟨hz0, hz1, hz2, hz3, hz4⟩, hb⟩
  refine ⟨_, rfl, ?_⟩
  have hs_ := below_size HB.out
  have n0_ := Aside0.mk (below_step HB.out hb)
  have n1_ := Aside0.mk (Kd.S_below HO6.out hb)
  have n2_ := Aside0.mk (Kd.S_below HO7.out hb)
  have n3_ := Aside0.mk (Kd.R_below HO9.out hb)
  have n4_ := Aside0.mk (Kd.R_below HO11.out hb)
  have n5_ := Aside0.mk (Kd.S_below HO13.out hb)
  have n6_ := Aside0.mk (Kd.S_below HO14.out hb)
  have n7_ := Aside0.mk (Kd.R_below HO17.out hb)
  have n8_ := Aside0.mk (Kd.R_below HO20.out hb)
  have n9_ := Aside0.mk (Kd.S_below HO23.out hb)
  have n10_ := Aside0.mk (Kd.S_below HO24.out hb)
  have n11_ := Aside0.mk (Kd.R_below HO27.out hb)
  have n12_ := Aside0.mk (blk_below BK1.out hb)
  have n13_ := Aside0.mk (blk_below BK2.out hb)
  have n14_ := Aside0.mk (blk_below BK15.out hb)
  have n15_ := Aside0.mk (blk_below BK18.out hb)
  clear HB HO6 HO7 HO9 HO11 HO13 HO14 HO17 HO20 HO23 HO24 HO27 BK1 BK2 BK15 BK18
  have HB := n0_
  have HO6 := n1_
  have HO7 := n2_
  have HO9 := n3_
  have HO11 := n4_
  have HO13 := n5_
  have HO14 := n6_
  have HO17 := n7_
  have HO20 := n8_
  have HO23 := n9_
  have HO24 := n10_
  have HO27 := n11_
  have BK1 := n12_
  have BK2 := n13_
  have BK15 := n14_
  have BK18 := n15_
  clear n0_ n1_ n2_ n3_ n4_ n5_ n6_ n7_ n8_ n9_ n10_ n11_ n12_ n13_ n14_ n15_
  have SZ41 := Aside0.mk hz0
  have SZ42 := Aside0.mk hz1
  have SZ43 := Aside0.mk hz2
  have SZ44 := Aside0.mk hz3
  have SZ45 := Aside0.mk hz4
  clear hz0 hz1 hz2 hz3 hz4
  have HO35 := Aside0.mk (Kd.S_lower ho0 hs_)
  clear ho0
  obtain ⟨A_35, c_35, e_35⟩ := Kd.S_slice HO35.out
  subst e_35
  have HO36 := Aside0.mk (Kd.S_lower ho1 hs_)
  clear ho1
  obtain ⟨A_36, c_36, e_36⟩ := Kd.S_slice HO36.out
  subst e_36
  clear hb hs_
  refine hK.out _ _ ⟨cz_ BK1.out 0, cz_ BK1.out 1, cz_ BK1.out 2, cz_ BK2.out 0, cz_ BK2.out 1, cz_ BK2.out 2, cz_ BK15.out 0, cz_ BK15.out 1, cz_ BK15.out 2, cz_ BK18.out 0, cz_ BK18.out 1, cz_ BK18.out 2⟩ (fun hHeld => ?_)
  clear hK K
  refine norm_ (a' := ?_) ?_ ?_
  rotate_left
  · show Act.put _ (some 100) _ = _
    simp only [Act.put, List.setIfInBounds_toArray, List.set_cons_zero, List.set_cons_succ, i64_w, i32_w]
    rfl
  refine oS_ 3 102 HT_ (fun K hK => ?_)
  refine goes_ Try.func9 (by kernel_rfl) rfl #[.agg #[.int .i64 a1_0, .int .i64 a1_1, .slice A1_2 l1_2.length c1_2]] (by rfl) rfl rfl (by (try simp only [List.map_toArray, List.map_cons, List.map_nil]); first | done | rfl) ?_
  (with_reducible refine (laws_toField.calls k a1_0 a1_1 _ _ l1_2 t37_0 t37_1 t37_2 _ ?sd37_1 ?sd37_2 A37.out).mono ?_)
  (case sd37_1 => exact Kd.C_below HR1_2.out HB.out)
  (case sd37_2 => exact HC1_2.out)
  rintro e w1037 ⟨v_38, rfl, ho0, hb⟩
  refine ⟨_, rfl, ?_⟩
  have hs_ := below_size HB.out
  have n0_ := Aside0.mk (below_step HB.out hb)
  have n1_ := Aside0.mk (Kd.S_below HO6.out hb)
  have n2_ := Aside0.mk (Kd.S_below HO7.out hb)
  have n3_ := Aside0.mk (Kd.R_below HO9.out hb)
  have n4_ := Aside0.mk (Kd.R_below HO11.out hb)
  have n5_ := Aside0.mk (Kd.S_below HO13.out hb)
  have n6_ := Aside0.mk (Kd.S_below HO14.out hb)
  have n7_ := Aside0.mk (Kd.R_below HO17.out hb)
  have n8_ := Aside0.mk (Kd.R_below HO20.out hb)
  have n9_ := Aside0.mk (Kd.S_below HO23.out hb)
  have n10_ := Aside0.mk (Kd.S_below HO24.out hb)
  have n11_ := Aside0.mk (Kd.R_below HO27.out hb)
  have n12_ := Aside0.mk (Kd.S_below HO35.out hb)
  have n13_ := Aside0.mk (Kd.S_below HO36.out hb)
  have n14_ := Aside0.mk (blk_below BK1.out hb)
  have n15_ := Aside0.mk (blk_below BK2.out hb)
  have n16_ := Aside0.mk (blk_below BK15.out hb)
  have n17_ := Aside0.mk (blk_below BK18.out hb)
  have SZ46 := Aside0.mk (show w1034.heap.size ≤ w1037.heap.size from (hb).size)
  clear HB HO6 HO7 HO9 HO11 HO13 HO14 HO17 HO20 HO23 HO24 HO27 HO35 HO36 BK1 BK2 BK15 BK18
  have HB := n0_
  have HO6 := n1_
  have HO7 := n2_
  have HO9 := n3_
  have HO11 := n4_
  have HO13 := n5_
  have HO14 := n6_
  have HO17 := n7_
  have HO20 := n8_
  have HO23 := n9_
  have HO24 := n10_
  have HO27 := n11_
  have HO35 := n12_
  have HO36 := n13_
  have BK1 := n14_
  have BK2 := n15_
  have BK15 := n16_
  have BK18 := n17_
  clear n0_ n1_ n2_ n3_ n4_ n5_ n6_ n7_ n8_ n9_ n10_ n11_ n12_ n13_ n14_ n15_ n16_ n17_
  have HO38 := Aside0.mk (R_zone ho0 hs_)
  clear ho0
  obtain ⟨A_38, c_38, e_38⟩ := Kd.R_slice HO38.out
  subst e_38
  clear hb hs_
  refine hK.out _ _ ⟨cz_ BK1.out 0, cz_ BK1.out 1, cz_ BK1.out 2, cz_ BK2.out 0, cz_ BK2.out 1, cz_ BK2.out 2, cz_ BK15.out 0, cz_ BK15.out 1, cz_ BK15.out 2, cz_ BK18.out 0, cz_ BK18.out 1, cz_ BK18.out 2⟩ (fun hHeld => ?_)
  clear hK K
  refine norm_ (a' := ?_) ?_ ?_
  rotate_left
  · show Act.put _ (some 102) _ = _
    simp only [Act.put, List.setIfInBounds_toArray, List.set_cons_zero, List.set_cons_succ, i64_w, i32_w]
    rfl
  refine oS_ 5 104 HT_ (fun K hK => ?_)
  refine goes_ Try.func10 (by kernel_rfl) rfl #[.agg #[.int .i64 t34_0, .slice A_35 t34_1.length c_35, .slice A_36 t34_2.length c_36], .agg #[.int .i64 t37_0, .int .i64 t37_1, .slice A_38 t37_2.length c_38], .int .i64 a2] (by rfl) rfl rfl (by (try simp only [List.map_toArray, List.map_cons, List.map_nil]); first | done | rfl) ?_
  (with_reducible refine (impl_MayStand.calls k t34_0 _ _ t34_1 _ _ t34_2 t37_0 t37_1 _ _ t37_2 a2 t39_0 t39_1 _ ?sd39_1 ?sd39_2 ?sd39_3 ?sd39_4 ?sd39_5 ?sd39_6 A39.out).mono ?_)
  (case sd39_1 => exact (Kd.S_reads' HO35.out).2.2)
  (case sd39_2 => exact (Kd.S_reads' HO35.out).2.1)
  (case sd39_3 => exact (Kd.S_reads' HO36.out).2.2)
  (case sd39_4 => exact (Kd.S_reads' HO36.out).2.1)
  (case sd39_5 => exact (Kd.R_reads' HO38.out).2.2)
  (case sd39_6 => exact (Kd.R_reads' HO38.out).2.1)
  rintro e w1039 ⟨v_40, rfl, ho0, hb⟩
  refine ⟨_, rfl, ?_⟩
  have hs_ := below_size HB.out
  have n0_ := Aside0.mk (below_step HB.out hb)
  have n1_ := Aside0.mk (Kd.S_below HO6.out hb)
  have n2_ := Aside0.mk (Kd.S_below HO7.out hb)
  have n3_ := Aside0.mk (Kd.R_below HO9.out hb)
  have n4_ := Aside0.mk (Kd.R_below HO11.out hb)
  have n5_ := Aside0.mk (Kd.S_below HO13.out hb)
  have n6_ := Aside0.mk (Kd.S_below HO14.out hb)
  have n7_ := Aside0.mk (Kd.R_below HO17.out hb)
  have n8_ := Aside0.mk (Kd.R_below HO20.out hb)
  have n9_ := Aside0.mk (Kd.S_below HO23.out hb)
  have n10_ := Aside0.mk (Kd.S_below HO24.out hb)
  have n11_ := Aside0.mk (Kd.R_below HO27.out hb)
  have n12_ := Aside0.mk (Kd.S_below HO35.out hb)
  have n13_ := Aside0.mk (Kd.S_below HO36.out hb)
  have n14_ := Aside0.mk (Kd.R_below HO38.out hb)
  have n15_ := Aside0.mk (blk_below BK1.out hb)
  have n16_ := Aside0.mk (blk_below BK2.out hb)
  have n17_ := Aside0.mk (blk_below BK15.out hb)
  have n18_ := Aside0.mk (blk_below BK18.out hb)
  have SZ47 := Aside0.mk (show w1037.heap.size ≤ w1039.heap.size from (hb).size)
  clear HB HO6 HO7 HO9 HO11 HO13 HO14 HO17 HO20 HO23 HO24 HO27 HO35 HO36 HO38 BK1 BK2 BK15 BK18
  have HB := n0_
  have HO6 := n1_
  have HO7 := n2_
  have HO9 := n3_
  have HO11 := n4_
  have HO13 := n5_
  have HO14 := n6_
  have HO17 := n7_
  have HO20 := n8_
  have HO23 := n9_
  have HO24 := n10_
  have HO27 := n11_
  have HO35 := n12_
  have HO36 := n13_
  have HO38 := n14_
  have BK1 := n15_
  have BK2 := n16_
  have BK15 := n17_
  have BK18 := n18_
  clear n0_ n1_ n2_ n3_ n4_ n5_ n6_ n7_ n8_ n9_ n10_ n11_ n12_ n13_ n14_ n15_ n16_ n17_ n18_
  have HO40 := Aside0.mk (R_zone ho0 hs_)
  clear ho0
  obtain ⟨A_40, c_40, e_40⟩ := Kd.R_slice HO40.out
  subst e_40
  clear hb hs_
  refine hK.out _ _ ⟨cz_ BK1.out 0, cz_ BK1.out 1, cz_ BK1.out 2, cz_ BK2.out 0, cz_ BK2.out 1, cz_ BK2.out 2, cz_ BK15.out 0, cz_ BK15.out 1, cz_ BK15.out 2, cz_ BK18.out 0, cz_ BK18.out 1, cz_ BK18.out 2⟩ (fun hHeld => ?_)
  clear hK K
  refine norm_ (a' := ?_) ?_ ?_
  rotate_left
  · show Act.put _ (some 104) _ = _
    simp only [Act.put, List.setIfInBounds_toArray, List.set_cons_zero, List.set_cons_succ, i64_w, i32_w]
    rfl
  refine pure_ (i := 6) (N := some 98) (v := ?_) (a' := ?_) #[true, true, true, true, true, true, true, false, false, false, false] rfl rfl (any_of HT_.out (by kernel_rfl)) (fun _ _ _ h => h) (Or.inl ⟨by rfl, ?_⟩) ?_ ?_
  rotate_left
  · intro w'
    go_simp
    with_reducible rfl
  rotate_left
  · simp only [Act.put, List.setIfInBounds_toArray, List.set_cons_zero, List.set_cons_succ, i64_w, i32_w]
    rfl
  refine pure_ (i := 7) (N := some 105) (v := ?_) (a' := ?_) #[true, true, true, true, true, true, true, true, false, false, false] rfl rfl (any_of HT_.out (by kernel_rfl)) (fun _ _ _ h => h) (Or.inl ⟨by rfl, ?_⟩) ?_ ?_
  rotate_left
  · intro w'
    go_simp
    with_reducible rfl
  rotate_left
  · simp only [Act.put, List.setIfInBounds_toArray, List.set_cons_zero, List.set_cons_succ, i64_w, i32_w]
    rfl
  refine pure_ (i := 8) (N := some 106) (v := ?_) (a' := ?_) #[true, true, true, true, true, true, true, true, true, false, false] rfl rfl (any_of HT_.out (by kernel_rfl)) (fun _ _ _ h => h) (Or.inl ⟨by rfl, ?_⟩) ?_ ?_
  rotate_left
  · intro w'
    go_simp
    with_reducible rfl
  rotate_left
  · simp only [Act.put, List.setIfInBounds_toArray, List.set_cons_zero, List.set_cons_succ, i64_w, i32_w]
    rfl
  refine pure_ (i := 9) (N := some 17) (v := ?_) (a' := ?_) #[true, true, true, true, true, true, true, true, true, true, false] rfl rfl (any_of HT_.out (by kernel_rfl)) (fun _ _ _ h => h) (Or.inl ⟨by rfl, ?_⟩) ?_ ?_
  rotate_left
  · intro w'
    go_simp
    with_reducible rfl
  rotate_left
  · simp only [Act.put, List.setIfInBounds_toArray, List.set_cons_zero, List.set_cons_succ, i64_w, i32_w]
    rfl
  refine pure_ (i := 10) (N := some 18) (v := ?_) (a' := ?_) #[true, true, true, true, true, true, true, true, true, true, true] rfl rfl (any_of HT_.out (by kernel_rfl)) (fun _ _ _ h => h) (Or.inl ⟨by rfl, ?_⟩) ?_ ?_
  rotate_left
  · intro w'
    go_simp
    with_reducible rfl
  rotate_left
  · simp only [Act.put, List.setIfInBounds_toArray, List.set_cons_zero, List.set_cons_succ, i64_w, i32_w]
    rfl
  refine done_ (done_of HT_.out (by kernel_rfl)) ?_
  clear hHeld
  try clear HT_ HW_
  have hx1_0 := cz_ BK1.out 0
  have hf1_0 : w1039.frozen? ⟨g1, 0, none⟩ = false := blk_frozen BK1.out 0
  have hx1_1 := cz_ BK1.out 1
  have hf1_1 : w1039.frozen? ⟨g1, 1, none⟩ = false := blk_frozen BK1.out 1
  have hx1_2 := cz_ BK1.out 2
  have hf1_2 : w1039.frozen? ⟨g1, 2, none⟩ = false := blk_frozen BK1.out 2
  have hx2_0 := cz_ BK2.out 0
  have hf2_0 : w1039.frozen? ⟨g2, 0, none⟩ = false := blk_frozen BK2.out 0
  have hx2_1 := cz_ BK2.out 1
  have hf2_1 : w1039.frozen? ⟨g2, 1, none⟩ = false := blk_frozen BK2.out 1
  have hx2_2 := cz_ BK2.out 2
  have hf2_2 : w1039.frozen? ⟨g2, 2, none⟩ = false := blk_frozen BK2.out 2
  have hx15_0 := cz_ BK15.out 0
  have hf15_0 : w1039.frozen? ⟨g15, 0, none⟩ = false := blk_frozen BK15.out 0
  have hx15_1 := cz_ BK15.out 1
  have hf15_1 : w1039.frozen? ⟨g15, 1, none⟩ = false := blk_frozen BK15.out 1
  have hx15_2 := cz_ BK15.out 2
  have hf15_2 : w1039.frozen? ⟨g15, 2, none⟩ = false := blk_frozen BK15.out 2
  have hx18_0 := cz_ BK18.out 0
  have hf18_0 : w1039.frozen? ⟨g18, 0, none⟩ = false := blk_frozen BK18.out 0
  have hx18_1 := cz_ BK18.out 1
  have hf18_1 : w1039.frozen? ⟨g18, 1, none⟩ = false := blk_frozen BK18.out 1
  have hx18_2 := cz_ BK18.out 2
  have hf18_2 : w1039.frozen? ⟨g18, 2, none⟩ = false := blk_frozen BK18.out 2
  skip
  go_wp2_with (first | (go_at_call 11; (with_reducible refine (laws_eqIntS.calls k _ _ t39_0 _ _ t10_0 true _ ?sd41_1 ?sd41_2 ?sd41_3 ?sd41_4 A41.out).mono ?_); (case sd41_1 => exact (Kd.R_reads' HO40.out).2.2); (case sd41_2 => exact (Kd.R_reads' HO40.out).2.1); (case sd41_3 => exact (Kd.R_reads' HO11.out).2.2); (case sd41_4 => exact (Kd.R_reads' HO11.out).2.1); rintro e w1041 ⟨rfl, hd⟩; have hb := hd.below; clear hd; have hs_ := below_size HB.out; clear hx1_0 hf1_0 hx1_1 hf1_1 hx1_2 hf1_2 hx2_0 hf2_0 hx2_1 hf2_1 hx2_2 hf2_2 hx15_0 hf15_0 hx15_1 hf15_1 hx15_2 hf15_2 hx18_0 hf18_0 hx18_1 hf18_1 hx18_2 hf18_2; have n0_ := Aside0.mk (below_step HB.out hb); have n1_ := Aside0.mk (Kd.S_below HO6.out hb); have n2_ := Aside0.mk (Kd.S_below HO7.out hb); have n3_ := Aside0.mk (Kd.R_below HO9.out hb); have n4_ := Aside0.mk (Kd.R_below HO11.out hb); have n5_ := Aside0.mk (Kd.S_below HO13.out hb); have n6_ := Aside0.mk (Kd.S_below HO14.out hb); have n7_ := Aside0.mk (Kd.R_below HO17.out hb); have n8_ := Aside0.mk (Kd.R_below HO20.out hb); have n9_ := Aside0.mk (Kd.S_below HO23.out hb); have n10_ := Aside0.mk (Kd.S_below HO24.out hb); have n11_ := Aside0.mk (Kd.R_below HO27.out hb); have n12_ := Aside0.mk (Kd.S_below HO35.out hb); have n13_ := Aside0.mk (Kd.S_below HO36.out hb); have n14_ := Aside0.mk (Kd.R_below HO38.out hb); have n15_ := Aside0.mk (Kd.R_below HO40.out hb); have n16_ := Aside0.mk (blk_below BK1.out hb); have n17_ := Aside0.mk (blk_below BK2.out hb); have n18_ := Aside0.mk (blk_below BK15.out hb); have n19_ := Aside0.mk (blk_below BK18.out hb); have SZ48 := Aside0.mk (show w1039.heap.size ≤ w1041.heap.size from (hb).size); clear HB HO6 HO7 HO9 HO11 HO13 HO14 HO17 HO20 HO23 HO24 HO27 HO35 HO36 HO38 HO40 BK1 BK2 BK15 BK18; have HB := n0_; have HO6 := n1_; have HO7 := n2_; have HO9 := n3_; have HO11 := n4_; have HO13 := n5_; have HO14 := n6_; have HO17 := n7_; have HO20 := n8_; have HO23 := n9_; have HO24 := n10_; have HO27 := n11_; have HO35 := n12_; have HO36 := n13_; have HO38 := n14_; have HO40 := n15_; have BK1 := n16_; have BK2 := n17_; have BK15 := n18_; have BK18 := n19_; clear n0_ n1_ n2_ n3_ n4_ n5_ n6_ n7_ n8_ n9_ n10_ n11_ n12_ n13_ n14_ n15_ n16_ n17_ n18_ n19_; clear hb hs_; have hx1_0 := cz_ BK1.out 0; have hf1_0 : w1041.frozen? ⟨g1, 0, none⟩ = false := blk_frozen BK1.out 0; have hx1_1 := cz_ BK1.out 1; have hf1_1 : w1041.frozen? ⟨g1, 1, none⟩ = false := blk_frozen BK1.out 1; have hx1_2 := cz_ BK1.out 2; have hf1_2 : w1041.frozen? ⟨g1, 2, none⟩ = false := blk_frozen BK1.out 2; have hx2_0 := cz_ BK2.out 0; have hf2_0 : w1041.frozen? ⟨g2, 0, none⟩ = false := blk_frozen BK2.out 0; have hx2_1 := cz_ BK2.out 1; have hf2_1 : w1041.frozen? ⟨g2, 1, none⟩ = false := blk_frozen BK2.out 1; have hx2_2 := cz_ BK2.out 2; have hf2_2 : w1041.frozen? ⟨g2, 2, none⟩ = false := blk_frozen BK2.out 2; have hx15_0 := cz_ BK15.out 0; have hf15_0 : w1041.frozen? ⟨g15, 0, none⟩ = false := blk_frozen BK15.out 0; have hx15_1 := cz_ BK15.out 1; have hf15_1 : w1041.frozen? ⟨g15, 1, none⟩ = false := blk_frozen BK15.out 1; have hx15_2 := cz_ BK15.out 2; have hf15_2 : w1041.frozen? ⟨g15, 2, none⟩ = false := blk_frozen BK15.out 2; have hx18_0 := cz_ BK18.out 0; have hf18_0 : w1041.frozen? ⟨g18, 0, none⟩ = false := blk_frozen BK18.out 0; have hx18_1 := cz_ BK18.out 1; have hf18_1 : w1041.frozen? ⟨g18, 1, none⟩ = false := blk_frozen BK18.out 1; have hx18_2 := cz_ BK18.out 2; have hf18_2 : w1041.frozen? ⟨g18, 2, none⟩ = false := blk_frozen BK18.out 2) | (go_at_call 17; refine calls_of_args (args' := #[.slice A_20 t32_1.length c_20, .int .i64 1]) (by first | (rw [show t32_1.length = t19_0.length from (Kd.R_reads' HO20.out).1.symm] <;> rfl) | rfl) ?_; (with_reducible refine (laws_heldIntS.calls k _ _ t32_1 1 t42 _ ?sd42_1 ?sd42_2 A42.out).mono ?_); (case sd42_1 => exact (Kd.R_reads' HO20.out).2.2); (case sd42_2 => exact (by rw [show t32_1.length = t19_0.length from (Kd.R_reads' HO20.out).1.symm]; exact (Kd.R_reads' HO20.out).2.1)); rintro e w1042 ⟨rfl, hd⟩; have hb := hd.below; clear hd; have hs_ := below_size HB.out; clear hx1_0 hf1_0 hx1_1 hf1_1 hx1_2 hf1_2 hx2_0 hf2_0 hx2_1 hf2_1 hx2_2 hf2_2 hx15_0 hf15_0 hx15_1 hf15_1 hx15_2 hf15_2 hx18_0 hf18_0 hx18_1 hf18_1 hx18_2 hf18_2; have n0_ := Aside0.mk (below_step HB.out hb); have n1_ := Aside0.mk (Kd.S_below HO6.out hb); have n2_ := Aside0.mk (Kd.S_below HO7.out hb); have n3_ := Aside0.mk (Kd.R_below HO9.out hb); have n4_ := Aside0.mk (Kd.R_below HO11.out hb); have n5_ := Aside0.mk (Kd.S_below HO13.out hb); have n6_ := Aside0.mk (Kd.S_below HO14.out hb); have n7_ := Aside0.mk (Kd.R_below HO17.out hb); have n8_ := Aside0.mk (Kd.R_below HO20.out hb); have n9_ := Aside0.mk (Kd.S_below HO23.out hb); have n10_ := Aside0.mk (Kd.S_below HO24.out hb); have n11_ := Aside0.mk (Kd.R_below HO27.out hb); have n12_ := Aside0.mk (Kd.S_below HO35.out hb); have n13_ := Aside0.mk (Kd.S_below HO36.out hb); have n14_ := Aside0.mk (Kd.R_below HO38.out hb); have n15_ := Aside0.mk (Kd.R_below HO40.out hb); have n16_ := Aside0.mk (blk_below BK1.out hb); have n17_ := Aside0.mk (blk_below BK2.out hb); have n18_ := Aside0.mk (blk_below BK15.out hb); have n19_ := Aside0.mk (blk_below BK18.out hb); have SZ49 := Aside0.mk (show w1041.heap.size ≤ w1042.heap.size from (hb).size); clear HB HO6 HO7 HO9 HO11 HO13 HO14 HO17 HO20 HO23 HO24 HO27 HO35 HO36 HO38 HO40 BK1 BK2 BK15 BK18; have HB := n0_; have HO6 := n1_; have HO7 := n2_; have HO9 := n3_; have HO11 := n4_; have HO13 := n5_; have HO14 := n6_; have HO17 := n7_; have HO20 := n8_; have HO23 := n9_; have HO24 := n10_; have HO27 := n11_; have HO35 := n12_; have HO36 := n13_; have HO38 := n14_; have HO40 := n15_; have BK1 := n16_; have BK2 := n17_; have BK15 := n18_; have BK18 := n19_; clear n0_ n1_ n2_ n3_ n4_ n5_ n6_ n7_ n8_ n9_ n10_ n11_ n12_ n13_ n14_ n15_ n16_ n17_ n18_ n19_; clear hb hs_; have hx1_0 := cz_ BK1.out 0; have hf1_0 : w1042.frozen? ⟨g1, 0, none⟩ = false := blk_frozen BK1.out 0; have hx1_1 := cz_ BK1.out 1; have hf1_1 : w1042.frozen? ⟨g1, 1, none⟩ = false := blk_frozen BK1.out 1; have hx1_2 := cz_ BK1.out 2; have hf1_2 : w1042.frozen? ⟨g1, 2, none⟩ = false := blk_frozen BK1.out 2; have hx2_0 := cz_ BK2.out 0; have hf2_0 : w1042.frozen? ⟨g2, 0, none⟩ = false := blk_frozen BK2.out 0; have hx2_1 := cz_ BK2.out 1; have hf2_1 : w1042.frozen? ⟨g2, 1, none⟩ = false := blk_frozen BK2.out 1; have hx2_2 := cz_ BK2.out 2; have hf2_2 : w1042.frozen? ⟨g2, 2, none⟩ = false := blk_frozen BK2.out 2; have hx15_0 := cz_ BK15.out 0; have hf15_0 : w1042.frozen? ⟨g15, 0, none⟩ = false := blk_frozen BK15.out 0; have hx15_1 := cz_ BK15.out 1; have hf15_1 : w1042.frozen? ⟨g15, 1, none⟩ = false := blk_frozen BK15.out 1; have hx15_2 := cz_ BK15.out 2; have hf15_2 : w1042.frozen? ⟨g15, 2, none⟩ = false := blk_frozen BK15.out 2; have hx18_0 := cz_ BK18.out 0; have hf18_0 : w1042.frozen? ⟨g18, 0, none⟩ = false := blk_frozen BK18.out 0; have hx18_1 := cz_ BK18.out 1; have hf18_1 : w1042.frozen? ⟨g18, 1, none⟩ = false := blk_frozen BK18.out 1; have hx18_2 := cz_ BK18.out 2; have hf18_2 : w1042.frozen? ⟨g18, 2, none⟩ = false := blk_frozen BK18.out 2))
  go_ret
  exact ⟨rfl, HB.out⟩

/-! the law's reading -/
def ok24 (z : S24) : Prop := ((Lit.int .i64 z.f0).wf = true) ∧ (z.f1.length ≤ maxLen ∧ ∀ z245 ∈ z.f1, z245.length ≤ maxLen ∧ ∀ z246 ∈ z245, (Lit.int .i64 z246).wf = true) ∧ (z.f2.length ≤ maxLen ∧ ∀ z247 ∈ z.f2, z247.length ≤ maxLen ∧ ∀ z248 ∈ z247, (Lit.int .i64 z248).wf = true)
def ok27 (z : S27) : Prop := ((Lit.int .i64 z.f0).wf = true) ∧ ((Lit.int .i64 z.f1).wf = true) ∧ (z.f2.length ≤ maxLen ∧ ∀ z249 ∈ z.f2, (Lit.int .i64 z249).wf = true)
/-- THE ONE PURE STATEMENT of laws_FnExactMayStand. -/
def laws_FnExactMayStand.Pure : Prop := ∀ (a0_0 : Int) (l0_1 : List (List Int)) (l0_2 : List (List Int)) (a1_0 : Int) (a1_1 : Int) (l1_2 : List Int) (a2 : Int), ((Lit.int .i64 a0_0).wf = true) → (l0_1.length ≤ maxLen ∧ ∀ z253 ∈ l0_1, z253.length ≤ maxLen ∧ ∀ z254 ∈ z253, (Lit.int .i64 z254).wf = true) → (l0_2.length ≤ maxLen ∧ ∀ z255 ∈ l0_2, z255.length ≤ maxLen ∧ ∀ z256 ∈ z255, (Lit.int .i64 z256).wf = true) → ((Lit.int .i64 a1_0).wf = true) → ((Lit.int .i64 a1_1).wf = true) → (l1_2.length ≤ maxLen ∧ ∀ z257 ∈ l1_2, (Lit.int .i64 z257).wf = true) → ((Lit.int .i64 a2).wf = true) → ∃ k, laws_FnExactMayStand.f k a0_0 l0_1 l0_2 a1_0 a1_1 l1_2 a2 = some true


end Go.Proofs.Ytblmejanjhmjdaa.XFnExactMayStand
