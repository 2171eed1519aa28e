/- What the Go functions that this law comes to compute, each walked; written by a program of this session. -/
import Derived.Test.YtblmejanjhmjdaaXMark
import Derived.Test.YtblmejanjhmjdaaXFnExactFillFieldx0
import Derived.Test.YtblmejanjhmjdaaXFnExactFillFieldx1
import Derived.Test.YtblmejanjhmjdaaXFnExactFillFieldx2
import Derived.Test.YtblmejanjhmjdaaXFnExactFillFieldx7
import Derived.Test.YtblmejanjhmjdaaXFnExactFillFieldx12
import Derived.Test.YtblmejanjhmjdaaXFnExactFillFieldx13
namespace Go.Proofs.Ytblmejanjhmjdaa.XFnExactFillField
open Go.RowKit Go.Proofs.YtblmejanjhmjdaaW.PrintWords Go.Proofs.YtblmejanjhmjdaaW.PrintLast Go.Proofs.YtblmejanjhmjdaaW.PrintMore
attribute [local go_sem] str_geq max2_int min2_int max_two min_two max_three min_three max_four min_four   -- for this text's walks alone
set_option linter.unusedVariables false
set_option linter.unusedSimpArgs false

/-! ### laws_FnExactFillField: function 4 -/
def laws_FnExactFillField.f (k : Nat) (a0_0 : Int) (l0_1 : List (List Int)) (l0_2 : List (List Int)) (a1_0 : Int) (a1_1 : Int) (l1_2 : List Int) : Option (Bool) := (laws_szRules.f k a0_0 l0_1 l0_2 1048576).bind fun t3 => if t3 < 0 then some true else ((laws_szField.f a1_0 a1_1 l1_2 t3).bind fun t4 => if t4 < 0 then some true else ((laws_toRules.f k a0_0 l0_1 l0_2).bind fun t5 => (laws_toField.f k a1_0 a1_1 l1_2).bind fun t8 => (spec_FillField.f k t5.1 t5.2.1 t5.2.2 t8.1 t8.2.1 t8.2.2).bind fun t10 => (laws_toRules.f k a0_0 l0_1 l0_2).bind fun t13 => (laws_toField.f k a1_0 a1_1 l1_2).bind fun t17 => (impl_FillField.f k t13.1 t13.2.1 t13.2.2 t17.1 t17.2.1 t17.2.2).bind fun t20 => (laws_eqFilled.f k t20.1 t20.2.1 t20.2.2.1 t20.2.2.2.1 t20.2.2.2.2.1 t10.1 t10.2.1 t10.2.2.1 t10.2.2.2.1 t10.2.2.2.2.1).bind fun t23 => if t23 = true then (if t20.2.2.2.2.2 = t10.2.2.2.2.2 then ((laws_toRules.f k a0_0 l0_1 l0_2).bind fun t24 => (laws_eqRules.f k t13.1 t13.2.1 t13.2.2 t24.1 t24.2.1 t24.2.2).bind fun t27 => if t27 = true then ((laws_toField.f k a1_0 a1_1 l1_2).bind fun t28 => (laws_eqField.f k t17.1 t17.2.1 t17.2.2 t28.1 t28.2.1 t28.2.2).bind fun t30 => if t30 = true then ((laws_markRules.f k t13.1 t13.2.1 t13.2.2 1).bind fun t31 => (laws_markField.f k t17.1 t17.2.1 t17.2.2 t31.1).bind fun t32 => if ¬ (t32.1 < 0) then ((laws_eqFilled.f k t20.1 t20.2.1 t20.2.2.1 t20.2.2.2.1 t20.2.2.2.2.1 t10.1 t10.2.1 t10.2.2.1 t10.2.2.2.1 t10.2.2.2.2.1).bind fun t33 => if t33 = true then (if t20.2.2.2.2.2 = t10.2.2.2.2.2 then ((laws_markFilled.f k t20.1 t20.2.1 t20.2.2.1 t20.2.2.2.1 t20.2.2.2.2.1 1).bind fun t34 => (laws_heldFilled.f k t20.1 t20.2.1 t20.2.2.1 t34.2 t20.2.2.2.2.1 1).bind fun t35 => if ¬ (t35 < 0) then (if t35 = t34.1 then ((laws_toRules.f k a0_0 l0_1 l0_2).bind fun t36 => (laws_toField.f k a1_0 a1_1 l1_2).bind fun t39 => (impl_FillField.f k t36.1 t36.2.1 t36.2.2 t39.1 t39.2.1 t39.2.2).bind fun t41 => (laws_eqFilled.f k t41.1 t41.2.1 t41.2.2.1 t41.2.2.2.1 t41.2.2.2.2.1 t10.1 t10.2.1 t10.2.2.1 t10.2.2.2.1 t10.2.2.2.2.1).bind fun t44 => if t44 = true then (if t41.2.2.2.2.2 = t10.2.2.2.2.2 then ((laws_heldFilled.f k t20.1 t20.2.1 t20.2.2.1 t34.2 t20.2.2.2.2.1 1).bind fun t45 => if ¬ (t45 < 0) then (if t45 = t34.1 then (some true) else none) else none) else none) else none) else none) else none) else none) else none) else none) else none) else none) else none) else none))
theorem laws_FnExactFillField.mono : ∀ a0 a1 a2 a3 a4 a5 k, LeO (laws_FnExactFillField.f k a0 a1 a2 a3 a4 a5) (laws_FnExactFillField.f (k + 1) a0 a1 a2 a3 a4 a5) := by
  intro a0 a1 a2 a3 a4 a5 k
  unfold laws_FnExactFillField.f
  repeat' first
  | (with_reducible exact laws_szRules.mono _ _ _ _ _)
  | (with_reducible exact laws_toRules.mono _ _ _ _)
  | (with_reducible exact laws_toField.mono _ _ _ _)
  | (with_reducible exact laws_eqRules.mono _ _ _ _ _ _ _)
  | (with_reducible exact laws_eqField.mono _ _ _ _ _ _ _)
  | (with_reducible exact laws_markRules.mono _ _ _ _ _)
  | (with_reducible exact laws_markField.mono _ _ _ _ _)
  | (with_reducible exact spec_FillField.mono _ _ _ _ _ _ _)
  | (with_reducible exact impl_FillField.mono _ _ _ _ _ _ _)
  | (with_reducible exact laws_eqFilled.mono _ _ _ _ _ _ _ _ _ _ _)
  | (with_reducible exact laws_markFilled.mono _ _ _ _ _ _ _)
  | (with_reducible exact laws_heldFilled.mono _ _ _ _ _ _ _)
  | (with_reducible exact LeO.refl _)
  | (with_reducible exact LeO.none _)
  | (with_reducible refine LeO.ite ?_ ?_)
  | refine LeO.bind ?_ (fun _ => ?_)
  | exact LeO.none _
def laws_FnExactFillField.T8 : Bool × List (List Nat × List Nat) := (true, [([], []), ([0], [0]), ([], []), ([2, 1], [2]), ([1, 3, 3], [1, 3]), ([4], [4]), ([5], [5]), ([5], [5]), ([], []), ([8, 6, 4, 0, 1, 2, 3, 4, 5, 6, 8], [6, 8]), ([7, 9, 0, 1, 2, 3, 4, 5, 6, 7, 8, 9], [7])])
def laws_FnExactFillField.B8 : List Nat := [0, 1, 0, 7, 15, 31, 63, 63, 0, 383, 1023]
theorem laws_FnExactFillField.tab8 : rtab .any (opsOf Try.f4 8) = laws_FnExactFillField.T8 := by kernel_rfl
theorem laws_FnExactFillField.bits8 : waitsOk laws_FnExactFillField.T8.2 laws_FnExactFillField.B8 = true := by kernel_rfl
def laws_FnExactFillField.T14 : Bool × List (List Nat × List Nat) := (true, [([], []), ([], []), ([1], [1]), ([0, 2, 2], [0, 2]), ([3], [3])])
def laws_FnExactFillField.B14 : List Nat := [0, 0, 2, 7, 15]
theorem laws_FnExactFillField.tab14 : rtab .any (opsOf Try.f4 14) = laws_FnExactFillField.T14 := by kernel_rfl
theorem laws_FnExactFillField.bits14 : waitsOk laws_FnExactFillField.T14.2 laws_FnExactFillField.B14 = true := by kernel_rfl
def laws_FnExactFillField.T16 : Bool × List (List Nat × List Nat) := (true, [([], []), ([], []), ([1], [1]), ([0, 2, 2], [0, 2]), ([3], [3])])
def laws_FnExactFillField.B16 : List Nat := [0, 0, 2, 7, 15]
theorem laws_FnExactFillField.tab16 : rtab .any (opsOf Try.f4 16) = laws_FnExactFillField.T16 := by kernel_rfl
theorem laws_FnExactFillField.bits16 : waitsOk laws_FnExactFillField.T16.2 laws_FnExactFillField.B16 = true := by kernel_rfl
def laws_FnExactFillField.T31 : Bool × List (List Nat × List Nat) := (true, [([], []), ([0], [0]), ([], []), ([2, 1], [2]), ([1, 3, 3], [1, 3]), ([4], [4]), ([5], [5]), ([5], [5]), ([], []), ([8, 6, 4, 0, 1, 2, 3, 4, 5, 6, 8], [6, 8]), ([7, 9, 0, 1, 2, 3, 4, 5, 6, 7, 8, 9], [7])])
def laws_FnExactFillField.B31 : List Nat := [0, 1, 0, 7, 15, 31, 63, 63, 0, 383, 1023]
theorem laws_FnExactFillField.tab31 : rtab .any (opsOf Try.f4 31) = laws_FnExactFillField.T31 := by kernel_rfl
theorem laws_FnExactFillField.bits31 : waitsOk laws_FnExactFillField.T31.2 laws_FnExactFillField.B31 = true := by kernel_rfl
set_option maxHeartbeats 8000000 in
set_option maxRecDepth 100000 in
theorem laws_FnExactFillField.calls (k : Nat) (a0_0 : Int) (A0_1 : Option Addr) (c0_1 : Nat) (l0_1 : List (List Int)) (A0_2 : Option Addr) (c0_2 : Nat) (l0_2 : List (List Int)) (a1_0 : Int) (a1_1 : Int) (A1_2 : Option Addr) (c1_2 : Nat) (l1_2 : List Int) (r : Bool) (w : World) (hr0_1 : Kd.C (Kd.slice 3 (Kd.int .i64)) w A0_1 l0_1.length l0_1) (hc0_1 : l0_1.length ≤ c0_1) (hr0_2 : Kd.C (Kd.slice 3 (Kd.int .i64)) w A0_2 l0_2.length l0_2) (hc0_2 : l0_2.length ≤ c0_2) (hr1_2 : Kd.C (Kd.int .i64) w A1_2 l1_2.length l1_2) (hc1_2 : l1_2.length ≤ c1_2) (h : laws_FnExactFillField.f k a0_0 l0_1 l0_2 a1_0 a1_1 l1_2 = some r) :
    Calls Try.prog 4 #[.agg #[.int .i64 a0_0, .slice A0_1 l0_1.length c0_1, .slice A0_2 l0_2.length c0_2], .agg #[.int .i64 a1_0, .int .i64 a1_1, .slice A1_2 l1_2.length c1_2]] w fun e w' => e = .returned (.bool r) ∧ Below w.heap.size w w' := by
  have HR0_1 := Aside0.mk hr0_1
  have HC0_1 := Aside0.mk hc0_1
  clear hr0_1 hc0_1
  have HR0_2 := Aside0.mk hr0_2
  have HC0_2 := Aside0.mk hc0_2
  clear hr0_2 hc0_2
  have HR1_2 := Aside0.mk hr1_2
  have HC1_2 := Aside0.mk hc1_2
  clear hr1_2 hc1_2
  have HB := Aside0.mk (Below.refl w.heap.size w)
  unfold laws_FnExactFillField.f at h
  have H := h
  clear h
  replace H := bE_ H
  obtain ⟨t3, hA3, H⟩ := H
  have A3 := Aside0.mk hA3
  clear hA3
  by_cases c_ : t3 < 0
  · rw [if_pos c_] at H
    have fb46 : decide (t3 < 0) = true := decide_eq_true c_
    clear c_
    obtain rfl := Option.some.inj H
    go_enter Try.func4, Try.ntmps4
    go_wp2_with (first | ((with_reducible refine gate_dst (N := 2) rfl ?_); refine bx_ 2 #[.int .i64 a0_0, .slice A0_1 l0_1.length c0_1, .slice A0_2 l0_2.length c0_2] 24 ?_; intro g1 hg w1001 hbox hb; have n0_ := Aside0.mk (below_step HB.out hb); have SZ1 := Aside0.mk (show w.heap.size ≤ w1001.heap.size from (hb).size); clear HB; have HB := n0_; clear n0_; have BK1 := Aside0.mk hbox; have GL1 := Aside0.mk (show w.heap.size ≤ g1 from Nat.le_of_eq hg.symm); have GU1 := Aside0.mk (blk_lt hbox); clear hbox hg hb; have hx1_0 := cz_ BK1.out 0; have hf1_0 : w1001.frozen? ⟨g1, 0, none⟩ = false := blk_frozen BK1.out 0; have hx1_1 := cz_ BK1.out 1; have hf1_1 : w1001.frozen? ⟨g1, 1, none⟩ = false := blk_frozen BK1.out 1; have hx1_2 := cz_ BK1.out 2; have hf1_2 : w1001.frozen? ⟨g1, 2, none⟩ = false := blk_frozen BK1.out 2) | ((with_reducible refine gate_dst (N := 3) rfl ?_); refine bx_ 3 #[.int .i64 a1_0, .int .i64 a1_1, .slice A1_2 l1_2.length c1_2] 27 ?_; intro g2 hg w1002 hbox hb; clear hx1_0 hf1_0 hx1_1 hf1_1 hx1_2 hf1_2; have n0_ := Aside0.mk (below_step HB.out hb); have n1_ := Aside0.mk (blk_below BK1.out hb); have SZ2 := Aside0.mk (show w1001.heap.size ≤ w1002.heap.size from (hb).size); clear HB BK1; have HB := n0_; have BK1 := n1_; clear n0_ n1_; have BK2 := Aside0.mk hbox; have GL2 := Aside0.mk (show w1001.heap.size ≤ g2 from Nat.le_of_eq hg.symm); have GU2 := Aside0.mk (blk_lt hbox); clear hbox hg hb; have hx1_0 := cz_ BK1.out 0; have hf1_0 : w1002.frozen? ⟨g1, 0, none⟩ = false := blk_frozen BK1.out 0; have hx1_1 := cz_ BK1.out 1; have hf1_1 : w1002.frozen? ⟨g1, 1, none⟩ = false := blk_frozen BK1.out 1; have hx1_2 := cz_ BK1.out 2; have hf1_2 : w1002.frozen? ⟨g1, 2, none⟩ = false := blk_frozen BK1.out 2; have hx2_0 := cz_ BK2.out 0; have hf2_0 : w1002.frozen? ⟨g2, 0, none⟩ = false := blk_frozen BK2.out 0; have hx2_1 := cz_ BK2.out 1; have hf2_1 : w1002.frozen? ⟨g2, 1, none⟩ = false := blk_frozen BK2.out 1; have hx2_2 := cz_ BK2.out 2; have hf2_2 : w1002.frozen? ⟨g2, 2, none⟩ = false := blk_frozen BK2.out 2) | (go_at_call 5; (with_reducible refine (laws_szRules.calls k a0_0 _ _ l0_1 _ _ l0_2 1048576 t3 _ ?sd3_1 ?sd3_2 ?sd3_3 ?sd3_4 A3.out).mono ?_); (case sd3_1 => exact Kd.C_below HR0_1.out HB.out); (case sd3_2 => exact HC0_1.out); (case sd3_3 => exact Kd.C_below HR0_2.out HB.out); (case sd3_4 => exact HC0_2.out); rintro e w1003 ⟨rfl, hb⟩; have hs_ := below_size HB.out; clear hx1_0 hf1_0 hx1_1 hf1_1 hx1_2 hf1_2 hx2_0 hf2_0 hx2_1 hf2_1 hx2_2 hf2_2; have n0_ := Aside0.mk (below_step HB.out hb); have n1_ := Aside0.mk (blk_below BK1.out hb); have n2_ := Aside0.mk (blk_below BK2.out hb); have SZ3 := Aside0.mk (show w1002.heap.size ≤ w1003.heap.size from (hb).size); clear HB BK1 BK2; have HB := n0_; have BK1 := n1_; have BK2 := n2_; clear n0_ n1_ n2_; clear hb hs_; have hx1_0 := cz_ BK1.out 0; have hf1_0 : w1003.frozen? ⟨g1, 0, none⟩ = false := blk_frozen BK1.out 0; have hx1_1 := cz_ BK1.out 1; have hf1_1 : w1003.frozen? ⟨g1, 1, none⟩ = false := blk_frozen BK1.out 1; have hx1_2 := cz_ BK1.out 2; have hf1_2 : w1003.frozen? ⟨g1, 2, none⟩ = false := blk_frozen BK1.out 2; have hx2_0 := cz_ BK2.out 0; have hf2_0 : w1003.frozen? ⟨g2, 0, none⟩ = false := blk_frozen BK2.out 0; have hx2_1 := cz_ BK2.out 1; have hf2_1 : w1003.frozen? ⟨g2, 1, none⟩ = false := blk_frozen BK2.out 1; have hx2_2 := cz_ BK2.out 2; have hf2_2 : w1003.frozen? ⟨g2, 2, none⟩ = false := blk_frozen BK2.out 2))
    go_ret
    exact ⟨rfl, HB.out⟩
  rw [if_neg c_] at H
  have fb47 : decide (t3 < 0) = false := decide_eq_false c_
  clear c_
  replace H := bE_ H
  obtain ⟨t4, hA4, H⟩ := H
  have A4 := Aside0.mk hA4
  clear hA4
  by_cases c_ : t4 < 0
  · rw [if_pos c_] at H
    have fb48 : decide (t4 < 0) = true := decide_eq_true c_
    clear c_
    obtain rfl := Option.some.inj H
    go_enter Try.func4, Try.ntmps4
    go_wp2_with (first | ((with_reducible refine gate_dst (N := 2) rfl ?_); refine bx_ 2 #[.int .i64 a0_0, .slice A0_1 l0_1.length c0_1, .slice A0_2 l0_2.length c0_2] 24 ?_; intro g1 hg w1001 hbox hb; have n0_ := Aside0.mk (below_step HB.out hb); have SZ1 := Aside0.mk (show w.heap.size ≤ w1001.heap.size from (hb).size); clear HB; have HB := n0_; clear n0_; have BK1 := Aside0.mk hbox; have GL1 := Aside0.mk (show w.heap.size ≤ g1 from Nat.le_of_eq hg.symm); have GU1 := Aside0.mk (blk_lt hbox); clear hbox hg hb; have hx1_0 := cz_ BK1.out 0; have hf1_0 : w1001.frozen? ⟨g1, 0, none⟩ = false := blk_frozen BK1.out 0; have hx1_1 := cz_ BK1.out 1; have hf1_1 : w1001.frozen? ⟨g1, 1, none⟩ = false := blk_frozen BK1.out 1; have hx1_2 := cz_ BK1.out 2; have hf1_2 : w1001.frozen? ⟨g1, 2, none⟩ = false := blk_frozen BK1.out 2) | ((with_reducible refine gate_dst (N := 3) rfl ?_); refine bx_ 3 #[.int .i64 a1_0, .int .i64 a1_1, .slice A1_2 l1_2.length c1_2] 27 ?_; intro g2 hg w1002 hbox hb; clear hx1_0 hf1_0 hx1_1 hf1_1 hx1_2 hf1_2; have n0_ := Aside0.mk (below_step HB.out hb); have n1_ := Aside0.mk (blk_below BK1.out hb); have SZ2 := Aside0.mk (show w1001.heap.size ≤ w1002.heap.size from (hb).size); clear HB BK1; have HB := n0_; have BK1 := n1_; clear n0_ n1_; have BK2 := Aside0.mk hbox; have GL2 := Aside0.mk (show w1001.heap.size ≤ g2 from Nat.le_of_eq hg.symm); have GU2 := Aside0.mk (blk_lt hbox); clear hbox hg hb; have hx1_0 := cz_ BK1.out 0; have hf1_0 : w1002.frozen? ⟨g1, 0, none⟩ = false := blk_frozen BK1.out 0; have hx1_1 := cz_ BK1.out 1; have hf1_1 : w1002.frozen? ⟨g1, 1, none⟩ = false := blk_frozen BK1.out 1; have hx1_2 := cz_ BK1.out 2; have hf1_2 : w1002.frozen? ⟨g1, 2, none⟩ = false := blk_frozen BK1.out 2; have hx2_0 := cz_ BK2.out 0; have hf2_0 : w1002.frozen? ⟨g2, 0, none⟩ = false := blk_frozen BK2.out 0; have hx2_1 := cz_ BK2.out 1; have hf2_1 : w1002.frozen? ⟨g2, 1, none⟩ = false := blk_frozen BK2.out 1; have hx2_2 := cz_ BK2.out 2; have hf2_2 : w1002.frozen? ⟨g2, 2, none⟩ = false := blk_frozen BK2.out 2) | (go_at_call 5; (with_reducible refine (laws_szRules.calls k a0_0 _ _ l0_1 _ _ l0_2 1048576 t3 _ ?sd3_1 ?sd3_2 ?sd3_3 ?sd3_4 A3.out).mono ?_); (case sd3_1 => exact Kd.C_below HR0_1.out HB.out); (case sd3_2 => exact HC0_1.out); (case sd3_3 => exact Kd.C_below HR0_2.out HB.out); (case sd3_4 => exact HC0_2.out); rintro e w1003 ⟨rfl, hb⟩; have hs_ := below_size HB.out; clear hx1_0 hf1_0 hx1_1 hf1_1 hx1_2 hf1_2 hx2_0 hf2_0 hx2_1 hf2_1 hx2_2 hf2_2; have n0_ := Aside0.mk (below_step HB.out hb); have n1_ := Aside0.mk (blk_below BK1.out hb); have n2_ := Aside0.mk (blk_below BK2.out hb); have SZ3 := Aside0.mk (show w1002.heap.size ≤ w1003.heap.size from (hb).size); clear HB BK1 BK2; have HB := n0_; have BK1 := n1_; have BK2 := n2_; clear n0_ n1_ n2_; clear hb hs_; have hx1_0 := cz_ BK1.out 0; have hf1_0 : w1003.frozen? ⟨g1, 0, none⟩ = false := blk_frozen BK1.out 0; have hx1_1 := cz_ BK1.out 1; have hf1_1 : w1003.frozen? ⟨g1, 1, none⟩ = false := blk_frozen BK1.out 1; have hx1_2 := cz_ BK1.out 2; have hf1_2 : w1003.frozen? ⟨g1, 2, none⟩ = false := blk_frozen BK1.out 2; have hx2_0 := cz_ BK2.out 0; have hf2_0 : w1003.frozen? ⟨g2, 0, none⟩ = false := blk_frozen BK2.out 0; have hx2_1 := cz_ BK2.out 1; have hf2_1 : w1003.frozen? ⟨g2, 1, none⟩ = false := blk_frozen BK2.out 1; have hx2_2 := cz_ BK2.out 2; have hf2_2 : w1003.frozen? ⟨g2, 2, none⟩ = false := blk_frozen BK2.out 2) | (go_at_call 6; (with_reducible refine (laws_szField.calls a1_0 a1_1 _ _ l1_2 t3 t4 _ ?sd4_1 ?sd4_2 A4.out).mono ?_); (case sd4_1 => exact Kd.C_below HR1_2.out HB.out); (case sd4_2 => exact HC1_2.out); rintro e w1004 ⟨rfl, hb⟩; have hs_ := below_size HB.out; clear hx1_0 hf1_0 hx1_1 hf1_1 hx1_2 hf1_2 hx2_0 hf2_0 hx2_1 hf2_1 hx2_2 hf2_2; have n0_ := Aside0.mk (below_step HB.out hb); have n1_ := Aside0.mk (blk_below BK1.out hb); have n2_ := Aside0.mk (blk_below BK2.out hb); have SZ4 := Aside0.mk (show w1003.heap.size ≤ w1004.heap.size from (hb).size); clear HB BK1 BK2; have HB := n0_; have BK1 := n1_; have BK2 := n2_; clear n0_ n1_ n2_; clear hb hs_; have hx1_0 := cz_ BK1.out 0; have hf1_0 : w1004.frozen? ⟨g1, 0, none⟩ = false := blk_frozen BK1.out 0; have hx1_1 := cz_ BK1.out 1; have hf1_1 : w1004.frozen? ⟨g1, 1, none⟩ = false := blk_frozen BK1.out 1; have hx1_2 := cz_ BK1.out 2; have hf1_2 : w1004.frozen? ⟨g1, 2, none⟩ = false := blk_frozen BK1.out 2; have hx2_0 := cz_ BK2.out 0; have hf2_0 : w1004.frozen? ⟨g2, 0, none⟩ = false := blk_frozen BK2.out 0; have hx2_1 := cz_ BK2.out 1; have hf2_1 : w1004.frozen? ⟨g2, 1, none⟩ = false := blk_frozen BK2.out 1; have hx2_2 := cz_ BK2.out 2; have hf2_2 : w1004.frozen? ⟨g2, 2, none⟩ = false := blk_frozen BK2.out 2))
    go_ret
    exact ⟨rfl, HB.out⟩
  rw [if_neg c_] at H
  have fb49 : decide (t4 < 0) = false := decide_eq_false c_
  clear c_
  replace H := bE_ H
  obtain ⟨⟨t5_0, t5_1, t5_2⟩, hA5, H⟩ := H
  try dsimp only at H
  have A5 := Aside0.mk hA5
  clear hA5
  replace H := bE_ H
  obtain ⟨⟨t8_0, t8_1, t8_2⟩, hA8, H⟩ := H
  try dsimp only at H
  have A8 := Aside0.mk hA8
  clear hA8
  replace H := bE_ H
  obtain ⟨⟨t10_0, t10_1, t10_2, t10_3, t10_4, t10_5⟩, hA10, H⟩ := H
  try dsimp only at H
  have A10 := Aside0.mk hA10
  clear hA10
  replace H := bE_ H
  obtain ⟨⟨t13_0, t13_1, t13_2⟩, hA13, H⟩ := H
  try dsimp only at H
  have A13 := Aside0.mk hA13
  clear hA13
  replace H := bE_ H
  obtain ⟨⟨t17_0, t17_1, t17_2⟩, hA17, H⟩ := H
  try dsimp only at H
  have A17 := Aside0.mk hA17
  clear hA17
  replace H := bE_ H
  obtain ⟨⟨t20_0, t20_1, t20_2, t20_3, t20_4, t20_5⟩, hA20, H⟩ := H
  try dsimp only at H
  have A20 := Aside0.mk hA20
  clear hA20
  replace H := bE_ H
  obtain ⟨t23, hA23, H⟩ := H
  have A23 := Aside0.mk hA23
  clear hA23
  replace H := nd_ H
  obtain ⟨c_, H⟩ := H
  subst c_
  replace H := nd_ H
  obtain ⟨c_, H⟩ := H
  subst c_
  first | have fb50 : (t20_5 == t20_5) = true := beq_self_eq_true _ | have fb50 : (t20_5.toList == t20_5.toList) = true := beq_self_eq_true _
  first | have fb51 : (t20_5 != t20_5) = false := by simp | have fb51 : (t20_5.toList != t20_5.toList) = false := by simp
  replace H := bE_ H
  obtain ⟨⟨t24_0, t24_1, t24_2⟩, hA24, H⟩ := H
  try dsimp only at H
  have A24 := Aside0.mk hA24
  clear hA24
  replace H := bE_ H
  obtain ⟨t27, hA27, H⟩ := H
  have A27 := Aside0.mk hA27
  clear hA27
  replace H := nd_ H
  obtain ⟨c_, H⟩ := H
  subst c_
  replace H := bE_ H
  obtain ⟨⟨t28_0, t28_1, t28_2⟩, hA28, H⟩ := H
  try dsimp only at H
  have A28 := Aside0.mk hA28
  clear hA28
  replace H := bE_ H
  obtain ⟨t30, hA30, H⟩ := H
  have A30 := Aside0.mk hA30
  clear hA30
  replace H := nd_ H
  obtain ⟨c_, H⟩ := H
  subst c_
  replace H := bE_ H
  obtain ⟨⟨t31_0, t31_1, t31_2⟩, hA31, H⟩ := H
  try dsimp only at H
  have A31 := Aside0.mk hA31
  clear hA31
  replace H := bE_ H
  obtain ⟨⟨t32_0, t32_1⟩, hA32, H⟩ := H
  try dsimp only at H
  have A32 := Aside0.mk hA32
  clear hA32
  replace H := nd_ H
  obtain ⟨c_, H⟩ := H
  have fb52 : decide (t32_0 < 0) = false := decide_eq_false c_
  clear c_
  replace H := bE_ H
  obtain ⟨t33, hA33, H⟩ := H
  have A33 := Aside0.mk hA33
  clear hA33
  replace H := nd_ H
  obtain ⟨c_, H⟩ := H
  subst c_
  replace H := nd_ H
  obtain ⟨c_, H⟩ := H
  clear c_
  replace H := bE_ H
  obtain ⟨⟨t34_0, t34_1⟩, hA34, H⟩ := H
  try dsimp only at H
  have A34 := Aside0.mk hA34
  clear hA34
  replace H := bE_ H
  obtain ⟨t35, hA35, H⟩ := H
  have A35 := Aside0.mk hA35
  clear hA35
  replace H := nd_ H
  obtain ⟨c_, H⟩ := H
  have fb53 : decide (t35 < 0) = false := decide_eq_false c_
  clear c_
  replace H := nd_ H
  obtain ⟨c_, H⟩ := H
  subst c_
  first | have fb54 : (t35 == t35) = true := beq_self_eq_true _ | have fb54 : (t35.toList == t35.toList) = true := beq_self_eq_true _
  first | have fb55 : (t35 != t35) = false := by simp | have fb55 : (t35.toList != t35.toList) = false := by simp
  replace H := bE_ H
  obtain ⟨⟨t36_0, t36_1, t36_2⟩, hA36, H⟩ := H
  try dsimp only at H
  have A36 := Aside0.mk hA36
  clear hA36
  replace H := bE_ H
  obtain ⟨⟨t39_0, t39_1, t39_2⟩, hA39, H⟩ := H
  try dsimp only at H
  have A39 := Aside0.mk hA39
  clear hA39
  replace H := bE_ H
  obtain ⟨⟨t41_0, t41_1, t41_2, t41_3, t41_4, t41_5⟩, hA41, H⟩ := H
  try dsimp only at H
  have A41 := Aside0.mk hA41
  clear hA41
  replace H := bE_ H
  obtain ⟨t44, hA44, H⟩ := H
  have A44 := Aside0.mk hA44
  clear hA44
  replace H := nd_ H
  obtain ⟨c_, H⟩ := H
  subst c_
  replace H := nd_ H
  obtain ⟨c_, H⟩ := H
  subst c_
  first | have fb56 : (t41_5 == t41_5) = true := beq_self_eq_true _ | have fb56 : (t41_5.toList == t41_5.toList) = true := beq_self_eq_true _
  first | have fb57 : (t41_5 != t41_5) = false := by simp | have fb57 : (t41_5.toList != t41_5.toList) = false := by simp
  replace H := bE_ H
  obtain ⟨t45, hA45, H⟩ := H
  have A45 := Aside0.mk hA45
  clear hA45
  replace H := nd_ H
  obtain ⟨c_, H⟩ := H
  have fb58 : decide (t45 < 0) = false := decide_eq_false c_
  clear c_
  replace H := nd_ H
  obtain ⟨c_, H⟩ := H
  subst c_
  first | have fb59 : (t45 == t45) = true := beq_self_eq_true _ | have fb59 : (t45.toList == t45.toList) = true := beq_self_eq_true _
  first | have fb60 : (t45 != t45) = false := by simp | have fb60 : (t45.toList != t45.toList) = false := by simp
  obtain rfl := Option.some.inj H
  go_enter Try.func4, Try.ntmps4
  go_upto_region 8 with (first | ((with_reducible refine gate_dst (N := 2) rfl ?_); refine bx_ 2 #[.int .i64 a0_0, .slice A0_1 l0_1.length c0_1, .slice A0_2 l0_2.length c0_2] 24 ?_; intro g1 hg w1001 hbox hb; have n0_ := Aside0.mk (below_step HB.out hb); have SZ1 := Aside0.mk (show w.heap.size ≤ w1001.heap.size from (hb).size); clear HB; have HB := n0_; clear n0_; have BK1 := Aside0.mk hbox; have GL1 := Aside0.mk (show w.heap.size ≤ g1 from Nat.le_of_eq hg.symm); have GU1 := Aside0.mk (blk_lt hbox); clear hbox hg hb; have hx1_0 := cz_ BK1.out 0; have hf1_0 : w1001.frozen? ⟨g1, 0, none⟩ = false := blk_frozen BK1.out 0; have hx1_1 := cz_ BK1.out 1; have hf1_1 : w1001.frozen? ⟨g1, 1, none⟩ = false := blk_frozen BK1.out 1; have hx1_2 := cz_ BK1.out 2; have hf1_2 : w1001.frozen? ⟨g1, 2, none⟩ = false := blk_frozen BK1.out 2) | ((with_reducible refine gate_dst (N := 3) rfl ?_); refine bx_ 3 #[.int .i64 a1_0, .int .i64 a1_1, .slice A1_2 l1_2.length c1_2] 27 ?_; intro g2 hg w1002 hbox hb; clear hx1_0 hf1_0 hx1_1 hf1_1 hx1_2 hf1_2; have n0_ := Aside0.mk (below_step HB.out hb); have n1_ := Aside0.mk (blk_below BK1.out hb); have SZ2 := Aside0.mk (show w1001.heap.size ≤ w1002.heap.size from (hb).size); clear HB BK1; have HB := n0_; have BK1 := n1_; clear n0_ n1_; have BK2 := Aside0.mk hbox; have GL2 := Aside0.mk (show w1001.heap.size ≤ g2 from Nat.le_of_eq hg.symm); have GU2 := Aside0.mk (blk_lt hbox); clear hbox hg hb; have hx1_0 := cz_ BK1.out 0; have hf1_0 : w1002.frozen? ⟨g1, 0, none⟩ = false := blk_frozen BK1.out 0; have hx1_1 := cz_ BK1.out 1; have hf1_1 : w1002.frozen? ⟨g1, 1, none⟩ = false := blk_frozen BK1.out 1; have hx1_2 := cz_ BK1.out 2; have hf1_2 : w1002.frozen? ⟨g1, 2, none⟩ = false := blk_frozen BK1.out 2; have hx2_0 := cz_ BK2.out 0; have hf2_0 : w1002.frozen? ⟨g2, 0, none⟩ = false := blk_frozen BK2.out 0; have hx2_1 := cz_ BK2.out 1; have hf2_1 : w1002.frozen? ⟨g2, 1, none⟩ = false := blk_frozen BK2.out 1; have hx2_2 := cz_ BK2.out 2; have hf2_2 : w1002.frozen? ⟨g2, 2, none⟩ = false := blk_frozen BK2.out 2) | (go_at_call 5; (with_reducible refine (laws_szRules.calls k a0_0 _ _ l0_1 _ _ l0_2 1048576 t3 _ ?sd3_1 ?sd3_2 ?sd3_3 ?sd3_4 A3.out).mono ?_); (case sd3_1 => exact Kd.C_below HR0_1.out HB.out); (case sd3_2 => exact HC0_1.out); (case sd3_3 => exact Kd.C_below HR0_2.out HB.out); (case sd3_4 => exact HC0_2.out); rintro e w1003 ⟨rfl, hb⟩; have hs_ := below_size HB.out; clear hx1_0 hf1_0 hx1_1 hf1_1 hx1_2 hf1_2 hx2_0 hf2_0 hx2_1 hf2_1 hx2_2 hf2_2; have n0_ := Aside0.mk (below_step HB.out hb); have n1_ := Aside0.mk (blk_below BK1.out hb); have n2_ := Aside0.mk (blk_below BK2.out hb); have SZ3 := Aside0.mk (show w1002.heap.size ≤ w1003.heap.size from (hb).size); clear HB BK1 BK2; have HB := n0_; have BK1 := n1_; have BK2 := n2_; clear n0_ n1_ n2_; clear hb hs_; have hx1_0 := cz_ BK1.out 0; have hf1_0 : w1003.frozen? ⟨g1, 0, none⟩ = false := blk_frozen BK1.out 0; have hx1_1 := cz_ BK1.out 1; have hf1_1 : w1003.frozen? ⟨g1, 1, none⟩ = false := blk_frozen BK1.out 1; have hx1_2 := cz_ BK1.out 2; have hf1_2 : w1003.frozen? ⟨g1, 2, none⟩ = false := blk_frozen BK1.out 2; have hx2_0 := cz_ BK2.out 0; have hf2_0 : w1003.frozen? ⟨g2, 0, none⟩ = false := blk_frozen BK2.out 0; have hx2_1 := cz_ BK2.out 1; have hf2_1 : w1003.frozen? ⟨g2, 1, none⟩ = false := blk_frozen BK2.out 1; have hx2_2 := cz_ BK2.out 2; have hf2_2 : w1003.frozen? ⟨g2, 2, none⟩ = false := blk_frozen BK2.out 2) | (go_at_call 6; (with_reducible refine (laws_szField.calls a1_0 a1_1 _ _ l1_2 t3 t4 _ ?sd4_1 ?sd4_2 A4.out).mono ?_); (case sd4_1 => exact Kd.C_below HR1_2.out HB.out); (case sd4_2 => exact HC1_2.out); rintro e w1004 ⟨rfl, hb⟩; have hs_ := below_size HB.out; clear hx1_0 hf1_0 hx1_1 hf1_1 hx1_2 hf1_2 hx2_0 hf2_0 hx2_1 hf2_1 hx2_2 hf2_2; have n0_ := Aside0.mk (below_step HB.out hb); have n1_ := Aside0.mk (blk_below BK1.out hb); have n2_ := Aside0.mk (blk_below BK2.out hb); have SZ4 := Aside0.mk (show w1003.heap.size ≤ w1004.heap.size from (hb).size); clear HB BK1 BK2; have HB := n0_; have BK1 := n1_; have BK2 := n2_; clear n0_ n1_ n2_; clear hb hs_; have hx1_0 := cz_ BK1.out 0; have hf1_0 : w1004.frozen? ⟨g1, 0, none⟩ = false := blk_frozen BK1.out 0; have hx1_1 := cz_ BK1.out 1; have hf1_1 : w1004.frozen? ⟨g1, 1, none⟩ = false := blk_frozen BK1.out 1; have hx1_2 := cz_ BK1.out 2; have hf1_2 : w1004.frozen? ⟨g1, 2, none⟩ = false := blk_frozen BK1.out 2; have hx2_0 := cz_ BK2.out 0; have hf2_0 : w1004.frozen? ⟨g2, 0, none⟩ = false := blk_frozen BK2.out 0; have hx2_1 := cz_ BK2.out 1; have hf2_1 : w1004.frozen? ⟨g2, 1, none⟩ = false := blk_frozen BK2.out 1; have hx2_2 := cz_ BK2.out 2; have hf2_2 : w1004.frozen? ⟨g2, 2, none⟩ = false := blk_frozen BK2.out 2))
  (try simp only [Act.put, List.setIfInBounds_toArray, List.set_cons_zero, List.set_cons_succ])
  clear hx1_0 hf1_0 hx1_1 hf1_1 hx1_2 hf1_2 hx2_0 hf2_0 hx2_1 hf2_1 hx2_2 hf2_2
  have n0_ := Aside0.mk (below_step HB.out (below_drew1 (Below.refl w1004.heap.size w1004)))
  have n1_ := Aside0.mk (blk_below BK1.out (below_drew1 (Below.refl w1004.heap.size w1004)))
  have n2_ := Aside0.mk (blk_below BK2.out (below_drew1 (Below.refl w1004.heap.size w1004)))
  have SZ5 := Aside0.mk (show w1004.heap.size ≤ w1004.drew.heap.size from ((below_drew1 (Below.refl w1004.heap.size w1004))).size)
  clear HB BK1 BK2
  have HB := n0_
  have BK1 := n1_
  have BK2 := n2_
  clear n0_ n1_ n2_
  refine start_ (n := 11) (S := fun w' => w'.cell? ⟨g1, 0, none⟩ = some (.int .i64 a0_0) ∧ w'.cell? ⟨g1, 1, none⟩ = some (.slice A0_1 l0_1.length c0_1) ∧ w'.cell? ⟨g1, 2, none⟩ = some (.slice A0_2 l0_2.length c0_2) ∧ w'.cell? ⟨g2, 0, none⟩ = some (.int .i64 a1_0) ∧ w'.cell? ⟨g2, 1, none⟩ = some (.int .i64 a1_1) ∧ w'.cell? ⟨g2, 2, none⟩ = some (.slice A1_2 l1_2.length c1_2)) (ds := []) (Array.replicate 11 false) (by kernel_rfl) rfl rfl ⟨cz_ BK1.out 0, cz_ BK1.out 1, cz_ BK1.out 2, cz_ BK2.out 0, cz_ BK2.out 1, cz_ BK2.out 2⟩ (fun hHeld => ?_); refine with_tabW laws_FnExactFillField.tab8 laws_FnExactFillField.bits8 (fun HT_ HW_ => ?_)
  generalize w1004.drew = w3004 at HB BK1 BK2 SZ5 hHeld ⊢
  refine take_ (i := 0) (N := some 28) (v := ?_) (a' := ?_) #[true, false, false, false, false, false, false, false, false, false, false] rfl rfl (take_ofW HT_.out HW_.out (by kernel_rfl)) (fun _ _ _ h => h) (Or.inl ⟨by rfl, ?_⟩) hHeld ?_ ?_
  rotate_left
  · rintro w' ⟨s0, s1, s2, s3, s4, s5⟩
    go_simp
    with_reducible rfl
  rotate_left
  · simp only [Act.put, List.setIfInBounds_toArray, List.set_cons_zero, List.set_cons_succ, i64_w, i32_w]
    rfl
  refine take_ (i := 2) (N := some 30) (v := ?_) (a' := ?_) #[true, false, true, false, false, false, false, false, false, false, false] rfl rfl (take_ofW HT_.out HW_.out (by kernel_rfl)) (fun _ _ _ h => h) (Or.inl ⟨by rfl, ?_⟩) hHeld ?_ ?_
  rotate_left
  · rintro w' ⟨s0, s1, s2, s3, s4, s5⟩
    go_simp
    with_reducible rfl
  rotate_left
  · simp only [Act.put, List.setIfInBounds_toArray, List.set_cons_zero, List.set_cons_succ, i64_w, i32_w]
    rfl
  refine join_ (σ := Value × Value × Option Addr × Nat × World × World × Nat) 2 #[true, true, true, true, true, true, true, true, true, false, false] (fun s_ => [(29, s_.1), (31, s_.2.1), (32, .tuple #[.agg #[.bool t10_0, .int .i64 t10_1, .int .i64 t10_2, .slice s_.2.2.1 t10_3.length s_.2.2.2.1, .int .i64 t10_4], .bool t41_5]), (6, .pointer (some ⟨s_.2.2.2.2.2.2, 0, none⟩)), (27, .tuple #[.agg #[.bool t10_0, .int .i64 t10_1, .int .i64 t10_2, .slice s_.2.2.1 t10_3.length s_.2.2.2.1, .int .i64 t10_4], .bool t41_5]), (33, .agg #[.bool t10_0, .int .i64 t10_1, .int .i64 t10_2, .slice s_.2.2.1 t10_3.length s_.2.2.2.1, .int .i64 t10_4]), (34, .bool t41_5)]) (fun s_ w' => (Below w.heap.size w w') ∧ (w'.heap[g1]? = some (.cells #[.int .i64 a0_0, .slice A0_1 l0_1.length c0_1, .slice A0_2 l0_2.length c0_2] 24 (0, 0))) ∧ (w'.heap[g2]? = some (.cells #[.int .i64 a1_0, .int .i64 a1_1, .slice A1_2 l1_2.length c1_2] 27 (0, 0))) ∧ (Kd.R (Kd.int .i64) 3 w' w.heap.size (Zone s_.2.2.2.2.1 s_.2.2.2.2.2.1 (3 :: ((Kd.int .i64)).E)) (.slice s_.2.2.1 t10_3.length s_.2.2.2.1) t10_3) ∧ (w'.heap[s_.2.2.2.2.2.2]? = some (.cells #[.bool false, .int .i64 0, .int .i64 0, .slice none 0 0, .int .i64 0] 44 (0, 0))) ∧ (w3004.heap.size ≤ s_.2.2.2.2.1.heap.size) ∧ (s_.2.2.2.2.1.heap.size ≤ s_.2.2.2.2.2.1.heap.size) ∧ (s_.2.2.2.2.2.1.heap.size ≤ w'.heap.size) ∧ (s_.2.2.2.2.2.1.heap.size ≤ s_.2.2.2.2.2.2 ∨ s_.2.2.2.2.2.2 < s_.2.2.2.2.1.heap.size) ∧ (w3004.heap.size ≤ s_.2.2.2.2.2.2) ∧ (s_.2.2.2.2.2.2 < w'.heap.size)) ?_ ?_
  rotate_left
  · intro hCont
    refine two_ (i := 1) (j := 8) (Ni := some 29) (Nj := some 6) #[true, true, true, false, false, false, false, false, false, false, false] #[true, false, true, false, false, false, false, false, true, false, false] rfl rfl rfl rfl (two_of HT_.out (by kernel_rfl)) (by decide) (by decide) (fun K hK => ?_) (fun K hK => ?_)
    · skip
      refine goes_ Try.func8 (by kernel_rfl) rfl #[.agg #[.int .i64 a0_0, .slice A0_1 l0_1.length c0_1, .slice A0_2 l0_2.length c0_2]] (by rfl) rfl rfl (by (try simp only [List.map_toArray, List.map_cons, List.map_nil]); first | done | rfl) ?_
      (with_reducible refine (laws_toRules.callsZ k a0_0 _ _ l0_1 _ _ l0_2 t5_0 t5_1 t5_2 _ ?sd5_1 ?sd5_2 ?sd5_3 ?sd5_4 A5.out).mono ?_)
      (case sd5_1 => exact Kd.C_below HR0_1.out HB.out)
      (case sd5_2 => exact HC0_1.out)
      (case sd5_3 => exact Kd.C_below HR0_2.out HB.out)
      (case sd5_4 => exact HC0_2.out)
      rintro e w1005 ⟨v_6, v_7, wz5_0a, wz5_0b, wz5_1a, wz5_1b, rfl, ho0, ho1, ⟨hz0, hz1, hz2, hz3, hz4⟩, hb⟩
      refine ⟨_, rfl, ?_⟩
      have hs_ := below_size HB.out
      have n0_ := Aside0.mk (below_step HB.out hb)
      have n1_ := Aside0.mk (blk_below BK1.out hb)
      have n2_ := Aside0.mk (blk_below BK2.out hb)
      clear HB BK1 BK2
      have HB := n0_
      have BK1 := n1_
      have BK2 := n2_
      clear n0_ n1_ n2_
      have SZ6 := Aside0.mk hz0
      have SZ7 := Aside0.mk hz1
      have SZ8 := Aside0.mk hz2
      have SZ9 := Aside0.mk hz3
      have SZ10 := Aside0.mk hz4
      clear hz0 hz1 hz2 hz3 hz4
      have HO6 := Aside0.mk (Kd.S_lower ho0 hs_)
      clear ho0
      obtain ⟨A_6, c_6, e_6⟩ := Kd.S_slice HO6.out
      subst e_6
      have HO7 := Aside0.mk (Kd.S_lower ho1 hs_)
      clear ho1
      obtain ⟨A_7, c_7, e_7⟩ := Kd.S_slice HO7.out
      subst e_7
      clear hb hs_
      refine hK.out _ _ ⟨cz_ BK1.out 0, cz_ BK1.out 1, cz_ BK1.out 2, cz_ BK2.out 0, cz_ BK2.out 1, cz_ BK2.out 2⟩ (fun hHeld => ?_)
      clear hK K
      refine norm_ (a' := ?_) ?_ ?_
      rotate_left
      · show Act.put _ (some 29) _ = _
        simp only [Act.put, List.setIfInBounds_toArray, List.set_cons_zero, List.set_cons_succ, i64_w, i32_w]
        rfl
      refine two_ (i := 3) (j := 8) (Ni := some 31) (Nj := some 6) #[true, true, true, true, false, false, false, false, false, false, false] #[true, true, true, false, false, false, false, false, true, false, false] rfl rfl rfl rfl (two_of HT_.out (by kernel_rfl)) (by decide) (by decide) (fun K hK => ?_) (fun K hK => ?_)
      · skip
        refine goes_ Try.func9 (by kernel_rfl) rfl #[.agg #[.int .i64 a1_0, .int .i64 a1_1, .slice A1_2 l1_2.length c1_2]] (by rfl) rfl rfl (by (try simp only [List.map_toArray, List.map_cons, List.map_nil]); first | done | rfl) ?_
        (with_reducible refine (laws_toField.calls k a1_0 a1_1 _ _ l1_2 t8_0 t8_1 t8_2 _ ?sd8_1 ?sd8_2 A8.out).mono ?_)
        (case sd8_1 => exact Kd.C_below HR1_2.out HB.out)
        (case sd8_2 => exact HC1_2.out)
        rintro e w1008 ⟨v_9, rfl, ho0, hb⟩
        refine ⟨_, rfl, ?_⟩
        have hs_ := below_size HB.out
        have n0_ := Aside0.mk (below_step HB.out hb)
        have n1_ := Aside0.mk (Kd.S_below HO6.out hb)
        have n2_ := Aside0.mk (Kd.S_below HO7.out hb)
        have n3_ := Aside0.mk (blk_below BK1.out hb)
        have n4_ := Aside0.mk (blk_below BK2.out hb)
        have SZ11 := Aside0.mk (show w1005.heap.size ≤ w1008.heap.size from (hb).size)
        clear HB HO6 HO7 BK1 BK2
        have HB := n0_
        have HO6 := n1_
        have HO7 := n2_
        have BK1 := n3_
        have BK2 := n4_
        clear n0_ n1_ n2_ n3_ n4_
        have HO9 := Aside0.mk (R_zone ho0 hs_)
        clear ho0
        obtain ⟨A_9, c_9, e_9⟩ := Kd.R_slice HO9.out
        subst e_9
        clear hb hs_
        refine hK.out _ _ ⟨cz_ BK1.out 0, cz_ BK1.out 1, cz_ BK1.out 2, cz_ BK2.out 0, cz_ BK2.out 1, cz_ BK2.out 2⟩ (fun hHeld => ?_)
        clear hK K
        refine norm_ (a' := ?_) ?_ ?_
        rotate_left
        · show Act.put _ (some 31) _ = _
          simp only [Act.put, List.setIfInBounds_toArray, List.set_cons_zero, List.set_cons_succ, i64_w, i32_w]
          rfl
        refine two_ (i := 4) (j := 8) (Ni := some 32) (Nj := some 6) #[true, true, true, true, true, false, false, false, false, false, false] #[true, true, true, true, false, false, false, false, true, false, false] rfl rfl rfl rfl (two_of HT_.out (by kernel_rfl)) (by decide) (by decide) (fun K hK => ?_) (fun K hK => ?_)
        · skip
          refine goes_ Try.func18 (by kernel_rfl) rfl #[.agg #[.int .i64 t5_0, .slice A_6 t5_1.length c_6, .slice A_7 t5_2.length c_7], .agg #[.int .i64 t8_0, .int .i64 t8_1, .slice A_9 t8_2.length c_9]] (by rfl) rfl rfl (by (try simp only [List.map_toArray, List.map_cons, List.map_nil]); first | done | rfl) ?_
          (with_reducible refine (spec_FillField.calls k t5_0 _ _ t5_1 _ _ t5_2 t8_0 t8_1 _ _ t8_2 t10_0 t10_1 t10_2 t10_3 t10_4 t41_5 _ ?sd10_1 ?sd10_2 ?sd10_3 ?sd10_4 ?sd10_5 ?sd10_6 A10.out).mono ?_)
          (case sd10_1 => exact (Kd.S_reads' HO6.out).2.2)
          (case sd10_2 => exact (Kd.S_reads' HO6.out).2.1)
          (case sd10_3 => exact (Kd.S_reads' HO7.out).2.2)
          (case sd10_4 => exact (Kd.S_reads' HO7.out).2.1)
          (case sd10_5 => exact (Kd.R_reads' HO9.out).2.2)
          (case sd10_6 => exact (Kd.R_reads' HO9.out).2.1)
          rintro e w1010 ⟨v_11, rfl, ho0, hb⟩
          refine ⟨_, rfl, ?_⟩
          have hs_ := below_size HB.out
          have n0_ := Aside0.mk (below_step HB.out hb)
          have n1_ := Aside0.mk (Kd.S_below HO6.out hb)
          have n2_ := Aside0.mk (Kd.S_below HO7.out hb)
          have n3_ := Aside0.mk (Kd.R_below HO9.out hb)
          have n4_ := Aside0.mk (blk_below BK1.out hb)
          have n5_ := Aside0.mk (blk_below BK2.out hb)
          have SZ12 := Aside0.mk (show w1008.heap.size ≤ w1010.heap.size from (hb).size)
          clear HB HO6 HO7 HO9 BK1 BK2
          have HB := n0_
          have HO6 := n1_
          have HO7 := n2_
          have HO9 := n3_
          have BK1 := n4_
          have BK2 := n5_
          clear n0_ n1_ n2_ n3_ n4_ n5_
          have HO11 := Aside0.mk (R_zone ho0 hs_)
          clear ho0
          obtain ⟨A_11, c_11, e_11⟩ := Kd.R_slice HO11.out
          subst e_11
          clear hb hs_
          refine hK.out _ _ ⟨cz_ BK1.out 0, cz_ BK1.out 1, cz_ BK1.out 2, cz_ BK2.out 0, cz_ BK2.out 1, cz_ BK2.out 2⟩ (fun hHeld => ?_)
          clear hK K
          refine norm_ (a' := ?_) ?_ ?_
          rotate_left
          · show Act.put _ (some 32) _ = _
            simp only [Act.put, List.setIfInBounds_toArray, List.set_cons_zero, List.set_cons_succ, i64_w, i32_w]
            rfl
          refine pure_ (i := 5) (N := some 27) (v := ?_) (a' := ?_) #[true, true, true, true, true, true, false, false, false, false, false] rfl rfl (any_of HT_.out (by kernel_rfl)) (fun _ _ _ h => h) (Or.inl ⟨by rfl, ?_⟩) ?_ ?_
          rotate_left
          · intro w'
            go_simp
            with_reducible rfl
          rotate_left
          · simp only [Act.put, List.setIfInBounds_toArray, List.set_cons_zero, List.set_cons_succ, i64_w, i32_w]
            rfl
          refine pure_ (i := 6) (N := some 33) (v := ?_) (a' := ?_) #[true, true, true, true, true, true, true, false, false, false, false] rfl rfl (any_of HT_.out (by kernel_rfl)) (fun _ _ _ h => h) (Or.inl ⟨by rfl, ?_⟩) ?_ ?_
          rotate_left
          · intro w'
            go_simp
            with_reducible rfl
          rotate_left
          · simp only [Act.put, List.setIfInBounds_toArray, List.set_cons_zero, List.set_cons_succ, i64_w, i32_w]
            rfl
          refine pure_ (i := 7) (N := some 34) (v := ?_) (a' := ?_) #[true, true, true, true, true, true, true, true, false, false, false] rfl rfl (any_of HT_.out (by kernel_rfl)) (fun _ _ _ h => h) (Or.inl ⟨by rfl, ?_⟩) ?_ ?_
          rotate_left
          · intro w'
            go_simp
            with_reducible rfl
          rotate_left
          · simp only [Act.put, List.setIfInBounds_toArray, List.set_cons_zero, List.set_cons_succ, i64_w, i32_w]
            rfl
          refine oS_ 8 6 HT_ (fun K hK => ?_)
          refine box_step ?hg (N := 6) ?hd (cs := #[.bool false, .int .i64 0, .int .i64 0, .slice none 0 0, .int .i64 0]) (t := 44) ?hr ?_; (case hd => rfl); (case hg => rfl); (case hr => first | (go_simp; done) | (go_simp; rfl))
          intro g12 hg w1012 hbox hb
          have n0_ := Aside0.mk (below_step HB.out hb)
          have n1_ := Aside0.mk (Kd.S_below HO6.out hb)
          have n2_ := Aside0.mk (Kd.S_below HO7.out hb)
          have n3_ := Aside0.mk (Kd.R_below HO9.out hb)
          have n4_ := Aside0.mk (Kd.R_below HO11.out hb)
          have n5_ := Aside0.mk (blk_below BK1.out hb)
          have n6_ := Aside0.mk (blk_below BK2.out hb)
          have SZ13 := Aside0.mk (show w1010.heap.size ≤ w1012.heap.size from (hb).size)
          clear HB HO6 HO7 HO9 HO11 BK1 BK2
          have HB := n0_
          have HO6 := n1_
          have HO7 := n2_
          have HO9 := n3_
          have HO11 := n4_
          have BK1 := n5_
          have BK2 := n6_
          clear n0_ n1_ n2_ n3_ n4_ n5_ n6_
          have BK12 := Aside0.mk hbox
          have GL12 := Aside0.mk (show w1010.heap.size ≤ g12 from Nat.le_of_eq hg.symm)
          have GU12 := Aside0.mk (blk_lt hbox)
          clear hbox hg hb
          refine hK.out _ _ ⟨cz_ BK1.out 0, cz_ BK1.out 1, cz_ BK1.out 2, cz_ BK2.out 0, cz_ BK2.out 1, cz_ BK2.out 2⟩ (fun hHeld => ?_)
          clear hK K
          refine norm_ (a' := ?_) ?_ ?_
          rotate_left
          · show Act.put _ (some 6) _ = _
            simp only [Act.put, List.setIfInBounds_toArray, List.set_cons_zero, List.set_cons_succ, i64_w, i32_w]
            rfl
          exact norm_ (by first | (simp only [putAll, Act.put, List.setIfInBounds_toArray, List.set_cons_zero, List.set_cons_succ]; done) | (simp only [putAll, Act.put, List.setIfInBounds_toArray, List.set_cons_zero, List.set_cons_succ]; rfl)) (hCont ((.agg #[.int .i64 t5_0, .slice A_6 t5_1.length c_6, .slice A_7 t5_2.length c_7]), (.agg #[.int .i64 t8_0, .int .i64 t8_1, .slice A_9 t8_2.length c_9]), A_11, c_11, w1008, w1010, g12) _ ⟨HB.out, BK1.out, BK2.out, HO11.out, BK12.out, (show w3004.heap.size ≤ w1008.heap.size by first | exact Nat.le_refl _ | (have := SZ6.out; have := SZ7.out; have := SZ8.out; have := SZ9.out; have := SZ10.out; have := SZ11.out; omega)), (show w1008.heap.size ≤ w1010.heap.size by first | exact Nat.le_refl _ | (have := SZ12.out; omega)), (show w1010.heap.size ≤ w1012.heap.size by first | exact Nat.le_refl _ | (have := SZ13.out; omega)), (show w1010.heap.size ≤ g12 ∨ g12 < w1008.heap.size by have := GL12.out; have := GU12.out; omega), (show w3004.heap.size ≤ g12 by have := GL12.out; have := SZ6.out; have := SZ7.out; have := SZ8.out; have := SZ9.out; have := SZ10.out; have := SZ11.out; have := SZ12.out; omega), (show g12 < w1012.heap.size by have := GU12.out; omega)⟩)
        · skip
          refine box_step ?hg (N := 6) ?hd (cs := #[.bool false, .int .i64 0, .int .i64 0, .slice none 0 0, .int .i64 0]) (t := 44) ?hr ?_; (case hd => rfl); (case hg => rfl); (case hr => first | (go_simp; done) | (go_simp; rfl))
          intro g12 hg w1012 hbox hb
          have n0_ := Aside0.mk (below_step HB.out hb)
          have n1_ := Aside0.mk (Kd.S_below HO6.out hb)
          have n2_ := Aside0.mk (Kd.S_below HO7.out hb)
          have n3_ := Aside0.mk (Kd.R_below HO9.out hb)
          have n4_ := Aside0.mk (blk_below BK1.out hb)
          have n5_ := Aside0.mk (blk_below BK2.out hb)
          have SZ12 := Aside0.mk (show w1008.heap.size ≤ w1012.heap.size from (hb).size)
          clear HB HO6 HO7 HO9 BK1 BK2
          have HB := n0_
          have HO6 := n1_
          have HO7 := n2_
          have HO9 := n3_
          have BK1 := n4_
          have BK2 := n5_
          clear n0_ n1_ n2_ n3_ n4_ n5_
          have BK12 := Aside0.mk hbox
          have GL12 := Aside0.mk (show w1008.heap.size ≤ g12 from Nat.le_of_eq hg.symm)
          have GU12 := Aside0.mk (blk_lt hbox)
          clear hbox hg hb
          refine hK.out _ _ ⟨cz_ BK1.out 0, cz_ BK1.out 1, cz_ BK1.out 2, cz_ BK2.out 0, cz_ BK2.out 1, cz_ BK2.out 2⟩ (fun hHeld => ?_)
          clear hK K
          refine norm_ (a' := ?_) ?_ ?_
          rotate_left
          · show Act.put _ (some 6) _ = _
            simp only [Act.put, List.setIfInBounds_toArray, List.set_cons_zero, List.set_cons_succ, i64_w, i32_w]
            rfl
          refine oS_ 4 32 HT_ (fun K hK => ?_)
          refine goes_ Try.func18 (by kernel_rfl) rfl #[.agg #[.int .i64 t5_0, .slice A_6 t5_1.length c_6, .slice A_7 t5_2.length c_7], .agg #[.int .i64 t8_0, .int .i64 t8_1, .slice A_9 t8_2.length c_9]] (by rfl) rfl rfl (by (try simp only [List.map_toArray, List.map_cons, List.map_nil]); first | done | rfl) ?_
          (with_reducible refine (spec_FillField.calls k t5_0 _ _ t5_1 _ _ t5_2 t8_0 t8_1 _ _ t8_2 t10_0 t10_1 t10_2 t10_3 t10_4 t41_5 _ ?sd10_1 ?sd10_2 ?sd10_3 ?sd10_4 ?sd10_5 ?sd10_6 A10.out).mono ?_)
          (case sd10_1 => exact (Kd.S_reads' HO6.out).2.2)
          (case sd10_2 => exact (Kd.S_reads' HO6.out).2.1)
          (case sd10_3 => exact (Kd.S_reads' HO7.out).2.2)
          (case sd10_4 => exact (Kd.S_reads' HO7.out).2.1)
          (case sd10_5 => exact (Kd.R_reads' HO9.out).2.2)
          (case sd10_6 => exact (Kd.R_reads' HO9.out).2.1)
          rintro e w1010 ⟨v_11, rfl, ho0, hb⟩
          refine ⟨_, rfl, ?_⟩
          have hs_ := below_size HB.out
          have n0_ := Aside0.mk (below_step HB.out hb)
          have n1_ := Aside0.mk (Kd.S_below HO6.out hb)
          have n2_ := Aside0.mk (Kd.S_below HO7.out hb)
          have n3_ := Aside0.mk (Kd.R_below HO9.out hb)
          have n4_ := Aside0.mk (blk_below BK1.out hb)
          have n5_ := Aside0.mk (blk_below BK2.out hb)
          have n6_ := Aside0.mk (blk_below BK12.out hb)
          have SZ13 := Aside0.mk (show w1012.heap.size ≤ w1010.heap.size from (hb).size)
          clear HB HO6 HO7 HO9 BK1 BK2 BK12
          have HB := n0_
          have HO6 := n1_
          have HO7 := n2_
          have HO9 := n3_
          have BK1 := n4_
          have BK2 := n5_
          have BK12 := n6_
          clear n0_ n1_ n2_ n3_ n4_ n5_ n6_
          have HO11 := Aside0.mk (R_zone ho0 hs_)
          clear ho0
          obtain ⟨A_11, c_11, e_11⟩ := Kd.R_slice HO11.out
          subst e_11
          clear hb hs_
          refine hK.out _ _ ⟨cz_ BK1.out 0, cz_ BK1.out 1, cz_ BK1.out 2, cz_ BK2.out 0, cz_ BK2.out 1, cz_ BK2.out 2⟩ (fun hHeld => ?_)
          clear hK K
          refine norm_ (a' := ?_) ?_ ?_
          rotate_left
          · show Act.put _ (some 32) _ = _
            simp only [Act.put, List.setIfInBounds_toArray, List.set_cons_zero, List.set_cons_succ, i64_w, i32_w]
            rfl
          refine pure_ (i := 5) (N := some 27) (v := ?_) (a' := ?_) #[true, true, true, true, true, true, false, false, true, false, false] rfl rfl (any_of HT_.out (by kernel_rfl)) (fun _ _ _ h => h) (Or.inl ⟨by rfl, ?_⟩) ?_ ?_
          rotate_left
          · intro w'
            go_simp
            with_reducible rfl
          rotate_left
          · simp only [Act.put, List.setIfInBounds_toArray, List.set_cons_zero, List.set_cons_succ, i64_w, i32_w]
            rfl
          refine pure_ (i := 6) (N := some 33) (v := ?_) (a' := ?_) #[true, true, true, true, true, true, true, false, true, false, false] rfl rfl (any_of HT_.out (by kernel_rfl)) (fun _ _ _ h => h) (Or.inl ⟨by rfl, ?_⟩) ?_ ?_
          rotate_left
          · intro w'
            go_simp
            with_reducible rfl
          rotate_left
          · simp only [Act.put, List.setIfInBounds_toArray, List.set_cons_zero, List.set_cons_succ, i64_w, i32_w]
            rfl
          refine pure_ (i := 7) (N := some 34) (v := ?_) (a' := ?_) #[true, true, true, true, true, true, true, true, true, false, false] rfl rfl (any_of HT_.out (by kernel_rfl)) (fun _ _ _ h => h) (Or.inl ⟨by rfl, ?_⟩) ?_ ?_
          rotate_left
          · intro w'
            go_simp
            with_reducible rfl
          rotate_left
          · simp only [Act.put, List.setIfInBounds_toArray, List.set_cons_zero, List.set_cons_succ, i64_w, i32_w]
            rfl
          exact norm_ (by first | (simp only [putAll, Act.put, List.setIfInBounds_toArray, List.set_cons_zero, List.set_cons_succ]; done) | (simp only [putAll, Act.put, List.setIfInBounds_toArray, List.set_cons_zero, List.set_cons_succ]; rfl)) (hCont ((.agg #[.int .i64 t5_0, .slice A_6 t5_1.length c_6, .slice A_7 t5_2.length c_7]), (.agg #[.int .i64 t8_0, .int .i64 t8_1, .slice A_9 t8_2.length c_9]), A_11, c_11, w1012, w1010, g12) _ ⟨HB.out, BK1.out, BK2.out, HO11.out, BK12.out, (show w3004.heap.size ≤ w1012.heap.size by first | exact Nat.le_refl _ | (have := SZ6.out; have := SZ7.out; have := SZ8.out; have := SZ9.out; have := SZ10.out; have := SZ11.out; have := SZ12.out; omega)), (show w1012.heap.size ≤ w1010.heap.size by first | exact Nat.le_refl _ | (have := SZ13.out; omega)), (show w1010.heap.size ≤ w1010.heap.size by first | exact Nat.le_refl _ | (omega)), (show w1010.heap.size ≤ g12 ∨ g12 < w1012.heap.size by have := GL12.out; have := GU12.out; omega), (show w3004.heap.size ≤ g12 by have := GL12.out; have := SZ6.out; have := SZ7.out; have := SZ8.out; have := SZ9.out; have := SZ10.out; have := SZ11.out; omega), (show g12 < w1010.heap.size by have := GU12.out; have := SZ13.out; omega)⟩)
      · skip
        refine box_step ?hg (N := 6) ?hd (cs := #[.bool false, .int .i64 0, .int .i64 0, .slice none 0 0, .int .i64 0]) (t := 44) ?hr ?_; (case hd => rfl); (case hg => rfl); (case hr => first | (go_simp; done) | (go_simp; rfl))
        intro g12 hg w1012 hbox hb
        have n0_ := Aside0.mk (below_step HB.out hb)
        have n1_ := Aside0.mk (Kd.S_below HO6.out hb)
        have n2_ := Aside0.mk (Kd.S_below HO7.out hb)
        have n3_ := Aside0.mk (blk_below BK1.out hb)
        have n4_ := Aside0.mk (blk_below BK2.out hb)
        have SZ11 := Aside0.mk (show w1005.heap.size ≤ w1012.heap.size from (hb).size)
        clear HB HO6 HO7 BK1 BK2
        have HB := n0_
        have HO6 := n1_
        have HO7 := n2_
        have BK1 := n3_
        have BK2 := n4_
        clear n0_ n1_ n2_ n3_ n4_
        have BK12 := Aside0.mk hbox
        have GL12 := Aside0.mk (show w1005.heap.size ≤ g12 from Nat.le_of_eq hg.symm)
        have GU12 := Aside0.mk (blk_lt hbox)
        clear hbox hg hb
        refine hK.out _ _ ⟨cz_ BK1.out 0, cz_ BK1.out 1, cz_ BK1.out 2, cz_ BK2.out 0, cz_ BK2.out 1, cz_ BK2.out 2⟩ (fun hHeld => ?_)
        clear hK K
        refine norm_ (a' := ?_) ?_ ?_
        rotate_left
        · show Act.put _ (some 6) _ = _
          simp only [Act.put, List.setIfInBounds_toArray, List.set_cons_zero, List.set_cons_succ, i64_w, i32_w]
          rfl
        refine oS_ 3 31 HT_ (fun K hK => ?_)
        refine goes_ Try.func9 (by kernel_rfl) rfl #[.agg #[.int .i64 a1_0, .int .i64 a1_1, .slice A1_2 l1_2.length c1_2]] (by rfl) rfl rfl (by (try simp only [List.map_toArray, List.map_cons, List.map_nil]); first | done | rfl) ?_
        (with_reducible refine (laws_toField.calls k a1_0 a1_1 _ _ l1_2 t8_0 t8_1 t8_2 _ ?sd8_1 ?sd8_2 A8.out).mono ?_)
        (case sd8_1 => exact Kd.C_below HR1_2.out HB.out)
        (case sd8_2 => exact HC1_2.out)
        rintro e w1008 ⟨v_9, rfl, ho0, hb⟩
        refine ⟨_, rfl, ?_⟩
        have hs_ := below_size HB.out
        have n0_ := Aside0.mk (below_step HB.out hb)
        have n1_ := Aside0.mk (Kd.S_below HO6.out hb)
        have n2_ := Aside0.mk (Kd.S_below HO7.out hb)
        have n3_ := Aside0.mk (blk_below BK1.out hb)
        have n4_ := Aside0.mk (blk_below BK2.out hb)
        have n5_ := Aside0.mk (blk_below BK12.out hb)
        have SZ12 := Aside0.mk (show w1012.heap.size ≤ w1008.heap.size from (hb).size)
        clear HB HO6 HO7 BK1 BK2 BK12
        have HB := n0_
        have HO6 := n1_
        have HO7 := n2_
        have BK1 := n3_
        have BK2 := n4_
        have BK12 := n5_
        clear n0_ n1_ n2_ n3_ n4_ n5_
        have HO9 := Aside0.mk (R_zone ho0 hs_)
        clear ho0
        obtain ⟨A_9, c_9, e_9⟩ := Kd.R_slice HO9.out
        subst e_9
        clear hb hs_
        refine hK.out _ _ ⟨cz_ BK1.out 0, cz_ BK1.out 1, cz_ BK1.out 2, cz_ BK2.out 0, cz_ BK2.out 1, cz_ BK2.out 2⟩ (fun hHeld => ?_)
        clear hK K
        refine norm_ (a' := ?_) ?_ ?_
        rotate_left
        · show Act.put _ (some 31) _ = _
          simp only [Act.put, List.setIfInBounds_toArray, List.set_cons_zero, List.set_cons_succ, i64_w, i32_w]
          rfl
        refine oS_ 4 32 HT_ (fun K hK => ?_)
        refine goes_ Try.func18 (by kernel_rfl) rfl #[.agg #[.int .i64 t5_0, .slice A_6 t5_1.length c_6, .slice A_7 t5_2.length c_7], .agg #[.int .i64 t8_0, .int .i64 t8_1, .slice A_9 t8_2.length c_9]] (by rfl) rfl rfl (by (try simp only [List.map_toArray, List.map_cons, List.map_nil]); first | done | rfl) ?_
        (with_reducible refine (spec_FillField.calls k t5_0 _ _ t5_1 _ _ t5_2 t8_0 t8_1 _ _ t8_2 t10_0 t10_1 t10_2 t10_3 t10_4 t41_5 _ ?sd10_1 ?sd10_2 ?sd10_3 ?sd10_4 ?sd10_5 ?sd10_6 A10.out).mono ?_)
        (case sd10_1 => exact (Kd.S_reads' HO6.out).2.2)
        (case sd10_2 => exact (Kd.S_reads' HO6.out).2.1)
        (case sd10_3 => exact (Kd.S_reads' HO7.out).2.2)
        (case sd10_4 => exact (Kd.S_reads' HO7.out).2.1)
        (case sd10_5 => exact (Kd.R_reads' HO9.out).2.2)
        (case sd10_6 => exact (Kd.R_reads' HO9.out).2.1)
        rintro e w1010 ⟨v_11, rfl, ho0, hb⟩
        refine ⟨_, rfl, ?_⟩
        have hs_ := below_size HB.out
        have n0_ := Aside0.mk (below_step HB.out hb)
        have n1_ := Aside0.mk (Kd.S_below HO6.out hb)
        have n2_ := Aside0.mk (Kd.S_below HO7.out hb)
        have n3_ := Aside0.mk (Kd.R_below HO9.out hb)
        have n4_ := Aside0.mk (blk_below BK1.out hb)
        have n5_ := Aside0.mk (blk_below BK2.out hb)
        have n6_ := Aside0.mk (blk_below BK12.out hb)
        have SZ13 := Aside0.mk (show w1008.heap.size ≤ w1010.heap.size from (hb).size)
        clear HB HO6 HO7 HO9 BK1 BK2 BK12
        have HB := n0_
        have HO6 := n1_
        have HO7 := n2_
        have HO9 := n3_
        have BK1 := n4_
        have BK2 := n5_
        have BK12 := n6_
        clear n0_ n1_ n2_ n3_ n4_ n5_ n6_
        have HO11 := Aside0.mk (R_zone ho0 hs_)
        clear ho0
        obtain ⟨A_11, c_11, e_11⟩ := Kd.R_slice HO11.out
        subst e_11
        clear hb hs_
        refine hK.out _ _ ⟨cz_ BK1.out 0, cz_ BK1.out 1, cz_ BK1.out 2, cz_ BK2.out 0, cz_ BK2.out 1, cz_ BK2.out 2⟩ (fun hHeld => ?_)
        clear hK K
        refine norm_ (a' := ?_) ?_ ?_
        rotate_left
        · show Act.put _ (some 32) _ = _
          simp only [Act.put, List.setIfInBounds_toArray, List.set_cons_zero, List.set_cons_succ, i64_w, i32_w]
          rfl
        refine pure_ (i := 5) (N := some 27) (v := ?_) (a' := ?_) #[true, true, true, true, true, true, false, false, true, false, false] rfl rfl (any_of HT_.out (by kernel_rfl)) (fun _ _ _ h => h) (Or.inl ⟨by rfl, ?_⟩) ?_ ?_
        rotate_left
        · intro w'
          go_simp
          with_reducible rfl
        rotate_left
        · simp only [Act.put, List.setIfInBounds_toArray, List.set_cons_zero, List.set_cons_succ, i64_w, i32_w]
          rfl
        refine pure_ (i := 6) (N := some 33) (v := ?_) (a' := ?_) #[true, true, true, true, true, true, true, false, true, false, false] rfl rfl (any_of HT_.out (by kernel_rfl)) (fun _ _ _ h => h) (Or.inl ⟨by rfl, ?_⟩) ?_ ?_
        rotate_left
        · intro w'
          go_simp
          with_reducible rfl
        rotate_left
        · simp only [Act.put, List.setIfInBounds_toArray, List.set_cons_zero, List.set_cons_succ, i64_w, i32_w]
          rfl
        refine pure_ (i := 7) (N := some 34) (v := ?_) (a' := ?_) #[true, true, true, true, true, true, true, true, true, false, false] rfl rfl (any_of HT_.out (by kernel_rfl)) (fun _ _ _ h => h) (Or.inl ⟨by rfl, ?_⟩) ?_ ?_
        rotate_left
        · intro w'
          go_simp
          with_reducible rfl
        rotate_left
        · simp only [Act.put, List.setIfInBounds_toArray, List.set_cons_zero, List.set_cons_succ, i64_w, i32_w]
          rfl
        exact norm_ (by first | (simp only [putAll, Act.put, List.setIfInBounds_toArray, List.set_cons_zero, List.set_cons_succ]; done) | (simp only [putAll, Act.put, List.setIfInBounds_toArray, List.set_cons_zero, List.set_cons_succ]; rfl)) (hCont ((.agg #[.int .i64 t5_0, .slice A_6 t5_1.length c_6, .slice A_7 t5_2.length c_7]), (.agg #[.int .i64 t8_0, .int .i64 t8_1, .slice A_9 t8_2.length c_9]), A_11, c_11, w1008, w1010, g12) _ ⟨HB.out, BK1.out, BK2.out, HO11.out, BK12.out, (show w3004.heap.size ≤ w1008.heap.size by first | exact Nat.le_refl _ | (have := SZ6.out; have := SZ7.out; have := SZ8.out; have := SZ9.out; have := SZ10.out; have := SZ11.out; have := SZ12.out; omega)), (show w1008.heap.size ≤ w1010.heap.size by first | exact Nat.le_refl _ | (have := SZ13.out; omega)), (show w1010.heap.size ≤ w1010.heap.size by first | exact Nat.le_refl _ | (omega)), (show w1010.heap.size ≤ g12 ∨ g12 < w1008.heap.size by have := GL12.out; have := GU12.out; have := SZ12.out; omega), (show w3004.heap.size ≤ g12 by have := GL12.out; have := SZ6.out; have := SZ7.out; have := SZ8.out; have := SZ9.out; have := SZ10.out; omega), (show g12 < w1010.heap.size by have := GU12.out; have := SZ12.out; have := SZ13.out; omega)⟩)
    · skip
      refine box_step ?hg (N := 6) ?hd (cs := #[.bool false, .int .i64 0, .int .i64 0, .slice none 0 0, .int .i64 0]) (t := 44) ?hr ?_; (case hd => rfl); (case hg => rfl); (case hr => first | (go_simp; done) | (go_simp; rfl))
      intro g12 hg w1012 hbox hb
      have n0_ := Aside0.mk (below_step HB.out hb)
      have n1_ := Aside0.mk (blk_below BK1.out hb)
      have n2_ := Aside0.mk (blk_below BK2.out hb)
      have SZ6 := Aside0.mk (show w3004.heap.size ≤ w1012.heap.size from (hb).size)
      clear HB BK1 BK2
      have HB := n0_
      have BK1 := n1_
      have BK2 := n2_
      clear n0_ n1_ n2_
      have BK12 := Aside0.mk hbox
      have GL12 := Aside0.mk (show w3004.heap.size ≤ g12 from Nat.le_of_eq hg.symm)
      have GU12 := Aside0.mk (blk_lt hbox)
      clear hbox hg hb
      refine hK.out _ _ ⟨cz_ BK1.out 0, cz_ BK1.out 1, cz_ BK1.out 2, cz_ BK2.out 0, cz_ BK2.out 1, cz_ BK2.out 2⟩ (fun hHeld => ?_)
      clear hK K
      refine norm_ (a' := ?_) ?_ ?_
      rotate_left
      · show Act.put _ (some 6) _ = _
        simp only [Act.put, List.setIfInBounds_toArray, List.set_cons_zero, List.set_cons_succ, i64_w, i32_w]
        rfl
      refine oS_ 1 29 HT_ (fun K hK => ?_)
      refine goes_ Try.func8 (by kernel_rfl) rfl #[.agg #[.int .i64 a0_0, .slice A0_1 l0_1.length c0_1, .slice A0_2 l0_2.length c0_2]] (by rfl) rfl rfl (by (try simp only [List.map_toArray, List.map_cons, List.map_nil]); first | done | rfl) ?_
      (with_reducible refine (laws_toRules.callsZ k a0_0 _ _ l0_1 _ _ l0_2 t5_0 t5_1 t5_2 _ ?sd5_1 ?sd5_2 ?sd5_3 ?sd5_4 A5.out).mono ?_)
      (case sd5_1 => exact Kd.C_below HR0_1.out HB.out)
      (case sd5_2 => exact HC0_1.out)
      (case sd5_3 => exact Kd.C_below HR0_2.out HB.out)
      (case sd5_4 => exact HC0_2.out)
      rintro e w1005 ⟨v_6, v_7, wz5_0a, wz5_0b, wz5_1a, wz5_1b, rfl, ho0, ho1, ⟨hz0, hz1, hz2, hz3, hz4⟩, hb⟩
      refine ⟨_, rfl, ?_⟩
      have hs_ := below_size HB.out
      have n0_ := Aside0.mk (below_step HB.out hb)
      have n1_ := Aside0.mk (blk_below BK1.out hb)
      have n2_ := Aside0.mk (blk_below BK2.out hb)
      have n3_ := Aside0.mk (blk_below BK12.out hb)
      clear HB BK1 BK2 BK12
      have HB := n0_
      have BK1 := n1_
      have BK2 := n2_
      have BK12 := n3_
      clear n0_ n1_ n2_ n3_
      have SZ7 := Aside0.mk hz0
      have SZ8 := Aside0.mk hz1
      have SZ9 := Aside0.mk hz2
      have SZ10 := Aside0.mk hz3
      have SZ11 := Aside0.mk hz4
      clear hz0 hz1 hz2 hz3 hz4
      have HO6 := Aside0.mk (Kd.S_lower ho0 hs_)
      clear ho0
      obtain ⟨A_6, c_6, e_6⟩ := Kd.S_slice HO6.out
      subst e_6
      have HO7 := Aside0.mk (Kd.S_lower ho1 hs_)
      clear ho1
      obtain ⟨A_7, c_7, e_7⟩ := Kd.S_slice HO7.out
      subst e_7
      clear hb hs_
      refine hK.out _ _ ⟨cz_ BK1.out 0, cz_ BK1.out 1, cz_ BK1.out 2, cz_ BK2.out 0, cz_ BK2.out 1, cz_ BK2.out 2⟩ (fun hHeld => ?_)
      clear hK K
      refine norm_ (a' := ?_) ?_ ?_
      rotate_left
      · show Act.put _ (some 29) _ = _
        simp only [Act.put, List.setIfInBounds_toArray, List.set_cons_zero, List.set_cons_succ, i64_w, i32_w]
        rfl
      refine oS_ 3 31 HT_ (fun K hK => ?_)
      refine goes_ Try.func9 (by kernel_rfl) rfl #[.agg #[.int .i64 a1_0, .int .i64 a1_1, .slice A1_2 l1_2.length c1_2]] (by rfl) rfl rfl (by (try simp only [List.map_toArray, List.map_cons, List.map_nil]); first | done | rfl) ?_
      (with_reducible refine (laws_toField.calls k a1_0 a1_1 _ _ l1_2 t8_0 t8_1 t8_2 _ ?sd8_1 ?sd8_2 A8.out).mono ?_)
      (case sd8_1 => exact Kd.C_below HR1_2.out HB.out)
      (case sd8_2 => exact HC1_2.out)
      rintro e w1008 ⟨v_9, rfl, ho0, hb⟩
      refine ⟨_, rfl, ?_⟩
      have hs_ := below_size HB.out
      have n0_ := Aside0.mk (below_step HB.out hb)
      have n1_ := Aside0.mk (Kd.S_below HO6.out hb)
      have n2_ := Aside0.mk (Kd.S_below HO7.out hb)
      have n3_ := Aside0.mk (blk_below BK1.out hb)
      have n4_ := Aside0.mk (blk_below BK2.out hb)
      have n5_ := Aside0.mk (blk_below BK12.out hb)
      have SZ12 := Aside0.mk (show w1005.heap.size ≤ w1008.heap.size from (hb).size)
      clear HB HO6 HO7 BK1 BK2 BK12
      have HB := n0_
      have HO6 := n1_
      have HO7 := n2_
      have BK1 := n3_
      have BK2 := n4_
      have BK12 := n5_
      clear n0_ n1_ n2_ n3_ n4_ n5_
      have HO9 := Aside0.mk (R_zone ho0 hs_)
      clear ho0
      obtain ⟨A_9, c_9, e_9⟩ := Kd.R_slice HO9.out
      subst e_9
      clear hb hs_
      refine hK.out _ _ ⟨cz_ BK1.out 0, cz_ BK1.out 1, cz_ BK1.out 2, cz_ BK2.out 0, cz_ BK2.out 1, cz_ BK2.out 2⟩ (fun hHeld => ?_)
      clear hK K
      refine norm_ (a' := ?_) ?_ ?_
      rotate_left
      · show Act.put _ (some 31) _ = _
        simp only [Act.put, List.setIfInBounds_toArray, List.set_cons_zero, List.set_cons_succ, i64_w, i32_w]
        rfl
      refine oS_ 4 32 HT_ (fun K hK => ?_)
      refine goes_ Try.func18 (by kernel_rfl) rfl #[.agg #[.int .i64 t5_0, .slice A_6 t5_1.length c_6, .slice A_7 t5_2.length c_7], .agg #[.int .i64 t8_0, .int .i64 t8_1, .slice A_9 t8_2.length c_9]] (by rfl) rfl rfl (by (try simp only [List.map_toArray, List.map_cons, List.map_nil]); first | done | rfl) ?_
      (with_reducible refine (spec_FillField.calls k t5_0 _ _ t5_1 _ _ t5_2 t8_0 t8_1 _ _ t8_2 t10_0 t10_1 t10_2 t10_3 t10_4 t41_5 _ ?sd10_1 ?sd10_2 ?sd10_3 ?sd10_4 ?sd10_5 ?sd10_6 A10.out).mono ?_)
      (case sd10_1 => exact (Kd.S_reads' HO6.out).2.2)
      (case sd10_2 => exact (Kd.S_reads' HO6.out).2.1)
      (case sd10_3 => exact (Kd.S_reads' HO7.out).2.2)
      (case sd10_4 => exact (Kd.S_reads' HO7.out).2.1)
      (case sd10_5 => exact (Kd.R_reads' HO9.out).2.2)
      (case sd10_6 => exact (Kd.R_reads' HO9.out).2.1)
      rintro e w1010 ⟨v_11, rfl, ho0, hb⟩
      refine ⟨_, rfl, ?_⟩
      have hs_ := below_size HB.out
      have n0_ := Aside0.mk (below_step HB.out hb)
      have n1_ := Aside0.mk (Kd.S_below HO6.out hb)
      have n2_ := Aside0.mk (Kd.S_below HO7.out hb)
      have n3_ := Aside0.mk (Kd.R_below HO9.out hb)
      have n4_ := Aside0.mk (blk_below BK1.out hb)
      have n5_ := Aside0.mk (blk_below BK2.out hb)
      have n6_ := Aside0.mk (blk_below BK12.out hb)
      have SZ13 := Aside0.mk (show w1008.heap.size ≤ w1010.heap.size from (hb).size)
      clear HB HO6 HO7 HO9 BK1 BK2 BK12
      have HB := n0_
      have HO6 := n1_
      have HO7 := n2_
      have HO9 := n3_
      have BK1 := n4_
      have BK2 := n5_
      have BK12 := n6_
      clear n0_ n1_ n2_ n3_ n4_ n5_ n6_
      have HO11 := Aside0.mk (R_zone ho0 hs_)
      clear ho0
      obtain ⟨A_11, c_11, e_11⟩ := Kd.R_slice HO11.out
      subst e_11
      clear hb hs_
      refine hK.out _ _ ⟨cz_ BK1.out 0, cz_ BK1.out 1, cz_ BK1.out 2, cz_ BK2.out 0, cz_ BK2.out 1, cz_ BK2.out 2⟩ (fun hHeld => ?_)
      clear hK K
      refine norm_ (a' := ?_) ?_ ?_
      rotate_left
      · show Act.put _ (some 32) _ = _
        simp only [Act.put, List.setIfInBounds_toArray, List.set_cons_zero, List.set_cons_succ, i64_w, i32_w]
        rfl
      refine pure_ (i := 5) (N := some 27) (v := ?_) (a' := ?_) #[true, true, true, true, true, true, false, false, true, false, false] rfl rfl (any_of HT_.out (by kernel_rfl)) (fun _ _ _ h => h) (Or.inl ⟨by rfl, ?_⟩) ?_ ?_
      rotate_left
      · intro w'
        go_simp
        with_reducible rfl
      rotate_left
      · simp only [Act.put, List.setIfInBounds_toArray, List.set_cons_zero, List.set_cons_succ, i64_w, i32_w]
        rfl
      refine pure_ (i := 6) (N := some 33) (v := ?_) (a' := ?_) #[true, true, true, true, true, true, true, false, true, false, false] rfl rfl (any_of HT_.out (by kernel_rfl)) (fun _ _ _ h => h) (Or.inl ⟨by rfl, ?_⟩) ?_ ?_
      rotate_left
      · intro w'
        go_simp
        with_reducible rfl
      rotate_left
      · simp only [Act.put, List.setIfInBounds_toArray, List.set_cons_zero, List.set_cons_succ, i64_w, i32_w]
        rfl
      refine pure_ (i := 7) (N := some 34) (v := ?_) (a' := ?_) #[true, true, true, true, true, true, true, true, true, false, false] rfl rfl (any_of HT_.out (by kernel_rfl)) (fun _ _ _ h => h) (Or.inl ⟨by rfl, ?_⟩) ?_ ?_
      rotate_left
      · intro w'
        go_simp
        with_reducible rfl
      rotate_left
      · simp only [Act.put, List.setIfInBounds_toArray, List.set_cons_zero, List.set_cons_succ, i64_w, i32_w]
        rfl
      exact norm_ (by first | (simp only [putAll, Act.put, List.setIfInBounds_toArray, List.set_cons_zero, List.set_cons_succ]; done) | (simp only [putAll, Act.put, List.setIfInBounds_toArray, List.set_cons_zero, List.set_cons_succ]; rfl)) (hCont ((.agg #[.int .i64 t5_0, .slice A_6 t5_1.length c_6, .slice A_7 t5_2.length c_7]), (.agg #[.int .i64 t8_0, .int .i64 t8_1, .slice A_9 t8_2.length c_9]), A_11, c_11, w1008, w1010, g12) _ ⟨HB.out, BK1.out, BK2.out, HO11.out, BK12.out, (show w3004.heap.size ≤ w1008.heap.size by first | exact Nat.le_refl _ | (have := SZ6.out; have := SZ7.out; have := SZ8.out; have := SZ9.out; have := SZ10.out; have := SZ11.out; have := SZ12.out; omega)), (show w1008.heap.size ≤ w1010.heap.size by first | exact Nat.le_refl _ | (have := SZ13.out; omega)), (show w1010.heap.size ≤ w1010.heap.size by first | exact Nat.le_refl _ | (omega)), (show w1010.heap.size ≤ g12 ∨ g12 < w1008.heap.size by have := GL12.out; have := GU12.out; have := SZ7.out; have := SZ8.out; have := SZ9.out; have := SZ10.out; have := SZ11.out; have := SZ12.out; omega), (show w3004.heap.size ≤ g12 by have := GL12.out; omega), (show g12 < w1010.heap.size by have := GU12.out; have := SZ7.out; have := SZ8.out; have := SZ9.out; have := SZ10.out; have := SZ11.out; have := SZ12.out; have := SZ13.out; omega)⟩)
  rintro ⟨vv29, vv31, A_11, c_11, za12, zb12, g12⟩ w4012 ⟨h0_, h1_, h2_, h3_, h4_, h5_, h6_, h7_, h8_, h9_, h10_⟩
  have n0_ : Aside0 (Below w.heap.size w w4012) := ⟨h0_⟩
  have n1_ : Aside0 (w4012.heap[g1]? = some (.cells #[.int .i64 a0_0, .slice A0_1 l0_1.length c0_1, .slice A0_2 l0_2.length c0_2] 24 (0, 0))) := ⟨h1_⟩
  have n2_ : Aside0 (w4012.heap[g2]? = some (.cells #[.int .i64 a1_0, .int .i64 a1_1, .slice A1_2 l1_2.length c1_2] 27 (0, 0))) := ⟨h2_⟩
  have n3_ : Aside0 (Kd.R (Kd.int .i64) 3 w4012 w.heap.size (Zone za12 zb12 (3 :: ((Kd.int .i64)).E)) (.slice A_11 t10_3.length c_11) t10_3) := ⟨h3_⟩
  have n4_ : Aside0 (w4012.heap[g12]? = some (.cells #[.bool false, .int .i64 0, .int .i64 0, .slice none 0 0, .int .i64 0] 44 (0, 0))) := ⟨h4_⟩
  have n5_ : Aside0 (w3004.heap.size ≤ za12.heap.size) := ⟨h5_⟩
  have n6_ : Aside0 (za12.heap.size ≤ zb12.heap.size) := ⟨h6_⟩
  have n7_ : Aside0 (zb12.heap.size ≤ w4012.heap.size) := ⟨h7_⟩
  have n8_ : Aside0 (zb12.heap.size ≤ g12 ∨ g12 < za12.heap.size) := ⟨h8_⟩
  have n9_ : Aside0 (w3004.heap.size ≤ g12) := ⟨h9_⟩
  have n10_ : Aside0 (g12 < w4012.heap.size) := ⟨h10_⟩
  clear HB BK1 BK2
  clear h0_ h1_ h2_ h3_ h4_ h5_ h6_ h7_ h8_ h9_ h10_
  have HB := n0_
  have BK1 := n1_
  have BK2 := n2_
  have HO11 := n3_
  have BK12 := n4_
  have SZ6 := n5_
  have SZ7 := n6_
  have SZ8 := n7_
  have DJ12 := n8_
  have GL12 := n9_
  have GU12 := n10_
  clear n0_ n1_ n2_ n3_ n4_ n5_ n6_ n7_ n8_ n9_ n10_
  have hHeld : w4012.cell? ⟨g1, 0, none⟩ = some (.int .i64 a0_0) ∧ w4012.cell? ⟨g1, 1, none⟩ = some (.slice A0_1 l0_1.length c0_1) ∧ w4012.cell? ⟨g1, 2, none⟩ = some (.slice A0_2 l0_2.length c0_2) ∧ w4012.cell? ⟨g2, 0, none⟩ = some (.int .i64 a1_0) ∧ w4012.cell? ⟨g2, 1, none⟩ = some (.int .i64 a1_1) ∧ w4012.cell? ⟨g2, 2, none⟩ = some (.slice A1_2 l1_2.length c1_2) := ⟨cz_ BK1.out 0, cz_ BK1.out 1, cz_ BK1.out 2, cz_ BK2.out 0, cz_ BK2.out 1, cz_ BK2.out 2⟩
  refine norm_ (a' := ?_) ?_ ?_
  rotate_left
  · simp only [putAll, Act.put, List.setIfInBounds_toArray, List.set_cons_zero, List.set_cons_succ]
    rfl
  refine one_ (i := 9) (N := none) #[true, true, true, true, true, true, true, true, true, true, false] rfl rfl (one_of HT_.out (by kernel_rfl)) (by decide) (fun K hK => ?_)
  have hx12_0 := cz_ BK12.out 0; have hf12_0 : w4012.frozen? ⟨g12, 0, none⟩ = false := blk_frozen BK12.out 0
  have hx12_1 := cz_ BK12.out 1; have hf12_1 : w4012.frozen? ⟨g12, 1, none⟩ = false := blk_frozen BK12.out 1
  have hx12_2 := cz_ BK12.out 2; have hf12_2 : w4012.frozen? ⟨g12, 2, none⟩ = false := blk_frozen BK12.out 2
  have hx12_3 := cz_ BK12.out 3; have hf12_3 : w4012.frozen? ⟨g12, 3, none⟩ = false := blk_frozen BK12.out 3
  have hx12_4 := cz_ BK12.out 4; have hf12_4 : w4012.frozen? ⟨g12, 4, none⟩ = false := blk_frozen BK12.out 4
  obtain ⟨w5012, hw⟩ : ∃ x_, x_ = (((((w4012.setCell ⟨g12, 0, none⟩ (.bool t10_0)).setCell ⟨g12, 1, none⟩ (.int .i64 t10_1)).setCell ⟨g12, 2, none⟩ (.int .i64 t10_2)).setCell ⟨g12, 3, none⟩ (.slice A_11 t10_3.length c_11)).setCell ⟨g12, 4, none⟩ (.int .i64 t10_4)) := ⟨_, rfl⟩
  refine skip_ (w1 := w5012) (by rfl) rfl ?_ ?_
  · rw [hw]; first | (go_simp; done) | (go_simp; rfl)
  clear hx12_0 hf12_0 hx12_1 hf12_1 hx12_2 hf12_2 hx12_3 hf12_3 hx12_4 hf12_4
  have hge_ : w.heap.size ≤ g12 := (by have := GL12.out; have := SZ1.out; have := SZ2.out; have := SZ3.out; have := SZ4.out; have := SZ5.out; omega)
  have hb : Below w.heap.size w w5012 := (by rw [hw]; exact below_set (below_set (below_set (below_set (below_set (HB.out) hge_) hge_) hge_) hge_) hge_)
  have hkp : Kept w4012 w5012 (fun k_ => k_ = g12) := (by rw [hw]; exact Kept.setCell (Kept.setCell (Kept.setCell (Kept.setCell (Kept.setCell (Kept.refl w4012 (fun k_ => k_ = g12)) (.inl rfl) (.bool t10_0)) (.inl rfl) (.int .i64 t10_1)) (.inl rfl) (.int .i64 t10_2)) (.inl rfl) (.slice A_11 t10_3.length c_11)) (.inl rfl) (.int .i64 t10_4))
  have hbk : w5012.heap[g12]? = some (.cells #[.bool t10_0, .int .i64 t10_1, .int .i64 t10_2, .slice A_11 t10_3.length c_11, .int .i64 t10_4] 44 (0, 0)) := (by rw [hw]; exact blk_put (cs' := #[.bool t10_0, .int .i64 t10_1, .int .i64 t10_2, .slice A_11 t10_3.length c_11, .int .i64 t10_4]) (blk_put (cs' := #[.bool t10_0, .int .i64 t10_1, .int .i64 t10_2, .slice A_11 t10_3.length c_11, .int .i64 0]) (blk_put (cs' := #[.bool t10_0, .int .i64 t10_1, .int .i64 t10_2, .slice none 0 0, .int .i64 0]) (blk_put (cs' := #[.bool t10_0, .int .i64 t10_1, .int .i64 0, .slice none 0 0, .int .i64 0]) (blk_put (cs' := #[.bool t10_0, .int .i64 0, .int .i64 0, .slice none 0 0, .int .i64 0]) (BK12.out) 0 (.bool t10_0) rfl) 1 (.int .i64 t10_1) rfl) 2 (.int .i64 t10_2) rfl) 3 (.slice A_11 t10_3.length c_11) rfl) 4 (.int .i64 t10_4) rfl)
  have n0_ := Aside0.mk (hb)
  have n1_ := Aside0.mk (Kd.R_step HO11.out (fun k_ h_ hlt_ => hkp.2 k_ hlt_ (fun e_ => (show False from Zone.notblk h_ e_ DJ12.out).elim)))
  have n2_ := Aside0.mk ((hkp.2 g1 (blk_lt BK1.out) (fun e_ => (by have e2_ : g1 = g12 := e_; have := GL1.out; have := GU1.out; have := GL12.out; have := GU12.out; have := SZ2.out; have := SZ3.out; have := SZ4.out; have := SZ5.out; omega))).trans BK1.out)
  have n3_ := Aside0.mk ((hkp.2 g2 (blk_lt BK2.out) (fun e_ => (by have e2_ : g2 = g12 := e_; have := GL2.out; have := GU2.out; have := GL12.out; have := GU12.out; have := SZ3.out; have := SZ4.out; have := SZ5.out; omega))).trans BK2.out)
  have n4_ := Aside0.mk (hbk)
  have SZ9 := Aside0.mk (show w4012.heap.size ≤ w5012.heap.size from hkp.1)
  clear HB HO11 BK1 BK2 BK12
  have HB := n0_
  have HO11 := n1_
  have BK1 := n2_
  have BK2 := n3_
  have BK12 := n4_
  clear n0_ n1_ n2_ n3_ n4_
  clear hb hkp hbk hw hge_
  refine hK.out _ _ ⟨cz_ BK1.out 0, cz_ BK1.out 1, cz_ BK1.out 2, cz_ BK2.out 0, cz_ BK2.out 1, cz_ BK2.out 2⟩ (fun hHeld => ?_)
  clear hK K
  refine pure_ (i := 10) (N := some 7) (v := ?_) (a' := ?_) #[true, true, true, true, true, true, true, true, true, true, true] rfl rfl (any_of HT_.out (by kernel_rfl)) (fun _ _ _ h => h) (Or.inl ⟨by rfl, ?_⟩) ?_ ?_
  rotate_left
  · intro w'
    go_simp
    with_reducible rfl
  rotate_left
  · simp only [Act.put, List.setIfInBounds_toArray, List.set_cons_zero, List.set_cons_succ, i64_w, i32_w]
    rfl
  refine done_ (done_of HT_.out (by kernel_rfl)) ?_
  clear hHeld
  try clear HT_ HW_
  have hx1_0 := cz_ BK1.out 0
  have hf1_0 : w5012.frozen? ⟨g1, 0, none⟩ = false := blk_frozen BK1.out 0
  have hx1_1 := cz_ BK1.out 1
  have hf1_1 : w5012.frozen? ⟨g1, 1, none⟩ = false := blk_frozen BK1.out 1
  have hx1_2 := cz_ BK1.out 2
  have hf1_2 : w5012.frozen? ⟨g1, 2, none⟩ = false := blk_frozen BK1.out 2
  have hx2_0 := cz_ BK2.out 0
  have hf2_0 : w5012.frozen? ⟨g2, 0, none⟩ = false := blk_frozen BK2.out 0
  have hx2_1 := cz_ BK2.out 1
  have hf2_1 : w5012.frozen? ⟨g2, 1, none⟩ = false := blk_frozen BK2.out 1
  have hx2_2 := cz_ BK2.out 2
  have hf2_2 : w5012.frozen? ⟨g2, 2, none⟩ = false := blk_frozen BK2.out 2
  have hx12_0 := cz_ BK12.out 0
  have hf12_0 : w5012.frozen? ⟨g12, 0, none⟩ = false := blk_frozen BK12.out 0
  have hx12_1 := cz_ BK12.out 1
  have hf12_1 : w5012.frozen? ⟨g12, 1, none⟩ = false := blk_frozen BK12.out 1
  have hx12_2 := cz_ BK12.out 2
  have hf12_2 : w5012.frozen? ⟨g12, 2, none⟩ = false := blk_frozen BK12.out 2
  have hx12_3 := cz_ BK12.out 3
  have hf12_3 : w5012.frozen? ⟨g12, 3, none⟩ = false := blk_frozen BK12.out 3
  have hx12_4 := cz_ BK12.out 4
  have hf12_4 : w5012.frozen? ⟨g12, 4, none⟩ = false := blk_frozen BK12.out 4
  skip
  go_upto_region 14 with (first | (go_at_call 8; (with_reducible refine (laws_toRules.callsZ k a0_0 _ _ l0_1 _ _ l0_2 t13_0 t13_1 t13_2 _ ?sd13_1 ?sd13_2 ?sd13_3 ?sd13_4 A13.out).mono ?_); (case sd13_1 => exact Kd.C_below HR0_1.out HB.out); (case sd13_2 => exact HC0_1.out); (case sd13_3 => exact Kd.C_below HR0_2.out HB.out); (case sd13_4 => exact HC0_2.out); rintro e w1013 ⟨v_14, v_15, wz13_0a, wz13_0b, wz13_1a, wz13_1b, rfl, ho0, ho1, ⟨hz0, hz1, hz2, hz3, hz4⟩, hb⟩; have hs_ := below_size HB.out; clear hx1_0 hf1_0 hx1_1 hf1_1 hx1_2 hf1_2 hx2_0 hf2_0 hx2_1 hf2_1 hx2_2 hf2_2 hx12_0 hf12_0 hx12_1 hf12_1 hx12_2 hf12_2 hx12_3 hf12_3 hx12_4 hf12_4; have n0_ := Aside0.mk (below_step HB.out hb); have n1_ := Aside0.mk (Kd.R_below HO11.out hb); have n2_ := Aside0.mk (blk_below BK1.out hb); have n3_ := Aside0.mk (blk_below BK2.out hb); have n4_ := Aside0.mk (blk_below BK12.out hb); clear HB HO11 BK1 BK2 BK12; have HB := n0_; have HO11 := n1_; have BK1 := n2_; have BK2 := n3_; have BK12 := n4_; clear n0_ n1_ n2_ n3_ n4_; have SZ10 := Aside0.mk hz0; have SZ11 := Aside0.mk hz1; have SZ12 := Aside0.mk hz2; have SZ13 := Aside0.mk hz3; have SZ14 := Aside0.mk hz4; clear hz0 hz1 hz2 hz3 hz4; have HO14 := Aside0.mk (Kd.S_lower ho0 hs_); clear ho0; obtain ⟨A_14, c_14, e_14⟩ := Kd.S_slice HO14.out; subst e_14; have HO15 := Aside0.mk (Kd.S_lower ho1 hs_); clear ho1; obtain ⟨A_15, c_15, e_15⟩ := Kd.S_slice HO15.out; subst e_15; clear hb hs_; have hx1_0 := cz_ BK1.out 0; have hf1_0 : w1013.frozen? ⟨g1, 0, none⟩ = false := blk_frozen BK1.out 0; have hx1_1 := cz_ BK1.out 1; have hf1_1 : w1013.frozen? ⟨g1, 1, none⟩ = false := blk_frozen BK1.out 1; have hx1_2 := cz_ BK1.out 2; have hf1_2 : w1013.frozen? ⟨g1, 2, none⟩ = false := blk_frozen BK1.out 2; have hx2_0 := cz_ BK2.out 0; have hf2_0 : w1013.frozen? ⟨g2, 0, none⟩ = false := blk_frozen BK2.out 0; have hx2_1 := cz_ BK2.out 1; have hf2_1 : w1013.frozen? ⟨g2, 1, none⟩ = false := blk_frozen BK2.out 1; have hx2_2 := cz_ BK2.out 2; have hf2_2 : w1013.frozen? ⟨g2, 2, none⟩ = false := blk_frozen BK2.out 2; have hx12_0 := cz_ BK12.out 0; have hf12_0 : w1013.frozen? ⟨g12, 0, none⟩ = false := blk_frozen BK12.out 0; have hx12_1 := cz_ BK12.out 1; have hf12_1 : w1013.frozen? ⟨g12, 1, none⟩ = false := blk_frozen BK12.out 1; have hx12_2 := cz_ BK12.out 2; have hf12_2 : w1013.frozen? ⟨g12, 2, none⟩ = false := blk_frozen BK12.out 2; have hx12_3 := cz_ BK12.out 3; have hf12_3 : w1013.frozen? ⟨g12, 3, none⟩ = false := blk_frozen BK12.out 3; have hx12_4 := cz_ BK12.out 4; have hf12_4 : w1013.frozen? ⟨g12, 4, none⟩ = false := blk_frozen BK12.out 4) | ((with_reducible refine gate_dst (N := 8) rfl ?_); refine bx_ 8 #[.int .i64 0, .slice none 0 0, .slice none 0 0] 32 ?_; intro g16 hg w1016 hbox hb; clear hx1_0 hf1_0 hx1_1 hf1_1 hx1_2 hf1_2 hx2_0 hf2_0 hx2_1 hf2_1 hx2_2 hf2_2 hx12_0 hf12_0 hx12_1 hf12_1 hx12_2 hf12_2 hx12_3 hf12_3 hx12_4 hf12_4; have n0_ := Aside0.mk (below_step HB.out hb); have n1_ := Aside0.mk (Kd.R_below HO11.out hb); have n2_ := Aside0.mk (Kd.S_below HO14.out hb); have n3_ := Aside0.mk (Kd.S_below HO15.out hb); have n4_ := Aside0.mk (blk_below BK1.out hb); have n5_ := Aside0.mk (blk_below BK2.out hb); have n6_ := Aside0.mk (blk_below BK12.out hb); have SZ15 := Aside0.mk (show w1013.heap.size ≤ w1016.heap.size from (hb).size); clear HB HO11 HO14 HO15 BK1 BK2 BK12; have HB := n0_; have HO11 := n1_; have HO14 := n2_; have HO15 := n3_; have BK1 := n4_; have BK2 := n5_; have BK12 := n6_; clear n0_ n1_ n2_ n3_ n4_ n5_ n6_; have BK16 := Aside0.mk hbox; have GL16 := Aside0.mk (show w1013.heap.size ≤ g16 from Nat.le_of_eq hg.symm); have GU16 := Aside0.mk (blk_lt hbox); clear hbox hg hb; have hx1_0 := cz_ BK1.out 0; have hf1_0 : w1016.frozen? ⟨g1, 0, none⟩ = false := blk_frozen BK1.out 0; have hx1_1 := cz_ BK1.out 1; have hf1_1 : w1016.frozen? ⟨g1, 1, none⟩ = false := blk_frozen BK1.out 1; have hx1_2 := cz_ BK1.out 2; have hf1_2 : w1016.frozen? ⟨g1, 2, none⟩ = false := blk_frozen BK1.out 2; have hx2_0 := cz_ BK2.out 0; have hf2_0 : w1016.frozen? ⟨g2, 0, none⟩ = false := blk_frozen BK2.out 0; have hx2_1 := cz_ BK2.out 1; have hf2_1 : w1016.frozen? ⟨g2, 1, none⟩ = false := blk_frozen BK2.out 1; have hx2_2 := cz_ BK2.out 2; have hf2_2 : w1016.frozen? ⟨g2, 2, none⟩ = false := blk_frozen BK2.out 2; have hx12_0 := cz_ BK12.out 0; have hf12_0 : w1016.frozen? ⟨g12, 0, none⟩ = false := blk_frozen BK12.out 0; have hx12_1 := cz_ BK12.out 1; have hf12_1 : w1016.frozen? ⟨g12, 1, none⟩ = false := blk_frozen BK12.out 1; have hx12_2 := cz_ BK12.out 2; have hf12_2 : w1016.frozen? ⟨g12, 2, none⟩ = false := blk_frozen BK12.out 2; have hx12_3 := cz_ BK12.out 3; have hf12_3 : w1016.frozen? ⟨g12, 3, none⟩ = false := blk_frozen BK12.out 3; have hx12_4 := cz_ BK12.out 4; have hf12_4 : w1016.frozen? ⟨g12, 4, none⟩ = false := blk_frozen BK12.out 4; have hx16_0 := cz_ BK16.out 0; have hf16_0 : w1016.frozen? ⟨g16, 0, none⟩ = false := blk_frozen BK16.out 0; have hx16_1 := cz_ BK16.out 1; have hf16_1 : w1016.frozen? ⟨g16, 1, none⟩ = false := blk_frozen BK16.out 1; have hx16_2 := cz_ BK16.out 2; have hf16_2 : w1016.frozen? ⟨g16, 2, none⟩ = false := blk_frozen BK16.out 2) | ((with_reducible refine gate_store (t := 32) (p := 8) rfl ?_); refine se_ 32 8 (((w1016.setCell ⟨g16, 0, none⟩ (.int .i64 t13_0)).setCell ⟨g16, 1, none⟩ (.slice A_14 t13_1.length c_14)).setCell ⟨g16, 2, none⟩ (.slice A_15 t13_2.length c_15)) ?_; intro w2013 hw; have hge_ : w.heap.size ≤ g16 := (by have := GL16.out; have := SZ1.out; have := SZ2.out; have := SZ3.out; have := SZ4.out; have := SZ5.out; have := SZ6.out; have := SZ7.out; have := SZ8.out; have := SZ9.out; have := SZ10.out; have := SZ11.out; have := SZ12.out; have := SZ13.out; have := SZ14.out; omega); have hb : Below w.heap.size w w2013 := (by rw [hw]; exact below_set (below_set (below_set (HB.out) hge_) hge_) hge_); have hkp : Kept w1016 w2013 (fun k_ => k_ = g16) := (by rw [hw]; exact Kept.setCell (Kept.setCell (Kept.setCell (Kept.refl w1016 (fun k_ => k_ = g16)) (.inl rfl) (.int .i64 t13_0)) (.inl rfl) (.slice A_14 t13_1.length c_14)) (.inl rfl) (.slice A_15 t13_2.length c_15)); have hbk : w2013.heap[g16]? = some (.cells #[.int .i64 t13_0, .slice A_14 t13_1.length c_14, .slice A_15 t13_2.length c_15] 32 (0, 0)) := (by rw [hw]; exact blk_put (cs' := #[.int .i64 t13_0, .slice A_14 t13_1.length c_14, .slice A_15 t13_2.length c_15]) (blk_put (cs' := #[.int .i64 t13_0, .slice A_14 t13_1.length c_14, .slice none 0 0]) (blk_put (cs' := #[.int .i64 t13_0, .slice none 0 0, .slice none 0 0]) (BK16.out) 0 (.int .i64 t13_0) rfl) 1 (.slice A_14 t13_1.length c_14) rfl) 2 (.slice A_15 t13_2.length c_15) rfl); clear hx1_0 hf1_0 hx1_1 hf1_1 hx1_2 hf1_2 hx2_0 hf2_0 hx2_1 hf2_1 hx2_2 hf2_2 hx12_0 hf12_0 hx12_1 hf12_1 hx12_2 hf12_2 hx12_3 hf12_3 hx12_4 hf12_4 hx16_0 hf16_0 hx16_1 hf16_1 hx16_2 hf16_2; have n0_ := Aside0.mk (hb); have n1_ := Aside0.mk (Kd.R_step HO11.out (fun k_ h_ hlt_ => hkp.2 k_ hlt_ (fun e_ => (show False from Zone.notblk h_ e_ (by have := GL16.out; have := GU16.out; have := SZ8.out; have := SZ9.out; have := SZ10.out; have := SZ11.out; have := SZ12.out; have := SZ13.out; have := SZ14.out; first | exact .inl (by omega) | exact .inr (by omega))).elim))); have n2_ := Aside0.mk (Kd.S_step HO14.out (fun k_ h_ hlt_ => hkp.2 k_ hlt_ (fun e_ => (show False from Zone.notblk h_ e_ (by have := GL16.out; have := GU16.out; have := SZ12.out; have := SZ13.out; have := SZ14.out; first | exact .inl (by omega) | exact .inr (by omega))).elim))); have n3_ := Aside0.mk (Kd.S_step HO15.out (fun k_ h_ hlt_ => hkp.2 k_ hlt_ (fun e_ => (show False from Zone.notblk h_ e_ (by have := GL16.out; have := GU16.out; have := SZ14.out; first | exact .inl (by omega) | exact .inr (by omega))).elim))); have n4_ := Aside0.mk ((hkp.2 g1 (blk_lt BK1.out) (fun e_ => (by have e2_ : g1 = g16 := e_; have := GL1.out; have := GU1.out; have := GL16.out; have := GU16.out; have := SZ2.out; have := SZ3.out; have := SZ4.out; have := SZ5.out; have := SZ6.out; have := SZ7.out; have := SZ8.out; have := SZ9.out; have := SZ10.out; have := SZ11.out; have := SZ12.out; have := SZ13.out; have := SZ14.out; omega))).trans BK1.out); have n5_ := Aside0.mk ((hkp.2 g2 (blk_lt BK2.out) (fun e_ => (by have e2_ : g2 = g16 := e_; have := GL2.out; have := GU2.out; have := GL16.out; have := GU16.out; have := SZ3.out; have := SZ4.out; have := SZ5.out; have := SZ6.out; have := SZ7.out; have := SZ8.out; have := SZ9.out; have := SZ10.out; have := SZ11.out; have := SZ12.out; have := SZ13.out; have := SZ14.out; omega))).trans BK2.out); have n6_ := Aside0.mk ((hkp.2 g12 (blk_lt BK12.out) (fun e_ => (by have e2_ : g12 = g16 := e_; have := GL12.out; have := GU12.out; have := GL16.out; have := GU16.out; have := SZ9.out; have := SZ10.out; have := SZ11.out; have := SZ12.out; have := SZ13.out; have := SZ14.out; omega))).trans BK12.out); have n7_ := Aside0.mk (hbk); have SZ16 := Aside0.mk (show w1016.heap.size ≤ w2013.heap.size from hkp.1); clear HB HO11 HO14 HO15 BK1 BK2 BK12 BK16; have HB := n0_; have HO11 := n1_; have HO14 := n2_; have HO15 := n3_; have BK1 := n4_; have BK2 := n5_; have BK12 := n6_; have BK16 := n7_; clear n0_ n1_ n2_ n3_ n4_ n5_ n6_ n7_; clear hb hkp hbk hw hge_; have hx1_0 := cz_ BK1.out 0; have hf1_0 : w2013.frozen? ⟨g1, 0, none⟩ = false := blk_frozen BK1.out 0; have hx1_1 := cz_ BK1.out 1; have hf1_1 : w2013.frozen? ⟨g1, 1, none⟩ = false := blk_frozen BK1.out 1; have hx1_2 := cz_ BK1.out 2; have hf1_2 : w2013.frozen? ⟨g1, 2, none⟩ = false := blk_frozen BK1.out 2; have hx2_0 := cz_ BK2.out 0; have hf2_0 : w2013.frozen? ⟨g2, 0, none⟩ = false := blk_frozen BK2.out 0; have hx2_1 := cz_ BK2.out 1; have hf2_1 : w2013.frozen? ⟨g2, 1, none⟩ = false := blk_frozen BK2.out 1; have hx2_2 := cz_ BK2.out 2; have hf2_2 : w2013.frozen? ⟨g2, 2, none⟩ = false := blk_frozen BK2.out 2; have hx12_0 := cz_ BK12.out 0; have hf12_0 : w2013.frozen? ⟨g12, 0, none⟩ = false := blk_frozen BK12.out 0; have hx12_1 := cz_ BK12.out 1; have hf12_1 : w2013.frozen? ⟨g12, 1, none⟩ = false := blk_frozen BK12.out 1; have hx12_2 := cz_ BK12.out 2; have hf12_2 : w2013.frozen? ⟨g12, 2, none⟩ = false := blk_frozen BK12.out 2; have hx12_3 := cz_ BK12.out 3; have hf12_3 : w2013.frozen? ⟨g12, 3, none⟩ = false := blk_frozen BK12.out 3; have hx12_4 := cz_ BK12.out 4; have hf12_4 : w2013.frozen? ⟨g12, 4, none⟩ = false := blk_frozen BK12.out 4; have hx16_0 := cz_ BK16.out 0; have hf16_0 : w2013.frozen? ⟨g16, 0, none⟩ = false := blk_frozen BK16.out 0; have hx16_1 := cz_ BK16.out 1; have hf16_1 : w2013.frozen? ⟨g16, 1, none⟩ = false := blk_frozen BK16.out 1; have hx16_2 := cz_ BK16.out 2; have hf16_2 : w2013.frozen? ⟨g16, 2, none⟩ = false := blk_frozen BK16.out 2) | (go_at_call 9; (with_reducible refine (laws_toField.calls k a1_0 a1_1 _ _ l1_2 t17_0 t17_1 t17_2 _ ?sd17_1 ?sd17_2 A17.out).mono ?_); (case sd17_1 => exact Kd.C_below HR1_2.out HB.out); (case sd17_2 => exact HC1_2.out); rintro e w1017 ⟨v_18, rfl, ho0, hb⟩; have hs_ := below_size HB.out; clear hx1_0 hf1_0 hx1_1 hf1_1 hx1_2 hf1_2 hx2_0 hf2_0 hx2_1 hf2_1 hx2_2 hf2_2 hx12_0 hf12_0 hx12_1 hf12_1 hx12_2 hf12_2 hx12_3 hf12_3 hx12_4 hf12_4 hx16_0 hf16_0 hx16_1 hf16_1 hx16_2 hf16_2; have n0_ := Aside0.mk (below_step HB.out hb); have n1_ := Aside0.mk (Kd.R_below HO11.out hb); have n2_ := Aside0.mk (Kd.S_below HO14.out hb); have n3_ := Aside0.mk (Kd.S_below HO15.out hb); have n4_ := Aside0.mk (blk_below BK1.out hb); have n5_ := Aside0.mk (blk_below BK2.out hb); have n6_ := Aside0.mk (blk_below BK12.out hb); have n7_ := Aside0.mk (blk_below BK16.out hb); have SZ17 := Aside0.mk (show w2013.heap.size ≤ w1017.heap.size from (hb).size); clear HB HO11 HO14 HO15 BK1 BK2 BK12 BK16; have HB := n0_; have HO11 := n1_; have HO14 := n2_; have HO15 := n3_; have BK1 := n4_; have BK2 := n5_; have BK12 := n6_; have BK16 := n7_; clear n0_ n1_ n2_ n3_ n4_ n5_ n6_ n7_; have HO18 := Aside0.mk (R_zone ho0 hs_); clear ho0; obtain ⟨A_18, c_18, e_18⟩ := Kd.R_slice HO18.out; subst e_18; clear hb hs_; have hx1_0 := cz_ BK1.out 0; have hf1_0 : w1017.frozen? ⟨g1, 0, none⟩ = false := blk_frozen BK1.out 0; have hx1_1 := cz_ BK1.out 1; have hf1_1 : w1017.frozen? ⟨g1, 1, none⟩ = false := blk_frozen BK1.out 1; have hx1_2 := cz_ BK1.out 2; have hf1_2 : w1017.frozen? ⟨g1, 2, none⟩ = false := blk_frozen BK1.out 2; have hx2_0 := cz_ BK2.out 0; have hf2_0 : w1017.frozen? ⟨g2, 0, none⟩ = false := blk_frozen BK2.out 0; have hx2_1 := cz_ BK2.out 1; have hf2_1 : w1017.frozen? ⟨g2, 1, none⟩ = false := blk_frozen BK2.out 1; have hx2_2 := cz_ BK2.out 2; have hf2_2 : w1017.frozen? ⟨g2, 2, none⟩ = false := blk_frozen BK2.out 2; have hx12_0 := cz_ BK12.out 0; have hf12_0 : w1017.frozen? ⟨g12, 0, none⟩ = false := blk_frozen BK12.out 0; have hx12_1 := cz_ BK12.out 1; have hf12_1 : w1017.frozen? ⟨g12, 1, none⟩ = false := blk_frozen BK12.out 1; have hx12_2 := cz_ BK12.out 2; have hf12_2 : w1017.frozen? ⟨g12, 2, none⟩ = false := blk_frozen BK12.out 2; have hx12_3 := cz_ BK12.out 3; have hf12_3 : w1017.frozen? ⟨g12, 3, none⟩ = false := blk_frozen BK12.out 3; have hx12_4 := cz_ BK12.out 4; have hf12_4 : w1017.frozen? ⟨g12, 4, none⟩ = false := blk_frozen BK12.out 4; have hx16_0 := cz_ BK16.out 0; have hf16_0 : w1017.frozen? ⟨g16, 0, none⟩ = false := blk_frozen BK16.out 0; have hx16_1 := cz_ BK16.out 1; have hf16_1 : w1017.frozen? ⟨g16, 1, none⟩ = false := blk_frozen BK16.out 1; have hx16_2 := cz_ BK16.out 2; have hf16_2 : w1017.frozen? ⟨g16, 2, none⟩ = false := blk_frozen BK16.out 2) | ((with_reducible refine gate_dst (N := 9) rfl ?_); refine bx_ 9 #[.int .i64 0, .int .i64 0, .slice none 0 0] 34 ?_; intro g19 hg w1019 hbox hb; clear hx1_0 hf1_0 hx1_1 hf1_1 hx1_2 hf1_2 hx2_0 hf2_0 hx2_1 hf2_1 hx2_2 hf2_2 hx12_0 hf12_0 hx12_1 hf12_1 hx12_2 hf12_2 hx12_3 hf12_3 hx12_4 hf12_4 hx16_0 hf16_0 hx16_1 hf16_1 hx16_2 hf16_2; have n0_ := Aside0.mk (below_step HB.out hb); have n1_ := Aside0.mk (Kd.R_below HO11.out hb); have n2_ := Aside0.mk (Kd.S_below HO14.out hb); have n3_ := Aside0.mk (Kd.S_below HO15.out hb); have n4_ := Aside0.mk (Kd.R_below HO18.out hb); have n5_ := Aside0.mk (blk_below BK1.out hb); have n6_ := Aside0.mk (blk_below BK2.out hb); have n7_ := Aside0.mk (blk_below BK12.out hb); have n8_ := Aside0.mk (blk_below BK16.out hb); have SZ18 := Aside0.mk (show w1017.heap.size ≤ w1019.heap.size from (hb).size); clear HB HO11 HO14 HO15 HO18 BK1 BK2 BK12 BK16; have HB := n0_; have HO11 := n1_; have HO14 := n2_; have HO15 := n3_; have HO18 := n4_; have BK1 := n5_; have BK2 := n6_; have BK12 := n7_; have BK16 := n8_; clear n0_ n1_ n2_ n3_ n4_ n5_ n6_ n7_ n8_; have BK19 := Aside0.mk hbox; have GL19 := Aside0.mk (show w1017.heap.size ≤ g19 from Nat.le_of_eq hg.symm); have GU19 := Aside0.mk (blk_lt hbox); clear hbox hg hb; have hx1_0 := cz_ BK1.out 0; have hf1_0 : w1019.frozen? ⟨g1, 0, none⟩ = false := blk_frozen BK1.out 0; have hx1_1 := cz_ BK1.out 1; have hf1_1 : w1019.frozen? ⟨g1, 1, none⟩ = false := blk_frozen BK1.out 1; have hx1_2 := cz_ BK1.out 2; have hf1_2 : w1019.frozen? ⟨g1, 2, none⟩ = false := blk_frozen BK1.out 2; have hx2_0 := cz_ BK2.out 0; have hf2_0 : w1019.frozen? ⟨g2, 0, none⟩ = false := blk_frozen BK2.out 0; have hx2_1 := cz_ BK2.out 1; have hf2_1 : w1019.frozen? ⟨g2, 1, none⟩ = false := blk_frozen BK2.out 1; have hx2_2 := cz_ BK2.out 2; have hf2_2 : w1019.frozen? ⟨g2, 2, none⟩ = false := blk_frozen BK2.out 2; have hx12_0 := cz_ BK12.out 0; have hf12_0 : w1019.frozen? ⟨g12, 0, none⟩ = false := blk_frozen BK12.out 0; have hx12_1 := cz_ BK12.out 1; have hf12_1 : w1019.frozen? ⟨g12, 1, none⟩ = false := blk_frozen BK12.out 1; have hx12_2 := cz_ BK12.out 2; have hf12_2 : w1019.frozen? ⟨g12, 2, none⟩ = false := blk_frozen BK12.out 2; have hx12_3 := cz_ BK12.out 3; have hf12_3 : w1019.frozen? ⟨g12, 3, none⟩ = false := blk_frozen BK12.out 3; have hx12_4 := cz_ BK12.out 4; have hf12_4 : w1019.frozen? ⟨g12, 4, none⟩ = false := blk_frozen BK12.out 4; have hx16_0 := cz_ BK16.out 0; have hf16_0 : w1019.frozen? ⟨g16, 0, none⟩ = false := blk_frozen BK16.out 0; have hx16_1 := cz_ BK16.out 1; have hf16_1 : w1019.frozen? ⟨g16, 1, none⟩ = false := blk_frozen BK16.out 1; have hx16_2 := cz_ BK16.out 2; have hf16_2 : w1019.frozen? ⟨g16, 2, none⟩ = false := blk_frozen BK16.out 2; have hx19_0 := cz_ BK19.out 0; have hf19_0 : w1019.frozen? ⟨g19, 0, none⟩ = false := blk_frozen BK19.out 0; have hx19_1 := cz_ BK19.out 1; have hf19_1 : w1019.frozen? ⟨g19, 1, none⟩ = false := blk_frozen BK19.out 1; have hx19_2 := cz_ BK19.out 2; have hf19_2 : w1019.frozen? ⟨g19, 2, none⟩ = false := blk_frozen BK19.out 2) | ((with_reducible refine gate_store (t := 34) (p := 9) rfl ?_); refine se_ 34 9 (((w1019.setCell ⟨g19, 0, none⟩ (.int .i64 t17_0)).setCell ⟨g19, 1, none⟩ (.int .i64 t17_1)).setCell ⟨g19, 2, none⟩ (.slice A_18 t17_2.length c_18)) ?_; intro w2016 hw; have hge_ : w.heap.size ≤ g19 := (by have := GL19.out; have := SZ1.out; have := SZ2.out; have := SZ3.out; have := SZ4.out; have := SZ5.out; have := SZ6.out; have := SZ7.out; have := SZ8.out; have := SZ9.out; have := SZ10.out; have := SZ11.out; have := SZ12.out; have := SZ13.out; have := SZ14.out; have := SZ15.out; have := SZ16.out; have := SZ17.out; omega); have hb : Below w.heap.size w w2016 := (by rw [hw]; exact below_set (below_set (below_set (HB.out) hge_) hge_) hge_); have hkp : Kept w1019 w2016 (fun k_ => k_ = g19) := (by rw [hw]; exact Kept.setCell (Kept.setCell (Kept.setCell (Kept.refl w1019 (fun k_ => k_ = g19)) (.inl rfl) (.int .i64 t17_0)) (.inl rfl) (.int .i64 t17_1)) (.inl rfl) (.slice A_18 t17_2.length c_18)); have hbk : w2016.heap[g19]? = some (.cells #[.int .i64 t17_0, .int .i64 t17_1, .slice A_18 t17_2.length c_18] 34 (0, 0)) := (by rw [hw]; exact blk_put (cs' := #[.int .i64 t17_0, .int .i64 t17_1, .slice A_18 t17_2.length c_18]) (blk_put (cs' := #[.int .i64 t17_0, .int .i64 t17_1, .slice none 0 0]) (blk_put (cs' := #[.int .i64 t17_0, .int .i64 0, .slice none 0 0]) (BK19.out) 0 (.int .i64 t17_0) rfl) 1 (.int .i64 t17_1) rfl) 2 (.slice A_18 t17_2.length c_18) rfl); clear hx1_0 hf1_0 hx1_1 hf1_1 hx1_2 hf1_2 hx2_0 hf2_0 hx2_1 hf2_1 hx2_2 hf2_2 hx12_0 hf12_0 hx12_1 hf12_1 hx12_2 hf12_2 hx12_3 hf12_3 hx12_4 hf12_4 hx16_0 hf16_0 hx16_1 hf16_1 hx16_2 hf16_2 hx19_0 hf19_0 hx19_1 hf19_1 hx19_2 hf19_2; have n0_ := Aside0.mk (hb); have n1_ := Aside0.mk (Kd.R_step HO11.out (fun k_ h_ hlt_ => hkp.2 k_ hlt_ (fun e_ => (show False from Zone.notblk h_ e_ (by have := GL19.out; have := GU19.out; have := SZ8.out; have := SZ9.out; have := SZ10.out; have := SZ11.out; have := SZ12.out; have := SZ13.out; have := SZ14.out; have := SZ15.out; have := SZ16.out; have := SZ17.out; first | exact .inl (by omega) | exact .inr (by omega))).elim))); have n2_ := Aside0.mk (Kd.S_step HO14.out (fun k_ h_ hlt_ => hkp.2 k_ hlt_ (fun e_ => (show False from Zone.notblk h_ e_ (by have := GL19.out; have := GU19.out; have := SZ12.out; have := SZ13.out; have := SZ14.out; have := SZ15.out; have := SZ16.out; have := SZ17.out; first | exact .inl (by omega) | exact .inr (by omega))).elim))); have n3_ := Aside0.mk (Kd.S_step HO15.out (fun k_ h_ hlt_ => hkp.2 k_ hlt_ (fun e_ => (show False from Zone.notblk h_ e_ (by have := GL19.out; have := GU19.out; have := SZ14.out; have := SZ15.out; have := SZ16.out; have := SZ17.out; first | exact .inl (by omega) | exact .inr (by omega))).elim))); have n4_ := Aside0.mk (Kd.R_step HO18.out (fun k_ h_ hlt_ => hkp.2 k_ hlt_ (fun e_ => (show False from Zone.notblk h_ e_ (by have := GL19.out; have := GU19.out; first | exact .inl (by omega) | exact .inr (by omega))).elim))); have n5_ := Aside0.mk ((hkp.2 g1 (blk_lt BK1.out) (fun e_ => (by have e2_ : g1 = g19 := e_; have := GL1.out; have := GU1.out; have := GL19.out; have := GU19.out; have := SZ2.out; have := SZ3.out; have := SZ4.out; have := SZ5.out; have := SZ6.out; have := SZ7.out; have := SZ8.out; have := SZ9.out; have := SZ10.out; have := SZ11.out; have := SZ12.out; have := SZ13.out; have := SZ14.out; have := SZ15.out; have := SZ16.out; have := SZ17.out; omega))).trans BK1.out); have n6_ := Aside0.mk ((hkp.2 g2 (blk_lt BK2.out) (fun e_ => (by have e2_ : g2 = g19 := e_; have := GL2.out; have := GU2.out; have := GL19.out; have := GU19.out; have := SZ3.out; have := SZ4.out; have := SZ5.out; have := SZ6.out; have := SZ7.out; have := SZ8.out; have := SZ9.out; have := SZ10.out; have := SZ11.out; have := SZ12.out; have := SZ13.out; have := SZ14.out; have := SZ15.out; have := SZ16.out; have := SZ17.out; omega))).trans BK2.out); have n7_ := Aside0.mk ((hkp.2 g12 (blk_lt BK12.out) (fun e_ => (by have e2_ : g12 = g19 := e_; have := GL12.out; have := GU12.out; have := GL19.out; have := GU19.out; have := SZ9.out; have := SZ10.out; have := SZ11.out; have := SZ12.out; have := SZ13.out; have := SZ14.out; have := SZ15.out; have := SZ16.out; have := SZ17.out; omega))).trans BK12.out); have n8_ := Aside0.mk ((hkp.2 g16 (blk_lt BK16.out) (fun e_ => (by have e2_ : g16 = g19 := e_; have := GL16.out; have := GU16.out; have := GL19.out; have := GU19.out; have := SZ16.out; have := SZ17.out; omega))).trans BK16.out); have n9_ := Aside0.mk (hbk); have SZ19 := Aside0.mk (show w1019.heap.size ≤ w2016.heap.size from hkp.1); clear HB HO11 HO14 HO15 HO18 BK1 BK2 BK12 BK16 BK19; have HB := n0_; have HO11 := n1_; have HO14 := n2_; have HO15 := n3_; have HO18 := n4_; have BK1 := n5_; have BK2 := n6_; have BK12 := n7_; have BK16 := n8_; have BK19 := n9_; clear n0_ n1_ n2_ n3_ n4_ n5_ n6_ n7_ n8_ n9_; clear hb hkp hbk hw hge_; have hx1_0 := cz_ BK1.out 0; have hf1_0 : w2016.frozen? ⟨g1, 0, none⟩ = false := blk_frozen BK1.out 0; have hx1_1 := cz_ BK1.out 1; have hf1_1 : w2016.frozen? ⟨g1, 1, none⟩ = false := blk_frozen BK1.out 1; have hx1_2 := cz_ BK1.out 2; have hf1_2 : w2016.frozen? ⟨g1, 2, none⟩ = false := blk_frozen BK1.out 2; have hx2_0 := cz_ BK2.out 0; have hf2_0 : w2016.frozen? ⟨g2, 0, none⟩ = false := blk_frozen BK2.out 0; have hx2_1 := cz_ BK2.out 1; have hf2_1 : w2016.frozen? ⟨g2, 1, none⟩ = false := blk_frozen BK2.out 1; have hx2_2 := cz_ BK2.out 2; have hf2_2 : w2016.frozen? ⟨g2, 2, none⟩ = false := blk_frozen BK2.out 2; have hx12_0 := cz_ BK12.out 0; have hf12_0 : w2016.frozen? ⟨g12, 0, none⟩ = false := blk_frozen BK12.out 0; have hx12_1 := cz_ BK12.out 1; have hf12_1 : w2016.frozen? ⟨g12, 1, none⟩ = false := blk_frozen BK12.out 1; have hx12_2 := cz_ BK12.out 2; have hf12_2 : w2016.frozen? ⟨g12, 2, none⟩ = false := blk_frozen BK12.out 2; have hx12_3 := cz_ BK12.out 3; have hf12_3 : w2016.frozen? ⟨g12, 3, none⟩ = false := blk_frozen BK12.out 3; have hx12_4 := cz_ BK12.out 4; have hf12_4 : w2016.frozen? ⟨g12, 4, none⟩ = false := blk_frozen BK12.out 4; have hx16_0 := cz_ BK16.out 0; have hf16_0 : w2016.frozen? ⟨g16, 0, none⟩ = false := blk_frozen BK16.out 0; have hx16_1 := cz_ BK16.out 1; have hf16_1 : w2016.frozen? ⟨g16, 1, none⟩ = false := blk_frozen BK16.out 1; have hx16_2 := cz_ BK16.out 2; have hf16_2 : w2016.frozen? ⟨g16, 2, none⟩ = false := blk_frozen BK16.out 2; have hx19_0 := cz_ BK19.out 0; have hf19_0 : w2016.frozen? ⟨g19, 0, none⟩ = false := blk_frozen BK19.out 0; have hx19_1 := cz_ BK19.out 1; have hf19_1 : w2016.frozen? ⟨g19, 1, none⟩ = false := blk_frozen BK19.out 1; have hx19_2 := cz_ BK19.out 2; have hf19_2 : w2016.frozen? ⟨g19, 2, none⟩ = false := blk_frozen BK19.out 2) | (go_at_call 19; (with_reducible refine (impl_FillField.calls k t13_0 _ _ t13_1 _ _ t13_2 t17_0 t17_1 _ _ t17_2 t20_0 t20_1 t20_2 t20_3 t20_4 t41_5 _ ?sd20_1 ?sd20_2 ?sd20_3 ?sd20_4 ?sd20_5 ?sd20_6 A20.out).mono ?_); (case sd20_1 => exact (Kd.S_reads' HO14.out).2.2); (case sd20_2 => exact (Kd.S_reads' HO14.out).2.1); (case sd20_3 => exact (Kd.S_reads' HO15.out).2.2); (case sd20_4 => exact (Kd.S_reads' HO15.out).2.1); (case sd20_5 => exact (Kd.R_reads' HO18.out).2.2); (case sd20_6 => exact (Kd.R_reads' HO18.out).2.1); rintro e w1020 ⟨v_21, rfl, ho0, hb⟩; have hs_ := below_size HB.out; clear hx1_0 hf1_0 hx1_1 hf1_1 hx1_2 hf1_2 hx2_0 hf2_0 hx2_1 hf2_1 hx2_2 hf2_2 hx12_0 hf12_0 hx12_1 hf12_1 hx12_2 hf12_2 hx12_3 hf12_3 hx12_4 hf12_4 hx16_0 hf16_0 hx16_1 hf16_1 hx16_2 hf16_2 hx19_0 hf19_0 hx19_1 hf19_1 hx19_2 hf19_2; have n0_ := Aside0.mk (below_step HB.out hb); have n1_ := Aside0.mk (Kd.R_below HO11.out hb); have n2_ := Aside0.mk (Kd.S_below HO14.out hb); have n3_ := Aside0.mk (Kd.S_below HO15.out hb); have n4_ := Aside0.mk (Kd.R_below HO18.out hb); have n5_ := Aside0.mk (blk_below BK1.out hb); have n6_ := Aside0.mk (blk_below BK2.out hb); have n7_ := Aside0.mk (blk_below BK12.out hb); have n8_ := Aside0.mk (blk_below BK16.out hb); have n9_ := Aside0.mk (blk_below BK19.out hb); have SZ20 := Aside0.mk (show w2016.heap.size ≤ w1020.heap.size from (hb).size); clear HB HO11 HO14 HO15 HO18 BK1 BK2 BK12 BK16 BK19; have HB := n0_; have HO11 := n1_; have HO14 := n2_; have HO15 := n3_; have HO18 := n4_; have BK1 := n5_; have BK2 := n6_; have BK12 := n7_; have BK16 := n8_; have BK19 := n9_; clear n0_ n1_ n2_ n3_ n4_ n5_ n6_ n7_ n8_ n9_; have HO21 := Aside0.mk (R_zone ho0 hs_); clear ho0; obtain ⟨A_21, c_21, e_21⟩ := Kd.R_slice HO21.out; subst e_21; clear hb hs_; have hx1_0 := cz_ BK1.out 0; have hf1_0 : w1020.frozen? ⟨g1, 0, none⟩ = false := blk_frozen BK1.out 0; have hx1_1 := cz_ BK1.out 1; have hf1_1 : w1020.frozen? ⟨g1, 1, none⟩ = false := blk_frozen BK1.out 1; have hx1_2 := cz_ BK1.out 2; have hf1_2 : w1020.frozen? ⟨g1, 2, none⟩ = false := blk_frozen BK1.out 2; have hx2_0 := cz_ BK2.out 0; have hf2_0 : w1020.frozen? ⟨g2, 0, none⟩ = false := blk_frozen BK2.out 0; have hx2_1 := cz_ BK2.out 1; have hf2_1 : w1020.frozen? ⟨g2, 1, none⟩ = false := blk_frozen BK2.out 1; have hx2_2 := cz_ BK2.out 2; have hf2_2 : w1020.frozen? ⟨g2, 2, none⟩ = false := blk_frozen BK2.out 2; have hx12_0 := cz_ BK12.out 0; have hf12_0 : w1020.frozen? ⟨g12, 0, none⟩ = false := blk_frozen BK12.out 0; have hx12_1 := cz_ BK12.out 1; have hf12_1 : w1020.frozen? ⟨g12, 1, none⟩ = false := blk_frozen BK12.out 1; have hx12_2 := cz_ BK12.out 2; have hf12_2 : w1020.frozen? ⟨g12, 2, none⟩ = false := blk_frozen BK12.out 2; have hx12_3 := cz_ BK12.out 3; have hf12_3 : w1020.frozen? ⟨g12, 3, none⟩ = false := blk_frozen BK12.out 3; have hx12_4 := cz_ BK12.out 4; have hf12_4 : w1020.frozen? ⟨g12, 4, none⟩ = false := blk_frozen BK12.out 4; have hx16_0 := cz_ BK16.out 0; have hf16_0 : w1020.frozen? ⟨g16, 0, none⟩ = false := blk_frozen BK16.out 0; have hx16_1 := cz_ BK16.out 1; have hf16_1 : w1020.frozen? ⟨g16, 1, none⟩ = false := blk_frozen BK16.out 1; have hx16_2 := cz_ BK16.out 2; have hf16_2 : w1020.frozen? ⟨g16, 2, none⟩ = false := blk_frozen BK16.out 2; have hx19_0 := cz_ BK19.out 0; have hf19_0 : w1020.frozen? ⟨g19, 0, none⟩ = false := blk_frozen BK19.out 0; have hx19_1 := cz_ BK19.out 1; have hf19_1 : w1020.frozen? ⟨g19, 1, none⟩ = false := blk_frozen BK19.out 1; have hx19_2 := cz_ BK19.out 2; have hf19_2 : w1020.frozen? ⟨g19, 2, none⟩ = false := blk_frozen BK19.out 2) | ((with_reducible refine gate_dst (N := 10) rfl ?_); refine bx_ 10 #[.bool false, .int .i64 0, .int .i64 0, .slice none 0 0, .int .i64 0] 44 ?_; intro g22 hg w1022 hbox hb; clear hx1_0 hf1_0 hx1_1 hf1_1 hx1_2 hf1_2 hx2_0 hf2_0 hx2_1 hf2_1 hx2_2 hf2_2 hx12_0 hf12_0 hx12_1 hf12_1 hx12_2 hf12_2 hx12_3 hf12_3 hx12_4 hf12_4 hx16_0 hf16_0 hx16_1 hf16_1 hx16_2 hf16_2 hx19_0 hf19_0 hx19_1 hf19_1 hx19_2 hf19_2; have n0_ := Aside0.mk (below_step HB.out hb); have n1_ := Aside0.mk (Kd.R_below HO11.out hb); have n2_ := Aside0.mk (Kd.S_below HO14.out hb); have n3_ := Aside0.mk (Kd.S_below HO15.out hb); have n4_ := Aside0.mk (Kd.R_below HO18.out hb); have n5_ := Aside0.mk (Kd.R_below HO21.out hb); have n6_ := Aside0.mk (blk_below BK1.out hb); have n7_ := Aside0.mk (blk_below BK2.out hb); have n8_ := Aside0.mk (blk_below BK12.out hb); have n9_ := Aside0.mk (blk_below BK16.out hb); have n10_ := Aside0.mk (blk_below BK19.out hb); have SZ21 := Aside0.mk (show w1020.heap.size ≤ w1022.heap.size from (hb).size); clear HB HO11 HO14 HO15 HO18 HO21 BK1 BK2 BK12 BK16 BK19; have HB := n0_; have HO11 := n1_; have HO14 := n2_; have HO15 := n3_; have HO18 := n4_; have HO21 := n5_; have BK1 := n6_; have BK2 := n7_; have BK12 := n8_; have BK16 := n9_; have BK19 := n10_; clear n0_ n1_ n2_ n3_ n4_ n5_ n6_ n7_ n8_ n9_ n10_; have BK22 := Aside0.mk hbox; have GL22 := Aside0.mk (show w1020.heap.size ≤ g22 from Nat.le_of_eq hg.symm); have GU22 := Aside0.mk (blk_lt hbox); clear hbox hg hb; have hx1_0 := cz_ BK1.out 0; have hf1_0 : w1022.frozen? ⟨g1, 0, none⟩ = false := blk_frozen BK1.out 0; have hx1_1 := cz_ BK1.out 1; have hf1_1 : w1022.frozen? ⟨g1, 1, none⟩ = false := blk_frozen BK1.out 1; have hx1_2 := cz_ BK1.out 2; have hf1_2 : w1022.frozen? ⟨g1, 2, none⟩ = false := blk_frozen BK1.out 2; have hx2_0 := cz_ BK2.out 0; have hf2_0 : w1022.frozen? ⟨g2, 0, none⟩ = false := blk_frozen BK2.out 0; have hx2_1 := cz_ BK2.out 1; have hf2_1 : w1022.frozen? ⟨g2, 1, none⟩ = false := blk_frozen BK2.out 1; have hx2_2 := cz_ BK2.out 2; have hf2_2 : w1022.frozen? ⟨g2, 2, none⟩ = false := blk_frozen BK2.out 2; have hx12_0 := cz_ BK12.out 0; have hf12_0 : w1022.frozen? ⟨g12, 0, none⟩ = false := blk_frozen BK12.out 0; have hx12_1 := cz_ BK12.out 1; have hf12_1 : w1022.frozen? ⟨g12, 1, none⟩ = false := blk_frozen BK12.out 1; have hx12_2 := cz_ BK12.out 2; have hf12_2 : w1022.frozen? ⟨g12, 2, none⟩ = false := blk_frozen BK12.out 2; have hx12_3 := cz_ BK12.out 3; have hf12_3 : w1022.frozen? ⟨g12, 3, none⟩ = false := blk_frozen BK12.out 3; have hx12_4 := cz_ BK12.out 4; have hf12_4 : w1022.frozen? ⟨g12, 4, none⟩ = false := blk_frozen BK12.out 4; have hx16_0 := cz_ BK16.out 0; have hf16_0 : w1022.frozen? ⟨g16, 0, none⟩ = false := blk_frozen BK16.out 0; have hx16_1 := cz_ BK16.out 1; have hf16_1 : w1022.frozen? ⟨g16, 1, none⟩ = false := blk_frozen BK16.out 1; have hx16_2 := cz_ BK16.out 2; have hf16_2 : w1022.frozen? ⟨g16, 2, none⟩ = false := blk_frozen BK16.out 2; have hx19_0 := cz_ BK19.out 0; have hf19_0 : w1022.frozen? ⟨g19, 0, none⟩ = false := blk_frozen BK19.out 0; have hx19_1 := cz_ BK19.out 1; have hf19_1 : w1022.frozen? ⟨g19, 1, none⟩ = false := blk_frozen BK19.out 1; have hx19_2 := cz_ BK19.out 2; have hf19_2 : w1022.frozen? ⟨g19, 2, none⟩ = false := blk_frozen BK19.out 2; have hx22_0 := cz_ BK22.out 0; have hf22_0 : w1022.frozen? ⟨g22, 0, none⟩ = false := blk_frozen BK22.out 0; have hx22_1 := cz_ BK22.out 1; have hf22_1 : w1022.frozen? ⟨g22, 1, none⟩ = false := blk_frozen BK22.out 1; have hx22_2 := cz_ BK22.out 2; have hf22_2 : w1022.frozen? ⟨g22, 2, none⟩ = false := blk_frozen BK22.out 2; have hx22_3 := cz_ BK22.out 3; have hf22_3 : w1022.frozen? ⟨g22, 3, none⟩ = false := blk_frozen BK22.out 3; have hx22_4 := cz_ BK22.out 4; have hf22_4 : w1022.frozen? ⟨g22, 4, none⟩ = false := blk_frozen BK22.out 4) | ((with_reducible refine gate_store (t := 44) (p := 10) rfl ?_); refine se_ 44 10 (((((w1022.setCell ⟨g22, 0, none⟩ (.bool t20_0)).setCell ⟨g22, 1, none⟩ (.int .i64 t20_1)).setCell ⟨g22, 2, none⟩ (.int .i64 t20_2)).setCell ⟨g22, 3, none⟩ (.slice A_21 t20_3.length c_21)).setCell ⟨g22, 4, none⟩ (.int .i64 t20_4)) ?_; intro w2019 hw; have hge_ : w.heap.size ≤ g22 := (by have := GL22.out; have := SZ1.out; have := SZ2.out; have := SZ3.out; have := SZ4.out; have := SZ5.out; have := SZ6.out; have := SZ7.out; have := SZ8.out; have := SZ9.out; have := SZ10.out; have := SZ11.out; have := SZ12.out; have := SZ13.out; have := SZ14.out; have := SZ15.out; have := SZ16.out; have := SZ17.out; have := SZ18.out; have := SZ19.out; have := SZ20.out; omega); have hb : Below w.heap.size w w2019 := (by rw [hw]; exact below_set (below_set (below_set (below_set (below_set (HB.out) hge_) hge_) hge_) hge_) hge_); have hkp : Kept w1022 w2019 (fun k_ => k_ = g22) := (by rw [hw]; exact Kept.setCell (Kept.setCell (Kept.setCell (Kept.setCell (Kept.setCell (Kept.refl w1022 (fun k_ => k_ = g22)) (.inl rfl) (.bool t20_0)) (.inl rfl) (.int .i64 t20_1)) (.inl rfl) (.int .i64 t20_2)) (.inl rfl) (.slice A_21 t20_3.length c_21)) (.inl rfl) (.int .i64 t20_4)); have hbk : w2019.heap[g22]? = some (.cells #[.bool t20_0, .int .i64 t20_1, .int .i64 t20_2, .slice A_21 t20_3.length c_21, .int .i64 t20_4] 44 (0, 0)) := (by rw [hw]; exact blk_put (cs' := #[.bool t20_0, .int .i64 t20_1, .int .i64 t20_2, .slice A_21 t20_3.length c_21, .int .i64 t20_4]) (blk_put (cs' := #[.bool t20_0, .int .i64 t20_1, .int .i64 t20_2, .slice A_21 t20_3.length c_21, .int .i64 0]) (blk_put (cs' := #[.bool t20_0, .int .i64 t20_1, .int .i64 t20_2, .slice none 0 0, .int .i64 0]) (blk_put (cs' := #[.bool t20_0, .int .i64 t20_1, .int .i64 0, .slice none 0 0, .int .i64 0]) (blk_put (cs' := #[.bool t20_0, .int .i64 0, .int .i64 0, .slice none 0 0, .int .i64 0]) (BK22.out) 0 (.bool t20_0) rfl) 1 (.int .i64 t20_1) rfl) 2 (.int .i64 t20_2) rfl) 3 (.slice A_21 t20_3.length c_21) rfl) 4 (.int .i64 t20_4) rfl); clear hx1_0 hf1_0 hx1_1 hf1_1 hx1_2 hf1_2 hx2_0 hf2_0 hx2_1 hf2_1 hx2_2 hf2_2 hx12_0 hf12_0 hx12_1 hf12_1 hx12_2 hf12_2 hx12_3 hf12_3 hx12_4 hf12_4 hx16_0 hf16_0 hx16_1 hf16_1 hx16_2 hf16_2 hx19_0 hf19_0 hx19_1 hf19_1 hx19_2 hf19_2 hx22_0 hf22_0 hx22_1 hf22_1 hx22_2 hf22_2 hx22_3 hf22_3 hx22_4 hf22_4; have n0_ := Aside0.mk (hb); have n1_ := Aside0.mk (Kd.R_step HO11.out (fun k_ h_ hlt_ => hkp.2 k_ hlt_ (fun e_ => (show False from Zone.notblk h_ e_ (by have := GL22.out; have := GU22.out; have := SZ8.out; have := SZ9.out; have := SZ10.out; have := SZ11.out; have := SZ12.out; have := SZ13.out; have := SZ14.out; have := SZ15.out; have := SZ16.out; have := SZ17.out; have := SZ18.out; have := SZ19.out; have := SZ20.out; first | exact .inl (by omega) | exact .inr (by omega))).elim))); have n2_ := Aside0.mk (Kd.S_step HO14.out (fun k_ h_ hlt_ => hkp.2 k_ hlt_ (fun e_ => (show False from Zone.notblk h_ e_ (by have := GL22.out; have := GU22.out; have := SZ12.out; have := SZ13.out; have := SZ14.out; have := SZ15.out; have := SZ16.out; have := SZ17.out; have := SZ18.out; have := SZ19.out; have := SZ20.out; first | exact .inl (by omega) | exact .inr (by omega))).elim))); have n3_ := Aside0.mk (Kd.S_step HO15.out (fun k_ h_ hlt_ => hkp.2 k_ hlt_ (fun e_ => (show False from Zone.notblk h_ e_ (by have := GL22.out; have := GU22.out; have := SZ14.out; have := SZ15.out; have := SZ16.out; have := SZ17.out; have := SZ18.out; have := SZ19.out; have := SZ20.out; first | exact .inl (by omega) | exact .inr (by omega))).elim))); have n4_ := Aside0.mk (Kd.R_step HO18.out (fun k_ h_ hlt_ => hkp.2 k_ hlt_ (fun e_ => (show False from Zone.notblk h_ e_ (by have := GL22.out; have := GU22.out; have := SZ18.out; have := SZ19.out; have := SZ20.out; first | exact .inl (by omega) | exact .inr (by omega))).elim))); have n5_ := Aside0.mk (Kd.R_step HO21.out (fun k_ h_ hlt_ => hkp.2 k_ hlt_ (fun e_ => (show False from Zone.notblk h_ e_ (by have := GL22.out; have := GU22.out; first | exact .inl (by omega) | exact .inr (by omega))).elim))); have n6_ := Aside0.mk ((hkp.2 g1 (blk_lt BK1.out) (fun e_ => (by have e2_ : g1 = g22 := e_; have := GL1.out; have := GU1.out; have := GL22.out; have := GU22.out; have := SZ2.out; have := SZ3.out; have := SZ4.out; have := SZ5.out; have := SZ6.out; have := SZ7.out; have := SZ8.out; have := SZ9.out; have := SZ10.out; have := SZ11.out; have := SZ12.out; have := SZ13.out; have := SZ14.out; have := SZ15.out; have := SZ16.out; have := SZ17.out; have := SZ18.out; have := SZ19.out; have := SZ20.out; omega))).trans BK1.out); have n7_ := Aside0.mk ((hkp.2 g2 (blk_lt BK2.out) (fun e_ => (by have e2_ : g2 = g22 := e_; have := GL2.out; have := GU2.out; have := GL22.out; have := GU22.out; have := SZ3.out; have := SZ4.out; have := SZ5.out; have := SZ6.out; have := SZ7.out; have := SZ8.out; have := SZ9.out; have := SZ10.out; have := SZ11.out; have := SZ12.out; have := SZ13.out; have := SZ14.out; have := SZ15.out; have := SZ16.out; have := SZ17.out; have := SZ18.out; have := SZ19.out; have := SZ20.out; omega))).trans BK2.out); have n8_ := Aside0.mk ((hkp.2 g12 (blk_lt BK12.out) (fun e_ => (by have e2_ : g12 = g22 := e_; have := GL12.out; have := GU12.out; have := GL22.out; have := GU22.out; have := SZ9.out; have := SZ10.out; have := SZ11.out; have := SZ12.out; have := SZ13.out; have := SZ14.out; have := SZ15.out; have := SZ16.out; have := SZ17.out; have := SZ18.out; have := SZ19.out; have := SZ20.out; omega))).trans BK12.out); have n9_ := Aside0.mk ((hkp.2 g16 (blk_lt BK16.out) (fun e_ => (by have e2_ : g16 = g22 := e_; have := GL16.out; have := GU16.out; have := GL22.out; have := GU22.out; have := SZ16.out; have := SZ17.out; have := SZ18.out; have := SZ19.out; have := SZ20.out; omega))).trans BK16.out); have n10_ := Aside0.mk ((hkp.2 g19 (blk_lt BK19.out) (fun e_ => (by have e2_ : g19 = g22 := e_; have := GL19.out; have := GU19.out; have := GL22.out; have := GU22.out; have := SZ19.out; have := SZ20.out; omega))).trans BK19.out); have n11_ := Aside0.mk (hbk); have SZ22 := Aside0.mk (show w1022.heap.size ≤ w2019.heap.size from hkp.1); clear HB HO11 HO14 HO15 HO18 HO21 BK1 BK2 BK12 BK16 BK19 BK22; have HB := n0_; have HO11 := n1_; have HO14 := n2_; have HO15 := n3_; have HO18 := n4_; have HO21 := n5_; have BK1 := n6_; have BK2 := n7_; have BK12 := n8_; have BK16 := n9_; have BK19 := n10_; have BK22 := n11_; clear n0_ n1_ n2_ n3_ n4_ n5_ n6_ n7_ n8_ n9_ n10_ n11_; clear hb hkp hbk hw hge_; have hx1_0 := cz_ BK1.out 0; have hf1_0 : w2019.frozen? ⟨g1, 0, none⟩ = false := blk_frozen BK1.out 0; have hx1_1 := cz_ BK1.out 1; have hf1_1 : w2019.frozen? ⟨g1, 1, none⟩ = false := blk_frozen BK1.out 1; have hx1_2 := cz_ BK1.out 2; have hf1_2 : w2019.frozen? ⟨g1, 2, none⟩ = false := blk_frozen BK1.out 2; have hx2_0 := cz_ BK2.out 0; have hf2_0 : w2019.frozen? ⟨g2, 0, none⟩ = false := blk_frozen BK2.out 0; have hx2_1 := cz_ BK2.out 1; have hf2_1 : w2019.frozen? ⟨g2, 1, none⟩ = false := blk_frozen BK2.out 1; have hx2_2 := cz_ BK2.out 2; have hf2_2 : w2019.frozen? ⟨g2, 2, none⟩ = false := blk_frozen BK2.out 2; have hx12_0 := cz_ BK12.out 0; have hf12_0 : w2019.frozen? ⟨g12, 0, none⟩ = false := blk_frozen BK12.out 0; have hx12_1 := cz_ BK12.out 1; have hf12_1 : w2019.frozen? ⟨g12, 1, none⟩ = false := blk_frozen BK12.out 1; have hx12_2 := cz_ BK12.out 2; have hf12_2 : w2019.frozen? ⟨g12, 2, none⟩ = false := blk_frozen BK12.out 2; have hx12_3 := cz_ BK12.out 3; have hf12_3 : w2019.frozen? ⟨g12, 3, none⟩ = false := blk_frozen BK12.out 3; have hx12_4 := cz_ BK12.out 4; have hf12_4 : w2019.frozen? ⟨g12, 4, none⟩ = false := blk_frozen BK12.out 4; have hx16_0 := cz_ BK16.out 0; have hf16_0 : w2019.frozen? ⟨g16, 0, none⟩ = false := blk_frozen BK16.out 0; have hx16_1 := cz_ BK16.out 1; have hf16_1 : w2019.frozen? ⟨g16, 1, none⟩ = false := blk_frozen BK16.out 1; have hx16_2 := cz_ BK16.out 2; have hf16_2 : w2019.frozen? ⟨g16, 2, none⟩ = false := blk_frozen BK16.out 2; have hx19_0 := cz_ BK19.out 0; have hf19_0 : w2019.frozen? ⟨g19, 0, none⟩ = false := blk_frozen BK19.out 0; have hx19_1 := cz_ BK19.out 1; have hf19_1 : w2019.frozen? ⟨g19, 1, none⟩ = false := blk_frozen BK19.out 1; have hx19_2 := cz_ BK19.out 2; have hf19_2 : w2019.frozen? ⟨g19, 2, none⟩ = false := blk_frozen BK19.out 2; have hx22_0 := cz_ BK22.out 0; have hf22_0 : w2019.frozen? ⟨g22, 0, none⟩ = false := blk_frozen BK22.out 0; have hx22_1 := cz_ BK22.out 1; have hf22_1 : w2019.frozen? ⟨g22, 1, none⟩ = false := blk_frozen BK22.out 1; have hx22_2 := cz_ BK22.out 2; have hf22_2 : w2019.frozen? ⟨g22, 2, none⟩ = false := blk_frozen BK22.out 2; have hx22_3 := cz_ BK22.out 3; have hf22_3 : w2019.frozen? ⟨g22, 3, none⟩ = false := blk_frozen BK22.out 3; have hx22_4 := cz_ BK22.out 4; have hf22_4 : w2019.frozen? ⟨g22, 4, none⟩ = false := blk_frozen BK22.out 4) | (go_at_call 20; (with_reducible refine (laws_eqFilled.calls k t20_0 t20_1 t20_2 _ _ t20_3 t20_4 t10_0 t10_1 t10_2 _ _ t10_3 t10_4 true _ ?sd23_1 ?sd23_2 ?sd23_3 ?sd23_4 A23.out).mono ?_); (case sd23_1 => exact (Kd.R_reads' HO21.out).2.2); (case sd23_2 => exact (Kd.R_reads' HO21.out).2.1); (case sd23_3 => exact (Kd.R_reads' HO11.out).2.2); (case sd23_4 => exact (Kd.R_reads' HO11.out).2.1); rintro e w1023 ⟨rfl, hb⟩; have hs_ := below_size HB.out; clear hx1_0 hf1_0 hx1_1 hf1_1 hx1_2 hf1_2 hx2_0 hf2_0 hx2_1 hf2_1 hx2_2 hf2_2 hx12_0 hf12_0 hx12_1 hf12_1 hx12_2 hf12_2 hx12_3 hf12_3 hx12_4 hf12_4 hx16_0 hf16_0 hx16_1 hf16_1 hx16_2 hf16_2 hx19_0 hf19_0 hx19_1 hf19_1 hx19_2 hf19_2 hx22_0 hf22_0 hx22_1 hf22_1 hx22_2 hf22_2 hx22_3 hf22_3 hx22_4 hf22_4; have n0_ := Aside0.mk (below_step HB.out hb); have n1_ := Aside0.mk (Kd.R_below HO11.out hb); have n2_ := Aside0.mk (Kd.S_below HO14.out hb); have n3_ := Aside0.mk (Kd.S_below HO15.out hb); have n4_ := Aside0.mk (Kd.R_below HO18.out hb); have n5_ := Aside0.mk (Kd.R_below HO21.out hb); have n6_ := Aside0.mk (blk_below BK1.out hb); have n7_ := Aside0.mk (blk_below BK2.out hb); have n8_ := Aside0.mk (blk_below BK12.out hb); have n9_ := Aside0.mk (blk_below BK16.out hb); have n10_ := Aside0.mk (blk_below BK19.out hb); have n11_ := Aside0.mk (blk_below BK22.out hb); have SZ23 := Aside0.mk (show w2019.heap.size ≤ w1023.heap.size from (hb).size); clear HB HO11 HO14 HO15 HO18 HO21 BK1 BK2 BK12 BK16 BK19 BK22; have HB := n0_; have HO11 := n1_; have HO14 := n2_; have HO15 := n3_; have HO18 := n4_; have HO21 := n5_; have BK1 := n6_; have BK2 := n7_; have BK12 := n8_; have BK16 := n9_; have BK19 := n10_; have BK22 := n11_; clear n0_ n1_ n2_ n3_ n4_ n5_ n6_ n7_ n8_ n9_ n10_ n11_; clear hb hs_; have hx1_0 := cz_ BK1.out 0; have hf1_0 : w1023.frozen? ⟨g1, 0, none⟩ = false := blk_frozen BK1.out 0; have hx1_1 := cz_ BK1.out 1; have hf1_1 : w1023.frozen? ⟨g1, 1, none⟩ = false := blk_frozen BK1.out 1; have hx1_2 := cz_ BK1.out 2; have hf1_2 : w1023.frozen? ⟨g1, 2, none⟩ = false := blk_frozen BK1.out 2; have hx2_0 := cz_ BK2.out 0; have hf2_0 : w1023.frozen? ⟨g2, 0, none⟩ = false := blk_frozen BK2.out 0; have hx2_1 := cz_ BK2.out 1; have hf2_1 : w1023.frozen? ⟨g2, 1, none⟩ = false := blk_frozen BK2.out 1; have hx2_2 := cz_ BK2.out 2; have hf2_2 : w1023.frozen? ⟨g2, 2, none⟩ = false := blk_frozen BK2.out 2; have hx12_0 := cz_ BK12.out 0; have hf12_0 : w1023.frozen? ⟨g12, 0, none⟩ = false := blk_frozen BK12.out 0; have hx12_1 := cz_ BK12.out 1; have hf12_1 : w1023.frozen? ⟨g12, 1, none⟩ = false := blk_frozen BK12.out 1; have hx12_2 := cz_ BK12.out 2; have hf12_2 : w1023.frozen? ⟨g12, 2, none⟩ = false := blk_frozen BK12.out 2; have hx12_3 := cz_ BK12.out 3; have hf12_3 : w1023.frozen? ⟨g12, 3, none⟩ = false := blk_frozen BK12.out 3; have hx12_4 := cz_ BK12.out 4; have hf12_4 : w1023.frozen? ⟨g12, 4, none⟩ = false := blk_frozen BK12.out 4; have hx16_0 := cz_ BK16.out 0; have hf16_0 : w1023.frozen? ⟨g16, 0, none⟩ = false := blk_frozen BK16.out 0; have hx16_1 := cz_ BK16.out 1; have hf16_1 : w1023.frozen? ⟨g16, 1, none⟩ = false := blk_frozen BK16.out 1; have hx16_2 := cz_ BK16.out 2; have hf16_2 : w1023.frozen? ⟨g16, 2, none⟩ = false := blk_frozen BK16.out 2; have hx19_0 := cz_ BK19.out 0; have hf19_0 : w1023.frozen? ⟨g19, 0, none⟩ = false := blk_frozen BK19.out 0; have hx19_1 := cz_ BK19.out 1; have hf19_1 : w1023.frozen? ⟨g19, 1, none⟩ = false := blk_frozen BK19.out 1; have hx19_2 := cz_ BK19.out 2; have hf19_2 : w1023.frozen? ⟨g19, 2, none⟩ = false := blk_frozen BK19.out 2; have hx22_0 := cz_ BK22.out 0; have hf22_0 : w1023.frozen? ⟨g22, 0, none⟩ = false := blk_frozen BK22.out 0; have hx22_1 := cz_ BK22.out 1; have hf22_1 : w1023.frozen? ⟨g22, 1, none⟩ = false := blk_frozen BK22.out 1; have hx22_2 := cz_ BK22.out 2; have hf22_2 : w1023.frozen? ⟨g22, 2, none⟩ = false := blk_frozen BK22.out 2; have hx22_3 := cz_ BK22.out 3; have hf22_3 : w1023.frozen? ⟨g22, 3, none⟩ = false := blk_frozen BK22.out 3; have hx22_4 := cz_ BK22.out 4; have hf22_4 : w1023.frozen? ⟨g22, 4, none⟩ = false := blk_frozen BK22.out 4))
  (try simp only [Act.put, List.setIfInBounds_toArray, List.set_cons_zero, List.set_cons_succ])
  clear hx1_0 hf1_0 hx1_1 hf1_1 hx1_2 hf1_2 hx2_0 hf2_0 hx2_1 hf2_1 hx2_2 hf2_2 hx12_0 hf12_0 hx12_1 hf12_1 hx12_2 hf12_2 hx12_3 hf12_3 hx12_4 hf12_4 hx16_0 hf16_0 hx16_1 hf16_1 hx16_2 hf16_2 hx19_0 hf19_0 hx19_1 hf19_1 hx19_2 hf19_2 hx22_0 hf22_0 hx22_1 hf22_1 hx22_2 hf22_2 hx22_3 hf22_3 hx22_4 hf22_4
  have n0_ := Aside0.mk (below_step HB.out (below_drew1 (Below.refl w1023.heap.size w1023)))
  have n1_ := Aside0.mk (Kd.R_below HO11.out (below_drew1 (Below.refl w1023.heap.size w1023)))
  have n2_ := Aside0.mk (Kd.S_below HO14.out (below_drew1 (Below.refl w1023.heap.size w1023)))
  have n3_ := Aside0.mk (Kd.S_below HO15.out (below_drew1 (Below.refl w1023.heap.size w1023)))
  have n4_ := Aside0.mk (Kd.R_below HO18.out (below_drew1 (Below.refl w1023.heap.size w1023)))
  have n5_ := Aside0.mk (Kd.R_below HO21.out (below_drew1 (Below.refl w1023.heap.size w1023)))
  have n6_ := Aside0.mk (blk_below BK1.out (below_drew1 (Below.refl w1023.heap.size w1023)))
  have n7_ := Aside0.mk (blk_below BK2.out (below_drew1 (Below.refl w1023.heap.size w1023)))
  have n8_ := Aside0.mk (blk_below BK12.out (below_drew1 (Below.refl w1023.heap.size w1023)))
  have n9_ := Aside0.mk (blk_below BK16.out (below_drew1 (Below.refl w1023.heap.size w1023)))
  have n10_ := Aside0.mk (blk_below BK19.out (below_drew1 (Below.refl w1023.heap.size w1023)))
  have n11_ := Aside0.mk (blk_below BK22.out (below_drew1 (Below.refl w1023.heap.size w1023)))
  have SZ24 := Aside0.mk (show w1023.heap.size ≤ w1023.drew.heap.size from ((below_drew1 (Below.refl w1023.heap.size w1023))).size)
  clear HB HO11 HO14 HO15 HO18 HO21 BK1 BK2 BK12 BK16 BK19 BK22
  have HB := n0_
  have HO11 := n1_
  have HO14 := n2_
  have HO15 := n3_
  have HO18 := n4_
  have HO21 := n5_
  have BK1 := n6_
  have BK2 := n7_
  have BK12 := n8_
  have BK16 := n9_
  have BK19 := n10_
  have BK22 := n11_
  clear n0_ n1_ n2_ n3_ n4_ n5_ n6_ n7_ n8_ n9_ n10_ n11_
  refine start_ (n := 5) (S := fun w' => w'.cell? ⟨g1, 0, none⟩ = some (.int .i64 a0_0) ∧ w'.cell? ⟨g1, 1, none⟩ = some (.slice A0_1 l0_1.length c0_1) ∧ w'.cell? ⟨g1, 2, none⟩ = some (.slice A0_2 l0_2.length c0_2) ∧ w'.cell? ⟨g2, 0, none⟩ = some (.int .i64 a1_0) ∧ w'.cell? ⟨g2, 1, none⟩ = some (.int .i64 a1_1) ∧ w'.cell? ⟨g2, 2, none⟩ = some (.slice A1_2 l1_2.length c1_2) ∧ w'.cell? ⟨g12, 0, none⟩ = some (.bool t10_0) ∧ w'.cell? ⟨g12, 1, none⟩ = some (.int .i64 t10_1) ∧ w'.cell? ⟨g12, 2, none⟩ = some (.int .i64 t10_2) ∧ w'.cell? ⟨g12, 3, none⟩ = some (.slice A_11 t10_3.length c_11) ∧ w'.cell? ⟨g12, 4, none⟩ = some (.int .i64 t10_4) ∧ w'.cell? ⟨g16, 0, none⟩ = some (.int .i64 t13_0) ∧ w'.cell? ⟨g16, 1, none⟩ = some (.slice A_14 t13_1.length c_14) ∧ w'.cell? ⟨g16, 2, none⟩ = some (.slice A_15 t13_2.length c_15) ∧ w'.cell? ⟨g19, 0, none⟩ = some (.int .i64 t17_0) ∧ w'.cell? ⟨g19, 1, none⟩ = some (.int .i64 t17_1) ∧ w'.cell? ⟨g19, 2, none⟩ = some (.slice A_18 t17_2.length c_18) ∧ w'.cell? ⟨g22, 0, none⟩ = some (.bool t20_0) ∧ w'.cell? ⟨g22, 1, none⟩ = some (.int .i64 t20_1) ∧ w'.cell? ⟨g22, 2, none⟩ = some (.int .i64 t20_2) ∧ w'.cell? ⟨g22, 3, none⟩ = some (.slice A_21 t20_3.length c_21) ∧ w'.cell? ⟨g22, 4, none⟩ = some (.int .i64 t20_4)) (ds := []) #[false, false, false, false, false] (by kernel_rfl) rfl rfl ⟨cz_ BK1.out 0, cz_ BK1.out 1, cz_ BK1.out 2, cz_ BK2.out 0, cz_ BK2.out 1, cz_ BK2.out 2, cz_ BK12.out 0, cz_ BK12.out 1, cz_ BK12.out 2, cz_ BK12.out 3, cz_ BK12.out 4, cz_ BK16.out 0, cz_ BK16.out 1, cz_ BK16.out 2, cz_ BK19.out 0, cz_ BK19.out 1, cz_ BK19.out 2, cz_ BK22.out 0, cz_ BK22.out 1, cz_ BK22.out 2, cz_ BK22.out 3, cz_ BK22.out 4⟩ (fun hHeld => ?_); refine with_tabW laws_FnExactFillField.tab14 laws_FnExactFillField.bits14 (fun HT_ HW_ => ?_)
  generalize w1023.drew = w3021 at HB HO11 HO14 HO15 HO18 HO21 BK1 BK2 BK12 BK16 BK19 BK22 SZ24 hHeld ⊢
  refine take_ (i := 0) (N := some 54) (v := ?_) (a' := ?_) #[true, false, false, false, false] rfl rfl (take_ofW HT_.out HW_.out (by kernel_rfl)) (fun _ _ _ h => h) (Or.inl ⟨by rfl, ?_⟩) hHeld ?_ ?_
  rotate_left
  · rintro w' ⟨s0, s1, s2, s3, s4, s5, s6, s7, s8, s9, s10, s11, s12, s13, s14, s15, s16, s17, s18, s19, s20, s21⟩
    go_simp
    with_reducible rfl
  rotate_left
  · simp only [Act.put, List.setIfInBounds_toArray, List.set_cons_zero, List.set_cons_succ, i64_w, i32_w]
    rfl
  refine take_ (i := 1) (N := some 55) (v := ?_) (a' := ?_) #[true, true, false, false, false] rfl rfl (take_ofW HT_.out HW_.out (by kernel_rfl)) (fun _ _ _ h => h) (Or.inl ⟨by rfl, ?_⟩) hHeld ?_ ?_
  rotate_left
  · rintro w' ⟨s0, s1, s2, s3, s4, s5, s6, s7, s8, s9, s10, s11, s12, s13, s14, s15, s16, s17, s18, s19, s20, s21⟩
    go_simp
    with_reducible rfl
  rotate_left
  · simp only [Act.put, List.setIfInBounds_toArray, List.set_cons_zero, List.set_cons_succ, i64_w, i32_w]
    rfl
  refine oS_ 2 56 HT_ (fun K hK => ?_)
  refine goes_ Try.func8 (by kernel_rfl) rfl #[.agg #[.int .i64 a0_0, .slice A0_1 l0_1.length c0_1, .slice A0_2 l0_2.length c0_2]] (by rfl) rfl rfl (by (try simp only [List.map_toArray, List.map_cons, List.map_nil]); first | done | rfl) ?_
  (with_reducible refine (laws_toRules.callsZ k a0_0 _ _ l0_1 _ _ l0_2 t24_0 t24_1 t24_2 _ ?sd24_1 ?sd24_2 ?sd24_3 ?sd24_4 A24.out).mono ?_)
  (case sd24_1 => exact Kd.C_below HR0_1.out HB.out)
  (case sd24_2 => exact HC0_1.out)
  (case sd24_3 => exact Kd.C_below HR0_2.out HB.out)
  (case sd24_4 => exact HC0_2.out)
  rintro e w1024 ⟨v_25, v_26, wz24_0a, wz24_0b, wz24_1a, wz24_1b, rfl, ho0, ho1, ⟨hz0, hz1, hz2, hz3, hz4⟩, hb⟩
  refine ⟨_, rfl, ?_⟩
  have hs_ := below_size HB.out
  have n0_ := Aside0.mk (below_step HB.out hb)
  have n1_ := Aside0.mk (Kd.R_below HO11.out hb)
  have n2_ := Aside0.mk (Kd.S_below HO14.out hb)
  have n3_ := Aside0.mk (Kd.S_below HO15.out hb)
  have n4_ := Aside0.mk (Kd.R_below HO18.out hb)
  have n5_ := Aside0.mk (Kd.R_below HO21.out hb)
  have n6_ := Aside0.mk (blk_below BK1.out hb)
  have n7_ := Aside0.mk (blk_below BK2.out hb)
  have n8_ := Aside0.mk (blk_below BK12.out hb)
  have n9_ := Aside0.mk (blk_below BK16.out hb)
  have n10_ := Aside0.mk (blk_below BK19.out hb)
  have n11_ := Aside0.mk (blk_below BK22.out hb)
  clear HB HO11 HO14 HO15 HO18 HO21 BK1 BK2 BK12 BK16 BK19 BK22
  have HB := n0_
  have HO11 := n1_
  have HO14 := n2_
  have HO15 := n3_
  have HO18 := n4_
  have HO21 := n5_
  have BK1 := n6_
  have BK2 := n7_
  have BK12 := n8_
  have BK16 := n9_
  have BK19 := n10_
  have BK22 := n11_
  clear n0_ n1_ n2_ n3_ n4_ n5_ n6_ n7_ n8_ n9_ n10_ n11_
  have SZ25 := Aside0.mk hz0
  have SZ26 := Aside0.mk hz1
  have SZ27 := Aside0.mk hz2
  have SZ28 := Aside0.mk hz3
  have SZ29 := Aside0.mk hz4
  clear hz0 hz1 hz2 hz3 hz4
  have HO25 := Aside0.mk (Kd.S_lower ho0 hs_)
  clear ho0
  obtain ⟨A_25, c_25, e_25⟩ := Kd.S_slice HO25.out
  subst e_25
  have HO26 := Aside0.mk (Kd.S_lower ho1 hs_)
  clear ho1
  obtain ⟨A_26, c_26, e_26⟩ := Kd.S_slice HO26.out
  subst e_26
  clear hb hs_
  refine hK.out _ _ ⟨cz_ BK1.out 0, cz_ BK1.out 1, cz_ BK1.out 2, cz_ BK2.out 0, cz_ BK2.out 1, cz_ BK2.out 2, cz_ BK12.out 0, cz_ BK12.out 1, cz_ BK12.out 2, cz_ BK12.out 3, cz_ BK12.out 4, cz_ BK16.out 0, cz_ BK16.out 1, cz_ BK16.out 2, cz_ BK19.out 0, cz_ BK19.out 1, cz_ BK19.out 2, cz_ BK22.out 0, cz_ BK22.out 1, cz_ BK22.out 2, cz_ BK22.out 3, cz_ BK22.out 4⟩ (fun hHeld => ?_)
  clear hK K
  refine norm_ (a' := ?_) ?_ ?_
  rotate_left
  · show Act.put _ (some 56) _ = _
    simp only [Act.put, List.setIfInBounds_toArray, List.set_cons_zero, List.set_cons_succ, i64_w, i32_w]
    rfl
  refine oS_ 3 57 HT_ (fun K hK => ?_)
  refine goes_ Try.func12 (by kernel_rfl) rfl #[.agg #[.int .i64 t13_0, .slice A_14 t13_1.length c_14, .slice A_15 t13_2.length c_15], .agg #[.int .i64 t24_0, .slice A_25 t24_1.length c_25, .slice A_26 t24_2.length c_26]] (by rfl) rfl rfl (by (try simp only [List.map_toArray, List.map_cons, List.map_nil]); first | done | rfl) ?_
  (with_reducible refine (laws_eqRules.calls k t13_0 _ _ t13_1 _ _ t13_2 t24_0 _ _ t24_1 _ _ t24_2 true _ ?sd27_1 ?sd27_2 ?sd27_3 ?sd27_4 ?sd27_5 ?sd27_6 ?sd27_7 ?sd27_8 A27.out).mono ?_)
  (case sd27_1 => exact (Kd.S_reads' HO14.out).2.2)
  (case sd27_2 => exact (Kd.S_reads' HO14.out).2.1)
  (case sd27_3 => exact (Kd.S_reads' HO15.out).2.2)
  (case sd27_4 => exact (Kd.S_reads' HO15.out).2.1)
  (case sd27_5 => exact (Kd.S_reads' HO25.out).2.2)
  (case sd27_6 => exact (Kd.S_reads' HO25.out).2.1)
  (case sd27_7 => exact (Kd.S_reads' HO26.out).2.2)
  (case sd27_8 => exact (Kd.S_reads' HO26.out).2.1)
  rintro e w1027 ⟨rfl, hb⟩
  refine ⟨_, rfl, ?_⟩
  have hs_ := below_size HB.out
  have n0_ := Aside0.mk (below_step HB.out hb)
  have n1_ := Aside0.mk (Kd.R_below HO11.out hb)
  have n2_ := Aside0.mk (Kd.S_below HO14.out hb)
  have n3_ := Aside0.mk (Kd.S_below HO15.out hb)
  have n4_ := Aside0.mk (Kd.R_below HO18.out hb)
  have n5_ := Aside0.mk (Kd.R_below HO21.out hb)
  have n6_ := Aside0.mk (Kd.S_below HO25.out hb)
  have n7_ := Aside0.mk (Kd.S_below HO26.out hb)
  have n8_ := Aside0.mk (blk_below BK1.out hb)
  have n9_ := Aside0.mk (blk_below BK2.out hb)
  have n10_ := Aside0.mk (blk_below BK12.out hb)
  have n11_ := Aside0.mk (blk_below BK16.out hb)
  have n12_ := Aside0.mk (blk_below BK19.out hb)
  have n13_ := Aside0.mk (blk_below BK22.out hb)
  have SZ30 := Aside0.mk (show w1024.heap.size ≤ w1027.heap.size from (hb).size)
  clear HB HO11 HO14 HO15 HO18 HO21 HO25 HO26 BK1 BK2 BK12 BK16 BK19 BK22
  have HB := n0_
  have HO11 := n1_
  have HO14 := n2_
  have HO15 := n3_
  have HO18 := n4_
  have HO21 := n5_
  have HO25 := n6_
  have HO26 := n7_
  have BK1 := n8_
  have BK2 := n9_
  have BK12 := n10_
  have BK16 := n11_
  have BK19 := n12_
  have BK22 := n13_
  clear n0_ n1_ n2_ n3_ n4_ n5_ n6_ n7_ n8_ n9_ n10_ n11_ n12_ n13_
  clear hb hs_
  refine hK.out _ _ ⟨cz_ BK1.out 0, cz_ BK1.out 1, cz_ BK1.out 2, cz_ BK2.out 0, cz_ BK2.out 1, cz_ BK2.out 2, cz_ BK12.out 0, cz_ BK12.out 1, cz_ BK12.out 2, cz_ BK12.out 3, cz_ BK12.out 4, cz_ BK16.out 0, cz_ BK16.out 1, cz_ BK16.out 2, cz_ BK19.out 0, cz_ BK19.out 1, cz_ BK19.out 2, cz_ BK22.out 0, cz_ BK22.out 1, cz_ BK22.out 2, cz_ BK22.out 3, cz_ BK22.out 4⟩ (fun hHeld => ?_)
  clear hK K
  refine norm_ (a' := ?_) ?_ ?_
  rotate_left
  · show Act.put _ (some 57) _ = _
    simp only [Act.put, List.setIfInBounds_toArray, List.set_cons_zero, List.set_cons_succ, i64_w, i32_w]
    rfl
  refine pure_ (i := 4) (N := some 58) (v := ?_) (a' := ?_) #[true, true, true, true, true] rfl rfl (any_of HT_.out (by kernel_rfl)) (fun _ _ _ h => h) (Or.inl ⟨by rfl, ?_⟩) ?_ ?_
  rotate_left
  · intro w'
    go_simp
    with_reducible rfl
  rotate_left
  · simp only [Act.put, List.setIfInBounds_toArray, List.set_cons_zero, List.set_cons_succ, i64_w, i32_w]
    rfl
  refine done_ (done_of HT_.out (by kernel_rfl)) ?_
  clear hHeld
  try clear HT_ HW_
  have hx1_0 := cz_ BK1.out 0
  have hf1_0 : w1027.frozen? ⟨g1, 0, none⟩ = false := blk_frozen BK1.out 0
  have hx1_1 := cz_ BK1.out 1
  have hf1_1 : w1027.frozen? ⟨g1, 1, none⟩ = false := blk_frozen BK1.out 1
  have hx1_2 := cz_ BK1.out 2
  have hf1_2 : w1027.frozen? ⟨g1, 2, none⟩ = false := blk_frozen BK1.out 2
  have hx2_0 := cz_ BK2.out 0
  have hf2_0 : w1027.frozen? ⟨g2, 0, none⟩ = false := blk_frozen BK2.out 0
  have hx2_1 := cz_ BK2.out 1
  have hf2_1 : w1027.frozen? ⟨g2, 1, none⟩ = false := blk_frozen BK2.out 1
  have hx2_2 := cz_ BK2.out 2
  have hf2_2 : w1027.frozen? ⟨g2, 2, none⟩ = false := blk_frozen BK2.out 2
  have hx12_0 := cz_ BK12.out 0
  have hf12_0 : w1027.frozen? ⟨g12, 0, none⟩ = false := blk_frozen BK12.out 0
  have hx12_1 := cz_ BK12.out 1
  have hf12_1 : w1027.frozen? ⟨g12, 1, none⟩ = false := blk_frozen BK12.out 1
  have hx12_2 := cz_ BK12.out 2
  have hf12_2 : w1027.frozen? ⟨g12, 2, none⟩ = false := blk_frozen BK12.out 2
  have hx12_3 := cz_ BK12.out 3
  have hf12_3 : w1027.frozen? ⟨g12, 3, none⟩ = false := blk_frozen BK12.out 3
  have hx12_4 := cz_ BK12.out 4
  have hf12_4 : w1027.frozen? ⟨g12, 4, none⟩ = false := blk_frozen BK12.out 4
  have hx16_0 := cz_ BK16.out 0
  have hf16_0 : w1027.frozen? ⟨g16, 0, none⟩ = false := blk_frozen BK16.out 0
  have hx16_1 := cz_ BK16.out 1
  have hf16_1 : w1027.frozen? ⟨g16, 1, none⟩ = false := blk_frozen BK16.out 1
  have hx16_2 := cz_ BK16.out 2
  have hf16_2 : w1027.frozen? ⟨g16, 2, none⟩ = false := blk_frozen BK16.out 2
  have hx19_0 := cz_ BK19.out 0
  have hf19_0 : w1027.frozen? ⟨g19, 0, none⟩ = false := blk_frozen BK19.out 0
  have hx19_1 := cz_ BK19.out 1
  have hf19_1 : w1027.frozen? ⟨g19, 1, none⟩ = false := blk_frozen BK19.out 1
  have hx19_2 := cz_ BK19.out 2
  have hf19_2 : w1027.frozen? ⟨g19, 2, none⟩ = false := blk_frozen BK19.out 2
  have hx22_0 := cz_ BK22.out 0
  have hf22_0 : w1027.frozen? ⟨g22, 0, none⟩ = false := blk_frozen BK22.out 0
  have hx22_1 := cz_ BK22.out 1
  have hf22_1 : w1027.frozen? ⟨g22, 1, none⟩ = false := blk_frozen BK22.out 1
  have hx22_2 := cz_ BK22.out 2
  have hf22_2 : w1027.frozen? ⟨g22, 2, none⟩ = false := blk_frozen BK22.out 2
  have hx22_3 := cz_ BK22.out 3
  have hf22_3 : w1027.frozen? ⟨g22, 3, none⟩ = false := blk_frozen BK22.out 3
  have hx22_4 := cz_ BK22.out 4
  have hf22_4 : w1027.frozen? ⟨g22, 4, none⟩ = false := blk_frozen BK22.out 4
  skip
  go_upto_region 16 with (fail)
  (try simp only [Act.put, List.setIfInBounds_toArray, List.set_cons_zero, List.set_cons_succ])
  clear hx1_0 hf1_0 hx1_1 hf1_1 hx1_2 hf1_2 hx2_0 hf2_0 hx2_1 hf2_1 hx2_2 hf2_2 hx12_0 hf12_0 hx12_1 hf12_1 hx12_2 hf12_2 hx12_3 hf12_3 hx12_4 hf12_4 hx16_0 hf16_0 hx16_1 hf16_1 hx16_2 hf16_2 hx19_0 hf19_0 hx19_1 hf19_1 hx19_2 hf19_2 hx22_0 hf22_0 hx22_1 hf22_1 hx22_2 hf22_2 hx22_3 hf22_3 hx22_4 hf22_4
  have n0_ := Aside0.mk (below_step HB.out (below_drew1 (Below.refl w1027.heap.size w1027)))
  have n1_ := Aside0.mk (Kd.R_below HO11.out (below_drew1 (Below.refl w1027.heap.size w1027)))
  have n2_ := Aside0.mk (Kd.S_below HO14.out (below_drew1 (Below.refl w1027.heap.size w1027)))
  have n3_ := Aside0.mk (Kd.S_below HO15.out (below_drew1 (Below.refl w1027.heap.size w1027)))
  have n4_ := Aside0.mk (Kd.R_below HO18.out (below_drew1 (Below.refl w1027.heap.size w1027)))
  have n5_ := Aside0.mk (Kd.R_below HO21.out (below_drew1 (Below.refl w1027.heap.size w1027)))
  have n6_ := Aside0.mk (Kd.S_below HO25.out (below_drew1 (Below.refl w1027.heap.size w1027)))
  have n7_ := Aside0.mk (Kd.S_below HO26.out (below_drew1 (Below.refl w1027.heap.size w1027)))
  have n8_ := Aside0.mk (blk_below BK1.out (below_drew1 (Below.refl w1027.heap.size w1027)))
  have n9_ := Aside0.mk (blk_below BK2.out (below_drew1 (Below.refl w1027.heap.size w1027)))
  have n10_ := Aside0.mk (blk_below BK12.out (below_drew1 (Below.refl w1027.heap.size w1027)))
  have n11_ := Aside0.mk (blk_below BK16.out (below_drew1 (Below.refl w1027.heap.size w1027)))
  have n12_ := Aside0.mk (blk_below BK19.out (below_drew1 (Below.refl w1027.heap.size w1027)))
  have n13_ := Aside0.mk (blk_below BK22.out (below_drew1 (Below.refl w1027.heap.size w1027)))
  have SZ31 := Aside0.mk (show w1027.heap.size ≤ w1027.drew.heap.size from ((below_drew1 (Below.refl w1027.heap.size w1027))).size)
  clear HB HO11 HO14 HO15 HO18 HO21 HO25 HO26 BK1 BK2 BK12 BK16 BK19 BK22
  have HB := n0_
  have HO11 := n1_
  have HO14 := n2_
  have HO15 := n3_
  have HO18 := n4_
  have HO21 := n5_
  have HO25 := n6_
  have HO26 := n7_
  have BK1 := n8_
  have BK2 := n9_
  have BK12 := n10_
  have BK16 := n11_
  have BK19 := n12_
  have BK22 := n13_
  clear n0_ n1_ n2_ n3_ n4_ n5_ n6_ n7_ n8_ n9_ n10_ n11_ n12_ n13_
  refine start_ (n := 5) (S := fun w' => w'.cell? ⟨g1, 0, none⟩ = some (.int .i64 a0_0) ∧ w'.cell? ⟨g1, 1, none⟩ = some (.slice A0_1 l0_1.length c0_1) ∧ w'.cell? ⟨g1, 2, none⟩ = some (.slice A0_2 l0_2.length c0_2) ∧ w'.cell? ⟨g2, 0, none⟩ = some (.int .i64 a1_0) ∧ w'.cell? ⟨g2, 1, none⟩ = some (.int .i64 a1_1) ∧ w'.cell? ⟨g2, 2, none⟩ = some (.slice A1_2 l1_2.length c1_2) ∧ w'.cell? ⟨g12, 0, none⟩ = some (.bool t10_0) ∧ w'.cell? ⟨g12, 1, none⟩ = some (.int .i64 t10_1) ∧ w'.cell? ⟨g12, 2, none⟩ = some (.int .i64 t10_2) ∧ w'.cell? ⟨g12, 3, none⟩ = some (.slice A_11 t10_3.length c_11) ∧ w'.cell? ⟨g12, 4, none⟩ = some (.int .i64 t10_4) ∧ w'.cell? ⟨g16, 0, none⟩ = some (.int .i64 t13_0) ∧ w'.cell? ⟨g16, 1, none⟩ = some (.slice A_14 t13_1.length c_14) ∧ w'.cell? ⟨g16, 2, none⟩ = some (.slice A_15 t13_2.length c_15) ∧ w'.cell? ⟨g19, 0, none⟩ = some (.int .i64 t17_0) ∧ w'.cell? ⟨g19, 1, none⟩ = some (.int .i64 t17_1) ∧ w'.cell? ⟨g19, 2, none⟩ = some (.slice A_18 t17_2.length c_18) ∧ w'.cell? ⟨g22, 0, none⟩ = some (.bool t20_0) ∧ w'.cell? ⟨g22, 1, none⟩ = some (.int .i64 t20_1) ∧ w'.cell? ⟨g22, 2, none⟩ = some (.int .i64 t20_2) ∧ w'.cell? ⟨g22, 3, none⟩ = some (.slice A_21 t20_3.length c_21) ∧ w'.cell? ⟨g22, 4, none⟩ = some (.int .i64 t20_4)) (ds := []) #[false, false, false, false, false] (by kernel_rfl) rfl rfl ⟨cz_ BK1.out 0, cz_ BK1.out 1, cz_ BK1.out 2, cz_ BK2.out 0, cz_ BK2.out 1, cz_ BK2.out 2, cz_ BK12.out 0, cz_ BK12.out 1, cz_ BK12.out 2, cz_ BK12.out 3, cz_ BK12.out 4, cz_ BK16.out 0, cz_ BK16.out 1, cz_ BK16.out 2, cz_ BK19.out 0, cz_ BK19.out 1, cz_ BK19.out 2, cz_ BK22.out 0, cz_ BK22.out 1, cz_ BK22.out 2, cz_ BK22.out 3, cz_ BK22.out 4⟩ (fun hHeld => ?_); refine with_tabW laws_FnExactFillField.tab16 laws_FnExactFillField.bits16 (fun HT_ HW_ => ?_)
  generalize w1027.drew = w3025 at HB HO11 HO14 HO15 HO18 HO21 HO25 HO26 BK1 BK2 BK12 BK16 BK19 BK22 SZ31 hHeld ⊢
  refine take_ (i := 0) (N := some 59) (v := ?_) (a' := ?_) #[true, false, false, false, false] rfl rfl (take_ofW HT_.out HW_.out (by kernel_rfl)) (fun _ _ _ h => h) (Or.inl ⟨by rfl, ?_⟩) hHeld ?_ ?_
  rotate_left
  · rintro w' ⟨s0, s1, s2, s3, s4, s5, s6, s7, s8, s9, s10, s11, s12, s13, s14, s15, s16, s17, s18, s19, s20, s21⟩
    go_simp
    with_reducible rfl
  rotate_left
  · simp only [Act.put, List.setIfInBounds_toArray, List.set_cons_zero, List.set_cons_succ, i64_w, i32_w]
    rfl
  refine take_ (i := 1) (N := some 60) (v := ?_) (a' := ?_) #[true, true, false, false, false] rfl rfl (take_ofW HT_.out HW_.out (by kernel_rfl)) (fun _ _ _ h => h) (Or.inl ⟨by rfl, ?_⟩) hHeld ?_ ?_
  rotate_left
  · rintro w' ⟨s0, s1, s2, s3, s4, s5, s6, s7, s8, s9, s10, s11, s12, s13, s14, s15, s16, s17, s18, s19, s20, s21⟩
    go_simp
    with_reducible rfl
  rotate_left
  · simp only [Act.put, List.setIfInBounds_toArray, List.set_cons_zero, List.set_cons_succ, i64_w, i32_w]
    rfl
  refine oS_ 2 61 HT_ (fun K hK => ?_)
  refine goes_ Try.func9 (by kernel_rfl) rfl #[.agg #[.int .i64 a1_0, .int .i64 a1_1, .slice A1_2 l1_2.length c1_2]] (by rfl) rfl rfl (by (try simp only [List.map_toArray, List.map_cons, List.map_nil]); first | done | rfl) ?_
  (with_reducible refine (laws_toField.calls k a1_0 a1_1 _ _ l1_2 t28_0 t28_1 t28_2 _ ?sd28_1 ?sd28_2 A28.out).mono ?_)
  (case sd28_1 => exact Kd.C_below HR1_2.out HB.out)
  (case sd28_2 => exact HC1_2.out)
  rintro e w1028 ⟨v_29, rfl, ho0, hb⟩
  refine ⟨_, rfl, ?_⟩
  have hs_ := below_size HB.out
  have n0_ := Aside0.mk (below_step HB.out hb)
  have n1_ := Aside0.mk (Kd.R_below HO11.out hb)
  have n2_ := Aside0.mk (Kd.S_below HO14.out hb)
  have n3_ := Aside0.mk (Kd.S_below HO15.out hb)
  have n4_ := Aside0.mk (Kd.R_below HO18.out hb)
  have n5_ := Aside0.mk (Kd.R_below HO21.out hb)
  have n6_ := Aside0.mk (Kd.S_below HO25.out hb)
  have n7_ := Aside0.mk (Kd.S_below HO26.out hb)
  have n8_ := Aside0.mk (blk_below BK1.out hb)
  have n9_ := Aside0.mk (blk_below BK2.out hb)
  have n10_ := Aside0.mk (blk_below BK12.out hb)
  have n11_ := Aside0.mk (blk_below BK16.out hb)
  have n12_ := Aside0.mk (blk_below BK19.out hb)
  have n13_ := Aside0.mk (blk_below BK22.out hb)
  have SZ32 := Aside0.mk (show w3025.heap.size ≤ w1028.heap.size from (hb).size)
  clear HB HO11 HO14 HO15 HO18 HO21 HO25 HO26 BK1 BK2 BK12 BK16 BK19 BK22
  have HB := n0_
  have HO11 := n1_
  have HO14 := n2_
  have HO15 := n3_
  have HO18 := n4_
  have HO21 := n5_
  have HO25 := n6_
  have HO26 := n7_
  have BK1 := n8_
  have BK2 := n9_
  have BK12 := n10_
  have BK16 := n11_
  have BK19 := n12_
  have BK22 := n13_
  clear n0_ n1_ n2_ n3_ n4_ n5_ n6_ n7_ n8_ n9_ n10_ n11_ n12_ n13_
  have HO29 := Aside0.mk (R_zone ho0 hs_)
  clear ho0
  obtain ⟨A_29, c_29, e_29⟩ := Kd.R_slice HO29.out
  subst e_29
  clear hb hs_
  refine hK.out _ _ ⟨cz_ BK1.out 0, cz_ BK1.out 1, cz_ BK1.out 2, cz_ BK2.out 0, cz_ BK2.out 1, cz_ BK2.out 2, cz_ BK12.out 0, cz_ BK12.out 1, cz_ BK12.out 2, cz_ BK12.out 3, cz_ BK12.out 4, cz_ BK16.out 0, cz_ BK16.out 1, cz_ BK16.out 2, cz_ BK19.out 0, cz_ BK19.out 1, cz_ BK19.out 2, cz_ BK22.out 0, cz_ BK22.out 1, cz_ BK22.out 2, cz_ BK22.out 3, cz_ BK22.out 4⟩ (fun hHeld => ?_)
  clear hK K
  refine norm_ (a' := ?_) ?_ ?_
  rotate_left
  · show Act.put _ (some 61) _ = _
    simp only [Act.put, List.setIfInBounds_toArray, List.set_cons_zero, List.set_cons_succ, i64_w, i32_w]
    rfl
  refine oS_ 3 62 HT_ (fun K hK => ?_)
  refine goes_ Try.func13 (by kernel_rfl) rfl #[.agg #[.int .i64 t17_0, .int .i64 t17_1, .slice A_18 t17_2.length c_18], .agg #[.int .i64 t28_0, .int .i64 t28_1, .slice A_29 t28_2.length c_29]] (by rfl) rfl rfl (by (try simp only [List.map_toArray, List.map_cons, List.map_nil]); first | done | rfl) ?_
  (with_reducible refine (laws_eqField.calls k t17_0 t17_1 _ _ t17_2 t28_0 t28_1 _ _ t28_2 true _ ?sd30_1 ?sd30_2 ?sd30_3 ?sd30_4 A30.out).mono ?_)
  (case sd30_1 => exact (Kd.R_reads' HO18.out).2.2)
  (case sd30_2 => exact (Kd.R_reads' HO18.out).2.1)
  (case sd30_3 => exact (Kd.R_reads' HO29.out).2.2)
  (case sd30_4 => exact (Kd.R_reads' HO29.out).2.1)
  rintro e w1030 ⟨rfl, hb⟩
  refine ⟨_, rfl, ?_⟩
  have hs_ := below_size HB.out
  have n0_ := Aside0.mk (below_step HB.out hb)
  have n1_ := Aside0.mk (Kd.R_below HO11.out hb)
  have n2_ := Aside0.mk (Kd.S_below HO14.out hb)
  have n3_ := Aside0.mk (Kd.S_below HO15.out hb)
  have n4_ := Aside0.mk (Kd.R_below HO18.out hb)
  have n5_ := Aside0.mk (Kd.R_below HO21.out hb)
  have n6_ := Aside0.mk (Kd.S_below HO25.out hb)
  have n7_ := Aside0.mk (Kd.S_below HO26.out hb)
  have n8_ := Aside0.mk (Kd.R_below HO29.out hb)
  have n9_ := Aside0.mk (blk_below BK1.out hb)
  have n10_ := Aside0.mk (blk_below BK2.out hb)
  have n11_ := Aside0.mk (blk_below BK12.out hb)
  have n12_ := Aside0.mk (blk_below BK16.out hb)
  have n13_ := Aside0.mk (blk_below BK19.out hb)
  have n14_ := Aside0.mk (blk_below BK22.out hb)
  have SZ33 := Aside0.mk (show w1028.heap.size ≤ w1030.heap.size from (hb).size)
  clear HB HO11 HO14 HO15 HO18 HO21 HO25 HO26 HO29 BK1 BK2 BK12 BK16 BK19 BK22
  have HB := n0_
  have HO11 := n1_
  have HO14 := n2_
  have HO15 := n3_
  have HO18 := n4_
  have HO21 := n5_
  have HO25 := n6_
  have HO26 := n7_
  have HO29 := n8_
  have BK1 := n9_
  have BK2 := n10_
  have BK12 := n11_
  have BK16 := n12_
  have BK19 := n13_
  have BK22 := n14_
  clear n0_ n1_ n2_ n3_ n4_ n5_ n6_ n7_ n8_ n9_ n10_ n11_ n12_ n13_ n14_
  clear hb hs_
  refine hK.out _ _ ⟨cz_ BK1.out 0, cz_ BK1.out 1, cz_ BK1.out 2, cz_ BK2.out 0, cz_ BK2.out 1, cz_ BK2.out 2, cz_ BK12.out 0, cz_ BK12.out 1, cz_ BK12.out 2, cz_ BK12.out 3, cz_ BK12.out 4, cz_ BK16.out 0, cz_ BK16.out 1, cz_ BK16.out 2, cz_ BK19.out 0, cz_ BK19.out 1, cz_ BK19.out 2, cz_ BK22.out 0, cz_ BK22.out 1, cz_ BK22.out 2, cz_ BK22.out 3, cz_ BK22.out 4⟩ (fun hHeld => ?_)
  clear hK K
  refine norm_ (a' := ?_) ?_ ?_
  rotate_left
  · show Act.put _ (some 62) _ = _
    simp only [Act.put, List.setIfInBounds_toArray, List.set_cons_zero, List.set_cons_succ, i64_w, i32_w]
    rfl
  refine pure_ (i := 4) (N := some 63) (v := ?_) (a' := ?_) #[true, true, true, true, true] rfl rfl (any_of HT_.out (by kernel_rfl)) (fun _ _ _ h => h) (Or.inl ⟨by rfl, ?_⟩) ?_ ?_
  rotate_left
  · intro w'
    go_simp
    with_reducible rfl
  rotate_left
  · simp only [Act.put, List.setIfInBounds_toArray, List.set_cons_zero, List.set_cons_succ, i64_w, i32_w]
    rfl
  refine done_ (done_of HT_.out (by kernel_rfl)) ?_
  clear hHeld
  try clear HT_ HW_
  have hx1_0 := cz_ BK1.out 0
  have hf1_0 : w1030.frozen? ⟨g1, 0, none⟩ = false := blk_frozen BK1.out 0
  have hx1_1 := cz_ BK1.out 1
  have hf1_1 : w1030.frozen? ⟨g1, 1, none⟩ = false := blk_frozen BK1.out 1
  have hx1_2 := cz_ BK1.out 2
  have hf1_2 : w1030.frozen? ⟨g1, 2, none⟩ = false := blk_frozen BK1.out 2
  have hx2_0 := cz_ BK2.out 0
  have hf2_0 : w1030.frozen? ⟨g2, 0, none⟩ = false := blk_frozen BK2.out 0
  have hx2_1 := cz_ BK2.out 1
  have hf2_1 : w1030.frozen? ⟨g2, 1, none⟩ = false := blk_frozen BK2.out 1
  have hx2_2 := cz_ BK2.out 2
  have hf2_2 : w1030.frozen? ⟨g2, 2, none⟩ = false := blk_frozen BK2.out 2
  have hx12_0 := cz_ BK12.out 0
  have hf12_0 : w1030.frozen? ⟨g12, 0, none⟩ = false := blk_frozen BK12.out 0
  have hx12_1 := cz_ BK12.out 1
  have hf12_1 : w1030.frozen? ⟨g12, 1, none⟩ = false := blk_frozen BK12.out 1
  have hx12_2 := cz_ BK12.out 2
  have hf12_2 : w1030.frozen? ⟨g12, 2, none⟩ = false := blk_frozen BK12.out 2
  have hx12_3 := cz_ BK12.out 3
  have hf12_3 : w1030.frozen? ⟨g12, 3, none⟩ = false := blk_frozen BK12.out 3
  have hx12_4 := cz_ BK12.out 4
  have hf12_4 : w1030.frozen? ⟨g12, 4, none⟩ = false := blk_frozen BK12.out 4
  have hx16_0 := cz_ BK16.out 0
  have hf16_0 : w1030.frozen? ⟨g16, 0, none⟩ = false := blk_frozen BK16.out 0
  have hx16_1 := cz_ BK16.out 1
  have hf16_1 : w1030.frozen? ⟨g16, 1, none⟩ = false := blk_frozen BK16.out 1
  have hx16_2 := cz_ BK16.out 2
  have hf16_2 : w1030.frozen? ⟨g16, 2, none⟩ = false := blk_frozen BK16.out 2
  have hx19_0 := cz_ BK19.out 0
  have hf19_0 : w1030.frozen? ⟨g19, 0, none⟩ = false := blk_frozen BK19.out 0
  have hx19_1 := cz_ BK19.out 1
  have hf19_1 : w1030.frozen? ⟨g19, 1, none⟩ = false := blk_frozen BK19.out 1
  have hx19_2 := cz_ BK19.out 2
  have hf19_2 : w1030.frozen? ⟨g19, 2, none⟩ = false := blk_frozen BK19.out 2
  have hx22_0 := cz_ BK22.out 0
  have hf22_0 : w1030.frozen? ⟨g22, 0, none⟩ = false := blk_frozen BK22.out 0
  have hx22_1 := cz_ BK22.out 1
  have hf22_1 : w1030.frozen? ⟨g22, 1, none⟩ = false := blk_frozen BK22.out 1
  have hx22_2 := cz_ BK22.out 2
  have hf22_2 : w1030.frozen? ⟨g22, 2, none⟩ = false := blk_frozen BK22.out 2
  have hx22_3 := cz_ BK22.out 3
  have hf22_3 : w1030.frozen? ⟨g22, 3, none⟩ = false := blk_frozen BK22.out 3
  have hx22_4 := cz_ BK22.out 4
  have hf22_4 : w1030.frozen? ⟨g22, 4, none⟩ = false := blk_frozen BK22.out 4
  skip
  go_upto_region 31 with (first | (go_at_call 14; (with_reducible refine (laws_markRules.callsP k t13_0 (Zone wz13_0a wz13_0b (25 :: ((Kd.slice 3 (Kd.int .i64))).E)) (.slice A_14 t13_1.length c_14) t13_1 (Zone wz13_1a wz13_1b (25 :: ((Kd.slice 3 (Kd.int .i64))).E)) (.slice A_15 t13_2.length c_15) t13_2 1 t31_0 t31_1 t31_2 w _ ?sd31_1 ?sd31_2 ?sd31_3 ?sd31_4 ?sd31_5 A31.out).mono ?_); (case sd31_1 => exact HB.out); (case sd31_2 => exact HO14.out); (case sd31_3 => exact (fun k_ h_ e_ => Zone.apart h_ e_ (by have := SZ12.out; first | exact .inl (by omega) | exact .inr (by omega)))); (case sd31_4 => exact HO15.out); (case sd31_5 => exact (fun k_ h_ e_ => Zone.apart h_ e_ (by have := SZ12.out; first | exact .inl (by omega) | exact .inr (by omega)))); rintro e w1031 ⟨rfl, hy0, hy1, hb, hkp⟩; clear hx1_0 hf1_0 hx1_1 hf1_1 hx1_2 hf1_2 hx2_0 hf2_0 hx2_1 hf2_1 hx2_2 hf2_2 hx12_0 hf12_0 hx12_1 hf12_1 hx12_2 hf12_2 hx12_3 hf12_3 hx12_4 hf12_4 hx16_0 hf16_0 hx16_1 hf16_1 hx16_2 hf16_2 hx19_0 hf19_0 hx19_1 hf19_1 hx19_2 hf19_2 hx22_0 hf22_0 hx22_1 hf22_1 hx22_2 hf22_2 hx22_3 hf22_3 hx22_4 hf22_4; have n0_ := Aside0.mk (hb); have n1_ := Aside0.mk (Kd.R_step HO11.out (fun k_ h_ hlt_ => hkp.2 k_ hlt_ (fun e_ => Or.elim e_ (fun e1_ => (show False from Zone.apart h_ e1_ (by have := SZ8.out; have := SZ9.out; have := SZ10.out; first | exact .inl (by omega) | exact .inr (by omega))).elim) (fun e_ => (show False from Zone.apart h_ e_ (by have := SZ8.out; have := SZ9.out; have := SZ10.out; have := SZ11.out; have := SZ12.out; first | exact .inl (by omega) | exact .inr (by omega))).elim)))); have n2_ := Aside0.mk (hy0); have n3_ := Aside0.mk (hy1); have n4_ := Aside0.mk (Kd.R_step HO18.out (fun k_ h_ hlt_ => hkp.2 k_ hlt_ (fun e_ => Or.elim e_ (fun e1_ => (show False from Zone.apart h_ e1_ (by have := SZ12.out; have := SZ13.out; have := SZ14.out; have := SZ15.out; have := SZ16.out; first | exact .inl (by omega) | exact .inr (by omega))).elim) (fun e_ => (show False from Zone.apart h_ e_ (by have := SZ14.out; have := SZ15.out; have := SZ16.out; first | exact .inl (by omega) | exact .inr (by omega))).elim)))); have n5_ := Aside0.mk (Kd.R_step HO21.out (fun k_ h_ hlt_ => hkp.2 k_ hlt_ (fun e_ => Or.elim e_ (fun e1_ => (show False from Zone.apart h_ e1_ (by have := SZ12.out; have := SZ13.out; have := SZ14.out; have := SZ15.out; have := SZ16.out; have := SZ17.out; have := SZ18.out; have := SZ19.out; first | exact .inl (by omega) | exact .inr (by omega))).elim) (fun e_ => (show False from Zone.apart h_ e_ (by have := SZ14.out; have := SZ15.out; have := SZ16.out; have := SZ17.out; have := SZ18.out; have := SZ19.out; first | exact .inl (by omega) | exact .inr (by omega))).elim)))); have n6_ := Aside0.mk (Kd.S_step HO25.out (fun k_ h_ hlt_ => hkp.2 k_ hlt_ (fun e_ => Or.elim e_ (fun e1_ => (show False from Zone.apart h_ e1_ (by have := SZ12.out; have := SZ13.out; have := SZ14.out; have := SZ15.out; have := SZ16.out; have := SZ17.out; have := SZ18.out; have := SZ19.out; have := SZ20.out; have := SZ21.out; have := SZ22.out; have := SZ23.out; have := SZ24.out; have := SZ25.out; first | exact .inl (by omega) | exact .inr (by omega))).elim) (fun e_ => (show False from Zone.apart h_ e_ (by have := SZ14.out; have := SZ15.out; have := SZ16.out; have := SZ17.out; have := SZ18.out; have := SZ19.out; have := SZ20.out; have := SZ21.out; have := SZ22.out; have := SZ23.out; have := SZ24.out; have := SZ25.out; first | exact .inl (by omega) | exact .inr (by omega))).elim)))); have n7_ := Aside0.mk (Kd.S_step HO26.out (fun k_ h_ hlt_ => hkp.2 k_ hlt_ (fun e_ => Or.elim e_ (fun e1_ => (show False from Zone.apart h_ e1_ (by have := SZ12.out; have := SZ13.out; have := SZ14.out; have := SZ15.out; have := SZ16.out; have := SZ17.out; have := SZ18.out; have := SZ19.out; have := SZ20.out; have := SZ21.out; have := SZ22.out; have := SZ23.out; have := SZ24.out; have := SZ25.out; have := SZ26.out; have := SZ27.out; first | exact .inl (by omega) | exact .inr (by omega))).elim) (fun e_ => (show False from Zone.apart h_ e_ (by have := SZ14.out; have := SZ15.out; have := SZ16.out; have := SZ17.out; have := SZ18.out; have := SZ19.out; have := SZ20.out; have := SZ21.out; have := SZ22.out; have := SZ23.out; have := SZ24.out; have := SZ25.out; have := SZ26.out; have := SZ27.out; first | exact .inl (by omega) | exact .inr (by omega))).elim)))); have n8_ := Aside0.mk (Kd.R_step HO29.out (fun k_ h_ hlt_ => hkp.2 k_ hlt_ (fun e_ => Or.elim e_ (fun e1_ => (show False from Zone.apart h_ e1_ (by have := SZ12.out; have := SZ13.out; have := SZ14.out; have := SZ15.out; have := SZ16.out; have := SZ17.out; have := SZ18.out; have := SZ19.out; have := SZ20.out; have := SZ21.out; have := SZ22.out; have := SZ23.out; have := SZ24.out; have := SZ25.out; have := SZ26.out; have := SZ27.out; have := SZ28.out; have := SZ29.out; have := SZ30.out; have := SZ31.out; first | exact .inl (by omega) | exact .inr (by omega))).elim) (fun e_ => (show False from Zone.apart h_ e_ (by have := SZ14.out; have := SZ15.out; have := SZ16.out; have := SZ17.out; have := SZ18.out; have := SZ19.out; have := SZ20.out; have := SZ21.out; have := SZ22.out; have := SZ23.out; have := SZ24.out; have := SZ25.out; have := SZ26.out; have := SZ27.out; have := SZ28.out; have := SZ29.out; have := SZ30.out; have := SZ31.out; first | exact .inl (by omega) | exact .inr (by omega))).elim)))); have n9_ := Aside0.mk ((hkp.2 g1 (blk_lt BK1.out) (fun e_ => Or.elim e_ (fun e1_ => (show False from Zone.notblk e1_ rfl (by have := GL1.out; have := GU1.out; have := SZ2.out; have := SZ3.out; have := SZ4.out; have := SZ5.out; have := SZ6.out; have := SZ7.out; have := SZ8.out; have := SZ9.out; have := SZ10.out; first | exact .inl (by omega) | exact .inr (by omega))).elim) (fun e_ => (show False from Zone.notblk e_ rfl (by have := GL1.out; have := GU1.out; have := SZ2.out; have := SZ3.out; have := SZ4.out; have := SZ5.out; have := SZ6.out; have := SZ7.out; have := SZ8.out; have := SZ9.out; have := SZ10.out; have := SZ11.out; have := SZ12.out; first | exact .inl (by omega) | exact .inr (by omega))).elim))).trans BK1.out); have n10_ := Aside0.mk ((hkp.2 g2 (blk_lt BK2.out) (fun e_ => Or.elim e_ (fun e1_ => (show False from Zone.notblk e1_ rfl (by have := GL2.out; have := GU2.out; have := SZ3.out; have := SZ4.out; have := SZ5.out; have := SZ6.out; have := SZ7.out; have := SZ8.out; have := SZ9.out; have := SZ10.out; first | exact .inl (by omega) | exact .inr (by omega))).elim) (fun e_ => (show False from Zone.notblk e_ rfl (by have := GL2.out; have := GU2.out; have := SZ3.out; have := SZ4.out; have := SZ5.out; have := SZ6.out; have := SZ7.out; have := SZ8.out; have := SZ9.out; have := SZ10.out; have := SZ11.out; have := SZ12.out; first | exact .inl (by omega) | exact .inr (by omega))).elim))).trans BK2.out); have n11_ := Aside0.mk ((hkp.2 g12 (blk_lt BK12.out) (fun e_ => Or.elim e_ (fun e1_ => (show False from Zone.notblk e1_ rfl (by have := GL12.out; have := GU12.out; have := SZ9.out; have := SZ10.out; first | exact .inl (by omega) | exact .inr (by omega))).elim) (fun e_ => (show False from Zone.notblk e_ rfl (by have := GL12.out; have := GU12.out; have := SZ9.out; have := SZ10.out; have := SZ11.out; have := SZ12.out; first | exact .inl (by omega) | exact .inr (by omega))).elim))).trans BK12.out); have n12_ := Aside0.mk ((hkp.2 g16 (blk_lt BK16.out) (fun e_ => Or.elim e_ (fun e1_ => (show False from Zone.notblk e1_ rfl (by have := GL16.out; have := GU16.out; have := SZ12.out; have := SZ13.out; have := SZ14.out; first | exact .inl (by omega) | exact .inr (by omega))).elim) (fun e_ => (show False from Zone.notblk e_ rfl (by have := GL16.out; have := GU16.out; have := SZ14.out; first | exact .inl (by omega) | exact .inr (by omega))).elim))).trans BK16.out); have n13_ := Aside0.mk ((hkp.2 g19 (blk_lt BK19.out) (fun e_ => Or.elim e_ (fun e1_ => (show False from Zone.notblk e1_ rfl (by have := GL19.out; have := GU19.out; have := SZ12.out; have := SZ13.out; have := SZ14.out; have := SZ15.out; have := SZ16.out; have := SZ17.out; first | exact .inl (by omega) | exact .inr (by omega))).elim) (fun e_ => (show False from Zone.notblk e_ rfl (by have := GL19.out; have := GU19.out; have := SZ14.out; have := SZ15.out; have := SZ16.out; have := SZ17.out; first | exact .inl (by omega) | exact .inr (by omega))).elim))).trans BK19.out); have n14_ := Aside0.mk ((hkp.2 g22 (blk_lt BK22.out) (fun e_ => Or.elim e_ (fun e1_ => (show False from Zone.notblk e1_ rfl (by have := GL22.out; have := GU22.out; have := SZ12.out; have := SZ13.out; have := SZ14.out; have := SZ15.out; have := SZ16.out; have := SZ17.out; have := SZ18.out; have := SZ19.out; have := SZ20.out; first | exact .inl (by omega) | exact .inr (by omega))).elim) (fun e_ => (show False from Zone.notblk e_ rfl (by have := GL22.out; have := GU22.out; have := SZ14.out; have := SZ15.out; have := SZ16.out; have := SZ17.out; have := SZ18.out; have := SZ19.out; have := SZ20.out; first | exact .inl (by omega) | exact .inr (by omega))).elim))).trans BK22.out); have SZ34 := Aside0.mk (show w1030.heap.size ≤ w1031.heap.size from hkp.1); clear HB HO11 HO14 HO15 HO18 HO21 HO25 HO26 HO29 BK1 BK2 BK12 BK16 BK19 BK22; have HB := n0_; have HO11 := n1_; have HO14 := n2_; have HO15 := n3_; have HO18 := n4_; have HO21 := n5_; have HO25 := n6_; have HO26 := n7_; have HO29 := n8_; have BK1 := n9_; have BK2 := n10_; have BK12 := n11_; have BK16 := n12_; have BK19 := n13_; have BK22 := n14_; clear n0_ n1_ n2_ n3_ n4_ n5_ n6_ n7_ n8_ n9_ n10_ n11_ n12_ n13_ n14_; clear hb hkp hy0 hy1; have hx1_0 := cz_ BK1.out 0; have hf1_0 : w1031.frozen? ⟨g1, 0, none⟩ = false := blk_frozen BK1.out 0; have hx1_1 := cz_ BK1.out 1; have hf1_1 : w1031.frozen? ⟨g1, 1, none⟩ = false := blk_frozen BK1.out 1; have hx1_2 := cz_ BK1.out 2; have hf1_2 : w1031.frozen? ⟨g1, 2, none⟩ = false := blk_frozen BK1.out 2; have hx2_0 := cz_ BK2.out 0; have hf2_0 : w1031.frozen? ⟨g2, 0, none⟩ = false := blk_frozen BK2.out 0; have hx2_1 := cz_ BK2.out 1; have hf2_1 : w1031.frozen? ⟨g2, 1, none⟩ = false := blk_frozen BK2.out 1; have hx2_2 := cz_ BK2.out 2; have hf2_2 : w1031.frozen? ⟨g2, 2, none⟩ = false := blk_frozen BK2.out 2; have hx12_0 := cz_ BK12.out 0; have hf12_0 : w1031.frozen? ⟨g12, 0, none⟩ = false := blk_frozen BK12.out 0; have hx12_1 := cz_ BK12.out 1; have hf12_1 : w1031.frozen? ⟨g12, 1, none⟩ = false := blk_frozen BK12.out 1; have hx12_2 := cz_ BK12.out 2; have hf12_2 : w1031.frozen? ⟨g12, 2, none⟩ = false := blk_frozen BK12.out 2; have hx12_3 := cz_ BK12.out 3; have hf12_3 : w1031.frozen? ⟨g12, 3, none⟩ = false := blk_frozen BK12.out 3; have hx12_4 := cz_ BK12.out 4; have hf12_4 : w1031.frozen? ⟨g12, 4, none⟩ = false := blk_frozen BK12.out 4; have hx16_0 := cz_ BK16.out 0; have hf16_0 : w1031.frozen? ⟨g16, 0, none⟩ = false := blk_frozen BK16.out 0; have hx16_1 := cz_ BK16.out 1; have hf16_1 : w1031.frozen? ⟨g16, 1, none⟩ = false := blk_frozen BK16.out 1; have hx16_2 := cz_ BK16.out 2; have hf16_2 : w1031.frozen? ⟨g16, 2, none⟩ = false := blk_frozen BK16.out 2; have hx19_0 := cz_ BK19.out 0; have hf19_0 : w1031.frozen? ⟨g19, 0, none⟩ = false := blk_frozen BK19.out 0; have hx19_1 := cz_ BK19.out 1; have hf19_1 : w1031.frozen? ⟨g19, 1, none⟩ = false := blk_frozen BK19.out 1; have hx19_2 := cz_ BK19.out 2; have hf19_2 : w1031.frozen? ⟨g19, 2, none⟩ = false := blk_frozen BK19.out 2; have hx22_0 := cz_ BK22.out 0; have hf22_0 : w1031.frozen? ⟨g22, 0, none⟩ = false := blk_frozen BK22.out 0; have hx22_1 := cz_ BK22.out 1; have hf22_1 : w1031.frozen? ⟨g22, 1, none⟩ = false := blk_frozen BK22.out 1; have hx22_2 := cz_ BK22.out 2; have hf22_2 : w1031.frozen? ⟨g22, 2, none⟩ = false := blk_frozen BK22.out 2; have hx22_3 := cz_ BK22.out 3; have hf22_3 : w1031.frozen? ⟨g22, 3, none⟩ = false := blk_frozen BK22.out 3; have hx22_4 := cz_ BK22.out 4; have hf22_4 : w1031.frozen? ⟨g22, 4, none⟩ = false := blk_frozen BK22.out 4) | (go_at_call 15; (with_reducible refine (laws_markField.calls k t17_0 t17_1 (Zone w2013 w1017 (3 :: ((Kd.int .i64)).E)) (.slice A_18 t17_2.length c_18) t17_2 t31_0 t32_0 t32_1 w _ ?sd32_1 ?sd32_2 A32.out).mono ?_); (case sd32_1 => exact HB.out); (case sd32_2 => exact HO18.out); rintro e w1032 ⟨rfl, hy0, hb, hkp⟩; clear hx1_0 hf1_0 hx1_1 hf1_1 hx1_2 hf1_2 hx2_0 hf2_0 hx2_1 hf2_1 hx2_2 hf2_2 hx12_0 hf12_0 hx12_1 hf12_1 hx12_2 hf12_2 hx12_3 hf12_3 hx12_4 hf12_4 hx16_0 hf16_0 hx16_1 hf16_1 hx16_2 hf16_2 hx19_0 hf19_0 hx19_1 hf19_1 hx19_2 hf19_2 hx22_0 hf22_0 hx22_1 hf22_1 hx22_2 hf22_2 hx22_3 hf22_3 hx22_4 hf22_4; have n0_ := Aside0.mk (hb); have n1_ := Aside0.mk (Kd.R_step HO11.out (fun k_ h_ hlt_ => hkp.2 k_ hlt_ (fun e_ => (show False from Zone.apart h_ e_ (by have := SZ8.out; have := SZ9.out; have := SZ10.out; have := SZ11.out; have := SZ12.out; have := SZ13.out; have := SZ14.out; have := SZ15.out; have := SZ16.out; first | exact .inl (by omega) | exact .inr (by omega))).elim))); have n2_ := Aside0.mk (Kd.S_step HO14.out (fun k_ h_ hlt_ => hkp.2 k_ hlt_ (fun e_ => (show False from Zone.apart h_ e_ (by have := SZ12.out; have := SZ13.out; have := SZ14.out; have := SZ15.out; have := SZ16.out; first | exact .inl (by omega) | exact .inr (by omega))).elim))); have n3_ := Aside0.mk (Kd.S_step HO15.out (fun k_ h_ hlt_ => hkp.2 k_ hlt_ (fun e_ => (show False from Zone.apart h_ e_ (by have := SZ14.out; have := SZ15.out; have := SZ16.out; first | exact .inl (by omega) | exact .inr (by omega))).elim))); have n4_ := Aside0.mk (Kd.R_reok rfl hy0 HO18.out.1); have n5_ := Aside0.mk (Kd.R_step HO21.out (fun k_ h_ hlt_ => hkp.2 k_ hlt_ (fun e_ => (show False from Zone.apart h_ e_ (by have := SZ18.out; have := SZ19.out; first | exact .inl (by omega) | exact .inr (by omega))).elim))); have n6_ := Aside0.mk (Kd.S_step HO25.out (fun k_ h_ hlt_ => hkp.2 k_ hlt_ (fun e_ => (show False from Zone.apart h_ e_ (by have := SZ18.out; have := SZ19.out; have := SZ20.out; have := SZ21.out; have := SZ22.out; have := SZ23.out; have := SZ24.out; have := SZ25.out; first | exact .inl (by omega) | exact .inr (by omega))).elim))); have n7_ := Aside0.mk (Kd.S_step HO26.out (fun k_ h_ hlt_ => hkp.2 k_ hlt_ (fun e_ => (show False from Zone.apart h_ e_ (by have := SZ18.out; have := SZ19.out; have := SZ20.out; have := SZ21.out; have := SZ22.out; have := SZ23.out; have := SZ24.out; have := SZ25.out; have := SZ26.out; have := SZ27.out; first | exact .inl (by omega) | exact .inr (by omega))).elim))); have n8_ := Aside0.mk (Kd.R_step HO29.out (fun k_ h_ hlt_ => hkp.2 k_ hlt_ (fun e_ => (show False from Zone.apart h_ e_ (by have := SZ18.out; have := SZ19.out; have := SZ20.out; have := SZ21.out; have := SZ22.out; have := SZ23.out; have := SZ24.out; have := SZ25.out; have := SZ26.out; have := SZ27.out; have := SZ28.out; have := SZ29.out; have := SZ30.out; have := SZ31.out; first | exact .inl (by omega) | exact .inr (by omega))).elim))); have n9_ := Aside0.mk ((hkp.2 g1 (blk_lt BK1.out) (fun e_ => (show False from Zone.notblk e_ rfl (by have := GL1.out; have := GU1.out; have := SZ2.out; have := SZ3.out; have := SZ4.out; have := SZ5.out; have := SZ6.out; have := SZ7.out; have := SZ8.out; have := SZ9.out; have := SZ10.out; have := SZ11.out; have := SZ12.out; have := SZ13.out; have := SZ14.out; have := SZ15.out; have := SZ16.out; first | exact .inl (by omega) | exact .inr (by omega))).elim)).trans BK1.out); have n10_ := Aside0.mk ((hkp.2 g2 (blk_lt BK2.out) (fun e_ => (show False from Zone.notblk e_ rfl (by have := GL2.out; have := GU2.out; have := SZ3.out; have := SZ4.out; have := SZ5.out; have := SZ6.out; have := SZ7.out; have := SZ8.out; have := SZ9.out; have := SZ10.out; have := SZ11.out; have := SZ12.out; have := SZ13.out; have := SZ14.out; have := SZ15.out; have := SZ16.out; first | exact .inl (by omega) | exact .inr (by omega))).elim)).trans BK2.out); have n11_ := Aside0.mk ((hkp.2 g12 (blk_lt BK12.out) (fun e_ => (show False from Zone.notblk e_ rfl (by have := GL12.out; have := GU12.out; have := SZ9.out; have := SZ10.out; have := SZ11.out; have := SZ12.out; have := SZ13.out; have := SZ14.out; have := SZ15.out; have := SZ16.out; first | exact .inl (by omega) | exact .inr (by omega))).elim)).trans BK12.out); have n12_ := Aside0.mk ((hkp.2 g16 (blk_lt BK16.out) (fun e_ => (show False from Zone.notblk e_ rfl (by have := GL16.out; have := GU16.out; have := SZ16.out; first | exact .inl (by omega) | exact .inr (by omega))).elim)).trans BK16.out); have n13_ := Aside0.mk ((hkp.2 g19 (blk_lt BK19.out) (fun e_ => (show False from Zone.notblk e_ rfl (by have := GL19.out; have := GU19.out; first | exact .inl (by omega) | exact .inr (by omega))).elim)).trans BK19.out); have n14_ := Aside0.mk ((hkp.2 g22 (blk_lt BK22.out) (fun e_ => (show False from Zone.notblk e_ rfl (by have := GL22.out; have := GU22.out; have := SZ18.out; have := SZ19.out; have := SZ20.out; first | exact .inl (by omega) | exact .inr (by omega))).elim)).trans BK22.out); have SZ35 := Aside0.mk (show w1031.heap.size ≤ w1032.heap.size from hkp.1); clear HB HO11 HO14 HO15 HO18 HO21 HO25 HO26 HO29 BK1 BK2 BK12 BK16 BK19 BK22; have HB := n0_; have HO11 := n1_; have HO14 := n2_; have HO15 := n3_; have HO18 := n4_; have HO21 := n5_; have HO25 := n6_; have HO26 := n7_; have HO29 := n8_; have BK1 := n9_; have BK2 := n10_; have BK12 := n11_; have BK16 := n12_; have BK19 := n13_; have BK22 := n14_; clear n0_ n1_ n2_ n3_ n4_ n5_ n6_ n7_ n8_ n9_ n10_ n11_ n12_ n13_ n14_; clear hb hkp hy0; have hx1_0 := cz_ BK1.out 0; have hf1_0 : w1032.frozen? ⟨g1, 0, none⟩ = false := blk_frozen BK1.out 0; have hx1_1 := cz_ BK1.out 1; have hf1_1 : w1032.frozen? ⟨g1, 1, none⟩ = false := blk_frozen BK1.out 1; have hx1_2 := cz_ BK1.out 2; have hf1_2 : w1032.frozen? ⟨g1, 2, none⟩ = false := blk_frozen BK1.out 2; have hx2_0 := cz_ BK2.out 0; have hf2_0 : w1032.frozen? ⟨g2, 0, none⟩ = false := blk_frozen BK2.out 0; have hx2_1 := cz_ BK2.out 1; have hf2_1 : w1032.frozen? ⟨g2, 1, none⟩ = false := blk_frozen BK2.out 1; have hx2_2 := cz_ BK2.out 2; have hf2_2 : w1032.frozen? ⟨g2, 2, none⟩ = false := blk_frozen BK2.out 2; have hx12_0 := cz_ BK12.out 0; have hf12_0 : w1032.frozen? ⟨g12, 0, none⟩ = false := blk_frozen BK12.out 0; have hx12_1 := cz_ BK12.out 1; have hf12_1 : w1032.frozen? ⟨g12, 1, none⟩ = false := blk_frozen BK12.out 1; have hx12_2 := cz_ BK12.out 2; have hf12_2 : w1032.frozen? ⟨g12, 2, none⟩ = false := blk_frozen BK12.out 2; have hx12_3 := cz_ BK12.out 3; have hf12_3 : w1032.frozen? ⟨g12, 3, none⟩ = false := blk_frozen BK12.out 3; have hx12_4 := cz_ BK12.out 4; have hf12_4 : w1032.frozen? ⟨g12, 4, none⟩ = false := blk_frozen BK12.out 4; have hx16_0 := cz_ BK16.out 0; have hf16_0 : w1032.frozen? ⟨g16, 0, none⟩ = false := blk_frozen BK16.out 0; have hx16_1 := cz_ BK16.out 1; have hf16_1 : w1032.frozen? ⟨g16, 1, none⟩ = false := blk_frozen BK16.out 1; have hx16_2 := cz_ BK16.out 2; have hf16_2 : w1032.frozen? ⟨g16, 2, none⟩ = false := blk_frozen BK16.out 2; have hx19_0 := cz_ BK19.out 0; have hf19_0 : w1032.frozen? ⟨g19, 0, none⟩ = false := blk_frozen BK19.out 0; have hx19_1 := cz_ BK19.out 1; have hf19_1 : w1032.frozen? ⟨g19, 1, none⟩ = false := blk_frozen BK19.out 1; have hx19_2 := cz_ BK19.out 2; have hf19_2 : w1032.frozen? ⟨g19, 2, none⟩ = false := blk_frozen BK19.out 2; have hx22_0 := cz_ BK22.out 0; have hf22_0 : w1032.frozen? ⟨g22, 0, none⟩ = false := blk_frozen BK22.out 0; have hx22_1 := cz_ BK22.out 1; have hf22_1 : w1032.frozen? ⟨g22, 1, none⟩ = false := blk_frozen BK22.out 1; have hx22_2 := cz_ BK22.out 2; have hf22_2 : w1032.frozen? ⟨g22, 2, none⟩ = false := blk_frozen BK22.out 2; have hx22_3 := cz_ BK22.out 3; have hf22_3 : w1032.frozen? ⟨g22, 3, none⟩ = false := blk_frozen BK22.out 3; have hx22_4 := cz_ BK22.out 4; have hf22_4 : w1032.frozen? ⟨g22, 4, none⟩ = false := blk_frozen BK22.out 4) | (go_at_call 20; (with_reducible refine (laws_eqFilled.calls k t20_0 t20_1 t20_2 _ _ t20_3 t20_4 t10_0 t10_1 t10_2 _ _ t10_3 t10_4 true _ ?sd33_1 ?sd33_2 ?sd33_3 ?sd33_4 A33.out).mono ?_); (case sd33_1 => exact (Kd.R_reads' HO21.out).2.2); (case sd33_2 => exact (Kd.R_reads' HO21.out).2.1); (case sd33_3 => exact (Kd.R_reads' HO11.out).2.2); (case sd33_4 => exact (Kd.R_reads' HO11.out).2.1); rintro e w1033 ⟨rfl, hb⟩; have hs_ := below_size HB.out; clear hx1_0 hf1_0 hx1_1 hf1_1 hx1_2 hf1_2 hx2_0 hf2_0 hx2_1 hf2_1 hx2_2 hf2_2 hx12_0 hf12_0 hx12_1 hf12_1 hx12_2 hf12_2 hx12_3 hf12_3 hx12_4 hf12_4 hx16_0 hf16_0 hx16_1 hf16_1 hx16_2 hf16_2 hx19_0 hf19_0 hx19_1 hf19_1 hx19_2 hf19_2 hx22_0 hf22_0 hx22_1 hf22_1 hx22_2 hf22_2 hx22_3 hf22_3 hx22_4 hf22_4; have n0_ := Aside0.mk (below_step HB.out hb); have n1_ := Aside0.mk (Kd.R_below HO11.out hb); have n2_ := Aside0.mk (Kd.S_below HO14.out hb); have n3_ := Aside0.mk (Kd.S_below HO15.out hb); have n4_ := Aside0.mk (Kd.R_below HO18.out hb); have n5_ := Aside0.mk (Kd.R_below HO21.out hb); have n6_ := Aside0.mk (Kd.S_below HO25.out hb); have n7_ := Aside0.mk (Kd.S_below HO26.out hb); have n8_ := Aside0.mk (Kd.R_below HO29.out hb); have n9_ := Aside0.mk (blk_below BK1.out hb); have n10_ := Aside0.mk (blk_below BK2.out hb); have n11_ := Aside0.mk (blk_below BK12.out hb); have n12_ := Aside0.mk (blk_below BK16.out hb); have n13_ := Aside0.mk (blk_below BK19.out hb); have n14_ := Aside0.mk (blk_below BK22.out hb); have SZ36 := Aside0.mk (show w1032.heap.size ≤ w1033.heap.size from (hb).size); clear HB HO11 HO14 HO15 HO18 HO21 HO25 HO26 HO29 BK1 BK2 BK12 BK16 BK19 BK22; have HB := n0_; have HO11 := n1_; have HO14 := n2_; have HO15 := n3_; have HO18 := n4_; have HO21 := n5_; have HO25 := n6_; have HO26 := n7_; have HO29 := n8_; have BK1 := n9_; have BK2 := n10_; have BK12 := n11_; have BK16 := n12_; have BK19 := n13_; have BK22 := n14_; clear n0_ n1_ n2_ n3_ n4_ n5_ n6_ n7_ n8_ n9_ n10_ n11_ n12_ n13_ n14_; clear hb hs_; have hx1_0 := cz_ BK1.out 0; have hf1_0 : w1033.frozen? ⟨g1, 0, none⟩ = false := blk_frozen BK1.out 0; have hx1_1 := cz_ BK1.out 1; have hf1_1 : w1033.frozen? ⟨g1, 1, none⟩ = false := blk_frozen BK1.out 1; have hx1_2 := cz_ BK1.out 2; have hf1_2 : w1033.frozen? ⟨g1, 2, none⟩ = false := blk_frozen BK1.out 2; have hx2_0 := cz_ BK2.out 0; have hf2_0 : w1033.frozen? ⟨g2, 0, none⟩ = false := blk_frozen BK2.out 0; have hx2_1 := cz_ BK2.out 1; have hf2_1 : w1033.frozen? ⟨g2, 1, none⟩ = false := blk_frozen BK2.out 1; have hx2_2 := cz_ BK2.out 2; have hf2_2 : w1033.frozen? ⟨g2, 2, none⟩ = false := blk_frozen BK2.out 2; have hx12_0 := cz_ BK12.out 0; have hf12_0 : w1033.frozen? ⟨g12, 0, none⟩ = false := blk_frozen BK12.out 0; have hx12_1 := cz_ BK12.out 1; have hf12_1 : w1033.frozen? ⟨g12, 1, none⟩ = false := blk_frozen BK12.out 1; have hx12_2 := cz_ BK12.out 2; have hf12_2 : w1033.frozen? ⟨g12, 2, none⟩ = false := blk_frozen BK12.out 2; have hx12_3 := cz_ BK12.out 3; have hf12_3 : w1033.frozen? ⟨g12, 3, none⟩ = false := blk_frozen BK12.out 3; have hx12_4 := cz_ BK12.out 4; have hf12_4 : w1033.frozen? ⟨g12, 4, none⟩ = false := blk_frozen BK12.out 4; have hx16_0 := cz_ BK16.out 0; have hf16_0 : w1033.frozen? ⟨g16, 0, none⟩ = false := blk_frozen BK16.out 0; have hx16_1 := cz_ BK16.out 1; have hf16_1 : w1033.frozen? ⟨g16, 1, none⟩ = false := blk_frozen BK16.out 1; have hx16_2 := cz_ BK16.out 2; have hf16_2 : w1033.frozen? ⟨g16, 2, none⟩ = false := blk_frozen BK16.out 2; have hx19_0 := cz_ BK19.out 0; have hf19_0 : w1033.frozen? ⟨g19, 0, none⟩ = false := blk_frozen BK19.out 0; have hx19_1 := cz_ BK19.out 1; have hf19_1 : w1033.frozen? ⟨g19, 1, none⟩ = false := blk_frozen BK19.out 1; have hx19_2 := cz_ BK19.out 2; have hf19_2 : w1033.frozen? ⟨g19, 2, none⟩ = false := blk_frozen BK19.out 2; have hx22_0 := cz_ BK22.out 0; have hf22_0 : w1033.frozen? ⟨g22, 0, none⟩ = false := blk_frozen BK22.out 0; have hx22_1 := cz_ BK22.out 1; have hf22_1 : w1033.frozen? ⟨g22, 1, none⟩ = false := blk_frozen BK22.out 1; have hx22_2 := cz_ BK22.out 2; have hf22_2 : w1033.frozen? ⟨g22, 2, none⟩ = false := blk_frozen BK22.out 2; have hx22_3 := cz_ BK22.out 3; have hf22_3 : w1033.frozen? ⟨g22, 3, none⟩ = false := blk_frozen BK22.out 3; have hx22_4 := cz_ BK22.out 4; have hf22_4 : w1033.frozen? ⟨g22, 4, none⟩ = false := blk_frozen BK22.out 4) | (go_at_call 21; (with_reducible refine (laws_markFilled.calls k t20_0 t20_1 t20_2 (Zone w2016 w1020 (3 :: ((Kd.int .i64)).E)) (.slice A_21 t20_3.length c_21) t20_3 t20_4 1 t45 t34_1 w _ ?sd34_1 ?sd34_2 A34.out).mono ?_); (case sd34_1 => exact HB.out); (case sd34_2 => exact HO21.out); rintro e w1034 ⟨rfl, hy0, hb, hkp⟩; clear hx1_0 hf1_0 hx1_1 hf1_1 hx1_2 hf1_2 hx2_0 hf2_0 hx2_1 hf2_1 hx2_2 hf2_2 hx12_0 hf12_0 hx12_1 hf12_1 hx12_2 hf12_2 hx12_3 hf12_3 hx12_4 hf12_4 hx16_0 hf16_0 hx16_1 hf16_1 hx16_2 hf16_2 hx19_0 hf19_0 hx19_1 hf19_1 hx19_2 hf19_2 hx22_0 hf22_0 hx22_1 hf22_1 hx22_2 hf22_2 hx22_3 hf22_3 hx22_4 hf22_4; have n0_ := Aside0.mk (hb); have n1_ := Aside0.mk (Kd.R_step HO11.out (fun k_ h_ hlt_ => hkp.2 k_ hlt_ (fun e_ => (show False from Zone.apart h_ e_ (by have := SZ8.out; have := SZ9.out; have := SZ10.out; have := SZ11.out; have := SZ12.out; have := SZ13.out; have := SZ14.out; have := SZ15.out; have := SZ16.out; have := SZ17.out; have := SZ18.out; have := SZ19.out; first | exact .inl (by omega) | exact .inr (by omega))).elim))); have n2_ := Aside0.mk (Kd.S_step HO14.out (fun k_ h_ hlt_ => hkp.2 k_ hlt_ (fun e_ => (show False from Zone.apart h_ e_ (by have := SZ12.out; have := SZ13.out; have := SZ14.out; have := SZ15.out; have := SZ16.out; have := SZ17.out; have := SZ18.out; have := SZ19.out; first | exact .inl (by omega) | exact .inr (by omega))).elim))); have n3_ := Aside0.mk (Kd.S_step HO15.out (fun k_ h_ hlt_ => hkp.2 k_ hlt_ (fun e_ => (show False from Zone.apart h_ e_ (by have := SZ14.out; have := SZ15.out; have := SZ16.out; have := SZ17.out; have := SZ18.out; have := SZ19.out; first | exact .inl (by omega) | exact .inr (by omega))).elim))); have n4_ := Aside0.mk (Kd.R_step HO18.out (fun k_ h_ hlt_ => hkp.2 k_ hlt_ (fun e_ => (show False from Zone.apart h_ e_ (by have := SZ18.out; have := SZ19.out; first | exact .inl (by omega) | exact .inr (by omega))).elim))); have n5_ := Aside0.mk (Kd.R_reok rfl hy0 HO21.out.1); have n6_ := Aside0.mk (Kd.S_step HO25.out (fun k_ h_ hlt_ => hkp.2 k_ hlt_ (fun e_ => (show False from Zone.apart h_ e_ (by have := SZ21.out; have := SZ22.out; have := SZ23.out; have := SZ24.out; have := SZ25.out; first | exact .inl (by omega) | exact .inr (by omega))).elim))); have n7_ := Aside0.mk (Kd.S_step HO26.out (fun k_ h_ hlt_ => hkp.2 k_ hlt_ (fun e_ => (show False from Zone.apart h_ e_ (by have := SZ21.out; have := SZ22.out; have := SZ23.out; have := SZ24.out; have := SZ25.out; have := SZ26.out; have := SZ27.out; first | exact .inl (by omega) | exact .inr (by omega))).elim))); have n8_ := Aside0.mk (Kd.R_step HO29.out (fun k_ h_ hlt_ => hkp.2 k_ hlt_ (fun e_ => (show False from Zone.apart h_ e_ (by have := SZ21.out; have := SZ22.out; have := SZ23.out; have := SZ24.out; have := SZ25.out; have := SZ26.out; have := SZ27.out; have := SZ28.out; have := SZ29.out; have := SZ30.out; have := SZ31.out; first | exact .inl (by omega) | exact .inr (by omega))).elim))); have n9_ := Aside0.mk ((hkp.2 g1 (blk_lt BK1.out) (fun e_ => (show False from Zone.notblk e_ rfl (by have := GL1.out; have := GU1.out; have := SZ2.out; have := SZ3.out; have := SZ4.out; have := SZ5.out; have := SZ6.out; have := SZ7.out; have := SZ8.out; have := SZ9.out; have := SZ10.out; have := SZ11.out; have := SZ12.out; have := SZ13.out; have := SZ14.out; have := SZ15.out; have := SZ16.out; have := SZ17.out; have := SZ18.out; have := SZ19.out; first | exact .inl (by omega) | exact .inr (by omega))).elim)).trans BK1.out); have n10_ := Aside0.mk ((hkp.2 g2 (blk_lt BK2.out) (fun e_ => (show False from Zone.notblk e_ rfl (by have := GL2.out; have := GU2.out; have := SZ3.out; have := SZ4.out; have := SZ5.out; have := SZ6.out; have := SZ7.out; have := SZ8.out; have := SZ9.out; have := SZ10.out; have := SZ11.out; have := SZ12.out; have := SZ13.out; have := SZ14.out; have := SZ15.out; have := SZ16.out; have := SZ17.out; have := SZ18.out; have := SZ19.out; first | exact .inl (by omega) | exact .inr (by omega))).elim)).trans BK2.out); have n11_ := Aside0.mk ((hkp.2 g12 (blk_lt BK12.out) (fun e_ => (show False from Zone.notblk e_ rfl (by have := GL12.out; have := GU12.out; have := SZ9.out; have := SZ10.out; have := SZ11.out; have := SZ12.out; have := SZ13.out; have := SZ14.out; have := SZ15.out; have := SZ16.out; have := SZ17.out; have := SZ18.out; have := SZ19.out; first | exact .inl (by omega) | exact .inr (by omega))).elim)).trans BK12.out); have n12_ := Aside0.mk ((hkp.2 g16 (blk_lt BK16.out) (fun e_ => (show False from Zone.notblk e_ rfl (by have := GL16.out; have := GU16.out; have := SZ16.out; have := SZ17.out; have := SZ18.out; have := SZ19.out; first | exact .inl (by omega) | exact .inr (by omega))).elim)).trans BK16.out); have n13_ := Aside0.mk ((hkp.2 g19 (blk_lt BK19.out) (fun e_ => (show False from Zone.notblk e_ rfl (by have := GL19.out; have := GU19.out; have := SZ19.out; first | exact .inl (by omega) | exact .inr (by omega))).elim)).trans BK19.out); have n14_ := Aside0.mk ((hkp.2 g22 (blk_lt BK22.out) (fun e_ => (show False from Zone.notblk e_ rfl (by have := GL22.out; have := GU22.out; first | exact .inl (by omega) | exact .inr (by omega))).elim)).trans BK22.out); have SZ37 := Aside0.mk (show w1033.heap.size ≤ w1034.heap.size from hkp.1); clear HB HO11 HO14 HO15 HO18 HO21 HO25 HO26 HO29 BK1 BK2 BK12 BK16 BK19 BK22; have HB := n0_; have HO11 := n1_; have HO14 := n2_; have HO15 := n3_; have HO18 := n4_; have HO21 := n5_; have HO25 := n6_; have HO26 := n7_; have HO29 := n8_; have BK1 := n9_; have BK2 := n10_; have BK12 := n11_; have BK16 := n12_; have BK19 := n13_; have BK22 := n14_; clear n0_ n1_ n2_ n3_ n4_ n5_ n6_ n7_ n8_ n9_ n10_ n11_ n12_ n13_ n14_; clear hb hkp hy0; have hx1_0 := cz_ BK1.out 0; have hf1_0 : w1034.frozen? ⟨g1, 0, none⟩ = false := blk_frozen BK1.out 0; have hx1_1 := cz_ BK1.out 1; have hf1_1 : w1034.frozen? ⟨g1, 1, none⟩ = false := blk_frozen BK1.out 1; have hx1_2 := cz_ BK1.out 2; have hf1_2 : w1034.frozen? ⟨g1, 2, none⟩ = false := blk_frozen BK1.out 2; have hx2_0 := cz_ BK2.out 0; have hf2_0 : w1034.frozen? ⟨g2, 0, none⟩ = false := blk_frozen BK2.out 0; have hx2_1 := cz_ BK2.out 1; have hf2_1 : w1034.frozen? ⟨g2, 1, none⟩ = false := blk_frozen BK2.out 1; have hx2_2 := cz_ BK2.out 2; have hf2_2 : w1034.frozen? ⟨g2, 2, none⟩ = false := blk_frozen BK2.out 2; have hx12_0 := cz_ BK12.out 0; have hf12_0 : w1034.frozen? ⟨g12, 0, none⟩ = false := blk_frozen BK12.out 0; have hx12_1 := cz_ BK12.out 1; have hf12_1 : w1034.frozen? ⟨g12, 1, none⟩ = false := blk_frozen BK12.out 1; have hx12_2 := cz_ BK12.out 2; have hf12_2 : w1034.frozen? ⟨g12, 2, none⟩ = false := blk_frozen BK12.out 2; have hx12_3 := cz_ BK12.out 3; have hf12_3 : w1034.frozen? ⟨g12, 3, none⟩ = false := blk_frozen BK12.out 3; have hx12_4 := cz_ BK12.out 4; have hf12_4 : w1034.frozen? ⟨g12, 4, none⟩ = false := blk_frozen BK12.out 4; have hx16_0 := cz_ BK16.out 0; have hf16_0 : w1034.frozen? ⟨g16, 0, none⟩ = false := blk_frozen BK16.out 0; have hx16_1 := cz_ BK16.out 1; have hf16_1 : w1034.frozen? ⟨g16, 1, none⟩ = false := blk_frozen BK16.out 1; have hx16_2 := cz_ BK16.out 2; have hf16_2 : w1034.frozen? ⟨g16, 2, none⟩ = false := blk_frozen BK16.out 2; have hx19_0 := cz_ BK19.out 0; have hf19_0 : w1034.frozen? ⟨g19, 0, none⟩ = false := blk_frozen BK19.out 0; have hx19_1 := cz_ BK19.out 1; have hf19_1 : w1034.frozen? ⟨g19, 1, none⟩ = false := blk_frozen BK19.out 1; have hx19_2 := cz_ BK19.out 2; have hf19_2 : w1034.frozen? ⟨g19, 2, none⟩ = false := blk_frozen BK19.out 2; have hx22_0 := cz_ BK22.out 0; have hf22_0 : w1034.frozen? ⟨g22, 0, none⟩ = false := blk_frozen BK22.out 0; have hx22_1 := cz_ BK22.out 1; have hf22_1 : w1034.frozen? ⟨g22, 1, none⟩ = false := blk_frozen BK22.out 1; have hx22_2 := cz_ BK22.out 2; have hf22_2 : w1034.frozen? ⟨g22, 2, none⟩ = false := blk_frozen BK22.out 2; have hx22_3 := cz_ BK22.out 3; have hf22_3 : w1034.frozen? ⟨g22, 3, none⟩ = false := blk_frozen BK22.out 3; have hx22_4 := cz_ BK22.out 4; have hf22_4 : w1034.frozen? ⟨g22, 4, none⟩ = false := blk_frozen BK22.out 4) | (go_at_call 22; refine calls_of_args (args' := #[.agg #[.bool t20_0, .int .i64 t20_1, .int .i64 t20_2, .slice A_21 t34_1.length c_21, .int .i64 t20_4], .int .i64 1]) (by first | (rw [show t34_1.length = t20_3.length from (Kd.R_reads' HO21.out).1.symm] <;> rfl) | rfl) ?_; (with_reducible refine (laws_heldFilled.calls k t20_0 t20_1 t20_2 _ _ t34_1 t20_4 1 t45 _ ?sd35_1 ?sd35_2 A35.out).mono ?_); (case sd35_1 => exact (Kd.R_reads' HO21.out).2.2); (case sd35_2 => exact (by rw [show t34_1.length = t20_3.length from (Kd.R_reads' HO21.out).1.symm]; exact (Kd.R_reads' HO21.out).2.1)); rintro e w1035 ⟨rfl, hb⟩; have hs_ := below_size HB.out; clear hx1_0 hf1_0 hx1_1 hf1_1 hx1_2 hf1_2 hx2_0 hf2_0 hx2_1 hf2_1 hx2_2 hf2_2 hx12_0 hf12_0 hx12_1 hf12_1 hx12_2 hf12_2 hx12_3 hf12_3 hx12_4 hf12_4 hx16_0 hf16_0 hx16_1 hf16_1 hx16_2 hf16_2 hx19_0 hf19_0 hx19_1 hf19_1 hx19_2 hf19_2 hx22_0 hf22_0 hx22_1 hf22_1 hx22_2 hf22_2 hx22_3 hf22_3 hx22_4 hf22_4; have n0_ := Aside0.mk (below_step HB.out hb); have n1_ := Aside0.mk (Kd.R_below HO11.out hb); have n2_ := Aside0.mk (Kd.S_below HO14.out hb); have n3_ := Aside0.mk (Kd.S_below HO15.out hb); have n4_ := Aside0.mk (Kd.R_below HO18.out hb); have n5_ := Aside0.mk (Kd.R_below HO21.out hb); have n6_ := Aside0.mk (Kd.S_below HO25.out hb); have n7_ := Aside0.mk (Kd.S_below HO26.out hb); have n8_ := Aside0.mk (Kd.R_below HO29.out hb); have n9_ := Aside0.mk (blk_below BK1.out hb); have n10_ := Aside0.mk (blk_below BK2.out hb); have n11_ := Aside0.mk (blk_below BK12.out hb); have n12_ := Aside0.mk (blk_below BK16.out hb); have n13_ := Aside0.mk (blk_below BK19.out hb); have n14_ := Aside0.mk (blk_below BK22.out hb); have SZ38 := Aside0.mk (show w1034.heap.size ≤ w1035.heap.size from (hb).size); clear HB HO11 HO14 HO15 HO18 HO21 HO25 HO26 HO29 BK1 BK2 BK12 BK16 BK19 BK22; have HB := n0_; have HO11 := n1_; have HO14 := n2_; have HO15 := n3_; have HO18 := n4_; have HO21 := n5_; have HO25 := n6_; have HO26 := n7_; have HO29 := n8_; have BK1 := n9_; have BK2 := n10_; have BK12 := n11_; have BK16 := n12_; have BK19 := n13_; have BK22 := n14_; clear n0_ n1_ n2_ n3_ n4_ n5_ n6_ n7_ n8_ n9_ n10_ n11_ n12_ n13_ n14_; clear hb hs_; have hx1_0 := cz_ BK1.out 0; have hf1_0 : w1035.frozen? ⟨g1, 0, none⟩ = false := blk_frozen BK1.out 0; have hx1_1 := cz_ BK1.out 1; have hf1_1 : w1035.frozen? ⟨g1, 1, none⟩ = false := blk_frozen BK1.out 1; have hx1_2 := cz_ BK1.out 2; have hf1_2 : w1035.frozen? ⟨g1, 2, none⟩ = false := blk_frozen BK1.out 2; have hx2_0 := cz_ BK2.out 0; have hf2_0 : w1035.frozen? ⟨g2, 0, none⟩ = false := blk_frozen BK2.out 0; have hx2_1 := cz_ BK2.out 1; have hf2_1 : w1035.frozen? ⟨g2, 1, none⟩ = false := blk_frozen BK2.out 1; have hx2_2 := cz_ BK2.out 2; have hf2_2 : w1035.frozen? ⟨g2, 2, none⟩ = false := blk_frozen BK2.out 2; have hx12_0 := cz_ BK12.out 0; have hf12_0 : w1035.frozen? ⟨g12, 0, none⟩ = false := blk_frozen BK12.out 0; have hx12_1 := cz_ BK12.out 1; have hf12_1 : w1035.frozen? ⟨g12, 1, none⟩ = false := blk_frozen BK12.out 1; have hx12_2 := cz_ BK12.out 2; have hf12_2 : w1035.frozen? ⟨g12, 2, none⟩ = false := blk_frozen BK12.out 2; have hx12_3 := cz_ BK12.out 3; have hf12_3 : w1035.frozen? ⟨g12, 3, none⟩ = false := blk_frozen BK12.out 3; have hx12_4 := cz_ BK12.out 4; have hf12_4 : w1035.frozen? ⟨g12, 4, none⟩ = false := blk_frozen BK12.out 4; have hx16_0 := cz_ BK16.out 0; have hf16_0 : w1035.frozen? ⟨g16, 0, none⟩ = false := blk_frozen BK16.out 0; have hx16_1 := cz_ BK16.out 1; have hf16_1 : w1035.frozen? ⟨g16, 1, none⟩ = false := blk_frozen BK16.out 1; have hx16_2 := cz_ BK16.out 2; have hf16_2 : w1035.frozen? ⟨g16, 2, none⟩ = false := blk_frozen BK16.out 2; have hx19_0 := cz_ BK19.out 0; have hf19_0 : w1035.frozen? ⟨g19, 0, none⟩ = false := blk_frozen BK19.out 0; have hx19_1 := cz_ BK19.out 1; have hf19_1 : w1035.frozen? ⟨g19, 1, none⟩ = false := blk_frozen BK19.out 1; have hx19_2 := cz_ BK19.out 2; have hf19_2 : w1035.frozen? ⟨g19, 2, none⟩ = false := blk_frozen BK19.out 2; have hx22_0 := cz_ BK22.out 0; have hf22_0 : w1035.frozen? ⟨g22, 0, none⟩ = false := blk_frozen BK22.out 0; have hx22_1 := cz_ BK22.out 1; have hf22_1 : w1035.frozen? ⟨g22, 1, none⟩ = false := blk_frozen BK22.out 1; have hx22_2 := cz_ BK22.out 2; have hf22_2 : w1035.frozen? ⟨g22, 2, none⟩ = false := blk_frozen BK22.out 2; have hx22_3 := cz_ BK22.out 3; have hf22_3 : w1035.frozen? ⟨g22, 3, none⟩ = false := blk_frozen BK22.out 3; have hx22_4 := cz_ BK22.out 4; have hf22_4 : w1035.frozen? ⟨g22, 4, none⟩ = false := blk_frozen BK22.out 4))
  (try simp only [Act.put, List.setIfInBounds_toArray, List.set_cons_zero, List.set_cons_succ])
  clear hx1_0 hf1_0 hx1_1 hf1_1 hx1_2 hf1_2 hx2_0 hf2_0 hx2_1 hf2_1 hx2_2 hf2_2 hx12_0 hf12_0 hx12_1 hf12_1 hx12_2 hf12_2 hx12_3 hf12_3 hx12_4 hf12_4 hx16_0 hf16_0 hx16_1 hf16_1 hx16_2 hf16_2 hx19_0 hf19_0 hx19_1 hf19_1 hx19_2 hf19_2 hx22_0 hf22_0 hx22_1 hf22_1 hx22_2 hf22_2 hx22_3 hf22_3 hx22_4 hf22_4
  have n0_ := Aside0.mk (below_step HB.out (below_drew1 (Below.refl w1035.heap.size w1035)))
  have n1_ := Aside0.mk (Kd.R_below HO11.out (below_drew1 (Below.refl w1035.heap.size w1035)))
  have n2_ := Aside0.mk (Kd.S_below HO14.out (below_drew1 (Below.refl w1035.heap.size w1035)))
  have n3_ := Aside0.mk (Kd.S_below HO15.out (below_drew1 (Below.refl w1035.heap.size w1035)))
  have n4_ := Aside0.mk (Kd.R_below HO18.out (below_drew1 (Below.refl w1035.heap.size w1035)))
  have n5_ := Aside0.mk (Kd.R_below HO21.out (below_drew1 (Below.refl w1035.heap.size w1035)))
  have n6_ := Aside0.mk (Kd.S_below HO25.out (below_drew1 (Below.refl w1035.heap.size w1035)))
  have n7_ := Aside0.mk (Kd.S_below HO26.out (below_drew1 (Below.refl w1035.heap.size w1035)))
  have n8_ := Aside0.mk (Kd.R_below HO29.out (below_drew1 (Below.refl w1035.heap.size w1035)))
  have n9_ := Aside0.mk (blk_below BK1.out (below_drew1 (Below.refl w1035.heap.size w1035)))
  have n10_ := Aside0.mk (blk_below BK2.out (below_drew1 (Below.refl w1035.heap.size w1035)))
  have n11_ := Aside0.mk (blk_below BK12.out (below_drew1 (Below.refl w1035.heap.size w1035)))
  have n12_ := Aside0.mk (blk_below BK16.out (below_drew1 (Below.refl w1035.heap.size w1035)))
  have n13_ := Aside0.mk (blk_below BK19.out (below_drew1 (Below.refl w1035.heap.size w1035)))
  have n14_ := Aside0.mk (blk_below BK22.out (below_drew1 (Below.refl w1035.heap.size w1035)))
  have SZ39 := Aside0.mk (show w1035.heap.size ≤ w1035.drew.heap.size from ((below_drew1 (Below.refl w1035.heap.size w1035))).size)
  clear HB HO11 HO14 HO15 HO18 HO21 HO25 HO26 HO29 BK1 BK2 BK12 BK16 BK19 BK22
  have HB := n0_
  have HO11 := n1_
  have HO14 := n2_
  have HO15 := n3_
  have HO18 := n4_
  have HO21 := n5_
  have HO25 := n6_
  have HO26 := n7_
  have HO29 := n8_
  have BK1 := n9_
  have BK2 := n10_
  have BK12 := n11_
  have BK16 := n12_
  have BK19 := n13_
  have BK22 := n14_
  clear n0_ n1_ n2_ n3_ n4_ n5_ n6_ n7_ n8_ n9_ n10_ n11_ n12_ n13_ n14_
  refine start_ (n := 11) (S := fun w' => w'.cell? ⟨g1, 0, none⟩ = some (.int .i64 a0_0) ∧ w'.cell? ⟨g1, 1, none⟩ = some (.slice A0_1 l0_1.length c0_1) ∧ w'.cell? ⟨g1, 2, none⟩ = some (.slice A0_2 l0_2.length c0_2) ∧ w'.cell? ⟨g2, 0, none⟩ = some (.int .i64 a1_0) ∧ w'.cell? ⟨g2, 1, none⟩ = some (.int .i64 a1_1) ∧ w'.cell? ⟨g2, 2, none⟩ = some (.slice A1_2 l1_2.length c1_2) ∧ w'.cell? ⟨g12, 0, none⟩ = some (.bool t10_0) ∧ w'.cell? ⟨g12, 1, none⟩ = some (.int .i64 t10_1) ∧ w'.cell? ⟨g12, 2, none⟩ = some (.int .i64 t10_2) ∧ w'.cell? ⟨g12, 3, none⟩ = some (.slice A_11 t10_3.length c_11) ∧ w'.cell? ⟨g12, 4, none⟩ = some (.int .i64 t10_4) ∧ w'.cell? ⟨g16, 0, none⟩ = some (.int .i64 t13_0) ∧ w'.cell? ⟨g16, 1, none⟩ = some (.slice A_14 t13_1.length c_14) ∧ w'.cell? ⟨g16, 2, none⟩ = some (.slice A_15 t13_2.length c_15) ∧ w'.cell? ⟨g19, 0, none⟩ = some (.int .i64 t17_0) ∧ w'.cell? ⟨g19, 1, none⟩ = some (.int .i64 t17_1) ∧ w'.cell? ⟨g19, 2, none⟩ = some (.slice A_18 t17_2.length c_18) ∧ w'.cell? ⟨g22, 0, none⟩ = some (.bool t20_0) ∧ w'.cell? ⟨g22, 1, none⟩ = some (.int .i64 t20_1) ∧ w'.cell? ⟨g22, 2, none⟩ = some (.int .i64 t20_2) ∧ w'.cell? ⟨g22, 3, none⟩ = some (.slice A_21 t20_3.length c_21) ∧ w'.cell? ⟨g22, 4, none⟩ = some (.int .i64 t20_4)) (ds := []) (Array.replicate 11 false) (by kernel_rfl) rfl rfl ⟨cz_ BK1.out 0, cz_ BK1.out 1, cz_ BK1.out 2, cz_ BK2.out 0, cz_ BK2.out 1, cz_ BK2.out 2, cz_ BK12.out 0, cz_ BK12.out 1, cz_ BK12.out 2, cz_ BK12.out 3, cz_ BK12.out 4, cz_ BK16.out 0, cz_ BK16.out 1, cz_ BK16.out 2, cz_ BK19.out 0, cz_ BK19.out 1, cz_ BK19.out 2, cz_ BK22.out 0, cz_ BK22.out 1, cz_ BK22.out 2, cz_ BK22.out 3, cz_ BK22.out 4⟩ (fun hHeld => ?_); refine with_tabW laws_FnExactFillField.tab31 laws_FnExactFillField.bits31 (fun HT_ HW_ => ?_)
  generalize w1035.drew = w3034 at HB HO11 HO14 HO15 HO18 HO21 HO25 HO26 HO29 BK1 BK2 BK12 BK16 BK19 BK22 SZ39 hHeld ⊢
  refine take_ (i := 0) (N := some 95) (v := ?_) (a' := ?_) #[true, false, false, false, false, false, false, false, false, false, false] rfl rfl (take_ofW HT_.out HW_.out (by kernel_rfl)) (fun _ _ _ h => h) (Or.inl ⟨by rfl, ?_⟩) hHeld ?_ ?_
  rotate_left
  · rintro w' ⟨s0, s1, s2, s3, s4, s5, s6, s7, s8, s9, s10, s11, s12, s13, s14, s15, s16, s17, s18, s19, s20, s21⟩
    go_simp
    with_reducible rfl
  rotate_left
  · simp only [Act.put, List.setIfInBounds_toArray, List.set_cons_zero, List.set_cons_succ, i64_w, i32_w]
    rfl
  refine take_ (i := 2) (N := some 97) (v := ?_) (a' := ?_) #[true, false, true, false, false, false, false, false, false, false, false] rfl rfl (take_ofW HT_.out HW_.out (by kernel_rfl)) (fun _ _ _ h => h) (Or.inl ⟨by rfl, ?_⟩) hHeld ?_ ?_
  rotate_left
  · rintro w' ⟨s0, s1, s2, s3, s4, s5, s6, s7, s8, s9, s10, s11, s12, s13, s14, s15, s16, s17, s18, s19, s20, s21⟩
    go_simp
    with_reducible rfl
  rotate_left
  · simp only [Act.put, List.setIfInBounds_toArray, List.set_cons_zero, List.set_cons_succ, i64_w, i32_w]
    rfl
  refine join_ (σ := Value × Value × Option Addr × Nat × World × World × Nat) 2 #[true, true, true, true, true, true, true, true, true, false, false] (fun s_ => [(96, s_.1), (98, s_.2.1), (99, .tuple #[.agg #[.bool t41_0, .int .i64 t41_1, .int .i64 t41_2, .slice s_.2.2.1 t41_3.length s_.2.2.2.1, .int .i64 t41_4], .bool t41_5]), (15, .pointer (some ⟨s_.2.2.2.2.2.2, 0, none⟩)), (94, .tuple #[.agg #[.bool t41_0, .int .i64 t41_1, .int .i64 t41_2, .slice s_.2.2.1 t41_3.length s_.2.2.2.1, .int .i64 t41_4], .bool t41_5]), (100, .agg #[.bool t41_0, .int .i64 t41_1, .int .i64 t41_2, .slice s_.2.2.1 t41_3.length s_.2.2.2.1, .int .i64 t41_4]), (101, .bool t41_5)]) (fun s_ w' => (Below w.heap.size w w') ∧ (Kd.R (Kd.int .i64) 3 w' w.heap.size (Zone za12 zb12 (3 :: ((Kd.int .i64)).E)) (.slice A_11 t10_3.length c_11) t10_3) ∧ (Kd.S (Kd.slice 3 (Kd.int .i64)) 25 w' w.heap.size (Zone wz13_0a wz13_0b (25 :: ((Kd.slice 3 (Kd.int .i64))).E)) (.slice A_14 t13_1.length c_14) t31_1) ∧ (Kd.S (Kd.slice 3 (Kd.int .i64)) 25 w' w.heap.size (Zone wz13_1a wz13_1b (25 :: ((Kd.slice 3 (Kd.int .i64))).E)) (.slice A_15 t13_2.length c_15) t31_2) ∧ (Kd.R (Kd.int .i64) 3 w' w.heap.size (Zone w2013 w1017 (3 :: ((Kd.int .i64)).E)) (.slice A_18 t17_2.length c_18) t32_1) ∧ (Kd.R (Kd.int .i64) 3 w' w.heap.size (Zone w2016 w1020 (3 :: ((Kd.int .i64)).E)) (.slice A_21 t20_3.length c_21) t34_1) ∧ (Kd.S (Kd.slice 3 (Kd.int .i64)) 25 w' w.heap.size (Zone wz24_0a wz24_0b (25 :: ((Kd.slice 3 (Kd.int .i64))).E)) (.slice A_25 t24_1.length c_25) t24_1) ∧ (Kd.S (Kd.slice 3 (Kd.int .i64)) 25 w' w.heap.size (Zone wz24_1a wz24_1b (25 :: ((Kd.slice 3 (Kd.int .i64))).E)) (.slice A_26 t24_2.length c_26) t24_2) ∧ (Kd.R (Kd.int .i64) 3 w' w.heap.size (Zone w3025 w1028 (3 :: ((Kd.int .i64)).E)) (.slice A_29 t28_2.length c_29) t28_2) ∧ (w'.heap[g1]? = some (.cells #[.int .i64 a0_0, .slice A0_1 l0_1.length c0_1, .slice A0_2 l0_2.length c0_2] 24 (0, 0))) ∧ (w'.heap[g2]? = some (.cells #[.int .i64 a1_0, .int .i64 a1_1, .slice A1_2 l1_2.length c1_2] 27 (0, 0))) ∧ (w'.heap[g12]? = some (.cells #[.bool t10_0, .int .i64 t10_1, .int .i64 t10_2, .slice A_11 t10_3.length c_11, .int .i64 t10_4] 44 (0, 0))) ∧ (w'.heap[g16]? = some (.cells #[.int .i64 t13_0, .slice A_14 t13_1.length c_14, .slice A_15 t13_2.length c_15] 32 (0, 0))) ∧ (w'.heap[g19]? = some (.cells #[.int .i64 t17_0, .int .i64 t17_1, .slice A_18 t17_2.length c_18] 34 (0, 0))) ∧ (w'.heap[g22]? = some (.cells #[.bool t20_0, .int .i64 t20_1, .int .i64 t20_2, .slice A_21 t20_3.length c_21, .int .i64 t20_4] 44 (0, 0))) ∧ (Kd.R (Kd.int .i64) 3 w' w.heap.size (Zone s_.2.2.2.2.1 s_.2.2.2.2.2.1 (3 :: ((Kd.int .i64)).E)) (.slice s_.2.2.1 t41_3.length s_.2.2.2.1) t41_3) ∧ (w'.heap[s_.2.2.2.2.2.2]? = some (.cells #[.bool false, .int .i64 0, .int .i64 0, .slice none 0 0, .int .i64 0] 44 (0, 0))) ∧ (w3034.heap.size ≤ s_.2.2.2.2.1.heap.size) ∧ (s_.2.2.2.2.1.heap.size ≤ s_.2.2.2.2.2.1.heap.size) ∧ (s_.2.2.2.2.2.1.heap.size ≤ w'.heap.size) ∧ (s_.2.2.2.2.2.1.heap.size ≤ s_.2.2.2.2.2.2 ∨ s_.2.2.2.2.2.2 < s_.2.2.2.2.1.heap.size) ∧ (w3034.heap.size ≤ s_.2.2.2.2.2.2) ∧ (s_.2.2.2.2.2.2 < w'.heap.size)) ?_ ?_
  rotate_left
  · intro hCont
    refine two_ (i := 1) (j := 8) (Ni := some 96) (Nj := some 15) #[true, true, true, false, false, false, false, false, false, false, false] #[true, false, true, false, false, false, false, false, true, false, false] rfl rfl rfl rfl (two_of HT_.out (by kernel_rfl)) (by decide) (by decide) (fun K hK => ?_) (fun K hK => ?_)
    · skip
      refine goes_ Try.func8 (by kernel_rfl) rfl #[.agg #[.int .i64 a0_0, .slice A0_1 l0_1.length c0_1, .slice A0_2 l0_2.length c0_2]] (by rfl) rfl rfl (by (try simp only [List.map_toArray, List.map_cons, List.map_nil]); first | done | rfl) ?_
      (with_reducible refine (laws_toRules.callsZ k a0_0 _ _ l0_1 _ _ l0_2 t36_0 t36_1 t36_2 _ ?sd36_1 ?sd36_2 ?sd36_3 ?sd36_4 A36.out).mono ?_)
      (case sd36_1 => exact Kd.C_below HR0_1.out HB.out)
      (case sd36_2 => exact HC0_1.out)
      (case sd36_3 => exact Kd.C_below HR0_2.out HB.out)
      (case sd36_4 => exact HC0_2.out)
      rintro e w1036 ⟨v_37, v_38, wz36_0a, wz36_0b, wz36_1a, wz36_1b, rfl, ho0, ho1, ⟨hz0, hz1, hz2, hz3, hz4⟩, hb⟩
      refine ⟨_, rfl, ?_⟩
      have hs_ := below_size HB.out
      have n0_ := Aside0.mk (below_step HB.out hb)
      have n1_ := Aside0.mk (Kd.R_below HO11.out hb)
      have n2_ := Aside0.mk (Kd.S_below HO14.out hb)
      have n3_ := Aside0.mk (Kd.S_below HO15.out hb)
      have n4_ := Aside0.mk (Kd.R_below HO18.out hb)
      have n5_ := Aside0.mk (Kd.R_below HO21.out hb)
      have n6_ := Aside0.mk (Kd.S_below HO25.out hb)
      have n7_ := Aside0.mk (Kd.S_below HO26.out hb)
      have n8_ := Aside0.mk (Kd.R_below HO29.out hb)
      have n9_ := Aside0.mk (blk_below BK1.out hb)
      have n10_ := Aside0.mk (blk_below BK2.out hb)
      have n11_ := Aside0.mk (blk_below BK12.out hb)
      have n12_ := Aside0.mk (blk_below BK16.out hb)
      have n13_ := Aside0.mk (blk_below BK19.out hb)
      have n14_ := Aside0.mk (blk_below BK22.out hb)
      clear HB HO11 HO14 HO15 HO18 HO21 HO25 HO26 HO29 BK1 BK2 BK12 BK16 BK19 BK22
      have HB := n0_
      have HO11 := n1_
      have HO14 := n2_
      have HO15 := n3_
      have HO18 := n4_
      have HO21 := n5_
      have HO25 := n6_
      have HO26 := n7_
      have HO29 := n8_
      have BK1 := n9_
      have BK2 := n10_
      have BK12 := n11_
      have BK16 := n12_
      have BK19 := n13_
      have BK22 := n14_
      clear n0_ n1_ n2_ n3_ n4_ n5_ n6_ n7_ n8_ n9_ n10_ n11_ n12_ n13_ n14_
      have SZ40 := Aside0.mk hz0
      have SZ41 := Aside0.mk hz1
      have SZ42 := Aside0.mk hz2
      have SZ43 := Aside0.mk hz3
      have SZ44 := Aside0.mk hz4
      clear hz0 hz1 hz2 hz3 hz4
      have HO37 := Aside0.mk (Kd.S_lower ho0 hs_)
      clear ho0
      obtain ⟨A_37, c_37, e_37⟩ := Kd.S_slice HO37.out
      subst e_37
      have HO38 := Aside0.mk (Kd.S_lower ho1 hs_)
      clear ho1
      obtain ⟨A_38, c_38, e_38⟩ := Kd.S_slice HO38.out
      subst e_38
      clear hb hs_
      refine hK.out _ _ ⟨cz_ BK1.out 0, cz_ BK1.out 1, cz_ BK1.out 2, cz_ BK2.out 0, cz_ BK2.out 1, cz_ BK2.out 2, cz_ BK12.out 0, cz_ BK12.out 1, cz_ BK12.out 2, cz_ BK12.out 3, cz_ BK12.out 4, cz_ BK16.out 0, cz_ BK16.out 1, cz_ BK16.out 2, cz_ BK19.out 0, cz_ BK19.out 1, cz_ BK19.out 2, cz_ BK22.out 0, cz_ BK22.out 1, cz_ BK22.out 2, cz_ BK22.out 3, cz_ BK22.out 4⟩ (fun hHeld => ?_)
      clear hK K
      refine norm_ (a' := ?_) ?_ ?_
      rotate_left
      · show Act.put _ (some 96) _ = _
        simp only [Act.put, List.setIfInBounds_toArray, List.set_cons_zero, List.set_cons_succ, i64_w, i32_w]
        rfl
      refine two_ (i := 3) (j := 8) (Ni := some 98) (Nj := some 15) #[true, true, true, true, false, false, false, false, false, false, false] #[true, true, true, false, false, false, false, false, true, false, false] rfl rfl rfl rfl (two_of HT_.out (by kernel_rfl)) (by decide) (by decide) (fun K hK => ?_) (fun K hK => ?_)
      · skip
        refine goes_ Try.func9 (by kernel_rfl) rfl #[.agg #[.int .i64 a1_0, .int .i64 a1_1, .slice A1_2 l1_2.length c1_2]] (by rfl) rfl rfl (by (try simp only [List.map_toArray, List.map_cons, List.map_nil]); first | done | rfl) ?_
        (with_reducible refine (laws_toField.calls k a1_0 a1_1 _ _ l1_2 t39_0 t39_1 t39_2 _ ?sd39_1 ?sd39_2 A39.out).mono ?_)
        (case sd39_1 => exact Kd.C_below HR1_2.out HB.out)
        (case sd39_2 => exact HC1_2.out)
        rintro e w1039 ⟨v_40, rfl, ho0, hb⟩
        refine ⟨_, rfl, ?_⟩
        have hs_ := below_size HB.out
        have n0_ := Aside0.mk (below_step HB.out hb)
        have n1_ := Aside0.mk (Kd.R_below HO11.out hb)
        have n2_ := Aside0.mk (Kd.S_below HO14.out hb)
        have n3_ := Aside0.mk (Kd.S_below HO15.out hb)
        have n4_ := Aside0.mk (Kd.R_below HO18.out hb)
        have n5_ := Aside0.mk (Kd.R_below HO21.out hb)
        have n6_ := Aside0.mk (Kd.S_below HO25.out hb)
        have n7_ := Aside0.mk (Kd.S_below HO26.out hb)
        have n8_ := Aside0.mk (Kd.R_below HO29.out hb)
        have n9_ := Aside0.mk (Kd.S_below HO37.out hb)
        have n10_ := Aside0.mk (Kd.S_below HO38.out hb)
        have n11_ := Aside0.mk (blk_below BK1.out hb)
        have n12_ := Aside0.mk (blk_below BK2.out hb)
        have n13_ := Aside0.mk (blk_below BK12.out hb)
        have n14_ := Aside0.mk (blk_below BK16.out hb)
        have n15_ := Aside0.mk (blk_below BK19.out hb)
        have n16_ := Aside0.mk (blk_below BK22.out hb)
        have SZ45 := Aside0.mk (show w1036.heap.size ≤ w1039.heap.size from (hb).size)
        clear HB HO11 HO14 HO15 HO18 HO21 HO25 HO26 HO29 HO37 HO38 BK1 BK2 BK12 BK16 BK19 BK22
        have HB := n0_
        have HO11 := n1_
        have HO14 := n2_
        have HO15 := n3_
        have HO18 := n4_
        have HO21 := n5_
        have HO25 := n6_
        have HO26 := n7_
        have HO29 := n8_
        have HO37 := n9_
        have HO38 := n10_
        have BK1 := n11_
        have BK2 := n12_
        have BK12 := n13_
        have BK16 := n14_
        have BK19 := n15_
        have BK22 := n16_
        clear n0_ n1_ n2_ n3_ n4_ n5_ n6_ n7_ n8_ n9_ n10_ n11_ n12_ n13_ n14_ n15_ n16_
        have HO40 := Aside0.mk (R_zone ho0 hs_)
        clear ho0
        obtain ⟨A_40, c_40, e_40⟩ := Kd.R_slice HO40.out
        subst e_40
        clear hb hs_
        refine hK.out _ _ ⟨cz_ BK1.out 0, cz_ BK1.out 1, cz_ BK1.out 2, cz_ BK2.out 0, cz_ BK2.out 1, cz_ BK2.out 2, cz_ BK12.out 0, cz_ BK12.out 1, cz_ BK12.out 2, cz_ BK12.out 3, cz_ BK12.out 4, cz_ BK16.out 0, cz_ BK16.out 1, cz_ BK16.out 2, cz_ BK19.out 0, cz_ BK19.out 1, cz_ BK19.out 2, cz_ BK22.out 0, cz_ BK22.out 1, cz_ BK22.out 2, cz_ BK22.out 3, cz_ BK22.out 4⟩ (fun hHeld => ?_)
        clear hK K
        refine norm_ (a' := ?_) ?_ ?_
        rotate_left
        · show Act.put _ (some 98) _ = _
          simp only [Act.put, List.setIfInBounds_toArray, List.set_cons_zero, List.set_cons_succ, i64_w, i32_w]
          rfl
        refine two_ (i := 4) (j := 8) (Ni := some 99) (Nj := some 15) #[true, true, true, true, true, false, false, false, false, false, false] #[true, true, true, true, false, false, false, false, true, false, false] rfl rfl rfl rfl (two_of HT_.out (by kernel_rfl)) (by decide) (by decide) (fun K hK => ?_) (fun K hK => ?_)
        · skip
          refine goes_ Try.func19 (by kernel_rfl) rfl #[.agg #[.int .i64 t36_0, .slice A_37 t36_1.length c_37, .slice A_38 t36_2.length c_38], .agg #[.int .i64 t39_0, .int .i64 t39_1, .slice A_40 t39_2.length c_40]] (by rfl) rfl rfl (by (try simp only [List.map_toArray, List.map_cons, List.map_nil]); first | done | rfl) ?_
          (with_reducible refine (impl_FillField.calls k t36_0 _ _ t36_1 _ _ t36_2 t39_0 t39_1 _ _ t39_2 t41_0 t41_1 t41_2 t41_3 t41_4 t41_5 _ ?sd41_1 ?sd41_2 ?sd41_3 ?sd41_4 ?sd41_5 ?sd41_6 A41.out).mono ?_)
          (case sd41_1 => exact (Kd.S_reads' HO37.out).2.2)
          (case sd41_2 => exact (Kd.S_reads' HO37.out).2.1)
          (case sd41_3 => exact (Kd.S_reads' HO38.out).2.2)
          (case sd41_4 => exact (Kd.S_reads' HO38.out).2.1)
          (case sd41_5 => exact (Kd.R_reads' HO40.out).2.2)
          (case sd41_6 => exact (Kd.R_reads' HO40.out).2.1)
          rintro e w1041 ⟨v_42, rfl, ho0, hb⟩
          refine ⟨_, rfl, ?_⟩
          have hs_ := below_size HB.out
          have n0_ := Aside0.mk (below_step HB.out hb)
          have n1_ := Aside0.mk (Kd.R_below HO11.out hb)
          have n2_ := Aside0.mk (Kd.S_below HO14.out hb)
          have n3_ := Aside0.mk (Kd.S_below HO15.out hb)
          have n4_ := Aside0.mk (Kd.R_below HO18.out hb)
          have n5_ := Aside0.mk (Kd.R_below HO21.out hb)
          have n6_ := Aside0.mk (Kd.S_below HO25.out hb)
          have n7_ := Aside0.mk (Kd.S_below HO26.out hb)
          have n8_ := Aside0.mk (Kd.R_below HO29.out hb)
          have n9_ := Aside0.mk (Kd.S_below HO37.out hb)
          have n10_ := Aside0.mk (Kd.S_below HO38.out hb)
          have n11_ := Aside0.mk (Kd.R_below HO40.out hb)
          have n12_ := Aside0.mk (blk_below BK1.out hb)
          have n13_ := Aside0.mk (blk_below BK2.out hb)
          have n14_ := Aside0.mk (blk_below BK12.out hb)
          have n15_ := Aside0.mk (blk_below BK16.out hb)
          have n16_ := Aside0.mk (blk_below BK19.out hb)
          have n17_ := Aside0.mk (blk_below BK22.out hb)
          have SZ46 := Aside0.mk (show w1039.heap.size ≤ w1041.heap.size from (hb).size)
          clear HB HO11 HO14 HO15 HO18 HO21 HO25 HO26 HO29 HO37 HO38 HO40 BK1 BK2 BK12 BK16 BK19 BK22
          have HB := n0_
          have HO11 := n1_
          have HO14 := n2_
          have HO15 := n3_
          have HO18 := n4_
          have HO21 := n5_
          have HO25 := n6_
          have HO26 := n7_
          have HO29 := n8_
          have HO37 := n9_
          have HO38 := n10_
          have HO40 := n11_
          have BK1 := n12_
          have BK2 := n13_
          have BK12 := n14_
          have BK16 := n15_
          have BK19 := n16_
          have BK22 := n17_
          clear n0_ n1_ n2_ n3_ n4_ n5_ n6_ n7_ n8_ n9_ n10_ n11_ n12_ n13_ n14_ n15_ n16_ n17_
          have HO42 := Aside0.mk (R_zone ho0 hs_)
          clear ho0
          obtain ⟨A_42, c_42, e_42⟩ := Kd.R_slice HO42.out
          subst e_42
          clear hb hs_
          refine hK.out _ _ ⟨cz_ BK1.out 0, cz_ BK1.out 1, cz_ BK1.out 2, cz_ BK2.out 0, cz_ BK2.out 1, cz_ BK2.out 2, cz_ BK12.out 0, cz_ BK12.out 1, cz_ BK12.out 2, cz_ BK12.out 3, cz_ BK12.out 4, cz_ BK16.out 0, cz_ BK16.out 1, cz_ BK16.out 2, cz_ BK19.out 0, cz_ BK19.out 1, cz_ BK19.out 2, cz_ BK22.out 0, cz_ BK22.out 1, cz_ BK22.out 2, cz_ BK22.out 3, cz_ BK22.out 4⟩ (fun hHeld => ?_)
          clear hK K
          refine norm_ (a' := ?_) ?_ ?_
          rotate_left
          · show Act.put _ (some 99) _ = _
            simp only [Act.put, List.setIfInBounds_toArray, List.set_cons_zero, List.set_cons_succ, i64_w, i32_w]
            rfl
          refine pure_ (i := 5) (N := some 94) (v := ?_) (a' := ?_) #[true, true, true, true, true, true, false, false, false, false, false] rfl rfl (any_of HT_.out (by kernel_rfl)) (fun _ _ _ h => h) (Or.inl ⟨by rfl, ?_⟩) ?_ ?_
          rotate_left
          · intro w'
            go_simp
            with_reducible rfl
          rotate_left
          · simp only [Act.put, List.setIfInBounds_toArray, List.set_cons_zero, List.set_cons_succ, i64_w, i32_w]
            rfl
          refine pure_ (i := 6) (N := some 100) (v := ?_) (a' := ?_) #[true, true, true, true, true, true, true, false, false, false, false] rfl rfl (any_of HT_.out (by kernel_rfl)) (fun _ _ _ h => h) (Or.inl ⟨by rfl, ?_⟩) ?_ ?_
          rotate_left
          · intro w'
            go_simp
            with_reducible rfl
          rotate_left
          · simp only [Act.put, List.setIfInBounds_toArray, List.set_cons_zero, List.set_cons_succ, i64_w, i32_w]
            rfl
          refine pure_ (i := 7) (N := some 101) (v := ?_) (a' := ?_) #[true, true, true, true, true, true, true, true, false, false, false] rfl rfl (any_of HT_.out (by kernel_rfl)) (fun _ _ _ h => h) (Or.inl ⟨by rfl, ?_⟩) ?_ ?_
          rotate_left
          · intro w'
            go_simp
            with_reducible rfl
          rotate_left
          · simp only [Act.put, List.setIfInBounds_toArray, List.set_cons_zero, List.set_cons_succ, i64_w, i32_w]
            rfl
          refine oS_ 8 15 HT_ (fun K hK => ?_)
          refine box_step ?hg (N := 15) ?hd (cs := #[.bool false, .int .i64 0, .int .i64 0, .slice none 0 0, .int .i64 0]) (t := 44) ?hr ?_; (case hd => rfl); (case hg => rfl); (case hr => first | (go_simp; done) | (go_simp; rfl))
          intro g43 hg w1043 hbox hb
          have n0_ := Aside0.mk (below_step HB.out hb)
          have n1_ := Aside0.mk (Kd.R_below HO11.out hb)
          have n2_ := Aside0.mk (Kd.S_below HO14.out hb)
          have n3_ := Aside0.mk (Kd.S_below HO15.out hb)
          have n4_ := Aside0.mk (Kd.R_below HO18.out hb)
          have n5_ := Aside0.mk (Kd.R_below HO21.out hb)
          have n6_ := Aside0.mk (Kd.S_below HO25.out hb)
          have n7_ := Aside0.mk (Kd.S_below HO26.out hb)
          have n8_ := Aside0.mk (Kd.R_below HO29.out hb)
          have n9_ := Aside0.mk (Kd.S_below HO37.out hb)
          have n10_ := Aside0.mk (Kd.S_below HO38.out hb)
          have n11_ := Aside0.mk (Kd.R_below HO40.out hb)
          have n12_ := Aside0.mk (Kd.R_below HO42.out hb)
          have n13_ := Aside0.mk (blk_below BK1.out hb)
          have n14_ := Aside0.mk (blk_below BK2.out hb)
          have n15_ := Aside0.mk (blk_below BK12.out hb)
          have n16_ := Aside0.mk (blk_below BK16.out hb)
          have n17_ := Aside0.mk (blk_below BK19.out hb)
          have n18_ := Aside0.mk (blk_below BK22.out hb)
          have SZ47 := Aside0.mk (show w1041.heap.size ≤ w1043.heap.size from (hb).size)
          clear HB HO11 HO14 HO15 HO18 HO21 HO25 HO26 HO29 HO37 HO38 HO40 HO42 BK1 BK2 BK12 BK16 BK19 BK22
          have HB := n0_
          have HO11 := n1_
          have HO14 := n2_
          have HO15 := n3_
          have HO18 := n4_
          have HO21 := n5_
          have HO25 := n6_
          have HO26 := n7_
          have HO29 := n8_
          have HO37 := n9_
          have HO38 := n10_
          have HO40 := n11_
          have HO42 := n12_
          have BK1 := n13_
          have BK2 := n14_
          have BK12 := n15_
          have BK16 := n16_
          have BK19 := n17_
          have BK22 := n18_
          clear n0_ n1_ n2_ n3_ n4_ n5_ n6_ n7_ n8_ n9_ n10_ n11_ n12_ n13_ n14_ n15_ n16_ n17_ n18_
          have BK43 := Aside0.mk hbox
          have GL43 := Aside0.mk (show w1041.heap.size ≤ g43 from Nat.le_of_eq hg.symm)
          have GU43 := Aside0.mk (blk_lt hbox)
          clear hbox hg hb
          refine hK.out _ _ ⟨cz_ BK1.out 0, cz_ BK1.out 1, cz_ BK1.out 2, cz_ BK2.out 0, cz_ BK2.out 1, cz_ BK2.out 2, cz_ BK12.out 0, cz_ BK12.out 1, cz_ BK12.out 2, cz_ BK12.out 3, cz_ BK12.out 4, cz_ BK16.out 0, cz_ BK16.out 1, cz_ BK16.out 2, cz_ BK19.out 0, cz_ BK19.out 1, cz_ BK19.out 2, cz_ BK22.out 0, cz_ BK22.out 1, cz_ BK22.out 2, cz_ BK22.out 3, cz_ BK22.out 4⟩ (fun hHeld => ?_)
          clear hK K
          refine norm_ (a' := ?_) ?_ ?_
          rotate_left
          · show Act.put _ (some 15) _ = _
            simp only [Act.put, List.setIfInBounds_toArray, List.set_cons_zero, List.set_cons_succ, i64_w, i32_w]
            rfl
          exact norm_ (by first | (simp only [putAll, Act.put, List.setIfInBounds_toArray, List.set_cons_zero, List.set_cons_succ]; done) | (simp only [putAll, Act.put, List.setIfInBounds_toArray, List.set_cons_zero, List.set_cons_succ]; rfl)) (hCont ((.agg #[.int .i64 t36_0, .slice A_37 t36_1.length c_37, .slice A_38 t36_2.length c_38]), (.agg #[.int .i64 t39_0, .int .i64 t39_1, .slice A_40 t39_2.length c_40]), A_42, c_42, w1039, w1041, g43) _ ⟨HB.out, HO11.out, HO14.out, HO15.out, HO18.out, HO21.out, HO25.out, HO26.out, HO29.out, BK1.out, BK2.out, BK12.out, BK16.out, BK19.out, BK22.out, HO42.out, BK43.out, (show w3034.heap.size ≤ w1039.heap.size by first | exact Nat.le_refl _ | (have := SZ40.out; have := SZ41.out; have := SZ42.out; have := SZ43.out; have := SZ44.out; have := SZ45.out; omega)), (show w1039.heap.size ≤ w1041.heap.size by first | exact Nat.le_refl _ | (have := SZ46.out; omega)), (show w1041.heap.size ≤ w1043.heap.size by first | exact Nat.le_refl _ | (have := SZ47.out; omega)), (show w1041.heap.size ≤ g43 ∨ g43 < w1039.heap.size by have := GL43.out; have := GU43.out; omega), (show w3034.heap.size ≤ g43 by have := GL43.out; have := SZ40.out; have := SZ41.out; have := SZ42.out; have := SZ43.out; have := SZ44.out; have := SZ45.out; have := SZ46.out; omega), (show g43 < w1043.heap.size by have := GU43.out; omega)⟩)
        · skip
          refine box_step ?hg (N := 15) ?hd (cs := #[.bool false, .int .i64 0, .int .i64 0, .slice none 0 0, .int .i64 0]) (t := 44) ?hr ?_; (case hd => rfl); (case hg => rfl); (case hr => first | (go_simp; done) | (go_simp; rfl))
          intro g43 hg w1043 hbox hb
          have n0_ := Aside0.mk (below_step HB.out hb)
          have n1_ := Aside0.mk (Kd.R_below HO11.out hb)
          have n2_ := Aside0.mk (Kd.S_below HO14.out hb)
          have n3_ := Aside0.mk (Kd.S_below HO15.out hb)
          have n4_ := Aside0.mk (Kd.R_below HO18.out hb)
          have n5_ := Aside0.mk (Kd.R_below HO21.out hb)
          have n6_ := Aside0.mk (Kd.S_below HO25.out hb)
          have n7_ := Aside0.mk (Kd.S_below HO26.out hb)
          have n8_ := Aside0.mk (Kd.R_below HO29.out hb)
          have n9_ := Aside0.mk (Kd.S_below HO37.out hb)
          have n10_ := Aside0.mk (Kd.S_below HO38.out hb)
          have n11_ := Aside0.mk (Kd.R_below HO40.out hb)
          have n12_ := Aside0.mk (blk_below BK1.out hb)
          have n13_ := Aside0.mk (blk_below BK2.out hb)
          have n14_ := Aside0.mk (blk_below BK12.out hb)
          have n15_ := Aside0.mk (blk_below BK16.out hb)
          have n16_ := Aside0.mk (blk_below BK19.out hb)
          have n17_ := Aside0.mk (blk_below BK22.out hb)
          have SZ46 := Aside0.mk (show w1039.heap.size ≤ w1043.heap.size from (hb).size)
          clear HB HO11 HO14 HO15 HO18 HO21 HO25 HO26 HO29 HO37 HO38 HO40 BK1 BK2 BK12 BK16 BK19 BK22
          have HB := n0_
          have HO11 := n1_
          have HO14 := n2_
          have HO15 := n3_
          have HO18 := n4_
          have HO21 := n5_
          have HO25 := n6_
          have HO26 := n7_
          have HO29 := n8_
          have HO37 := n9_
          have HO38 := n10_
          have HO40 := n11_
          have BK1 := n12_
          have BK2 := n13_
          have BK12 := n14_
          have BK16 := n15_
          have BK19 := n16_
          have BK22 := n17_
          clear n0_ n1_ n2_ n3_ n4_ n5_ n6_ n7_ n8_ n9_ n10_ n11_ n12_ n13_ n14_ n15_ n16_ n17_
          have BK43 := Aside0.mk hbox
          have GL43 := Aside0.mk (show w1039.heap.size ≤ g43 from Nat.le_of_eq hg.symm)
          have GU43 := Aside0.mk (blk_lt hbox)
          clear hbox hg hb
          refine hK.out _ _ ⟨cz_ BK1.out 0, cz_ BK1.out 1, cz_ BK1.out 2, cz_ BK2.out 0, cz_ BK2.out 1, cz_ BK2.out 2, cz_ BK12.out 0, cz_ BK12.out 1, cz_ BK12.out 2, cz_ BK12.out 3, cz_ BK12.out 4, cz_ BK16.out 0, cz_ BK16.out 1, cz_ BK16.out 2, cz_ BK19.out 0, cz_ BK19.out 1, cz_ BK19.out 2, cz_ BK22.out 0, cz_ BK22.out 1, cz_ BK22.out 2, cz_ BK22.out 3, cz_ BK22.out 4⟩ (fun hHeld => ?_)
          clear hK K
          refine norm_ (a' := ?_) ?_ ?_
          rotate_left
          · show Act.put _ (some 15) _ = _
            simp only [Act.put, List.setIfInBounds_toArray, List.set_cons_zero, List.set_cons_succ, i64_w, i32_w]
            rfl
          refine oS_ 4 99 HT_ (fun K hK => ?_)
          refine goes_ Try.func19 (by kernel_rfl) rfl #[.agg #[.int .i64 t36_0, .slice A_37 t36_1.length c_37, .slice A_38 t36_2.length c_38], .agg #[.int .i64 t39_0, .int .i64 t39_1, .slice A_40 t39_2.length c_40]] (by rfl) rfl rfl (by (try simp only [List.map_toArray, List.map_cons, List.map_nil]); first | done | rfl) ?_
          (with_reducible refine (impl_FillField.calls k t36_0 _ _ t36_1 _ _ t36_2 t39_0 t39_1 _ _ t39_2 t41_0 t41_1 t41_2 t41_3 t41_4 t41_5 _ ?sd41_1 ?sd41_2 ?sd41_3 ?sd41_4 ?sd41_5 ?sd41_6 A41.out).mono ?_)
          (case sd41_1 => exact (Kd.S_reads' HO37.out).2.2)
          (case sd41_2 => exact (Kd.S_reads' HO37.out).2.1)
          (case sd41_3 => exact (Kd.S_reads' HO38.out).2.2)
          (case sd41_4 => exact (Kd.S_reads' HO38.out).2.1)
          (case sd41_5 => exact (Kd.R_reads' HO40.out).2.2)
          (case sd41_6 => exact (Kd.R_reads' HO40.out).2.1)
          rintro e w1041 ⟨v_42, rfl, ho0, hb⟩
          refine ⟨_, rfl, ?_⟩
          have hs_ := below_size HB.out
          have n0_ := Aside0.mk (below_step HB.out hb)
          have n1_ := Aside0.mk (Kd.R_below HO11.out hb)
          have n2_ := Aside0.mk (Kd.S_below HO14.out hb)
          have n3_ := Aside0.mk (Kd.S_below HO15.out hb)
          have n4_ := Aside0.mk (Kd.R_below HO18.out hb)
          have n5_ := Aside0.mk (Kd.R_below HO21.out hb)
          have n6_ := Aside0.mk (Kd.S_below HO25.out hb)
          have n7_ := Aside0.mk (Kd.S_below HO26.out hb)
          have n8_ := Aside0.mk (Kd.R_below HO29.out hb)
          have n9_ := Aside0.mk (Kd.S_below HO37.out hb)
          have n10_ := Aside0.mk (Kd.S_below HO38.out hb)
          have n11_ := Aside0.mk (Kd.R_below HO40.out hb)
          have n12_ := Aside0.mk (blk_below BK1.out hb)
          have n13_ := Aside0.mk (blk_below BK2.out hb)
          have n14_ := Aside0.mk (blk_below BK12.out hb)
          have n15_ := Aside0.mk (blk_below BK16.out hb)
          have n16_ := Aside0.mk (blk_below BK19.out hb)
          have n17_ := Aside0.mk (blk_below BK22.out hb)
          have n18_ := Aside0.mk (blk_below BK43.out hb)
          have SZ47 := Aside0.mk (show w1043.heap.size ≤ w1041.heap.size from (hb).size)
          clear HB HO11 HO14 HO15 HO18 HO21 HO25 HO26 HO29 HO37 HO38 HO40 BK1 BK2 BK12 BK16 BK19 BK22 BK43
          have HB := n0_
          have HO11 := n1_
          have HO14 := n2_
          have HO15 := n3_
          have HO18 := n4_
          have HO21 := n5_
          have HO25 := n6_
          have HO26 := n7_
          have HO29 := n8_
          have HO37 := n9_
          have HO38 := n10_
          have HO40 := n11_
          have BK1 := n12_
          have BK2 := n13_
          have BK12 := n14_
          have BK16 := n15_
          have BK19 := n16_
          have BK22 := n17_
          have BK43 := n18_
          clear n0_ n1_ n2_ n3_ n4_ n5_ n6_ n7_ n8_ n9_ n10_ n11_ n12_ n13_ n14_ n15_ n16_ n17_ n18_
          have HO42 := Aside0.mk (R_zone ho0 hs_)
          clear ho0
          obtain ⟨A_42, c_42, e_42⟩ := Kd.R_slice HO42.out
          subst e_42
          clear hb hs_
          refine hK.out _ _ ⟨cz_ BK1.out 0, cz_ BK1.out 1, cz_ BK1.out 2, cz_ BK2.out 0, cz_ BK2.out 1, cz_ BK2.out 2, cz_ BK12.out 0, cz_ BK12.out 1, cz_ BK12.out 2, cz_ BK12.out 3, cz_ BK12.out 4, cz_ BK16.out 0, cz_ BK16.out 1, cz_ BK16.out 2, cz_ BK19.out 0, cz_ BK19.out 1, cz_ BK19.out 2, cz_ BK22.out 0, cz_ BK22.out 1, cz_ BK22.out 2, cz_ BK22.out 3, cz_ BK22.out 4⟩ (fun hHeld => ?_)
          clear hK K
          refine norm_ (a' := ?_) ?_ ?_
          rotate_left
          · show Act.put _ (some 99) _ = _
            simp only [Act.put, List.setIfInBounds_toArray, List.set_cons_zero, List.set_cons_succ, i64_w, i32_w]
            rfl
          refine pure_ (i := 5) (N := some 94) (v := ?_) (a' := ?_) #[true, true, true, true, true, true, false, false, true, false, false] rfl rfl (any_of HT_.out (by kernel_rfl)) (fun _ _ _ h => h) (Or.inl ⟨by rfl, ?_⟩) ?_ ?_
          rotate_left
          · intro w'
            go_simp
            with_reducible rfl
          rotate_left
          · simp only [Act.put, List.setIfInBounds_toArray, List.set_cons_zero, List.set_cons_succ, i64_w, i32_w]
            rfl
          refine pure_ (i := 6) (N := some 100) (v := ?_) (a' := ?_) #[true, true, true, true, true, true, true, false, true, false, false] rfl rfl (any_of HT_.out (by kernel_rfl)) (fun _ _ _ h => h) (Or.inl ⟨by rfl, ?_⟩) ?_ ?_
          rotate_left
          · intro w'
            go_simp
            with_reducible rfl
          rotate_left
          · simp only [Act.put, List.setIfInBounds_toArray, List.set_cons_zero, List.set_cons_succ, i64_w, i32_w]
            rfl
          refine pure_ (i := 7) (N := some 101) (v := ?_) (a' := ?_) #[true, true, true, true, true, true, true, true, true, false, false] rfl rfl (any_of HT_.out (by kernel_rfl)) (fun _ _ _ h => h) (Or.inl ⟨by rfl, ?_⟩) ?_ ?_
          rotate_left
          · intro w'
            go_simp
            with_reducible rfl
          rotate_left
          · simp only [Act.put, List.setIfInBounds_toArray, List.set_cons_zero, List.set_cons_succ, i64_w, i32_w]
            rfl
          exact norm_ (by first | (simp only [putAll, Act.put, List.setIfInBounds_toArray, List.set_cons_zero, List.set_cons_succ]; done) | (simp only [putAll, Act.put, List.setIfInBounds_toArray, List.set_cons_zero, List.set_cons_succ]; rfl)) (hCont ((.agg #[.int .i64 t36_0, .slice A_37 t36_1.length c_37, .slice A_38 t36_2.length c_38]), (.agg #[.int .i64 t39_0, .int .i64 t39_1, .slice A_40 t39_2.length c_40]), A_42, c_42, w1043, w1041, g43) _ ⟨HB.out, HO11.out, HO14.out, HO15.out, HO18.out, HO21.out, HO25.out, HO26.out, HO29.out, BK1.out, BK2.out, BK12.out, BK16.out, BK19.out, BK22.out, HO42.out, BK43.out, (show w3034.heap.size ≤ w1043.heap.size by first | exact Nat.le_refl _ | (have := SZ40.out; have := SZ41.out; have := SZ42.out; have := SZ43.out; have := SZ44.out; have := SZ45.out; have := SZ46.out; omega)), (show w1043.heap.size ≤ w1041.heap.size by first | exact Nat.le_refl _ | (have := SZ47.out; omega)), (show w1041.heap.size ≤ w1041.heap.size by first | exact Nat.le_refl _ | (omega)), (show w1041.heap.size ≤ g43 ∨ g43 < w1043.heap.size by have := GL43.out; have := GU43.out; omega), (show w3034.heap.size ≤ g43 by have := GL43.out; have := SZ40.out; have := SZ41.out; have := SZ42.out; have := SZ43.out; have := SZ44.out; have := SZ45.out; omega), (show g43 < w1041.heap.size by have := GU43.out; have := SZ47.out; omega)⟩)
      · skip
        refine box_step ?hg (N := 15) ?hd (cs := #[.bool false, .int .i64 0, .int .i64 0, .slice none 0 0, .int .i64 0]) (t := 44) ?hr ?_; (case hd => rfl); (case hg => rfl); (case hr => first | (go_simp; done) | (go_simp; rfl))
        intro g43 hg w1043 hbox hb
        have n0_ := Aside0.mk (below_step HB.out hb)
        have n1_ := Aside0.mk (Kd.R_below HO11.out hb)
        have n2_ := Aside0.mk (Kd.S_below HO14.out hb)
        have n3_ := Aside0.mk (Kd.S_below HO15.out hb)
        have n4_ := Aside0.mk (Kd.R_below HO18.out hb)
        have n5_ := Aside0.mk (Kd.R_below HO21.out hb)
        have n6_ := Aside0.mk (Kd.S_below HO25.out hb)
        have n7_ := Aside0.mk (Kd.S_below HO26.out hb)
        have n8_ := Aside0.mk (Kd.R_below HO29.out hb)
        have n9_ := Aside0.mk (Kd.S_below HO37.out hb)
        have n10_ := Aside0.mk (Kd.S_below HO38.out hb)
        have n11_ := Aside0.mk (blk_below BK1.out hb)
        have n12_ := Aside0.mk (blk_below BK2.out hb)
        have n13_ := Aside0.mk (blk_below BK12.out hb)
        have n14_ := Aside0.mk (blk_below BK16.out hb)
        have n15_ := Aside0.mk (blk_below BK19.out hb)
        have n16_ := Aside0.mk (blk_below BK22.out hb)
        have SZ45 := Aside0.mk (show w1036.heap.size ≤ w1043.heap.size from (hb).size)
        clear HB HO11 HO14 HO15 HO18 HO21 HO25 HO26 HO29 HO37 HO38 BK1 BK2 BK12 BK16 BK19 BK22
        have HB := n0_
        have HO11 := n1_
        have HO14 := n2_
        have HO15 := n3_
        have HO18 := n4_
        have HO21 := n5_
        have HO25 := n6_
        have HO26 := n7_
        have HO29 := n8_
        have HO37 := n9_
        have HO38 := n10_
        have BK1 := n11_
        have BK2 := n12_
        have BK12 := n13_
        have BK16 := n14_
        have BK19 := n15_
        have BK22 := n16_
        clear n0_ n1_ n2_ n3_ n4_ n5_ n6_ n7_ n8_ n9_ n10_ n11_ n12_ n13_ n14_ n15_ n16_
        have BK43 := Aside0.mk hbox
        have GL43 := Aside0.mk (show w1036.heap.size ≤ g43 from Nat.le_of_eq hg.symm)
        have GU43 := Aside0.mk (blk_lt hbox)
        clear hbox hg hb
        refine hK.out _ _ ⟨cz_ BK1.out 0, cz_ BK1.out 1, cz_ BK1.out 2, cz_ BK2.out 0, cz_ BK2.out 1, cz_ BK2.out 2, cz_ BK12.out 0, cz_ BK12.out 1, cz_ BK12.out 2, cz_ BK12.out 3, cz_ BK12.out 4, cz_ BK16.out 0, cz_ BK16.out 1, cz_ BK16.out 2, cz_ BK19.out 0, cz_ BK19.out 1, cz_ BK19.out 2, cz_ BK22.out 0, cz_ BK22.out 1, cz_ BK22.out 2, cz_ BK22.out 3, cz_ BK22.out 4⟩ (fun hHeld => ?_)
        clear hK K
        refine norm_ (a' := ?_) ?_ ?_
        rotate_left
        · show Act.put _ (some 15) _ = _
          simp only [Act.put, List.setIfInBounds_toArray, List.set_cons_zero, List.set_cons_succ, i64_w, i32_w]
          rfl
        refine oS_ 3 98 HT_ (fun K hK => ?_)
        refine goes_ Try.func9 (by kernel_rfl) rfl #[.agg #[.int .i64 a1_0, .int .i64 a1_1, .slice A1_2 l1_2.length c1_2]] (by rfl) rfl rfl (by (try simp only [List.map_toArray, List.map_cons, List.map_nil]); first | done | rfl) ?_
        (with_reducible refine (laws_toField.calls k a1_0 a1_1 _ _ l1_2 t39_0 t39_1 t39_2 _ ?sd39_1 ?sd39_2 A39.out).mono ?_)
        (case sd39_1 => exact Kd.C_below HR1_2.out HB.out)
        (case sd39_2 => exact HC1_2.out)
        rintro e w1039 ⟨v_40, rfl, ho0, hb⟩
        refine ⟨_, rfl, ?_⟩
        have hs_ := below_size HB.out
        have n0_ := Aside0.mk (below_step HB.out hb)
        have n1_ := Aside0.mk (Kd.R_below HO11.out hb)
        have n2_ := Aside0.mk (Kd.S_below HO14.out hb)
        have n3_ := Aside0.mk (Kd.S_below HO15.out hb)
        have n4_ := Aside0.mk (Kd.R_below HO18.out hb)
        have n5_ := Aside0.mk (Kd.R_below HO21.out hb)
        have n6_ := Aside0.mk (Kd.S_below HO25.out hb)
        have n7_ := Aside0.mk (Kd.S_below HO26.out hb)
        have n8_ := Aside0.mk (Kd.R_below HO29.out hb)
        have n9_ := Aside0.mk (Kd.S_below HO37.out hb)
        have n10_ := Aside0.mk (Kd.S_below HO38.out hb)
        have n11_ := Aside0.mk (blk_below BK1.out hb)
        have n12_ := Aside0.mk (blk_below BK2.out hb)
        have n13_ := Aside0.mk (blk_below BK12.out hb)
        have n14_ := Aside0.mk (blk_below BK16.out hb)
        have n15_ := Aside0.mk (blk_below BK19.out hb)
        have n16_ := Aside0.mk (blk_below BK22.out hb)
        have n17_ := Aside0.mk (blk_below BK43.out hb)
        have SZ46 := Aside0.mk (show w1043.heap.size ≤ w1039.heap.size from (hb).size)
        clear HB HO11 HO14 HO15 HO18 HO21 HO25 HO26 HO29 HO37 HO38 BK1 BK2 BK12 BK16 BK19 BK22 BK43
        have HB := n0_
        have HO11 := n1_
        have HO14 := n2_
        have HO15 := n3_
        have HO18 := n4_
        have HO21 := n5_
        have HO25 := n6_
        have HO26 := n7_
        have HO29 := n8_
        have HO37 := n9_
        have HO38 := n10_
        have BK1 := n11_
        have BK2 := n12_
        have BK12 := n13_
        have BK16 := n14_
        have BK19 := n15_
        have BK22 := n16_
        have BK43 := n17_
        clear n0_ n1_ n2_ n3_ n4_ n5_ n6_ n7_ n8_ n9_ n10_ n11_ n12_ n13_ n14_ n15_ n16_ n17_
        have HO40 := Aside0.mk (R_zone ho0 hs_)
        clear ho0
        obtain ⟨A_40, c_40, e_40⟩ := Kd.R_slice HO40.out
        subst e_40
        clear hb hs_
        refine hK.out _ _ ⟨cz_ BK1.out 0, cz_ BK1.out 1, cz_ BK1.out 2, cz_ BK2.out 0, cz_ BK2.out 1, cz_ BK2.out 2, cz_ BK12.out 0, cz_ BK12.out 1, cz_ BK12.out 2, cz_ BK12.out 3, cz_ BK12.out 4, cz_ BK16.out 0, cz_ BK16.out 1, cz_ BK16.out 2, cz_ BK19.out 0, cz_ BK19.out 1, cz_ BK19.out 2, cz_ BK22.out 0, cz_ BK22.out 1, cz_ BK22.out 2, cz_ BK22.out 3, cz_ BK22.out 4⟩ (fun hHeld => ?_)
        clear hK K
        refine norm_ (a' := ?_) ?_ ?_
        rotate_left
        · show Act.put _ (some 98) _ = _
          simp only [Act.put, List.setIfInBounds_toArray, List.set_cons_zero, List.set_cons_succ, i64_w, i32_w]
          rfl
        refine oS_ 4 99 HT_ (fun K hK => ?_)
        refine goes_ Try.func19 (by kernel_rfl) rfl #[.agg #[.int .i64 t36_0, .slice A_37 t36_1.length c_37, .slice A_38 t36_2.length c_38], .agg #[.int .i64 t39_0, .int .i64 t39_1, .slice A_40 t39_2.length c_40]] (by rfl) rfl rfl (by (try simp only [List.map_toArray, List.map_cons, List.map_nil]); first | done | rfl) ?_
        (with_reducible refine (impl_FillField.calls k t36_0 _ _ t36_1 _ _ t36_2 t39_0 t39_1 _ _ t39_2 t41_0 t41_1 t41_2 t41_3 t41_4 t41_5 _ ?sd41_1 ?sd41_2 ?sd41_3 ?sd41_4 ?sd41_5 ?sd41_6 A41.out).mono ?_)
        (case sd41_1 => exact (Kd.S_reads' HO37.out).2.2)
        (case sd41_2 => exact (Kd.S_reads' HO37.out).2.1)
        (case sd41_3 => exact (Kd.S_reads' HO38.out).2.2)
        (case sd41_4 => exact (Kd.S_reads' HO38.out).2.1)
        (case sd41_5 => exact (Kd.R_reads' HO40.out).2.2)
        (case sd41_6 => exact (Kd.R_reads' HO40.out).2.1)
        rintro e w1041 ⟨v_42, rfl, ho0, hb⟩
        refine ⟨_, rfl, ?_⟩
        have hs_ := below_size HB.out
        have n0_ := Aside0.mk (below_step HB.out hb)
        have n1_ := Aside0.mk (Kd.R_below HO11.out hb)
        have n2_ := Aside0.mk (Kd.S_below HO14.out hb)
        have n3_ := Aside0.mk (Kd.S_below HO15.out hb)
        have n4_ := Aside0.mk (Kd.R_below HO18.out hb)
        have n5_ := Aside0.mk (Kd.R_below HO21.out hb)
        have n6_ := Aside0.mk (Kd.S_below HO25.out hb)
        have n7_ := Aside0.mk (Kd.S_below HO26.out hb)
        have n8_ := Aside0.mk (Kd.R_below HO29.out hb)
        have n9_ := Aside0.mk (Kd.S_below HO37.out hb)
        have n10_ := Aside0.mk (Kd.S_below HO38.out hb)
        have n11_ := Aside0.mk (Kd.R_below HO40.out hb)
        have n12_ := Aside0.mk (blk_below BK1.out hb)
        have n13_ := Aside0.mk (blk_below BK2.out hb)
        have n14_ := Aside0.mk (blk_below BK12.out hb)
        have n15_ := Aside0.mk (blk_below BK16.out hb)
        have n16_ := Aside0.mk (blk_below BK19.out hb)
        have n17_ := Aside0.mk (blk_below BK22.out hb)
        have n18_ := Aside0.mk (blk_below BK43.out hb)
        have SZ47 := Aside0.mk (show w1039.heap.size ≤ w1041.heap.size from (hb).size)
        clear HB HO11 HO14 HO15 HO18 HO21 HO25 HO26 HO29 HO37 HO38 HO40 BK1 BK2 BK12 BK16 BK19 BK22 BK43
        have HB := n0_
        have HO11 := n1_
        have HO14 := n2_
        have HO15 := n3_
        have HO18 := n4_
        have HO21 := n5_
        have HO25 := n6_
        have HO26 := n7_
        have HO29 := n8_
        have HO37 := n9_
        have HO38 := n10_
        have HO40 := n11_
        have BK1 := n12_
        have BK2 := n13_
        have BK12 := n14_
        have BK16 := n15_
        have BK19 := n16_
        have BK22 := n17_
        have BK43 := n18_
        clear n0_ n1_ n2_ n3_ n4_ n5_ n6_ n7_ n8_ n9_ n10_ n11_ n12_ n13_ n14_ n15_ n16_ n17_ n18_
        have HO42 := Aside0.mk (R_zone ho0 hs_)
        clear ho0
        obtain ⟨A_42, c_42, e_42⟩ := Kd.R_slice HO42.out
        subst e_42
        clear hb hs_
        refine hK.out _ _ ⟨cz_ BK1.out 0, cz_ BK1.out 1, cz_ BK1.out 2, cz_ BK2.out 0, cz_ BK2.out 1, cz_ BK2.out 2, cz_ BK12.out 0, cz_ BK12.out 1, cz_ BK12.out 2, cz_ BK12.out 3, cz_ BK12.out 4, cz_ BK16.out 0, cz_ BK16.out 1, cz_ BK16.out 2, cz_ BK19.out 0, cz_ BK19.out 1, cz_ BK19.out 2, cz_ BK22.out 0, cz_ BK22.out 1, cz_ BK22.out 2, cz_ BK22.out 3, cz_ BK22.out 4⟩ (fun hHeld => ?_)
        clear hK K
        refine norm_ (a' := ?_) ?_ ?_
        rotate_left
        · show Act.put _ (some 99) _ = _
          simp only [Act.put, List.setIfInBounds_toArray, List.set_cons_zero, List.set_cons_succ, i64_w, i32_w]
          rfl
        refine pure_ (i := 5) (N := some 94) (v := ?_) (a' := ?_) #[true, true, true, true, true, true, false, false, true, false, false] rfl rfl (any_of HT_.out (by kernel_rfl)) (fun _ _ _ h => h) (Or.inl ⟨by rfl, ?_⟩) ?_ ?_
        rotate_left
        · intro w'
          go_simp
          with_reducible rfl
        rotate_left
        · simp only [Act.put, List.setIfInBounds_toArray, List.set_cons_zero, List.set_cons_succ, i64_w, i32_w]
          rfl
        refine pure_ (i := 6) (N := some 100) (v := ?_) (a' := ?_) #[true, true, true, true, true, true, true, false, true, false, false] rfl rfl (any_of HT_.out (by kernel_rfl)) (fun _ _ _ h => h) (Or.inl ⟨by rfl, ?_⟩) ?_ ?_
        rotate_left
        · intro w'
          go_simp
          with_reducible rfl
        rotate_left
        · simp only [Act.put, List.setIfInBounds_toArray, List.set_cons_zero, List.set_cons_succ, i64_w, i32_w]
          rfl
        refine pure_ (i := 7) (N := some 101) (v := ?_) (a' := ?_) #[true, true, true, true, true, true, true, true, true, false, false] rfl rfl (any_of HT_.out (by kernel_rfl)) (fun _ _ _ h => h) (Or.inl ⟨by rfl, ?_⟩) ?_ ?_
        rotate_left
        · intro w'
          go_simp
          with_reducible rfl
        rotate_left
        · simp only [Act.put, List.setIfInBounds_toArray, List.set_cons_zero, List.set_cons_succ, i64_w, i32_w]
          rfl
        exact norm_ (by first | (simp only [putAll, Act.put, List.setIfInBounds_toArray, List.set_cons_zero, List.set_cons_succ]; done) | (simp only [putAll, Act.put, List.setIfInBounds_toArray, List.set_cons_zero, List.set_cons_succ]; rfl)) (hCont ((.agg #[.int .i64 t36_0, .slice A_37 t36_1.length c_37, .slice A_38 t36_2.length c_38]), (.agg #[.int .i64 t39_0, .int .i64 t39_1, .slice A_40 t39_2.length c_40]), A_42, c_42, w1039, w1041, g43) _ ⟨HB.out, HO11.out, HO14.out, HO15.out, HO18.out, HO21.out, HO25.out, HO26.out, HO29.out, BK1.out, BK2.out, BK12.out, BK16.out, BK19.out, BK22.out, HO42.out, BK43.out, (show w3034.heap.size ≤ w1039.heap.size by first | exact Nat.le_refl _ | (have := SZ40.out; have := SZ41.out; have := SZ42.out; have := SZ43.out; have := SZ44.out; have := SZ45.out; have := SZ46.out; omega)), (show w1039.heap.size ≤ w1041.heap.size by first | exact Nat.le_refl _ | (have := SZ47.out; omega)), (show w1041.heap.size ≤ w1041.heap.size by first | exact Nat.le_refl _ | (omega)), (show w1041.heap.size ≤ g43 ∨ g43 < w1039.heap.size by have := GL43.out; have := GU43.out; have := SZ46.out; omega), (show w3034.heap.size ≤ g43 by have := GL43.out; have := SZ40.out; have := SZ41.out; have := SZ42.out; have := SZ43.out; have := SZ44.out; omega), (show g43 < w1041.heap.size by have := GU43.out; have := SZ46.out; have := SZ47.out; omega)⟩)
    · skip
      refine box_step ?hg (N := 15) ?hd (cs := #[.bool false, .int .i64 0, .int .i64 0, .slice none 0 0, .int .i64 0]) (t := 44) ?hr ?_; (case hd => rfl); (case hg => rfl); (case hr => first | (go_simp; done) | (go_simp; rfl))
      intro g43 hg w1043 hbox hb
      have n0_ := Aside0.mk (below_step HB.out hb)
      have n1_ := Aside0.mk (Kd.R_below HO11.out hb)
      have n2_ := Aside0.mk (Kd.S_below HO14.out hb)
      have n3_ := Aside0.mk (Kd.S_below HO15.out hb)
      have n4_ := Aside0.mk (Kd.R_below HO18.out hb)
      have n5_ := Aside0.mk (Kd.R_below HO21.out hb)
      have n6_ := Aside0.mk (Kd.S_below HO25.out hb)
      have n7_ := Aside0.mk (Kd.S_below HO26.out hb)
      have n8_ := Aside0.mk (Kd.R_below HO29.out hb)
      have n9_ := Aside0.mk (blk_below BK1.out hb)
      have n10_ := Aside0.mk (blk_below BK2.out hb)
      have n11_ := Aside0.mk (blk_below BK12.out hb)
      have n12_ := Aside0.mk (blk_below BK16.out hb)
      have n13_ := Aside0.mk (blk_below BK19.out hb)
      have n14_ := Aside0.mk (blk_below BK22.out hb)
      have SZ40 := Aside0.mk (show w3034.heap.size ≤ w1043.heap.size from (hb).size)
      clear HB HO11 HO14 HO15 HO18 HO21 HO25 HO26 HO29 BK1 BK2 BK12 BK16 BK19 BK22
      have HB := n0_
      have HO11 := n1_
      have HO14 := n2_
      have HO15 := n3_
      have HO18 := n4_
      have HO21 := n5_
      have HO25 := n6_
      have HO26 := n7_
      have HO29 := n8_
      have BK1 := n9_
      have BK2 := n10_
      have BK12 := n11_
      have BK16 := n12_
      have BK19 := n13_
      have BK22 := n14_
      clear n0_ n1_ n2_ n3_ n4_ n5_ n6_ n7_ n8_ n9_ n10_ n11_ n12_ n13_ n14_
      have BK43 := Aside0.mk hbox
      have GL43 := Aside0.mk (show w3034.heap.size ≤ g43 from Nat.le_of_eq hg.symm)
      have GU43 := Aside0.mk (blk_lt hbox)
      clear hbox hg hb
      refine hK.out _ _ ⟨cz_ BK1.out 0, cz_ BK1.out 1, cz_ BK1.out 2, cz_ BK2.out 0, cz_ BK2.out 1, cz_ BK2.out 2, cz_ BK12.out 0, cz_ BK12.out 1, cz_ BK12.out 2, cz_ BK12.out 3, cz_ BK12.out 4, cz_ BK16.out 0, cz_ BK16.out 1, cz_ BK16.out 2, cz_ BK19.out 0, cz_ BK19.out 1, cz_ BK19.out 2, cz_ BK22.out 0, cz_ BK22.out 1, cz_ BK22.out 2, cz_ BK22.out 3, cz_ BK22.out 4⟩ (fun hHeld => ?_)
      clear hK K
      refine norm_ (a' := ?_) ?_ ?_
      rotate_left
      · show Act.put _ (some 15) _ = _
        simp only [Act.put, List.setIfInBounds_toArray, List.set_cons_zero, List.set_cons_succ, i64_w, i32_w]
        rfl
      refine oS_ 1 96 HT_ (fun K hK => ?_)
      refine goes_ Try.func8 (by kernel_rfl) rfl #[.agg #[.int .i64 a0_0, .slice A0_1 l0_1.length c0_1, .slice A0_2 l0_2.length c0_2]] (by rfl) rfl rfl (by (try simp only [List.map_toArray, List.map_cons, List.map_nil]); first | done | rfl) ?_
      (with_reducible refine (laws_toRules.callsZ k a0_0 _ _ l0_1 _ _ l0_2 t36_0 t36_1 t36_2 _ ?sd36_1 ?sd36_2 ?sd36_3 ?sd36_4 A36.out).mono ?_)
      (case sd36_1 => exact Kd.C_below HR0_1.out HB.out)
      (case sd36_2 => exact HC0_1.out)
      (case sd36_3 => exact Kd.C_below HR0_2.out HB.out)
      (case sd36_4 => exact HC0_2.out)
      rintro e w1036 ⟨v_37, v_38, wz36_0a, wz36_0b, wz36_1a, wz36_1b, rfl, ho0, ho1, ⟨hz0, hz1, hz2, hz3, hz4⟩, hb⟩
      refine ⟨_, rfl, ?_⟩
      have hs_ := below_size HB.out
      have n0_ := Aside0.mk (below_step HB.out hb)
      have n1_ := Aside0.mk (Kd.R_below HO11.out hb)
      have n2_ := Aside0.mk (Kd.S_below HO14.out hb)
      have n3_ := Aside0.mk (Kd.S_below HO15.out hb)
      have n4_ := Aside0.mk (Kd.R_below HO18.out hb)
      have n5_ := Aside0.mk (Kd.R_below HO21.out hb)
      have n6_ := Aside0.mk (Kd.S_below HO25.out hb)
      have n7_ := Aside0.mk (Kd.S_below HO26.out hb)
      have n8_ := Aside0.mk (Kd.R_below HO29.out hb)
      have n9_ := Aside0.mk (blk_below BK1.out hb)
      have n10_ := Aside0.mk (blk_below BK2.out hb)
      have n11_ := Aside0.mk (blk_below BK12.out hb)
      have n12_ := Aside0.mk (blk_below BK16.out hb)
      have n13_ := Aside0.mk (blk_below BK19.out hb)
      have n14_ := Aside0.mk (blk_below BK22.out hb)
      have n15_ := Aside0.mk (blk_below BK43.out hb)
      clear HB HO11 HO14 HO15 HO18 HO21 HO25 HO26 HO29 BK1 BK2 BK12 BK16 BK19 BK22 BK43
      have HB := n0_
      have HO11 := n1_
      have HO14 := n2_
      have HO15 := n3_
      have HO18 := n4_
      have HO21 := n5_
      have HO25 := n6_
      have HO26 := n7_
      have HO29 := n8_
      have BK1 := n9_
      have BK2 := n10_
      have BK12 := n11_
      have BK16 := n12_
      have BK19 := n13_
      have BK22 := n14_
      have BK43 := n15_
      clear n0_ n1_ n2_ n3_ n4_ n5_ n6_ n7_ n8_ n9_ n10_ n11_ n12_ n13_ n14_ n15_
      have SZ41 := Aside0.mk hz0
      have SZ42 := Aside0.mk hz1
      have SZ43 := Aside0.mk hz2
      have SZ44 := Aside0.mk hz3
      have SZ45 := Aside0.mk hz4
      clear hz0 hz1 hz2 hz3 hz4
      have HO37 := Aside0.mk (Kd.S_lower ho0 hs_)
      clear ho0
      obtain ⟨A_37, c_37, e_37⟩ := Kd.S_slice HO37.out
      subst e_37
      have HO38 := Aside0.mk (Kd.S_lower ho1 hs_)
      clear ho1
      obtain ⟨A_38, c_38, e_38⟩ := Kd.S_slice HO38.out
      subst e_38
      clear hb hs_
      refine hK.out _ _ ⟨cz_ BK1.out 0, cz_ BK1.out 1, cz_ BK1.out 2, cz_ BK2.out 0, cz_ BK2.out 1, cz_ BK2.out 2, cz_ BK12.out 0, cz_ BK12.out 1, cz_ BK12.out 2, cz_ BK12.out 3, cz_ BK12.out 4, cz_ BK16.out 0, cz_ BK16.out 1, cz_ BK16.out 2, cz_ BK19.out 0, cz_ BK19.out 1, cz_ BK19.out 2, cz_ BK22.out 0, cz_ BK22.out 1, cz_ BK22.out 2, cz_ BK22.out 3, cz_ BK22.out 4⟩ (fun hHeld => ?_)
      clear hK K
      refine norm_ (a' := ?_) ?_ ?_
      rotate_left
      · show Act.put _ (some 96) _ = _
        simp only [Act.put, List.setIfInBounds_toArray, List.set_cons_zero, List.set_cons_succ, i64_w, i32_w]
        rfl
      refine oS_ 3 98 HT_ (fun K hK => ?_)
      refine goes_ Try.func9 (by kernel_rfl) rfl #[.agg #[.int .i64 a1_0, .int .i64 a1_1, .slice A1_2 l1_2.length c1_2]] (by rfl) rfl rfl (by (try simp only [List.map_toArray, List.map_cons, List.map_nil]); first | done | rfl) ?_
      (with_reducible refine (laws_toField.calls k a1_0 a1_1 _ _ l1_2 t39_0 t39_1 t39_2 _ ?sd39_1 ?sd39_2 A39.out).mono ?_)
      (case sd39_1 => exact Kd.C_below HR1_2.out HB.out)
      (case sd39_2 => exact HC1_2.out)
      rintro e w1039 ⟨v_40, rfl, ho0, hb⟩
      refine ⟨_, rfl, ?_⟩
      have hs_ := below_size HB.out
      have n0_ := Aside0.mk (below_step HB.out hb)
      have n1_ := Aside0.mk (Kd.R_below HO11.out hb)
      have n2_ := Aside0.mk (Kd.S_below HO14.out hb)
      have n3_ := Aside0.mk (Kd.S_below HO15.out hb)
      have n4_ := Aside0.mk (Kd.R_below HO18.out hb)
      have n5_ := Aside0.mk (Kd.R_below HO21.out hb)
      have n6_ := Aside0.mk (Kd.S_below HO25.out hb)
      have n7_ := Aside0.mk (Kd.S_below HO26.out hb)
      have n8_ := Aside0.mk (Kd.R_below HO29.out hb)
      have n9_ := Aside0.mk (Kd.S_below HO37.out hb)
      have n10_ := Aside0.mk (Kd.S_below HO38.out hb)
      have n11_ := Aside0.mk (blk_below BK1.out hb)
      have n12_ := Aside0.mk (blk_below BK2.out hb)
      have n13_ := Aside0.mk (blk_below BK12.out hb)
      have n14_ := Aside0.mk (blk_below BK16.out hb)
      have n15_ := Aside0.mk (blk_below BK19.out hb)
      have n16_ := Aside0.mk (blk_below BK22.out hb)
      have n17_ := Aside0.mk (blk_below BK43.out hb)
      have SZ46 := Aside0.mk (show w1036.heap.size ≤ w1039.heap.size from (hb).size)
      clear HB HO11 HO14 HO15 HO18 HO21 HO25 HO26 HO29 HO37 HO38 BK1 BK2 BK12 BK16 BK19 BK22 BK43
      have HB := n0_
      have HO11 := n1_
      have HO14 := n2_
      have HO15 := n3_
      have HO18 := n4_
      have HO21 := n5_
      have HO25 := n6_
      have HO26 := n7_
      have HO29 := n8_
      have HO37 := n9_
      have HO38 := n10_
      have BK1 := n11_
      have BK2 := n12_
      have BK12 := n13_
      have BK16 := n14_
      have BK19 := n15_
      have BK22 := n16_
      have BK43 := n17_
      clear n0_ n1_ n2_ n3_ n4_ n5_ n6_ n7_ n8_ n9_ n10_ n11_ n12_ n13_ n14_ n15_ n16_ n17_
      have HO40 := Aside0.mk (R_zone ho0 hs_)
      clear ho0
      obtain ⟨A_40, c_40, e_40⟩ := Kd.R_slice HO40.out
      subst e_40
      clear hb hs_
      refine hK.out _ _ ⟨cz_ BK1.out 0, cz_ BK1.out 1, cz_ BK1.out 2, cz_ BK2.out 0, cz_ BK2.out 1, cz_ BK2.out 2, cz_ BK12.out 0, cz_ BK12.out 1, cz_ BK12.out 2, cz_ BK12.out 3, cz_ BK12.out 4, cz_ BK16.out 0, cz_ BK16.out 1, cz_ BK16.out 2, cz_ BK19.out 0, cz_ BK19.out 1, cz_ BK19.out 2, cz_ BK22.out 0, cz_ BK22.out 1, cz_ BK22.out 2, cz_ BK22.out 3, cz_ BK22.out 4⟩ (fun hHeld => ?_)
      clear hK K
      refine norm_ (a' := ?_) ?_ ?_
      rotate_left
      · show Act.put _ (some 98) _ = _
        simp only [Act.put, List.setIfInBounds_toArray, List.set_cons_zero, List.set_cons_succ, i64_w, i32_w]
        rfl
      refine oS_ 4 99 HT_ (fun K hK => ?_)
      refine goes_ Try.func19 (by kernel_rfl) rfl #[.agg #[.int .i64 t36_0, .slice A_37 t36_1.length c_37, .slice A_38 t36_2.length c_38], .agg #[.int .i64 t39_0, .int .i64 t39_1, .slice A_40 t39_2.length c_40]] (by rfl) rfl rfl (by (try simp only [List.map_toArray, List.map_cons, List.map_nil]); first | done | rfl) ?_
      (with_reducible refine (impl_FillField.calls k t36_0 _ _ t36_1 _ _ t36_2 t39_0 t39_1 _ _ t39_2 t41_0 t41_1 t41_2 t41_3 t41_4 t41_5 _ ?sd41_1 ?sd41_2 ?sd41_3 ?sd41_4 ?sd41_5 ?sd41_6 A41.out).mono ?_)
      (case sd41_1 => exact (Kd.S_reads' HO37.out).2.2)
      (case sd41_2 => exact (Kd.S_reads' HO37.out).2.1)
      (case sd41_3 => exact (Kd.S_reads' HO38.out).2.2)
      (case sd41_4 => exact (Kd.S_reads' HO38.out).2.1)
      (case sd41_5 => exact (Kd.R_reads' HO40.out).2.2)
      (case sd41_6 => exact (Kd.R_reads' HO40.out).2.1)
      rintro e w1041 ⟨v_42, rfl, ho0, hb⟩
      refine ⟨_, rfl, ?_⟩
      have hs_ := below_size HB.out
      have n0_ := Aside0.mk (below_step HB.out hb)
      have n1_ := Aside0.mk (Kd.R_below HO11.out hb)
      have n2_ := Aside0.mk (Kd.S_below HO14.out hb)
      have n3_ := Aside0.mk (Kd.S_below HO15.out hb)
      have n4_ := Aside0.mk (Kd.R_below HO18.out hb)
      have n5_ := Aside0.mk (Kd.R_below HO21.out hb)
      have n6_ := Aside0.mk (Kd.S_below HO25.out hb)
      have n7_ := Aside0.mk (Kd.S_below HO26.out hb)
      have n8_ := Aside0.mk (Kd.R_below HO29.out hb)
      have n9_ := Aside0.mk (Kd.S_below HO37.out hb)
      have n10_ := Aside0.mk (Kd.S_below HO38.out hb)
      have n11_ := Aside0.mk (Kd.R_below HO40.out hb)
      have n12_ := Aside0.mk (blk_below BK1.out hb)
      have n13_ := Aside0.mk (blk_below BK2.out hb)
      have n14_ := Aside0.mk (blk_below BK12.out hb)
      have n15_ := Aside0.mk (blk_below BK16.out hb)
      have n16_ := Aside0.mk (blk_below BK19.out hb)
      have n17_ := Aside0.mk (blk_below BK22.out hb)
      have n18_ := Aside0.mk (blk_below BK43.out hb)
      have SZ47 := Aside0.mk (show w1039.heap.size ≤ w1041.heap.size from (hb).size)
      clear HB HO11 HO14 HO15 HO18 HO21 HO25 HO26 HO29 HO37 HO38 HO40 BK1 BK2 BK12 BK16 BK19 BK22 BK43
      have HB := n0_
      have HO11 := n1_
      have HO14 := n2_
      have HO15 := n3_
      have HO18 := n4_
      have HO21 := n5_
      have HO25 := n6_
      have HO26 := n7_
      have HO29 := n8_
      have HO37 := n9_
      have HO38 := n10_
      have HO40 := n11_
      have BK1 := n12_
      have BK2 := n13_
      have BK12 := n14_
      have BK16 := n15_
      have BK19 := n16_
      have BK22 := n17_
      have BK43 := n18_
      clear n0_ n1_ n2_ n3_ n4_ n5_ n6_ n7_ n8_ n9_ n10_ n11_ n12_ n13_ n14_ n15_ n16_ n17_ n18_
      have HO42 := Aside0.mk (R_zone ho0 hs_)
      clear ho0
      obtain ⟨A_42, c_42, e_42⟩ := Kd.R_slice HO42.out
      subst e_42
      clear hb hs_
      refine hK.out _ _ ⟨cz_ BK1.out 0, cz_ BK1.out 1, cz_ BK1.out 2, cz_ BK2.out 0, cz_ BK2.out 1, cz_ BK2.out 2, cz_ BK12.out 0, cz_ BK12.out 1, cz_ BK12.out 2, cz_ BK12.out 3, cz_ BK12.out 4, cz_ BK16.out 0, cz_ BK16.out 1, cz_ BK16.out 2, cz_ BK19.out 0, cz_ BK19.out 1, cz_ BK19.out 2, cz_ BK22.out 0, cz_ BK22.out 1, cz_ BK22.out 2, cz_ BK22.out 3, cz_ BK22.out 4⟩ (fun hHeld => ?_)
      clear hK K
      refine norm_ (a' := ?_) ?_ ?_
      rotate_left
      · show Act.put _ (some 99) _ = _
        simp only [Act.put, List.setIfInBounds_toArray, List.set_cons_zero, List.set_cons_succ, i64_w, i32_w]
        rfl
      refine pure_ (i := 5) (N := some 94) (v := ?_) (a' := ?_) #[true, true, true, true, true, true, false, false, true, false, false] rfl rfl (any_of HT_.out (by kernel_rfl)) (fun _ _ _ h => h) (Or.inl ⟨by rfl, ?_⟩) ?_ ?_
      rotate_left
      · intro w'
        go_simp
        with_reducible rfl
      rotate_left
      · simp only [Act.put, List.setIfInBounds_toArray, List.set_cons_zero, List.set_cons_succ, i64_w, i32_w]
        rfl
      refine pure_ (i := 6) (N := some 100) (v := ?_) (a' := ?_) #[true, true, true, true, true, true, true, false, true, false, false] rfl rfl (any_of HT_.out (by kernel_rfl)) (fun _ _ _ h => h) (Or.inl ⟨by rfl, ?_⟩) ?_ ?_
      rotate_left
      · intro w'
        go_simp
        with_reducible rfl
      rotate_left
      · simp only [Act.put, List.setIfInBounds_toArray, List.set_cons_zero, List.set_cons_succ, i64_w, i32_w]
        rfl
      refine pure_ (i := 7) (N := some 101) (v := ?_) (a' := ?_) #[true, true, true, true, true, true, true, true, true, false, false] rfl rfl (any_of HT_.out (by kernel_rfl)) (fun _ _ _ h => h) (Or.inl ⟨by rfl, ?_⟩) ?_ ?_
      rotate_left
      · intro w'
        go_simp
        with_reducible rfl
      rotate_left
      · simp only [Act.put, List.setIfInBounds_toArray, List.set_cons_zero, List.set_cons_succ, i64_w, i32_w]
        rfl
      exact norm_ (by first | (simp only [putAll, Act.put, List.setIfInBounds_toArray, List.set_cons_zero, List.set_cons_succ]; done) | (simp only [putAll, Act.put, List.setIfInBounds_toArray, List.set_cons_zero, List.set_cons_succ]; rfl)) (hCont ((.agg #[.int .i64 t36_0, .slice A_37 t36_1.length c_37, .slice A_38 t36_2.length c_38]), (.agg #[.int .i64 t39_0, .int .i64 t39_1, .slice A_40 t39_2.length c_40]), A_42, c_42, w1039, w1041, g43) _ ⟨HB.out, HO11.out, HO14.out, HO15.out, HO18.out, HO21.out, HO25.out, HO26.out, HO29.out, BK1.out, BK2.out, BK12.out, BK16.out, BK19.out, BK22.out, HO42.out, BK43.out, (show w3034.heap.size ≤ w1039.heap.size by first | exact Nat.le_refl _ | (have := SZ40.out; have := SZ41.out; have := SZ42.out; have := SZ43.out; have := SZ44.out; have := SZ45.out; have := SZ46.out; omega)), (show w1039.heap.size ≤ w1041.heap.size by first | exact Nat.le_refl _ | (have := SZ47.out; omega)), (show w1041.heap.size ≤ w1041.heap.size by first | exact Nat.le_refl _ | (omega)), (show w1041.heap.size ≤ g43 ∨ g43 < w1039.heap.size by have := GL43.out; have := GU43.out; have := SZ41.out; have := SZ42.out; have := SZ43.out; have := SZ44.out; have := SZ45.out; have := SZ46.out; omega), (show w3034.heap.size ≤ g43 by have := GL43.out; omega), (show g43 < w1041.heap.size by have := GU43.out; have := SZ41.out; have := SZ42.out; have := SZ43.out; have := SZ44.out; have := SZ45.out; have := SZ46.out; have := SZ47.out; omega)⟩)
  rintro ⟨vv96, vv98, A_42, c_42, za43, zb43, g43⟩ w4043 ⟨h0_, h1_, h2_, h3_, h4_, h5_, h6_, h7_, h8_, h9_, h10_, h11_, h12_, h13_, h14_, h15_, h16_, h17_, h18_, h19_, h20_, h21_, h22_⟩
  have n0_ : Aside0 (Below w.heap.size w w4043) := ⟨h0_⟩
  have n1_ : Aside0 (Kd.R (Kd.int .i64) 3 w4043 w.heap.size (Zone za12 zb12 (3 :: ((Kd.int .i64)).E)) (.slice A_11 t10_3.length c_11) t10_3) := ⟨h1_⟩
  have n2_ : Aside0 (Kd.S (Kd.slice 3 (Kd.int .i64)) 25 w4043 w.heap.size (Zone wz13_0a wz13_0b (25 :: ((Kd.slice 3 (Kd.int .i64))).E)) (.slice A_14 t13_1.length c_14) t31_1) := ⟨h2_⟩
  have n3_ : Aside0 (Kd.S (Kd.slice 3 (Kd.int .i64)) 25 w4043 w.heap.size (Zone wz13_1a wz13_1b (25 :: ((Kd.slice 3 (Kd.int .i64))).E)) (.slice A_15 t13_2.length c_15) t31_2) := ⟨h3_⟩
  have n4_ : Aside0 (Kd.R (Kd.int .i64) 3 w4043 w.heap.size (Zone w2013 w1017 (3 :: ((Kd.int .i64)).E)) (.slice A_18 t17_2.length c_18) t32_1) := ⟨h4_⟩
  have n5_ : Aside0 (Kd.R (Kd.int .i64) 3 w4043 w.heap.size (Zone w2016 w1020 (3 :: ((Kd.int .i64)).E)) (.slice A_21 t20_3.length c_21) t34_1) := ⟨h5_⟩
  have n6_ : Aside0 (Kd.S (Kd.slice 3 (Kd.int .i64)) 25 w4043 w.heap.size (Zone wz24_0a wz24_0b (25 :: ((Kd.slice 3 (Kd.int .i64))).E)) (.slice A_25 t24_1.length c_25) t24_1) := ⟨h6_⟩
  have n7_ : Aside0 (Kd.S (Kd.slice 3 (Kd.int .i64)) 25 w4043 w.heap.size (Zone wz24_1a wz24_1b (25 :: ((Kd.slice 3 (Kd.int .i64))).E)) (.slice A_26 t24_2.length c_26) t24_2) := ⟨h7_⟩
  have n8_ : Aside0 (Kd.R (Kd.int .i64) 3 w4043 w.heap.size (Zone w3025 w1028 (3 :: ((Kd.int .i64)).E)) (.slice A_29 t28_2.length c_29) t28_2) := ⟨h8_⟩
  have n9_ : Aside0 (w4043.heap[g1]? = some (.cells #[.int .i64 a0_0, .slice A0_1 l0_1.length c0_1, .slice A0_2 l0_2.length c0_2] 24 (0, 0))) := ⟨h9_⟩
  have n10_ : Aside0 (w4043.heap[g2]? = some (.cells #[.int .i64 a1_0, .int .i64 a1_1, .slice A1_2 l1_2.length c1_2] 27 (0, 0))) := ⟨h10_⟩
  have n11_ : Aside0 (w4043.heap[g12]? = some (.cells #[.bool t10_0, .int .i64 t10_1, .int .i64 t10_2, .slice A_11 t10_3.length c_11, .int .i64 t10_4] 44 (0, 0))) := ⟨h11_⟩
  have n12_ : Aside0 (w4043.heap[g16]? = some (.cells #[.int .i64 t13_0, .slice A_14 t13_1.length c_14, .slice A_15 t13_2.length c_15] 32 (0, 0))) := ⟨h12_⟩
  have n13_ : Aside0 (w4043.heap[g19]? = some (.cells #[.int .i64 t17_0, .int .i64 t17_1, .slice A_18 t17_2.length c_18] 34 (0, 0))) := ⟨h13_⟩
  have n14_ : Aside0 (w4043.heap[g22]? = some (.cells #[.bool t20_0, .int .i64 t20_1, .int .i64 t20_2, .slice A_21 t20_3.length c_21, .int .i64 t20_4] 44 (0, 0))) := ⟨h14_⟩
  have n15_ : Aside0 (Kd.R (Kd.int .i64) 3 w4043 w.heap.size (Zone za43 zb43 (3 :: ((Kd.int .i64)).E)) (.slice A_42 t41_3.length c_42) t41_3) := ⟨h15_⟩
  have n16_ : Aside0 (w4043.heap[g43]? = some (.cells #[.bool false, .int .i64 0, .int .i64 0, .slice none 0 0, .int .i64 0] 44 (0, 0))) := ⟨h16_⟩
  have n17_ : Aside0 (w3034.heap.size ≤ za43.heap.size) := ⟨h17_⟩
  have n18_ : Aside0 (za43.heap.size ≤ zb43.heap.size) := ⟨h18_⟩
  have n19_ : Aside0 (zb43.heap.size ≤ w4043.heap.size) := ⟨h19_⟩
  have n20_ : Aside0 (zb43.heap.size ≤ g43 ∨ g43 < za43.heap.size) := ⟨h20_⟩
  have n21_ : Aside0 (w3034.heap.size ≤ g43) := ⟨h21_⟩
  have n22_ : Aside0 (g43 < w4043.heap.size) := ⟨h22_⟩
  clear HB HO11 HO14 HO15 HO18 HO21 HO25 HO26 HO29 BK1 BK2 BK12 BK16 BK19 BK22
  clear h0_ h1_ h2_ h3_ h4_ h5_ h6_ h7_ h8_ h9_ h10_ h11_ h12_ h13_ h14_ h15_ h16_ h17_ h18_ h19_ h20_ h21_ h22_
  have HB := n0_
  have HO11 := n1_
  have HO14 := n2_
  have HO15 := n3_
  have HO18 := n4_
  have HO21 := n5_
  have HO25 := n6_
  have HO26 := n7_
  have HO29 := n8_
  have BK1 := n9_
  have BK2 := n10_
  have BK12 := n11_
  have BK16 := n12_
  have BK19 := n13_
  have BK22 := n14_
  have HO42 := n15_
  have BK43 := n16_
  have SZ40 := n17_
  have SZ41 := n18_
  have SZ42 := n19_
  have DJ43 := n20_
  have GL43 := n21_
  have GU43 := n22_
  clear n0_ n1_ n2_ n3_ n4_ n5_ n6_ n7_ n8_ n9_ n10_ n11_ n12_ n13_ n14_ n15_ n16_ n17_ n18_ n19_ n20_ n21_ n22_
  have hHeld : w4043.cell? ⟨g1, 0, none⟩ = some (.int .i64 a0_0) ∧ w4043.cell? ⟨g1, 1, none⟩ = some (.slice A0_1 l0_1.length c0_1) ∧ w4043.cell? ⟨g1, 2, none⟩ = some (.slice A0_2 l0_2.length c0_2) ∧ w4043.cell? ⟨g2, 0, none⟩ = some (.int .i64 a1_0) ∧ w4043.cell? ⟨g2, 1, none⟩ = some (.int .i64 a1_1) ∧ w4043.cell? ⟨g2, 2, none⟩ = some (.slice A1_2 l1_2.length c1_2) ∧ w4043.cell? ⟨g12, 0, none⟩ = some (.bool t10_0) ∧ w4043.cell? ⟨g12, 1, none⟩ = some (.int .i64 t10_1) ∧ w4043.cell? ⟨g12, 2, none⟩ = some (.int .i64 t10_2) ∧ w4043.cell? ⟨g12, 3, none⟩ = some (.slice A_11 t10_3.length c_11) ∧ w4043.cell? ⟨g12, 4, none⟩ = some (.int .i64 t10_4) ∧ w4043.cell? ⟨g16, 0, none⟩ = some (.int .i64 t13_0) ∧ w4043.cell? ⟨g16, 1, none⟩ = some (.slice A_14 t13_1.length c_14) ∧ w4043.cell? ⟨g16, 2, none⟩ = some (.slice A_15 t13_2.length c_15) ∧ w4043.cell? ⟨g19, 0, none⟩ = some (.int .i64 t17_0) ∧ w4043.cell? ⟨g19, 1, none⟩ = some (.int .i64 t17_1) ∧ w4043.cell? ⟨g19, 2, none⟩ = some (.slice A_18 t17_2.length c_18) ∧ w4043.cell? ⟨g22, 0, none⟩ = some (.bool t20_0) ∧ w4043.cell? ⟨g22, 1, none⟩ = some (.int .i64 t20_1) ∧ w4043.cell? ⟨g22, 2, none⟩ = some (.int .i64 t20_2) ∧ w4043.cell? ⟨g22, 3, none⟩ = some (.slice A_21 t20_3.length c_21) ∧ w4043.cell? ⟨g22, 4, none⟩ = some (.int .i64 t20_4) := ⟨cz_ BK1.out 0, cz_ BK1.out 1, cz_ BK1.out 2, cz_ BK2.out 0, cz_ BK2.out 1, cz_ BK2.out 2, cz_ BK12.out 0, cz_ BK12.out 1, cz_ BK12.out 2, cz_ BK12.out 3, cz_ BK12.out 4, cz_ BK16.out 0, cz_ BK16.out 1, cz_ BK16.out 2, cz_ BK19.out 0, cz_ BK19.out 1, cz_ BK19.out 2, cz_ BK22.out 0, cz_ BK22.out 1, cz_ BK22.out 2, cz_ BK22.out 3, cz_ BK22.out 4⟩
  refine norm_ (a' := ?_) ?_ ?_
  rotate_left
  · simp only [putAll, Act.put, List.setIfInBounds_toArray, List.set_cons_zero, List.set_cons_succ]
    rfl
  refine one_ (i := 9) (N := none) #[true, true, true, true, true, true, true, true, true, true, false] rfl rfl (one_of HT_.out (by kernel_rfl)) (by decide) (fun K hK => ?_)
  have hx43_0 := cz_ BK43.out 0; have hf43_0 : w4043.frozen? ⟨g43, 0, none⟩ = false := blk_frozen BK43.out 0
  have hx43_1 := cz_ BK43.out 1; have hf43_1 : w4043.frozen? ⟨g43, 1, none⟩ = false := blk_frozen BK43.out 1
  have hx43_2 := cz_ BK43.out 2; have hf43_2 : w4043.frozen? ⟨g43, 2, none⟩ = false := blk_frozen BK43.out 2
  have hx43_3 := cz_ BK43.out 3; have hf43_3 : w4043.frozen? ⟨g43, 3, none⟩ = false := blk_frozen BK43.out 3
  have hx43_4 := cz_ BK43.out 4; have hf43_4 : w4043.frozen? ⟨g43, 4, none⟩ = false := blk_frozen BK43.out 4
  obtain ⟨w5043, hw⟩ : ∃ x_, x_ = (((((w4043.setCell ⟨g43, 0, none⟩ (.bool t41_0)).setCell ⟨g43, 1, none⟩ (.int .i64 t41_1)).setCell ⟨g43, 2, none⟩ (.int .i64 t41_2)).setCell ⟨g43, 3, none⟩ (.slice A_42 t41_3.length c_42)).setCell ⟨g43, 4, none⟩ (.int .i64 t41_4)) := ⟨_, rfl⟩
  refine skip_ (w1 := w5043) (by rfl) rfl ?_ ?_
  · rw [hw]; first | (go_simp; done) | (go_simp; rfl)
  clear hx43_0 hf43_0 hx43_1 hf43_1 hx43_2 hf43_2 hx43_3 hf43_3 hx43_4 hf43_4
  have hge_ : w.heap.size ≤ g43 := (by have := GL43.out; have := SZ1.out; have := SZ2.out; have := SZ3.out; have := SZ4.out; have := SZ5.out; have := SZ6.out; have := SZ7.out; have := SZ8.out; have := SZ9.out; have := SZ10.out; have := SZ11.out; have := SZ12.out; have := SZ13.out; have := SZ14.out; have := SZ15.out; have := SZ16.out; have := SZ17.out; have := SZ18.out; have := SZ19.out; have := SZ20.out; have := SZ21.out; have := SZ22.out; have := SZ23.out; have := SZ24.out; have := SZ25.out; have := SZ26.out; have := SZ27.out; have := SZ28.out; have := SZ29.out; have := SZ30.out; have := SZ31.out; have := SZ32.out; have := SZ33.out; have := SZ34.out; have := SZ35.out; have := SZ36.out; have := SZ37.out; have := SZ38.out; have := SZ39.out; omega)
  have hb : Below w.heap.size w w5043 := (by rw [hw]; exact below_set (below_set (below_set (below_set (below_set (HB.out) hge_) hge_) hge_) hge_) hge_)
  have hkp : Kept w4043 w5043 (fun k_ => k_ = g43) := (by rw [hw]; exact Kept.setCell (Kept.setCell (Kept.setCell (Kept.setCell (Kept.setCell (Kept.refl w4043 (fun k_ => k_ = g43)) (.inl rfl) (.bool t41_0)) (.inl rfl) (.int .i64 t41_1)) (.inl rfl) (.int .i64 t41_2)) (.inl rfl) (.slice A_42 t41_3.length c_42)) (.inl rfl) (.int .i64 t41_4))
  have hbk : w5043.heap[g43]? = some (.cells #[.bool t41_0, .int .i64 t41_1, .int .i64 t41_2, .slice A_42 t41_3.length c_42, .int .i64 t41_4] 44 (0, 0)) := (by rw [hw]; exact blk_put (cs' := #[.bool t41_0, .int .i64 t41_1, .int .i64 t41_2, .slice A_42 t41_3.length c_42, .int .i64 t41_4]) (blk_put (cs' := #[.bool t41_0, .int .i64 t41_1, .int .i64 t41_2, .slice A_42 t41_3.length c_42, .int .i64 0]) (blk_put (cs' := #[.bool t41_0, .int .i64 t41_1, .int .i64 t41_2, .slice none 0 0, .int .i64 0]) (blk_put (cs' := #[.bool t41_0, .int .i64 t41_1, .int .i64 0, .slice none 0 0, .int .i64 0]) (blk_put (cs' := #[.bool t41_0, .int .i64 0, .int .i64 0, .slice none 0 0, .int .i64 0]) (BK43.out) 0 (.bool t41_0) rfl) 1 (.int .i64 t41_1) rfl) 2 (.int .i64 t41_2) rfl) 3 (.slice A_42 t41_3.length c_42) rfl) 4 (.int .i64 t41_4) rfl)
  have n0_ := Aside0.mk (hb)
  have n1_ := Aside0.mk (Kd.R_step HO11.out (fun k_ h_ hlt_ => hkp.2 k_ hlt_ (fun e_ => (show False from Zone.notblk h_ e_ (by have := GL43.out; have := GU43.out; have := SZ8.out; have := SZ9.out; have := SZ10.out; have := SZ11.out; have := SZ12.out; have := SZ13.out; have := SZ14.out; have := SZ15.out; have := SZ16.out; have := SZ17.out; have := SZ18.out; have := SZ19.out; have := SZ20.out; have := SZ21.out; have := SZ22.out; have := SZ23.out; have := SZ24.out; have := SZ25.out; have := SZ26.out; have := SZ27.out; have := SZ28.out; have := SZ29.out; have := SZ30.out; have := SZ31.out; have := SZ32.out; have := SZ33.out; have := SZ34.out; have := SZ35.out; have := SZ36.out; have := SZ37.out; have := SZ38.out; have := SZ39.out; first | exact .inl (by omega) | exact .inr (by omega))).elim)))
  have n2_ := Aside0.mk (Kd.S_step HO14.out (fun k_ h_ hlt_ => hkp.2 k_ hlt_ (fun e_ => (show False from Zone.notblk h_ e_ (by have := GL43.out; have := GU43.out; have := SZ12.out; have := SZ13.out; have := SZ14.out; have := SZ15.out; have := SZ16.out; have := SZ17.out; have := SZ18.out; have := SZ19.out; have := SZ20.out; have := SZ21.out; have := SZ22.out; have := SZ23.out; have := SZ24.out; have := SZ25.out; have := SZ26.out; have := SZ27.out; have := SZ28.out; have := SZ29.out; have := SZ30.out; have := SZ31.out; have := SZ32.out; have := SZ33.out; have := SZ34.out; have := SZ35.out; have := SZ36.out; have := SZ37.out; have := SZ38.out; have := SZ39.out; first | exact .inl (by omega) | exact .inr (by omega))).elim)))
  have n3_ := Aside0.mk (Kd.S_step HO15.out (fun k_ h_ hlt_ => hkp.2 k_ hlt_ (fun e_ => (show False from Zone.notblk h_ e_ (by have := GL43.out; have := GU43.out; have := SZ14.out; have := SZ15.out; have := SZ16.out; have := SZ17.out; have := SZ18.out; have := SZ19.out; have := SZ20.out; have := SZ21.out; have := SZ22.out; have := SZ23.out; have := SZ24.out; have := SZ25.out; have := SZ26.out; have := SZ27.out; have := SZ28.out; have := SZ29.out; have := SZ30.out; have := SZ31.out; have := SZ32.out; have := SZ33.out; have := SZ34.out; have := SZ35.out; have := SZ36.out; have := SZ37.out; have := SZ38.out; have := SZ39.out; first | exact .inl (by omega) | exact .inr (by omega))).elim)))
  have n4_ := Aside0.mk (Kd.R_step HO18.out (fun k_ h_ hlt_ => hkp.2 k_ hlt_ (fun e_ => (show False from Zone.notblk h_ e_ (by have := GL43.out; have := GU43.out; have := SZ18.out; have := SZ19.out; have := SZ20.out; have := SZ21.out; have := SZ22.out; have := SZ23.out; have := SZ24.out; have := SZ25.out; have := SZ26.out; have := SZ27.out; have := SZ28.out; have := SZ29.out; have := SZ30.out; have := SZ31.out; have := SZ32.out; have := SZ33.out; have := SZ34.out; have := SZ35.out; have := SZ36.out; have := SZ37.out; have := SZ38.out; have := SZ39.out; first | exact .inl (by omega) | exact .inr (by omega))).elim)))
  have n5_ := Aside0.mk (Kd.R_step HO21.out (fun k_ h_ hlt_ => hkp.2 k_ hlt_ (fun e_ => (show False from Zone.notblk h_ e_ (by have := GL43.out; have := GU43.out; have := SZ21.out; have := SZ22.out; have := SZ23.out; have := SZ24.out; have := SZ25.out; have := SZ26.out; have := SZ27.out; have := SZ28.out; have := SZ29.out; have := SZ30.out; have := SZ31.out; have := SZ32.out; have := SZ33.out; have := SZ34.out; have := SZ35.out; have := SZ36.out; have := SZ37.out; have := SZ38.out; have := SZ39.out; first | exact .inl (by omega) | exact .inr (by omega))).elim)))
  have n6_ := Aside0.mk (Kd.S_step HO25.out (fun k_ h_ hlt_ => hkp.2 k_ hlt_ (fun e_ => (show False from Zone.notblk h_ e_ (by have := GL43.out; have := GU43.out; have := SZ27.out; have := SZ28.out; have := SZ29.out; have := SZ30.out; have := SZ31.out; have := SZ32.out; have := SZ33.out; have := SZ34.out; have := SZ35.out; have := SZ36.out; have := SZ37.out; have := SZ38.out; have := SZ39.out; first | exact .inl (by omega) | exact .inr (by omega))).elim)))
  have n7_ := Aside0.mk (Kd.S_step HO26.out (fun k_ h_ hlt_ => hkp.2 k_ hlt_ (fun e_ => (show False from Zone.notblk h_ e_ (by have := GL43.out; have := GU43.out; have := SZ29.out; have := SZ30.out; have := SZ31.out; have := SZ32.out; have := SZ33.out; have := SZ34.out; have := SZ35.out; have := SZ36.out; have := SZ37.out; have := SZ38.out; have := SZ39.out; first | exact .inl (by omega) | exact .inr (by omega))).elim)))
  have n8_ := Aside0.mk (Kd.R_step HO29.out (fun k_ h_ hlt_ => hkp.2 k_ hlt_ (fun e_ => (show False from Zone.notblk h_ e_ (by have := GL43.out; have := GU43.out; have := SZ33.out; have := SZ34.out; have := SZ35.out; have := SZ36.out; have := SZ37.out; have := SZ38.out; have := SZ39.out; first | exact .inl (by omega) | exact .inr (by omega))).elim)))
  have n9_ := Aside0.mk (Kd.R_step HO42.out (fun k_ h_ hlt_ => hkp.2 k_ hlt_ (fun e_ => (show False from Zone.notblk h_ e_ DJ43.out).elim)))
  have n10_ := Aside0.mk ((hkp.2 g1 (blk_lt BK1.out) (fun e_ => (by have e2_ : g1 = g43 := e_; have := GL1.out; have := GU1.out; have := GL43.out; have := GU43.out; have := SZ2.out; have := SZ3.out; have := SZ4.out; have := SZ5.out; have := SZ6.out; have := SZ7.out; have := SZ8.out; have := SZ9.out; have := SZ10.out; have := SZ11.out; have := SZ12.out; have := SZ13.out; have := SZ14.out; have := SZ15.out; have := SZ16.out; have := SZ17.out; have := SZ18.out; have := SZ19.out; have := SZ20.out; have := SZ21.out; have := SZ22.out; have := SZ23.out; have := SZ24.out; have := SZ25.out; have := SZ26.out; have := SZ27.out; have := SZ28.out; have := SZ29.out; have := SZ30.out; have := SZ31.out; have := SZ32.out; have := SZ33.out; have := SZ34.out; have := SZ35.out; have := SZ36.out; have := SZ37.out; have := SZ38.out; have := SZ39.out; omega))).trans BK1.out)
  have n11_ := Aside0.mk ((hkp.2 g2 (blk_lt BK2.out) (fun e_ => (by have e2_ : g2 = g43 := e_; have := GL2.out; have := GU2.out; have := GL43.out; have := GU43.out; have := SZ3.out; have := SZ4.out; have := SZ5.out; have := SZ6.out; have := SZ7.out; have := SZ8.out; have := SZ9.out; have := SZ10.out; have := SZ11.out; have := SZ12.out; have := SZ13.out; have := SZ14.out; have := SZ15.out; have := SZ16.out; have := SZ17.out; have := SZ18.out; have := SZ19.out; have := SZ20.out; have := SZ21.out; have := SZ22.out; have := SZ23.out; have := SZ24.out; have := SZ25.out; have := SZ26.out; have := SZ27.out; have := SZ28.out; have := SZ29.out; have := SZ30.out; have := SZ31.out; have := SZ32.out; have := SZ33.out; have := SZ34.out; have := SZ35.out; have := SZ36.out; have := SZ37.out; have := SZ38.out; have := SZ39.out; omega))).trans BK2.out)
  have n12_ := Aside0.mk ((hkp.2 g12 (blk_lt BK12.out) (fun e_ => (by have e2_ : g12 = g43 := e_; have := GL12.out; have := GU12.out; have := GL43.out; have := GU43.out; have := SZ9.out; have := SZ10.out; have := SZ11.out; have := SZ12.out; have := SZ13.out; have := SZ14.out; have := SZ15.out; have := SZ16.out; have := SZ17.out; have := SZ18.out; have := SZ19.out; have := SZ20.out; have := SZ21.out; have := SZ22.out; have := SZ23.out; have := SZ24.out; have := SZ25.out; have := SZ26.out; have := SZ27.out; have := SZ28.out; have := SZ29.out; have := SZ30.out; have := SZ31.out; have := SZ32.out; have := SZ33.out; have := SZ34.out; have := SZ35.out; have := SZ36.out; have := SZ37.out; have := SZ38.out; have := SZ39.out; omega))).trans BK12.out)
  have n13_ := Aside0.mk ((hkp.2 g16 (blk_lt BK16.out) (fun e_ => (by have e2_ : g16 = g43 := e_; have := GL16.out; have := GU16.out; have := GL43.out; have := GU43.out; have := SZ16.out; have := SZ17.out; have := SZ18.out; have := SZ19.out; have := SZ20.out; have := SZ21.out; have := SZ22.out; have := SZ23.out; have := SZ24.out; have := SZ25.out; have := SZ26.out; have := SZ27.out; have := SZ28.out; have := SZ29.out; have := SZ30.out; have := SZ31.out; have := SZ32.out; have := SZ33.out; have := SZ34.out; have := SZ35.out; have := SZ36.out; have := SZ37.out; have := SZ38.out; have := SZ39.out; omega))).trans BK16.out)
  have n14_ := Aside0.mk ((hkp.2 g19 (blk_lt BK19.out) (fun e_ => (by have e2_ : g19 = g43 := e_; have := GL19.out; have := GU19.out; have := GL43.out; have := GU43.out; have := SZ19.out; have := SZ20.out; have := SZ21.out; have := SZ22.out; have := SZ23.out; have := SZ24.out; have := SZ25.out; have := SZ26.out; have := SZ27.out; have := SZ28.out; have := SZ29.out; have := SZ30.out; have := SZ31.out; have := SZ32.out; have := SZ33.out; have := SZ34.out; have := SZ35.out; have := SZ36.out; have := SZ37.out; have := SZ38.out; have := SZ39.out; omega))).trans BK19.out)
  have n15_ := Aside0.mk ((hkp.2 g22 (blk_lt BK22.out) (fun e_ => (by have e2_ : g22 = g43 := e_; have := GL22.out; have := GU22.out; have := GL43.out; have := GU43.out; have := SZ22.out; have := SZ23.out; have := SZ24.out; have := SZ25.out; have := SZ26.out; have := SZ27.out; have := SZ28.out; have := SZ29.out; have := SZ30.out; have := SZ31.out; have := SZ32.out; have := SZ33.out; have := SZ34.out; have := SZ35.out; have := SZ36.out; have := SZ37.out; have := SZ38.out; have := SZ39.out; omega))).trans BK22.out)
  have n16_ := Aside0.mk (hbk)
  have SZ43 := Aside0.mk (show w4043.heap.size ≤ w5043.heap.size from hkp.1)
  clear HB HO11 HO14 HO15 HO18 HO21 HO25 HO26 HO29 HO42 BK1 BK2 BK12 BK16 BK19 BK22 BK43
  have HB := n0_
  have HO11 := n1_
  have HO14 := n2_
  have HO15 := n3_
  have HO18 := n4_
  have HO21 := n5_
  have HO25 := n6_
  have HO26 := n7_
  have HO29 := n8_
  have HO42 := n9_
  have BK1 := n10_
  have BK2 := n11_
  have BK12 := n12_
  have BK16 := n13_
  have BK19 := n14_
  have BK22 := n15_
  have BK43 := n16_
  clear n0_ n1_ n2_ n3_ n4_ n5_ n6_ n7_ n8_ n9_ n10_ n11_ n12_ n13_ n14_ n15_ n16_
  clear hb hkp hbk hw hge_
  refine hK.out _ _ ⟨cz_ BK1.out 0, cz_ BK1.out 1, cz_ BK1.out 2, cz_ BK2.out 0, cz_ BK2.out 1, cz_ BK2.out 2, cz_ BK12.out 0, cz_ BK12.out 1, cz_ BK12.out 2, cz_ BK12.out 3, cz_ BK12.out 4, cz_ BK16.out 0, cz_ BK16.out 1, cz_ BK16.out 2, cz_ BK19.out 0, cz_ BK19.out 1, cz_ BK19.out 2, cz_ BK22.out 0, cz_ BK22.out 1, cz_ BK22.out 2, cz_ BK22.out 3, cz_ BK22.out 4⟩ (fun hHeld => ?_)
  clear hK K
  refine pure_ (i := 10) (N := some 16) (v := ?_) (a' := ?_) #[true, true, true, true, true, true, true, true, true, true, true] rfl rfl (any_of HT_.out (by kernel_rfl)) (fun _ _ _ h => h) (Or.inl ⟨by rfl, ?_⟩) ?_ ?_
  rotate_left
  · intro w'
    go_simp
    with_reducible rfl
  rotate_left
  · simp only [Act.put, List.setIfInBounds_toArray, List.set_cons_zero, List.set_cons_succ, i64_w, i32_w]
    rfl
  refine done_ (done_of HT_.out (by kernel_rfl)) ?_
  clear hHeld
  try clear HT_ HW_
  have hx1_0 := cz_ BK1.out 0
  have hf1_0 : w5043.frozen? ⟨g1, 0, none⟩ = false := blk_frozen BK1.out 0
  have hx1_1 := cz_ BK1.out 1
  have hf1_1 : w5043.frozen? ⟨g1, 1, none⟩ = false := blk_frozen BK1.out 1
  have hx1_2 := cz_ BK1.out 2
  have hf1_2 : w5043.frozen? ⟨g1, 2, none⟩ = false := blk_frozen BK1.out 2
  have hx2_0 := cz_ BK2.out 0
  have hf2_0 : w5043.frozen? ⟨g2, 0, none⟩ = false := blk_frozen BK2.out 0
  have hx2_1 := cz_ BK2.out 1
  have hf2_1 : w5043.frozen? ⟨g2, 1, none⟩ = false := blk_frozen BK2.out 1
  have hx2_2 := cz_ BK2.out 2
  have hf2_2 : w5043.frozen? ⟨g2, 2, none⟩ = false := blk_frozen BK2.out 2
  have hx12_0 := cz_ BK12.out 0
  have hf12_0 : w5043.frozen? ⟨g12, 0, none⟩ = false := blk_frozen BK12.out 0
  have hx12_1 := cz_ BK12.out 1
  have hf12_1 : w5043.frozen? ⟨g12, 1, none⟩ = false := blk_frozen BK12.out 1
  have hx12_2 := cz_ BK12.out 2
  have hf12_2 : w5043.frozen? ⟨g12, 2, none⟩ = false := blk_frozen BK12.out 2
  have hx12_3 := cz_ BK12.out 3
  have hf12_3 : w5043.frozen? ⟨g12, 3, none⟩ = false := blk_frozen BK12.out 3
  have hx12_4 := cz_ BK12.out 4
  have hf12_4 : w5043.frozen? ⟨g12, 4, none⟩ = false := blk_frozen BK12.out 4
  have hx16_0 := cz_ BK16.out 0
  have hf16_0 : w5043.frozen? ⟨g16, 0, none⟩ = false := blk_frozen BK16.out 0
  have hx16_1 := cz_ BK16.out 1
  have hf16_1 : w5043.frozen? ⟨g16, 1, none⟩ = false := blk_frozen BK16.out 1
  have hx16_2 := cz_ BK16.out 2
  have hf16_2 : w5043.frozen? ⟨g16, 2, none⟩ = false := blk_frozen BK16.out 2
  have hx19_0 := cz_ BK19.out 0
  have hf19_0 : w5043.frozen? ⟨g19, 0, none⟩ = false := blk_frozen BK19.out 0
  have hx19_1 := cz_ BK19.out 1
  have hf19_1 : w5043.frozen? ⟨g19, 1, none⟩ = false := blk_frozen BK19.out 1
  have hx19_2 := cz_ BK19.out 2
  have hf19_2 : w5043.frozen? ⟨g19, 2, none⟩ = false := blk_frozen BK19.out 2
  have hx22_0 := cz_ BK22.out 0
  have hf22_0 : w5043.frozen? ⟨g22, 0, none⟩ = false := blk_frozen BK22.out 0
  have hx22_1 := cz_ BK22.out 1
  have hf22_1 : w5043.frozen? ⟨g22, 1, none⟩ = false := blk_frozen BK22.out 1
  have hx22_2 := cz_ BK22.out 2
  have hf22_2 : w5043.frozen? ⟨g22, 2, none⟩ = false := blk_frozen BK22.out 2
  have hx22_3 := cz_ BK22.out 3
  have hf22_3 : w5043.frozen? ⟨g22, 3, none⟩ = false := blk_frozen BK22.out 3
  have hx22_4 := cz_ BK22.out 4
  have hf22_4 : w5043.frozen? ⟨g22, 4, none⟩ = false := blk_frozen BK22.out 4
  have hx43_0 := cz_ BK43.out 0
  have hf43_0 : w5043.frozen? ⟨g43, 0, none⟩ = false := blk_frozen BK43.out 0
  have hx43_1 := cz_ BK43.out 1
  have hf43_1 : w5043.frozen? ⟨g43, 1, none⟩ = false := blk_frozen BK43.out 1
  have hx43_2 := cz_ BK43.out 2
  have hf43_2 : w5043.frozen? ⟨g43, 2, none⟩ = false := blk_frozen BK43.out 2
  have hx43_3 := cz_ BK43.out 3
  have hf43_3 : w5043.frozen? ⟨g43, 3, none⟩ = false := blk_frozen BK43.out 3
  have hx43_4 := cz_ BK43.out 4
  have hf43_4 : w5043.frozen? ⟨g43, 4, none⟩ = false := blk_frozen BK43.out 4
  skip
  go_wp2_with (first | (go_at_call 20; (with_reducible refine (laws_eqFilled.calls k t41_0 t41_1 t41_2 _ _ t41_3 t41_4 t10_0 t10_1 t10_2 _ _ t10_3 t10_4 true _ ?sd44_1 ?sd44_2 ?sd44_3 ?sd44_4 A44.out).mono ?_); (case sd44_1 => exact (Kd.R_reads' HO42.out).2.2); (case sd44_2 => exact (Kd.R_reads' HO42.out).2.1); (case sd44_3 => exact (Kd.R_reads' HO11.out).2.2); (case sd44_4 => exact (Kd.R_reads' HO11.out).2.1); rintro e w1044 ⟨rfl, hb⟩; have hs_ := below_size HB.out; clear hx1_0 hf1_0 hx1_1 hf1_1 hx1_2 hf1_2 hx2_0 hf2_0 hx2_1 hf2_1 hx2_2 hf2_2 hx12_0 hf12_0 hx12_1 hf12_1 hx12_2 hf12_2 hx12_3 hf12_3 hx12_4 hf12_4 hx16_0 hf16_0 hx16_1 hf16_1 hx16_2 hf16_2 hx19_0 hf19_0 hx19_1 hf19_1 hx19_2 hf19_2 hx22_0 hf22_0 hx22_1 hf22_1 hx22_2 hf22_2 hx22_3 hf22_3 hx22_4 hf22_4 hx43_0 hf43_0 hx43_1 hf43_1 hx43_2 hf43_2 hx43_3 hf43_3 hx43_4 hf43_4; have n0_ := Aside0.mk (below_step HB.out hb); have n1_ := Aside0.mk (Kd.R_below HO11.out hb); have n2_ := Aside0.mk (Kd.S_below HO14.out hb); have n3_ := Aside0.mk (Kd.S_below HO15.out hb); have n4_ := Aside0.mk (Kd.R_below HO18.out hb); have n5_ := Aside0.mk (Kd.R_below HO21.out hb); have n6_ := Aside0.mk (Kd.S_below HO25.out hb); have n7_ := Aside0.mk (Kd.S_below HO26.out hb); have n8_ := Aside0.mk (Kd.R_below HO29.out hb); have n9_ := Aside0.mk (Kd.R_below HO42.out hb); have n10_ := Aside0.mk (blk_below BK1.out hb); have n11_ := Aside0.mk (blk_below BK2.out hb); have n12_ := Aside0.mk (blk_below BK12.out hb); have n13_ := Aside0.mk (blk_below BK16.out hb); have n14_ := Aside0.mk (blk_below BK19.out hb); have n15_ := Aside0.mk (blk_below BK22.out hb); have n16_ := Aside0.mk (blk_below BK43.out hb); have SZ44 := Aside0.mk (show w5043.heap.size ≤ w1044.heap.size from (hb).size); clear HB HO11 HO14 HO15 HO18 HO21 HO25 HO26 HO29 HO42 BK1 BK2 BK12 BK16 BK19 BK22 BK43; have HB := n0_; have HO11 := n1_; have HO14 := n2_; have HO15 := n3_; have HO18 := n4_; have HO21 := n5_; have HO25 := n6_; have HO26 := n7_; have HO29 := n8_; have HO42 := n9_; have BK1 := n10_; have BK2 := n11_; have BK12 := n12_; have BK16 := n13_; have BK19 := n14_; have BK22 := n15_; have BK43 := n16_; clear n0_ n1_ n2_ n3_ n4_ n5_ n6_ n7_ n8_ n9_ n10_ n11_ n12_ n13_ n14_ n15_ n16_; clear hb hs_; have hx1_0 := cz_ BK1.out 0; have hf1_0 : w1044.frozen? ⟨g1, 0, none⟩ = false := blk_frozen BK1.out 0; have hx1_1 := cz_ BK1.out 1; have hf1_1 : w1044.frozen? ⟨g1, 1, none⟩ = false := blk_frozen BK1.out 1; have hx1_2 := cz_ BK1.out 2; have hf1_2 : w1044.frozen? ⟨g1, 2, none⟩ = false := blk_frozen BK1.out 2; have hx2_0 := cz_ BK2.out 0; have hf2_0 : w1044.frozen? ⟨g2, 0, none⟩ = false := blk_frozen BK2.out 0; have hx2_1 := cz_ BK2.out 1; have hf2_1 : w1044.frozen? ⟨g2, 1, none⟩ = false := blk_frozen BK2.out 1; have hx2_2 := cz_ BK2.out 2; have hf2_2 : w1044.frozen? ⟨g2, 2, none⟩ = false := blk_frozen BK2.out 2; have hx12_0 := cz_ BK12.out 0; have hf12_0 : w1044.frozen? ⟨g12, 0, none⟩ = false := blk_frozen BK12.out 0; have hx12_1 := cz_ BK12.out 1; have hf12_1 : w1044.frozen? ⟨g12, 1, none⟩ = false := blk_frozen BK12.out 1; have hx12_2 := cz_ BK12.out 2; have hf12_2 : w1044.frozen? ⟨g12, 2, none⟩ = false := blk_frozen BK12.out 2; have hx12_3 := cz_ BK12.out 3; have hf12_3 : w1044.frozen? ⟨g12, 3, none⟩ = false := blk_frozen BK12.out 3; have hx12_4 := cz_ BK12.out 4; have hf12_4 : w1044.frozen? ⟨g12, 4, none⟩ = false := blk_frozen BK12.out 4; have hx16_0 := cz_ BK16.out 0; have hf16_0 : w1044.frozen? ⟨g16, 0, none⟩ = false := blk_frozen BK16.out 0; have hx16_1 := cz_ BK16.out 1; have hf16_1 : w1044.frozen? ⟨g16, 1, none⟩ = false := blk_frozen BK16.out 1; have hx16_2 := cz_ BK16.out 2; have hf16_2 : w1044.frozen? ⟨g16, 2, none⟩ = false := blk_frozen BK16.out 2; have hx19_0 := cz_ BK19.out 0; have hf19_0 : w1044.frozen? ⟨g19, 0, none⟩ = false := blk_frozen BK19.out 0; have hx19_1 := cz_ BK19.out 1; have hf19_1 : w1044.frozen? ⟨g19, 1, none⟩ = false := blk_frozen BK19.out 1; have hx19_2 := cz_ BK19.out 2; have hf19_2 : w1044.frozen? ⟨g19, 2, none⟩ = false := blk_frozen BK19.out 2; have hx22_0 := cz_ BK22.out 0; have hf22_0 : w1044.frozen? ⟨g22, 0, none⟩ = false := blk_frozen BK22.out 0; have hx22_1 := cz_ BK22.out 1; have hf22_1 : w1044.frozen? ⟨g22, 1, none⟩ = false := blk_frozen BK22.out 1; have hx22_2 := cz_ BK22.out 2; have hf22_2 : w1044.frozen? ⟨g22, 2, none⟩ = false := blk_frozen BK22.out 2; have hx22_3 := cz_ BK22.out 3; have hf22_3 : w1044.frozen? ⟨g22, 3, none⟩ = false := blk_frozen BK22.out 3; have hx22_4 := cz_ BK22.out 4; have hf22_4 : w1044.frozen? ⟨g22, 4, none⟩ = false := blk_frozen BK22.out 4; have hx43_0 := cz_ BK43.out 0; have hf43_0 : w1044.frozen? ⟨g43, 0, none⟩ = false := blk_frozen BK43.out 0; have hx43_1 := cz_ BK43.out 1; have hf43_1 : w1044.frozen? ⟨g43, 1, none⟩ = false := blk_frozen BK43.out 1; have hx43_2 := cz_ BK43.out 2; have hf43_2 : w1044.frozen? ⟨g43, 2, none⟩ = false := blk_frozen BK43.out 2; have hx43_3 := cz_ BK43.out 3; have hf43_3 : w1044.frozen? ⟨g43, 3, none⟩ = false := blk_frozen BK43.out 3; have hx43_4 := cz_ BK43.out 4; have hf43_4 : w1044.frozen? ⟨g43, 4, none⟩ = false := blk_frozen BK43.out 4) | (go_at_call 22; refine calls_of_args (args' := #[.agg #[.bool t20_0, .int .i64 t20_1, .int .i64 t20_2, .slice A_21 t34_1.length c_21, .int .i64 t20_4], .int .i64 1]) (by first | (rw [show t34_1.length = t20_3.length from (Kd.R_reads' HO21.out).1.symm] <;> rfl) | rfl) ?_; (with_reducible refine (laws_heldFilled.calls k t20_0 t20_1 t20_2 _ _ t34_1 t20_4 1 t45 _ ?sd45_1 ?sd45_2 A45.out).mono ?_); (case sd45_1 => exact (Kd.R_reads' HO21.out).2.2); (case sd45_2 => exact (by rw [show t34_1.length = t20_3.length from (Kd.R_reads' HO21.out).1.symm]; exact (Kd.R_reads' HO21.out).2.1)); rintro e w1045 ⟨rfl, hb⟩; have hs_ := below_size HB.out; clear hx1_0 hf1_0 hx1_1 hf1_1 hx1_2 hf1_2 hx2_0 hf2_0 hx2_1 hf2_1 hx2_2 hf2_2 hx12_0 hf12_0 hx12_1 hf12_1 hx12_2 hf12_2 hx12_3 hf12_3 hx12_4 hf12_4 hx16_0 hf16_0 hx16_1 hf16_1 hx16_2 hf16_2 hx19_0 hf19_0 hx19_1 hf19_1 hx19_2 hf19_2 hx22_0 hf22_0 hx22_1 hf22_1 hx22_2 hf22_2 hx22_3 hf22_3 hx22_4 hf22_4 hx43_0 hf43_0 hx43_1 hf43_1 hx43_2 hf43_2 hx43_3 hf43_3 hx43_4 hf43_4; have n0_ := Aside0.mk (below_step HB.out hb); have n1_ := Aside0.mk (Kd.R_below HO11.out hb); have n2_ := Aside0.mk (Kd.S_below HO14.out hb); have n3_ := Aside0.mk (Kd.S_below HO15.out hb); have n4_ := Aside0.mk (Kd.R_below HO18.out hb); have n5_ := Aside0.mk (Kd.R_below HO21.out hb); have n6_ := Aside0.mk (Kd.S_below HO25.out hb); have n7_ := Aside0.mk (Kd.S_below HO26.out hb); have n8_ := Aside0.mk (Kd.R_below HO29.out hb); have n9_ := Aside0.mk (Kd.R_below HO42.out hb); have n10_ := Aside0.mk (blk_below BK1.out hb); have n11_ := Aside0.mk (blk_below BK2.out hb); have n12_ := Aside0.mk (blk_below BK12.out hb); have n13_ := Aside0.mk (blk_below BK16.out hb); have n14_ := Aside0.mk (blk_below BK19.out hb); have n15_ := Aside0.mk (blk_below BK22.out hb); have n16_ := Aside0.mk (blk_below BK43.out hb); have SZ45 := Aside0.mk (show w1044.heap.size ≤ w1045.heap.size from (hb).size); clear HB HO11 HO14 HO15 HO18 HO21 HO25 HO26 HO29 HO42 BK1 BK2 BK12 BK16 BK19 BK22 BK43; have HB := n0_; have HO11 := n1_; have HO14 := n2_; have HO15 := n3_; have HO18 := n4_; have HO21 := n5_; have HO25 := n6_; have HO26 := n7_; have HO29 := n8_; have HO42 := n9_; have BK1 := n10_; have BK2 := n11_; have BK12 := n12_; have BK16 := n13_; have BK19 := n14_; have BK22 := n15_; have BK43 := n16_; clear n0_ n1_ n2_ n3_ n4_ n5_ n6_ n7_ n8_ n9_ n10_ n11_ n12_ n13_ n14_ n15_ n16_; clear hb hs_; have hx1_0 := cz_ BK1.out 0; have hf1_0 : w1045.frozen? ⟨g1, 0, none⟩ = false := blk_frozen BK1.out 0; have hx1_1 := cz_ BK1.out 1; have hf1_1 : w1045.frozen? ⟨g1, 1, none⟩ = false := blk_frozen BK1.out 1; have hx1_2 := cz_ BK1.out 2; have hf1_2 : w1045.frozen? ⟨g1, 2, none⟩ = false := blk_frozen BK1.out 2; have hx2_0 := cz_ BK2.out 0; have hf2_0 : w1045.frozen? ⟨g2, 0, none⟩ = false := blk_frozen BK2.out 0; have hx2_1 := cz_ BK2.out 1; have hf2_1 : w1045.frozen? ⟨g2, 1, none⟩ = false := blk_frozen BK2.out 1; have hx2_2 := cz_ BK2.out 2; have hf2_2 : w1045.frozen? ⟨g2, 2, none⟩ = false := blk_frozen BK2.out 2; have hx12_0 := cz_ BK12.out 0; have hf12_0 : w1045.frozen? ⟨g12, 0, none⟩ = false := blk_frozen BK12.out 0; have hx12_1 := cz_ BK12.out 1; have hf12_1 : w1045.frozen? ⟨g12, 1, none⟩ = false := blk_frozen BK12.out 1; have hx12_2 := cz_ BK12.out 2; have hf12_2 : w1045.frozen? ⟨g12, 2, none⟩ = false := blk_frozen BK12.out 2; have hx12_3 := cz_ BK12.out 3; have hf12_3 : w1045.frozen? ⟨g12, 3, none⟩ = false := blk_frozen BK12.out 3; have hx12_4 := cz_ BK12.out 4; have hf12_4 : w1045.frozen? ⟨g12, 4, none⟩ = false := blk_frozen BK12.out 4; have hx16_0 := cz_ BK16.out 0; have hf16_0 : w1045.frozen? ⟨g16, 0, none⟩ = false := blk_frozen BK16.out 0; have hx16_1 := cz_ BK16.out 1; have hf16_1 : w1045.frozen? ⟨g16, 1, none⟩ = false := blk_frozen BK16.out 1; have hx16_2 := cz_ BK16.out 2; have hf16_2 : w1045.frozen? ⟨g16, 2, none⟩ = false := blk_frozen BK16.out 2; have hx19_0 := cz_ BK19.out 0; have hf19_0 : w1045.frozen? ⟨g19, 0, none⟩ = false := blk_frozen BK19.out 0; have hx19_1 := cz_ BK19.out 1; have hf19_1 : w1045.frozen? ⟨g19, 1, none⟩ = false := blk_frozen BK19.out 1; have hx19_2 := cz_ BK19.out 2; have hf19_2 : w1045.frozen? ⟨g19, 2, none⟩ = false := blk_frozen BK19.out 2; have hx22_0 := cz_ BK22.out 0; have hf22_0 : w1045.frozen? ⟨g22, 0, none⟩ = false := blk_frozen BK22.out 0; have hx22_1 := cz_ BK22.out 1; have hf22_1 : w1045.frozen? ⟨g22, 1, none⟩ = false := blk_frozen BK22.out 1; have hx22_2 := cz_ BK22.out 2; have hf22_2 : w1045.frozen? ⟨g22, 2, none⟩ = false := blk_frozen BK22.out 2; have hx22_3 := cz_ BK22.out 3; have hf22_3 : w1045.frozen? ⟨g22, 3, none⟩ = false := blk_frozen BK22.out 3; have hx22_4 := cz_ BK22.out 4; have hf22_4 : w1045.frozen? ⟨g22, 4, none⟩ = false := blk_frozen BK22.out 4; have hx43_0 := cz_ BK43.out 0; have hf43_0 : w1045.frozen? ⟨g43, 0, none⟩ = false := blk_frozen BK43.out 0; have hx43_1 := cz_ BK43.out 1; have hf43_1 : w1045.frozen? ⟨g43, 1, none⟩ = false := blk_frozen BK43.out 1; have hx43_2 := cz_ BK43.out 2; have hf43_2 : w1045.frozen? ⟨g43, 2, none⟩ = false := blk_frozen BK43.out 2; have hx43_3 := cz_ BK43.out 3; have hf43_3 : w1045.frozen? ⟨g43, 3, none⟩ = false := blk_frozen BK43.out 3; have hx43_4 := cz_ BK43.out 4; have hf43_4 : w1045.frozen? ⟨g43, 4, none⟩ = false := blk_frozen BK43.out 4))
  go_ret
  exact ⟨rfl, HB.out⟩

/-! the law's reading -/
def ok24 (z : S24) : Prop := ((Lit.int .i64 z.f0).wf = true) ∧ (z.f1.length ≤ maxLen ∧ ∀ z298 ∈ z.f1, z298.length ≤ maxLen ∧ ∀ z299 ∈ z298, (Lit.int .i64 z299).wf = true) ∧ (z.f2.length ≤ maxLen ∧ ∀ z300 ∈ z.f2, z300.length ≤ maxLen ∧ ∀ z301 ∈ z300, (Lit.int .i64 z301).wf = true)
def ok27 (z : S27) : Prop := ((Lit.int .i64 z.f0).wf = true) ∧ ((Lit.int .i64 z.f1).wf = true) ∧ (z.f2.length ≤ maxLen ∧ ∀ z302 ∈ z.f2, (Lit.int .i64 z302).wf = true)
/-- THE ONE PURE STATEMENT of laws_FnExactFillField. -/
def laws_FnExactFillField.Pure : Prop := ∀ (a0_0 : Int) (l0_1 : List (List Int)) (l0_2 : List (List Int)) (a1_0 : Int) (a1_1 : Int) (l1_2 : List Int), ((Lit.int .i64 a0_0).wf = true) → (l0_1.length ≤ maxLen ∧ ∀ z306 ∈ l0_1, z306.length ≤ maxLen ∧ ∀ z307 ∈ z306, (Lit.int .i64 z307).wf = true) → (l0_2.length ≤ maxLen ∧ ∀ z308 ∈ l0_2, z308.length ≤ maxLen ∧ ∀ z309 ∈ z308, (Lit.int .i64 z309).wf = true) → ((Lit.int .i64 a1_0).wf = true) → ((Lit.int .i64 a1_1).wf = true) → (l1_2.length ≤ maxLen ∧ ∀ z310 ∈ l1_2, (Lit.int .i64 z310).wf = true) → ∃ k, laws_FnExactFillField.f k a0_0 l0_1 l0_2 a1_0 a1_1 l1_2 = some true


end Go.Proofs.Ytblmejanjhmjdaa.XFnExactFillField
