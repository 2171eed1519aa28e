/- What the Go functions that this law comes to compute, each walked; written by a program of this session. -/
import Derived.Test.YtbnbgmpkemlfbaaXFnExactTakeVoicex0
import Derived.Test.YtbnbgmpkemlfbaaXFnExactTakeVoicex1
import Derived.Test.YtbnbgmpkemlfbaaXFnExactTakeVoicex2
import Derived.Test.YtbnbgmpkemlfbaaXFnExactTakeVoicex3
import Derived.Test.YtbnbgmpkemlfbaaXFnExactTakeVoicex4
import Derived.Test.YtbnbgmpkemlfbaaXFnExactTakeVoicex5
import Derived.Test.YtbnbgmpkemlfbaaXFnExactTakeVoicex6
namespace Go.Proofs.Ytbnbgmpkemlfbaa.XFnExactTakeVoice
open Go.RowKit Go.Proofs.YtbnbgmpkemlfbaaW.PrintWords Go.Proofs.YtbnbgmpkemlfbaaW.PrintLast Go.Proofs.YtbnbgmpkemlfbaaW.PrintMore
attribute [local go_sem] str_geq max2_int min2_int max_two min_two max_three min_three max_four min_four   -- for this text's walks alone
set_option linter.unusedVariables false
set_option linter.unusedSimpArgs false

/-! ### laws_FnExactTakeVoice: function 3 -/
def laws_FnExactTakeVoice.f (k : Nat) (l0 : List (S25)) (l1_0 : List Int) (a1_1 : Int) (a1_2 : Bool) (a1_3 : Int) (a1_4 : Int) (a1_5 : Int) : Option (Bool) := (laws_szVoiceS.f k l0 1048576).bind fun t2 => if t2 < 0 then some true else ((laws_szVoice.f l1_0 a1_1 a1_2 a1_3 a1_4 a1_5 t2).bind fun t3 => if t3 < 0 then some true else ((laws_toVoiceS.f k l0).bind fun t4 => (laws_toVoice.f k l1_0 a1_1 a1_2 a1_3 a1_4 a1_5).bind fun t6 => (spec_TakeVoice.f k t4 t6.1 t6.2.1 t6.2.2.1 t6.2.2.2.1 t6.2.2.2.2.1 t6.2.2.2.2.2).bind fun t8 => (laws_toVoiceS.f k l0).bind fun t10 => (laws_toVoice.f k l1_0 a1_1 a1_2 a1_3 a1_4 a1_5).bind fun t12 => (impl_TakeVoice.f k t10 t12.1 t12.2.1 t12.2.2.1 t12.2.2.2.1 t12.2.2.2.2.1 t12.2.2.2.2.2).bind fun t15 => (laws_eqVoiceS.f k t15.1 t8.1).bind fun t17 => if t17 = true then (if t15.2.1 = t8.2.1 then (if t15.2.2 = t8.2.2 then ((laws_toVoiceS.f k l0).bind fun t18 => (laws_eqVoiceS.f k t10 t18).bind fun t20 => if t20 = true then ((laws_toVoice.f k l1_0 a1_1 a1_2 a1_3 a1_4 a1_5).bind fun t21 => (laws_eqVoice.f k t12.1 t12.2.1 t12.2.2.1 t12.2.2.2.1 t12.2.2.2.2.1 t12.2.2.2.2.2 t21.1 t21.2.1 t21.2.2.1 t21.2.2.2.1 t21.2.2.2.2.1 t21.2.2.2.2.2).bind fun t23 => if t23 = true then ((laws_markVoiceS.f k t10 1).bind fun t24 => (laws_markVoice.f k t12.1 t12.2.1 t12.2.2.1 t12.2.2.2.1 t12.2.2.2.2.1 t12.2.2.2.2.2 t24.1).bind fun t25 => if ¬ (t25.1 < 0) then ((laws_eqVoiceS.f k t15.1 t8.1).bind fun t26 => if t26 = true then (if t15.2.1 = t8.2.1 then (if t15.2.2 = t8.2.2 then ((laws_markVoiceS.f k t15.1 1).bind fun t27 => (laws_heldVoiceS.f k t27.2 1).bind fun t28 => if ¬ (t28 < 0) then (if t28 = t27.1 then ((laws_toVoiceS.f k l0).bind fun t29 => (laws_toVoice.f k l1_0 a1_1 a1_2 a1_3 a1_4 a1_5).bind fun t31 => (impl_TakeVoice.f k t29 t31.1 t31.2.1 t31.2.2.1 t31.2.2.2.1 t31.2.2.2.2.1 t31.2.2.2.2.2).bind fun t33 => (laws_eqVoiceS.f k t33.1 t8.1).bind fun t35 => if t35 = true then (if t33.2.1 = t8.2.1 then (if t33.2.2 = t8.2.2 then ((laws_heldVoiceS.f k t27.2 1).bind fun t36 => if ¬ (t36 < 0) then (if t36 = t27.1 then (some true) else none) else none) else none) else none) else none) else none) else none) else none) else none) else none) else none) else none) else none) else none) else none) else none))
theorem laws_FnExactTakeVoice.mono : ∀ a0 a1 a2 a3 a4 a5 a6 k, LeO (laws_FnExactTakeVoice.f k a0 a1 a2 a3 a4 a5 a6) (laws_FnExactTakeVoice.f (k + 1) a0 a1 a2 a3 a4 a5 a6) := by
  intro a0 a1 a2 a3 a4 a5 a6 k
  unfold laws_FnExactTakeVoice.f
  repeat' first
  | (with_reducible exact laws_szVoiceS.mono _ _ _)
  | (with_reducible exact spec_TakeVoice.mono _ _ _ _ _ _ _ _)
  | (with_reducible exact laws_toVoiceS.mono _ _)
  | (with_reducible exact laws_toVoice.mono _ _ _ _ _ _ _)
  | (with_reducible exact impl_TakeVoice.mono _ _ _ _ _ _ _ _)
  | (with_reducible exact laws_eqVoiceS.mono _ _ _)
  | (with_reducible exact laws_eqVoice.mono _ _ _ _ _ _ _ _ _ _ _ _ _)
  | (with_reducible exact laws_markVoiceS.mono _ _ _)
  | (with_reducible exact laws_markVoice.mono _ _ _ _ _ _ _ _)
  | (with_reducible exact laws_heldVoiceS.mono _ _ _)
  | (with_reducible exact LeO.refl _)
  | (with_reducible exact LeO.none _)
  | (with_reducible refine LeO.ite ?_ ?_)
  | refine LeO.bind ?_ (fun _ => ?_)
  | exact LeO.none _
def laws_FnExactTakeVoice.T8 : Bool × List (List Nat × List Nat) := (true, [([], []), ([0], [0]), ([], []), ([2, 1], [2]), ([1, 3, 3], [1, 3]), ([4], [4]), ([5], [5]), ([5], [5]), ([5], [5]), ([6, 4, 0, 1, 2, 3, 4, 5, 6], [6]), ([7, 9, 0, 1, 2, 3, 4, 5, 6, 7, 9], [7]), ([8, 10, 0, 1, 2, 3, 4, 5, 6, 7, 8, 9, 10], [8])])
def laws_FnExactTakeVoice.B8 : List Nat := [0, 1, 0, 7, 15, 31, 63, 63, 63, 127, 767, 2047]
theorem laws_FnExactTakeVoice.tab8 : rtab .any (opsOf Try.f3 8) = laws_FnExactTakeVoice.T8 := by kernel_rfl
theorem laws_FnExactTakeVoice.bits8 : waitsOk laws_FnExactTakeVoice.T8.2 laws_FnExactTakeVoice.B8 = true := by kernel_rfl
def laws_FnExactTakeVoice.T16 : Bool × List (List Nat × List Nat) := (true, [([], []), ([], []), ([1], [1]), ([0, 2, 2], [0, 2]), ([3], [3])])
def laws_FnExactTakeVoice.B16 : List Nat := [0, 0, 2, 7, 15]
theorem laws_FnExactTakeVoice.tab16 : rtab .any (opsOf Try.f3 16) = laws_FnExactTakeVoice.T16 := by kernel_rfl
theorem laws_FnExactTakeVoice.bits16 : waitsOk laws_FnExactTakeVoice.T16.2 laws_FnExactTakeVoice.B16 = true := by kernel_rfl
def laws_FnExactTakeVoice.T31 : Bool × List (List Nat × List Nat) := (true, [([], []), ([0], [0]), ([], []), ([2, 1], [2]), ([1, 3, 3], [1, 3]), ([4], [4]), ([5], [5]), ([5], [5]), ([5], [5]), ([6, 4, 0, 1, 2, 3, 4, 5, 6], [6]), ([7, 9, 0, 1, 2, 3, 4, 5, 6, 7, 9], [7]), ([8, 10, 0, 1, 2, 3, 4, 5, 6, 7, 8, 9, 10], [8])])
def laws_FnExactTakeVoice.B31 : List Nat := [0, 1, 0, 7, 15, 31, 63, 63, 63, 127, 767, 2047]
theorem laws_FnExactTakeVoice.tab31 : rtab .any (opsOf Try.f3 31) = laws_FnExactTakeVoice.T31 := by kernel_rfl
theorem laws_FnExactTakeVoice.bits31 : waitsOk laws_FnExactTakeVoice.T31.2 laws_FnExactTakeVoice.B31 = true := by kernel_rfl
set_option maxHeartbeats 8000000 in
set_option maxRecDepth 100000 in
theorem laws_FnExactTakeVoice.calls (k : Nat) (A0 : Option Addr) (c0 : Nat) (l0 : List (S25)) (A1_0 : Option Addr) (c1_0 : Nat) (l1_0 : List Int) (a1_1 : Int) (a1_2 : Bool) (a1_3 : Int) (a1_4 : Int) (a1_5 : Int) (r : Bool) (w : World) (hr0 : Kd.C k25 w A0 l0.length l0) (hc0 : l0.length ≤ c0) (hr1_0 : Kd.C (Kd.int .i64) w A1_0 l1_0.length l1_0) (hc1_0 : l1_0.length ≤ c1_0) (h : laws_FnExactTakeVoice.f k l0 l1_0 a1_1 a1_2 a1_3 a1_4 a1_5 = some r) :
    Calls Try.prog 3 #[.slice A0 l0.length c0, .agg #[.slice A1_0 l1_0.length c1_0, .int .i64 a1_1, .bool a1_2, .int .i64 a1_3, .int .i64 a1_4, .int .i64 a1_5]] w fun e w' => e = .returned (.bool r) ∧ Below w.heap.size w w' := by
  have HR0 := Aside0.mk hr0
  have HC0 := Aside0.mk hc0
  clear hr0 hc0
  have HR1_0 := Aside0.mk hr1_0
  have HC1_0 := Aside0.mk hc1_0
  clear hr1_0 hc1_0
  have HB := Aside0.mk (Below.refl w.heap.size w)
  unfold laws_FnExactTakeVoice.f at h
  have H := h
  clear h
  replace H := bE_ H
  obtain ⟨t2, hA2, H⟩ := H
  have A2 := Aside0.mk hA2
  clear hA2
  by_cases c_ : t2 < 0
  · rw [if_pos c_] at H
    have fb37 : decide (t2 < 0) = true := decide_eq_true c_
    clear c_
    obtain rfl := Option.some.inj H
    go_enter Try.func3, Try.ntmps3
    go_wp2_with (first | ((with_reducible refine gate_dst (N := 3) rfl ?_); refine bx_ 3 #[.slice A1_0 l1_0.length c1_0, .int .i64 a1_1, .bool a1_2, .int .i64 a1_3, .int .i64 a1_4, .int .i64 a1_5] 25 ?_; intro g1 hg w1001 hbox hb; have n0_ := Aside0.mk (below_step HB.out hb); have SZ1 := Aside0.mk (show w.heap.size ≤ w1001.heap.size from (hb).size); clear HB; have HB := n0_; clear n0_; have BK1 := Aside0.mk hbox; have GL1 := Aside0.mk (show w.heap.size ≤ g1 from Nat.le_of_eq hg.symm); have GU1 := Aside0.mk (blk_lt hbox); clear hbox hg hb; have hx1_0 := cz_ BK1.out 0; have hf1_0 : w1001.frozen? ⟨g1, 0, none⟩ = false := blk_frozen BK1.out 0; have hx1_1 := cz_ BK1.out 1; have hf1_1 : w1001.frozen? ⟨g1, 1, none⟩ = false := blk_frozen BK1.out 1; have hx1_2 := cz_ BK1.out 2; have hf1_2 : w1001.frozen? ⟨g1, 2, none⟩ = false := blk_frozen BK1.out 2; have hx1_3 := cz_ BK1.out 3; have hf1_3 : w1001.frozen? ⟨g1, 3, none⟩ = false := blk_frozen BK1.out 3; have hx1_4 := cz_ BK1.out 4; have hf1_4 : w1001.frozen? ⟨g1, 4, none⟩ = false := blk_frozen BK1.out 4; have hx1_5 := cz_ BK1.out 5; have hf1_5 : w1001.frozen? ⟨g1, 5, none⟩ = false := blk_frozen BK1.out 5) | (go_at_call 5; (with_reducible refine (laws_szVoiceS.calls k _ _ l0 1048576 t2 _ ?sd2_1 ?sd2_2 A2.out).mono ?_); (case sd2_1 => exact Kd.C_below HR0.out HB.out); (case sd2_2 => exact HC0.out); rintro e w1002 ⟨rfl, hb⟩; have hs_ := below_size HB.out; clear hx1_0 hf1_0 hx1_1 hf1_1 hx1_2 hf1_2 hx1_3 hf1_3 hx1_4 hf1_4 hx1_5 hf1_5; have n0_ := Aside0.mk (below_step HB.out hb); have n1_ := Aside0.mk (blk_below BK1.out hb); have SZ2 := Aside0.mk (show w1001.heap.size ≤ w1002.heap.size from (hb).size); clear HB BK1; have HB := n0_; have BK1 := n1_; clear n0_ n1_; clear hb hs_; have hx1_0 := cz_ BK1.out 0; have hf1_0 : w1002.frozen? ⟨g1, 0, none⟩ = false := blk_frozen BK1.out 0; have hx1_1 := cz_ BK1.out 1; have hf1_1 : w1002.frozen? ⟨g1, 1, none⟩ = false := blk_frozen BK1.out 1; have hx1_2 := cz_ BK1.out 2; have hf1_2 : w1002.frozen? ⟨g1, 2, none⟩ = false := blk_frozen BK1.out 2; have hx1_3 := cz_ BK1.out 3; have hf1_3 : w1002.frozen? ⟨g1, 3, none⟩ = false := blk_frozen BK1.out 3; have hx1_4 := cz_ BK1.out 4; have hf1_4 : w1002.frozen? ⟨g1, 4, none⟩ = false := blk_frozen BK1.out 4; have hx1_5 := cz_ BK1.out 5; have hf1_5 : w1002.frozen? ⟨g1, 5, none⟩ = false := blk_frozen BK1.out 5))
    go_ret
    exact ⟨rfl, HB.out⟩
  rw [if_neg c_] at H
  have fb38 : decide (t2 < 0) = false := decide_eq_false c_
  clear c_
  replace H := bE_ H
  obtain ⟨t3, hA3, H⟩ := H
  have A3 := Aside0.mk hA3
  clear hA3
  by_cases c_ : t3 < 0
  · rw [if_pos c_] at H
    have fb39 : decide (t3 < 0) = true := decide_eq_true c_
    clear c_
    obtain rfl := Option.some.inj H
    go_enter Try.func3, Try.ntmps3
    go_wp2_with (first | ((with_reducible refine gate_dst (N := 3) rfl ?_); refine bx_ 3 #[.slice A1_0 l1_0.length c1_0, .int .i64 a1_1, .bool a1_2, .int .i64 a1_3, .int .i64 a1_4, .int .i64 a1_5] 25 ?_; intro g1 hg w1001 hbox hb; have n0_ := Aside0.mk (below_step HB.out hb); have SZ1 := Aside0.mk (show w.heap.size ≤ w1001.heap.size from (hb).size); clear HB; have HB := n0_; clear n0_; have BK1 := Aside0.mk hbox; have GL1 := Aside0.mk (show w.heap.size ≤ g1 from Nat.le_of_eq hg.symm); have GU1 := Aside0.mk (blk_lt hbox); clear hbox hg hb; have hx1_0 := cz_ BK1.out 0; have hf1_0 : w1001.frozen? ⟨g1, 0, none⟩ = false := blk_frozen BK1.out 0; have hx1_1 := cz_ BK1.out 1; have hf1_1 : w1001.frozen? ⟨g1, 1, none⟩ = false := blk_frozen BK1.out 1; have hx1_2 := cz_ BK1.out 2; have hf1_2 : w1001.frozen? ⟨g1, 2, none⟩ = false := blk_frozen BK1.out 2; have hx1_3 := cz_ BK1.out 3; have hf1_3 : w1001.frozen? ⟨g1, 3, none⟩ = false := blk_frozen BK1.out 3; have hx1_4 := cz_ BK1.out 4; have hf1_4 : w1001.frozen? ⟨g1, 4, none⟩ = false := blk_frozen BK1.out 4; have hx1_5 := cz_ BK1.out 5; have hf1_5 : w1001.frozen? ⟨g1, 5, none⟩ = false := blk_frozen BK1.out 5) | (go_at_call 5; (with_reducible refine (laws_szVoiceS.calls k _ _ l0 1048576 t2 _ ?sd2_1 ?sd2_2 A2.out).mono ?_); (case sd2_1 => exact Kd.C_below HR0.out HB.out); (case sd2_2 => exact HC0.out); rintro e w1002 ⟨rfl, hb⟩; have hs_ := below_size HB.out; clear hx1_0 hf1_0 hx1_1 hf1_1 hx1_2 hf1_2 hx1_3 hf1_3 hx1_4 hf1_4 hx1_5 hf1_5; have n0_ := Aside0.mk (below_step HB.out hb); have n1_ := Aside0.mk (blk_below BK1.out hb); have SZ2 := Aside0.mk (show w1001.heap.size ≤ w1002.heap.size from (hb).size); clear HB BK1; have HB := n0_; have BK1 := n1_; clear n0_ n1_; clear hb hs_; have hx1_0 := cz_ BK1.out 0; have hf1_0 : w1002.frozen? ⟨g1, 0, none⟩ = false := blk_frozen BK1.out 0; have hx1_1 := cz_ BK1.out 1; have hf1_1 : w1002.frozen? ⟨g1, 1, none⟩ = false := blk_frozen BK1.out 1; have hx1_2 := cz_ BK1.out 2; have hf1_2 : w1002.frozen? ⟨g1, 2, none⟩ = false := blk_frozen BK1.out 2; have hx1_3 := cz_ BK1.out 3; have hf1_3 : w1002.frozen? ⟨g1, 3, none⟩ = false := blk_frozen BK1.out 3; have hx1_4 := cz_ BK1.out 4; have hf1_4 : w1002.frozen? ⟨g1, 4, none⟩ = false := blk_frozen BK1.out 4; have hx1_5 := cz_ BK1.out 5; have hf1_5 : w1002.frozen? ⟨g1, 5, none⟩ = false := blk_frozen BK1.out 5) | (go_at_call 6; (with_reducible refine (laws_szVoice.calls _ _ l1_0 a1_1 a1_2 a1_3 a1_4 a1_5 t2 t3 _ ?sd3_1 ?sd3_2 A3.out).mono ?_); (case sd3_1 => exact Kd.C_below HR1_0.out HB.out); (case sd3_2 => exact HC1_0.out); rintro e w1003 ⟨rfl, hb⟩; have hs_ := below_size HB.out; clear hx1_0 hf1_0 hx1_1 hf1_1 hx1_2 hf1_2 hx1_3 hf1_3 hx1_4 hf1_4 hx1_5 hf1_5; have n0_ := Aside0.mk (below_step HB.out hb); have n1_ := Aside0.mk (blk_below BK1.out hb); have SZ3 := Aside0.mk (show w1002.heap.size ≤ w1003.heap.size from (hb).size); clear HB BK1; have HB := n0_; have BK1 := n1_; clear n0_ n1_; clear hb hs_; have hx1_0 := cz_ BK1.out 0; have hf1_0 : w1003.frozen? ⟨g1, 0, none⟩ = false := blk_frozen BK1.out 0; have hx1_1 := cz_ BK1.out 1; have hf1_1 : w1003.frozen? ⟨g1, 1, none⟩ = false := blk_frozen BK1.out 1; have hx1_2 := cz_ BK1.out 2; have hf1_2 : w1003.frozen? ⟨g1, 2, none⟩ = false := blk_frozen BK1.out 2; have hx1_3 := cz_ BK1.out 3; have hf1_3 : w1003.frozen? ⟨g1, 3, none⟩ = false := blk_frozen BK1.out 3; have hx1_4 := cz_ BK1.out 4; have hf1_4 : w1003.frozen? ⟨g1, 4, none⟩ = false := blk_frozen BK1.out 4; have hx1_5 := cz_ BK1.out 5; have hf1_5 : w1003.frozen? ⟨g1, 5, none⟩ = false := blk_frozen BK1.out 5))
    go_ret
    exact ⟨rfl, HB.out⟩
  rw [if_neg c_] at H
  have fb40 : decide (t3 < 0) = false := decide_eq_false c_
  clear c_
  replace H := bE_ H
  obtain ⟨t4, hA4, H⟩ := H
  have A4 := Aside0.mk hA4
  clear hA4
  replace H := bE_ H
  obtain ⟨⟨t6_0, t6_1, t6_2, t6_3, t6_4, t6_5⟩, hA6, H⟩ := H
  try dsimp only at H
  have A6 := Aside0.mk hA6
  clear hA6
  replace H := bE_ H
  obtain ⟨⟨t8_0, t8_1, t8_2⟩, hA8, H⟩ := H
  try dsimp only at H
  have A8 := Aside0.mk hA8
  clear hA8
  replace H := bE_ H
  obtain ⟨t10, hA10, H⟩ := H
  have A10 := Aside0.mk hA10
  clear hA10
  replace H := bE_ H
  obtain ⟨⟨t12_0, t12_1, t12_2, t12_3, t12_4, t12_5⟩, hA12, H⟩ := H
  try dsimp only at H
  have A12 := Aside0.mk hA12
  clear hA12
  replace H := bE_ H
  obtain ⟨⟨t15_0, t15_1, t15_2⟩, hA15, H⟩ := H
  try dsimp only at H
  have A15 := Aside0.mk hA15
  clear hA15
  replace H := bE_ H
  obtain ⟨t17, hA17, H⟩ := H
  have A17 := Aside0.mk hA17
  clear hA17
  replace H := nd_ H
  obtain ⟨c_, H⟩ := H
  subst c_
  replace H := nd_ H
  obtain ⟨c_, H⟩ := H
  subst c_
  have fb41 : (t15_1 == t15_1) = true := beq_self_eq_true _
  have fb42 : (t15_1 != t15_1) = false := by simp
  replace H := nd_ H
  obtain ⟨c_, H⟩ := H
  subst c_
  have fb43 : (t15_2 == t15_2) = true := beq_self_eq_true _
  have fb44 : (t15_2 != t15_2) = false := by simp
  replace H := bE_ H
  obtain ⟨t18, hA18, H⟩ := H
  have A18 := Aside0.mk hA18
  clear hA18
  replace H := bE_ H
  obtain ⟨t20, hA20, H⟩ := H
  have A20 := Aside0.mk hA20
  clear hA20
  replace H := nd_ H
  obtain ⟨c_, H⟩ := H
  subst c_
  replace H := bE_ H
  obtain ⟨⟨t21_0, t21_1, t21_2, t21_3, t21_4, t21_5⟩, hA21, H⟩ := H
  try dsimp only at H
  have A21 := Aside0.mk hA21
  clear hA21
  replace H := bE_ H
  obtain ⟨t23, hA23, H⟩ := H
  have A23 := Aside0.mk hA23
  clear hA23
  replace H := nd_ H
  obtain ⟨c_, H⟩ := H
  subst c_
  replace H := bE_ H
  obtain ⟨⟨t24_0, t24_1⟩, hA24, H⟩ := H
  try dsimp only at H
  have A24 := Aside0.mk hA24
  clear hA24
  replace H := bE_ H
  obtain ⟨⟨t25_0, t25_1⟩, hA25, H⟩ := H
  try dsimp only at H
  have A25 := Aside0.mk hA25
  clear hA25
  replace H := nd_ H
  obtain ⟨c_, H⟩ := H
  have fb45 : decide (t25_0 < 0) = false := decide_eq_false c_
  clear c_
  replace H := bE_ H
  obtain ⟨t26, hA26, H⟩ := H
  have A26 := Aside0.mk hA26
  clear hA26
  replace H := nd_ H
  obtain ⟨c_, H⟩ := H
  subst c_
  replace H := nd_ H
  obtain ⟨c_, H⟩ := H
  clear c_
  replace H := nd_ H
  obtain ⟨c_, H⟩ := H
  clear c_
  replace H := bE_ H
  obtain ⟨⟨t27_0, t27_1⟩, hA27, H⟩ := H
  try dsimp only at H
  have A27 := Aside0.mk hA27
  clear hA27
  replace H := bE_ H
  obtain ⟨t28, hA28, H⟩ := H
  have A28 := Aside0.mk hA28
  clear hA28
  replace H := nd_ H
  obtain ⟨c_, H⟩ := H
  have fb46 : decide (t28 < 0) = false := decide_eq_false c_
  clear c_
  replace H := nd_ H
  obtain ⟨c_, H⟩ := H
  subst c_
  have fb47 : (t28 == t28) = true := beq_self_eq_true _
  have fb48 : (t28 != t28) = false := by simp
  replace H := bE_ H
  obtain ⟨t29, hA29, H⟩ := H
  have A29 := Aside0.mk hA29
  clear hA29
  replace H := bE_ H
  obtain ⟨⟨t31_0, t31_1, t31_2, t31_3, t31_4, t31_5⟩, hA31, H⟩ := H
  try dsimp only at H
  have A31 := Aside0.mk hA31
  clear hA31
  replace H := bE_ H
  obtain ⟨⟨t33_0, t33_1, t33_2⟩, hA33, H⟩ := H
  try dsimp only at H
  have A33 := Aside0.mk hA33
  clear hA33
  replace H := bE_ H
  obtain ⟨t35, hA35, H⟩ := H
  have A35 := Aside0.mk hA35
  clear hA35
  replace H := nd_ H
  obtain ⟨c_, H⟩ := H
  subst c_
  replace H := nd_ H
  obtain ⟨c_, H⟩ := H
  subst c_
  have fb49 : (t33_1 == t33_1) = true := beq_self_eq_true _
  have fb50 : (t33_1 != t33_1) = false := by simp
  replace H := nd_ H
  obtain ⟨c_, H⟩ := H
  subst c_
  have fb51 : (t33_2 == t33_2) = true := beq_self_eq_true _
  have fb52 : (t33_2 != t33_2) = false := by simp
  replace H := bE_ H
  obtain ⟨t36, hA36, H⟩ := H
  have A36 := Aside0.mk hA36
  clear hA36
  replace H := nd_ H
  obtain ⟨c_, H⟩ := H
  have fb53 : decide (t36 < 0) = false := decide_eq_false c_
  clear c_
  replace H := nd_ H
  obtain ⟨c_, H⟩ := H
  subst c_
  have fb54 : (t36 == t36) = true := beq_self_eq_true _
  have fb55 : (t36 != t36) = false := by simp
  obtain rfl := Option.some.inj H
  go_enter Try.func3, Try.ntmps3
  go_upto_region 8 with (first | ((with_reducible refine gate_dst (N := 3) rfl ?_); refine bx_ 3 #[.slice A1_0 l1_0.length c1_0, .int .i64 a1_1, .bool a1_2, .int .i64 a1_3, .int .i64 a1_4, .int .i64 a1_5] 25 ?_; intro g1 hg w1001 hbox hb; have n0_ := Aside0.mk (below_step HB.out hb); have SZ1 := Aside0.mk (show w.heap.size ≤ w1001.heap.size from (hb).size); clear HB; have HB := n0_; clear n0_; have BK1 := Aside0.mk hbox; have GL1 := Aside0.mk (show w.heap.size ≤ g1 from Nat.le_of_eq hg.symm); have GU1 := Aside0.mk (blk_lt hbox); clear hbox hg hb; have hx1_0 := cz_ BK1.out 0; have hf1_0 : w1001.frozen? ⟨g1, 0, none⟩ = false := blk_frozen BK1.out 0; have hx1_1 := cz_ BK1.out 1; have hf1_1 : w1001.frozen? ⟨g1, 1, none⟩ = false := blk_frozen BK1.out 1; have hx1_2 := cz_ BK1.out 2; have hf1_2 : w1001.frozen? ⟨g1, 2, none⟩ = false := blk_frozen BK1.out 2; have hx1_3 := cz_ BK1.out 3; have hf1_3 : w1001.frozen? ⟨g1, 3, none⟩ = false := blk_frozen BK1.out 3; have hx1_4 := cz_ BK1.out 4; have hf1_4 : w1001.frozen? ⟨g1, 4, none⟩ = false := blk_frozen BK1.out 4; have hx1_5 := cz_ BK1.out 5; have hf1_5 : w1001.frozen? ⟨g1, 5, none⟩ = false := blk_frozen BK1.out 5) | (go_at_call 5; (with_reducible refine (laws_szVoiceS.calls k _ _ l0 1048576 t2 _ ?sd2_1 ?sd2_2 A2.out).mono ?_); (case sd2_1 => exact Kd.C_below HR0.out HB.out); (case sd2_2 => exact HC0.out); rintro e w1002 ⟨rfl, hb⟩; have hs_ := below_size HB.out; clear hx1_0 hf1_0 hx1_1 hf1_1 hx1_2 hf1_2 hx1_3 hf1_3 hx1_4 hf1_4 hx1_5 hf1_5; have n0_ := Aside0.mk (below_step HB.out hb); have n1_ := Aside0.mk (blk_below BK1.out hb); have SZ2 := Aside0.mk (show w1001.heap.size ≤ w1002.heap.size from (hb).size); clear HB BK1; have HB := n0_; have BK1 := n1_; clear n0_ n1_; clear hb hs_; have hx1_0 := cz_ BK1.out 0; have hf1_0 : w1002.frozen? ⟨g1, 0, none⟩ = false := blk_frozen BK1.out 0; have hx1_1 := cz_ BK1.out 1; have hf1_1 : w1002.frozen? ⟨g1, 1, none⟩ = false := blk_frozen BK1.out 1; have hx1_2 := cz_ BK1.out 2; have hf1_2 : w1002.frozen? ⟨g1, 2, none⟩ = false := blk_frozen BK1.out 2; have hx1_3 := cz_ BK1.out 3; have hf1_3 : w1002.frozen? ⟨g1, 3, none⟩ = false := blk_frozen BK1.out 3; have hx1_4 := cz_ BK1.out 4; have hf1_4 : w1002.frozen? ⟨g1, 4, none⟩ = false := blk_frozen BK1.out 4; have hx1_5 := cz_ BK1.out 5; have hf1_5 : w1002.frozen? ⟨g1, 5, none⟩ = false := blk_frozen BK1.out 5) | (go_at_call 6; (with_reducible refine (laws_szVoice.calls _ _ l1_0 a1_1 a1_2 a1_3 a1_4 a1_5 t2 t3 _ ?sd3_1 ?sd3_2 A3.out).mono ?_); (case sd3_1 => exact Kd.C_below HR1_0.out HB.out); (case sd3_2 => exact HC1_0.out); rintro e w1003 ⟨rfl, hb⟩; have hs_ := below_size HB.out; clear hx1_0 hf1_0 hx1_1 hf1_1 hx1_2 hf1_2 hx1_3 hf1_3 hx1_4 hf1_4 hx1_5 hf1_5; have n0_ := Aside0.mk (below_step HB.out hb); have n1_ := Aside0.mk (blk_below BK1.out hb); have SZ3 := Aside0.mk (show w1002.heap.size ≤ w1003.heap.size from (hb).size); clear HB BK1; have HB := n0_; have BK1 := n1_; clear n0_ n1_; clear hb hs_; have hx1_0 := cz_ BK1.out 0; have hf1_0 : w1003.frozen? ⟨g1, 0, none⟩ = false := blk_frozen BK1.out 0; have hx1_1 := cz_ BK1.out 1; have hf1_1 : w1003.frozen? ⟨g1, 1, none⟩ = false := blk_frozen BK1.out 1; have hx1_2 := cz_ BK1.out 2; have hf1_2 : w1003.frozen? ⟨g1, 2, none⟩ = false := blk_frozen BK1.out 2; have hx1_3 := cz_ BK1.out 3; have hf1_3 : w1003.frozen? ⟨g1, 3, none⟩ = false := blk_frozen BK1.out 3; have hx1_4 := cz_ BK1.out 4; have hf1_4 : w1003.frozen? ⟨g1, 4, none⟩ = false := blk_frozen BK1.out 4; have hx1_5 := cz_ BK1.out 5; have hf1_5 : w1003.frozen? ⟨g1, 5, none⟩ = false := blk_frozen BK1.out 5))
  (try simp only [Act.put, List.setIfInBounds_toArray, List.set_cons_zero, List.set_cons_succ])
  clear hx1_0 hf1_0 hx1_1 hf1_1 hx1_2 hf1_2 hx1_3 hf1_3 hx1_4 hf1_4 hx1_5 hf1_5
  have n0_ := Aside0.mk (below_step HB.out (below_drew1 (Below.refl w1003.heap.size w1003)))
  have n1_ := Aside0.mk (blk_below BK1.out (below_drew1 (Below.refl w1003.heap.size w1003)))
  have SZ4 := Aside0.mk (show w1003.heap.size ≤ w1003.drew.heap.size from ((below_drew1 (Below.refl w1003.heap.size w1003))).size)
  clear HB BK1
  have HB := n0_
  have BK1 := n1_
  clear n0_ n1_
  refine start_ (n := 12) (S := fun w' => w'.cell? ⟨g1, 0, none⟩ = some (.slice A1_0 l1_0.length c1_0) ∧ w'.cell? ⟨g1, 1, none⟩ = some (.int .i64 a1_1) ∧ w'.cell? ⟨g1, 2, none⟩ = some (.bool a1_2) ∧ w'.cell? ⟨g1, 3, none⟩ = some (.int .i64 a1_3) ∧ w'.cell? ⟨g1, 4, none⟩ = some (.int .i64 a1_4) ∧ w'.cell? ⟨g1, 5, none⟩ = some (.int .i64 a1_5)) (ds := []) (Array.replicate 12 false) (by kernel_rfl) rfl rfl ⟨cz_ BK1.out 0, cz_ BK1.out 1, cz_ BK1.out 2, cz_ BK1.out 3, cz_ BK1.out 4, cz_ BK1.out 5⟩ (fun hHeld => ?_); refine with_tabW laws_FnExactTakeVoice.tab8 laws_FnExactTakeVoice.bits8 (fun HT_ HW_ => ?_)
  generalize w1003.drew = w3003 at HB BK1 SZ4 hHeld ⊢
  refine pure_ (i := 0) (N := some 31) (v := ?_) (a' := ?_) #[true, false, false, false, false, false, false, false, false, false, false, false] rfl rfl (any_of HT_.out (by kernel_rfl)) (fun _ _ _ h => h) (Or.inl ⟨by rfl, ?_⟩) ?_ ?_
  rotate_left
  · intro w'
    go_simp
    with_reducible rfl
  rotate_left
  · simp only [Act.put, List.setIfInBounds_toArray, List.set_cons_zero, List.set_cons_succ, i64_w, i32_w]
    rfl
  refine take_ (i := 2) (N := some 33) (v := ?_) (a' := ?_) #[true, false, true, false, false, false, false, false, false, false, false, false] rfl rfl (take_ofW HT_.out HW_.out (by kernel_rfl)) (fun _ _ _ h => h) (Or.inl ⟨by rfl, ?_⟩) hHeld ?_ ?_
  rotate_left
  · rintro w' ⟨s0, s1, s2, s3, s4, s5⟩
    go_simp
    with_reducible rfl
  rotate_left
  · simp only [Act.put, List.setIfInBounds_toArray, List.set_cons_zero, List.set_cons_succ, i64_w, i32_w]
    rfl
  refine oS_ 1 32 HT_ (fun K hK => ?_)
  refine goes_ Try.func8 (by kernel_rfl) rfl #[.slice A0 l0.length c0] (by rfl) rfl rfl (by (try simp only [List.map_toArray, List.map_cons, List.map_nil]); first | done | rfl) ?_
  (with_reducible refine (laws_toVoiceS.calls k _ _ l0 t4 _ ?sd4_1 ?sd4_2 A4.out).mono ?_)
  (case sd4_1 => exact Kd.C_below HR0.out HB.out)
  (case sd4_2 => exact HC0.out)
  rintro e w1004 ⟨v_5, rfl, ho0, hb⟩
  refine ⟨_, rfl, ?_⟩
  have hs_ := below_size HB.out
  have n0_ := Aside0.mk (below_step HB.out hb)
  have n1_ := Aside0.mk (blk_below BK1.out hb)
  have SZ5 := Aside0.mk (show w3003.heap.size ≤ w1004.heap.size from (hb).size)
  clear HB BK1
  have HB := n0_
  have BK1 := n1_
  clear n0_ n1_
  have HO5 := Aside0.mk (S_zone ho0 hs_)
  clear ho0
  obtain ⟨A_5, c_5, e_5⟩ := Kd.S_slice HO5.out
  subst e_5
  clear hb hs_
  refine hK.out _ _ ⟨cz_ BK1.out 0, cz_ BK1.out 1, cz_ BK1.out 2, cz_ BK1.out 3, cz_ BK1.out 4, cz_ BK1.out 5⟩ (fun hHeld => ?_)
  clear hK K
  refine norm_ (a' := ?_) ?_ ?_
  rotate_left
  · show Act.put _ (some 32) _ = _
    simp only [Act.put, List.setIfInBounds_toArray, List.set_cons_zero, List.set_cons_succ, i64_w, i32_w]
    rfl
  refine oS_ 3 34 HT_ (fun K hK => ?_)
  refine goes_ Try.func9 (by kernel_rfl) rfl #[.agg #[.slice A1_0 l1_0.length c1_0, .int .i64 a1_1, .bool a1_2, .int .i64 a1_3, .int .i64 a1_4, .int .i64 a1_5]] (by rfl) rfl rfl (by (try simp only [List.map_toArray, List.map_cons, List.map_nil]); first | done | rfl) ?_
  (with_reducible refine (laws_toVoice.calls k _ _ l1_0 a1_1 a1_2 a1_3 a1_4 a1_5 t6_0 t6_1 t6_2 t6_3 t6_4 t6_5 _ ?sd6_1 ?sd6_2 A6.out).mono ?_)
  (case sd6_1 => exact Kd.C_below HR1_0.out HB.out)
  (case sd6_2 => exact HC1_0.out)
  rintro e w1006 ⟨v_7, rfl, ho0, hb⟩
  refine ⟨_, rfl, ?_⟩
  have hs_ := below_size HB.out
  have n0_ := Aside0.mk (below_step HB.out hb)
  have n1_ := Aside0.mk (Kd.S_below HO5.out hb)
  have n2_ := Aside0.mk (blk_below BK1.out hb)
  have SZ6 := Aside0.mk (show w1004.heap.size ≤ w1006.heap.size from (hb).size)
  clear HB HO5 BK1
  have HB := n0_
  have HO5 := n1_
  have BK1 := n2_
  clear n0_ n1_ n2_
  have HO7 := Aside0.mk (R_zone ho0 hs_)
  clear ho0
  obtain ⟨A_7, c_7, e_7⟩ := Kd.R_slice HO7.out
  subst e_7
  clear hb hs_
  refine hK.out _ _ ⟨cz_ BK1.out 0, cz_ BK1.out 1, cz_ BK1.out 2, cz_ BK1.out 3, cz_ BK1.out 4, cz_ BK1.out 5⟩ (fun hHeld => ?_)
  clear hK K
  refine norm_ (a' := ?_) ?_ ?_
  rotate_left
  · show Act.put _ (some 34) _ = _
    simp only [Act.put, List.setIfInBounds_toArray, List.set_cons_zero, List.set_cons_succ, i64_w, i32_w]
    rfl
  refine oS_ 4 35 HT_ (fun K hK => ?_)
  refine goes_ Try.func7 (by kernel_rfl) rfl #[.slice A_5 t4.length c_5, .agg #[.slice A_7 t6_0.length c_7, .int .i64 t6_1, .bool t6_2, .int .i64 t6_3, .int .i64 t6_4, .int .i64 t6_5]] (by rfl) rfl rfl (by (try simp only [List.map_toArray, List.map_cons, List.map_nil]); first | done | rfl) ?_
  (with_reducible refine (spec_TakeVoice.calls k _ _ t4 _ _ t6_0 t6_1 t6_2 t6_3 t6_4 t6_5 t8_0 t33_1 t33_2 _ ?sd8_1 ?sd8_2 ?sd8_3 ?sd8_4 A8.out).mono ?_)
  (case sd8_1 => exact (Kd.S_reads' HO5.out).2.2)
  (case sd8_2 => exact (Kd.S_reads' HO5.out).2.1)
  (case sd8_3 => exact (Kd.R_reads' HO7.out).2.2)
  (case sd8_4 => exact (Kd.R_reads' HO7.out).2.1)
  rintro e w1008 ⟨v_9, rfl, ho0, hb⟩
  refine ⟨_, rfl, ?_⟩
  have hs_ := below_size HB.out
  have n0_ := Aside0.mk (below_step HB.out hb)
  have n1_ := Aside0.mk (Kd.S_below HO5.out hb)
  have n2_ := Aside0.mk (Kd.R_below HO7.out hb)
  have n3_ := Aside0.mk (blk_below BK1.out hb)
  have SZ7 := Aside0.mk (show w1006.heap.size ≤ w1008.heap.size from (hb).size)
  clear HB HO5 HO7 BK1
  have HB := n0_
  have HO5 := n1_
  have HO7 := n2_
  have BK1 := n3_
  clear n0_ n1_ n2_ n3_
  have HO9 := Aside0.mk (S_zone ho0 hs_)
  clear ho0
  obtain ⟨A_9, c_9, e_9⟩ := Kd.S_slice HO9.out
  subst e_9
  clear hb hs_
  refine hK.out _ _ ⟨cz_ BK1.out 0, cz_ BK1.out 1, cz_ BK1.out 2, cz_ BK1.out 3, cz_ BK1.out 4, cz_ BK1.out 5⟩ (fun hHeld => ?_)
  clear hK K
  refine norm_ (a' := ?_) ?_ ?_
  rotate_left
  · show Act.put _ (some 35) _ = _
    simp only [Act.put, List.setIfInBounds_toArray, List.set_cons_zero, List.set_cons_succ, i64_w, i32_w]
    rfl
  refine pure_ (i := 5) (N := some 30) (v := ?_) (a' := ?_) #[true, true, true, true, true, true, false, false, false, false, false, false] rfl rfl (any_of HT_.out (by kernel_rfl)) (fun _ _ _ h => h) (Or.inl ⟨by rfl, ?_⟩) ?_ ?_
  rotate_left
  · intro w'
    go_simp
    with_reducible rfl
  rotate_left
  · simp only [Act.put, List.setIfInBounds_toArray, List.set_cons_zero, List.set_cons_succ, i64_w, i32_w]
    rfl
  refine pure_ (i := 6) (N := some 36) (v := ?_) (a' := ?_) #[true, true, true, true, true, true, true, false, false, false, false, false] rfl rfl (any_of HT_.out (by kernel_rfl)) (fun _ _ _ h => h) (Or.inl ⟨by rfl, ?_⟩) ?_ ?_
  rotate_left
  · intro w'
    go_simp
    with_reducible rfl
  rotate_left
  · simp only [Act.put, List.setIfInBounds_toArray, List.set_cons_zero, List.set_cons_succ, i64_w, i32_w]
    rfl
  refine pure_ (i := 7) (N := some 37) (v := ?_) (a' := ?_) #[true, true, true, true, true, true, true, true, false, false, false, false] rfl rfl (any_of HT_.out (by kernel_rfl)) (fun _ _ _ h => h) (Or.inl ⟨by rfl, ?_⟩) ?_ ?_
  rotate_left
  · intro w'
    go_simp
    with_reducible rfl
  rotate_left
  · simp only [Act.put, List.setIfInBounds_toArray, List.set_cons_zero, List.set_cons_succ, i64_w, i32_w]
    rfl
  refine pure_ (i := 8) (N := some 38) (v := ?_) (a' := ?_) #[true, true, true, true, true, true, true, true, true, false, false, false] rfl rfl (any_of HT_.out (by kernel_rfl)) (fun _ _ _ h => h) (Or.inl ⟨by rfl, ?_⟩) ?_ ?_
  rotate_left
  · intro w'
    go_simp
    with_reducible rfl
  rotate_left
  · simp only [Act.put, List.setIfInBounds_toArray, List.set_cons_zero, List.set_cons_succ, i64_w, i32_w]
    rfl
  refine pure_ (i := 9) (N := some 6) (v := ?_) (a' := ?_) #[true, true, true, true, true, true, true, true, true, true, false, false] rfl rfl (any_of HT_.out (by kernel_rfl)) (fun _ _ _ h => h) (Or.inl ⟨by rfl, ?_⟩) ?_ ?_
  rotate_left
  · intro w'
    go_simp
    with_reducible rfl
  rotate_left
  · simp only [Act.put, List.setIfInBounds_toArray, List.set_cons_zero, List.set_cons_succ, i64_w, i32_w]
    rfl
  refine pure_ (i := 10) (N := some 7) (v := ?_) (a' := ?_) #[true, true, true, true, true, true, true, true, true, true, true, false] rfl rfl (any_of HT_.out (by kernel_rfl)) (fun _ _ _ h => h) (Or.inl ⟨by rfl, ?_⟩) ?_ ?_
  rotate_left
  · intro w'
    go_simp
    with_reducible rfl
  rotate_left
  · simp only [Act.put, List.setIfInBounds_toArray, List.set_cons_zero, List.set_cons_succ, i64_w, i32_w]
    rfl
  refine pure_ (i := 11) (N := some 8) (v := ?_) (a' := ?_) #[true, true, true, true, true, true, true, true, true, true, true, true] rfl rfl (any_of HT_.out (by kernel_rfl)) (fun _ _ _ h => h) (Or.inl ⟨by rfl, ?_⟩) ?_ ?_
  rotate_left
  · intro w'
    go_simp
    with_reducible rfl
  rotate_left
  · simp only [Act.put, List.setIfInBounds_toArray, List.set_cons_zero, List.set_cons_succ, i64_w, i32_w]
    rfl
  refine done_ (done_of HT_.out (by kernel_rfl)) ?_
  clear hHeld
  try clear HT_ HW_
  have hx1_0 := cz_ BK1.out 0
  have hf1_0 : w1008.frozen? ⟨g1, 0, none⟩ = false := blk_frozen BK1.out 0
  have hx1_1 := cz_ BK1.out 1
  have hf1_1 : w1008.frozen? ⟨g1, 1, none⟩ = false := blk_frozen BK1.out 1
  have hx1_2 := cz_ BK1.out 2
  have hf1_2 : w1008.frozen? ⟨g1, 2, none⟩ = false := blk_frozen BK1.out 2
  have hx1_3 := cz_ BK1.out 3
  have hf1_3 : w1008.frozen? ⟨g1, 3, none⟩ = false := blk_frozen BK1.out 3
  have hx1_4 := cz_ BK1.out 4
  have hf1_4 : w1008.frozen? ⟨g1, 4, none⟩ = false := blk_frozen BK1.out 4
  have hx1_5 := cz_ BK1.out 5
  have hf1_5 : w1008.frozen? ⟨g1, 5, none⟩ = false := blk_frozen BK1.out 5
  skip
  go_upto_region 16 with (first | (go_at_call 8; (with_reducible refine (laws_toVoiceS.calls k _ _ l0 t10 _ ?sd10_1 ?sd10_2 A10.out).mono ?_); (case sd10_1 => exact Kd.C_below HR0.out HB.out); (case sd10_2 => exact HC0.out); rintro e w1010 ⟨v_11, rfl, ho0, hb⟩; have hs_ := below_size HB.out; clear hx1_0 hf1_0 hx1_1 hf1_1 hx1_2 hf1_2 hx1_3 hf1_3 hx1_4 hf1_4 hx1_5 hf1_5; have n0_ := Aside0.mk (below_step HB.out hb); have n1_ := Aside0.mk (Kd.S_below HO5.out hb); have n2_ := Aside0.mk (Kd.R_below HO7.out hb); have n3_ := Aside0.mk (Kd.S_below HO9.out hb); have n4_ := Aside0.mk (blk_below BK1.out hb); have SZ8 := Aside0.mk (show w1008.heap.size ≤ w1010.heap.size from (hb).size); clear HB HO5 HO7 HO9 BK1; have HB := n0_; have HO5 := n1_; have HO7 := n2_; have HO9 := n3_; have BK1 := n4_; clear n0_ n1_ n2_ n3_ n4_; have HO11 := Aside0.mk (S_zone ho0 hs_); clear ho0; obtain ⟨A_11, c_11, e_11⟩ := Kd.S_slice HO11.out; subst e_11; clear hb hs_; have hx1_0 := cz_ BK1.out 0; have hf1_0 : w1010.frozen? ⟨g1, 0, none⟩ = false := blk_frozen BK1.out 0; have hx1_1 := cz_ BK1.out 1; have hf1_1 : w1010.frozen? ⟨g1, 1, none⟩ = false := blk_frozen BK1.out 1; have hx1_2 := cz_ BK1.out 2; have hf1_2 : w1010.frozen? ⟨g1, 2, none⟩ = false := blk_frozen BK1.out 2; have hx1_3 := cz_ BK1.out 3; have hf1_3 : w1010.frozen? ⟨g1, 3, none⟩ = false := blk_frozen BK1.out 3; have hx1_4 := cz_ BK1.out 4; have hf1_4 : w1010.frozen? ⟨g1, 4, none⟩ = false := blk_frozen BK1.out 4; have hx1_5 := cz_ BK1.out 5; have hf1_5 : w1010.frozen? ⟨g1, 5, none⟩ = false := blk_frozen BK1.out 5) | (go_at_call 9; (with_reducible refine (laws_toVoice.calls k _ _ l1_0 a1_1 a1_2 a1_3 a1_4 a1_5 t12_0 t12_1 t12_2 t12_3 t12_4 t12_5 _ ?sd12_1 ?sd12_2 A12.out).mono ?_); (case sd12_1 => exact Kd.C_below HR1_0.out HB.out); (case sd12_2 => exact HC1_0.out); rintro e w1012 ⟨v_13, rfl, ho0, hb⟩; have hs_ := below_size HB.out; clear hx1_0 hf1_0 hx1_1 hf1_1 hx1_2 hf1_2 hx1_3 hf1_3 hx1_4 hf1_4 hx1_5 hf1_5; have n0_ := Aside0.mk (below_step HB.out hb); have n1_ := Aside0.mk (Kd.S_below HO5.out hb); have n2_ := Aside0.mk (Kd.R_below HO7.out hb); have n3_ := Aside0.mk (Kd.S_below HO9.out hb); have n4_ := Aside0.mk (Kd.S_below HO11.out hb); have n5_ := Aside0.mk (blk_below BK1.out hb); have SZ9 := Aside0.mk (show w1010.heap.size ≤ w1012.heap.size from (hb).size); clear HB HO5 HO7 HO9 HO11 BK1; have HB := n0_; have HO5 := n1_; have HO7 := n2_; have HO9 := n3_; have HO11 := n4_; have BK1 := n5_; clear n0_ n1_ n2_ n3_ n4_ n5_; have HO13 := Aside0.mk (R_zone ho0 hs_); clear ho0; obtain ⟨A_13, c_13, e_13⟩ := Kd.R_slice HO13.out; subst e_13; clear hb hs_; have hx1_0 := cz_ BK1.out 0; have hf1_0 : w1012.frozen? ⟨g1, 0, none⟩ = false := blk_frozen BK1.out 0; have hx1_1 := cz_ BK1.out 1; have hf1_1 : w1012.frozen? ⟨g1, 1, none⟩ = false := blk_frozen BK1.out 1; have hx1_2 := cz_ BK1.out 2; have hf1_2 : w1012.frozen? ⟨g1, 2, none⟩ = false := blk_frozen BK1.out 2; have hx1_3 := cz_ BK1.out 3; have hf1_3 : w1012.frozen? ⟨g1, 3, none⟩ = false := blk_frozen BK1.out 3; have hx1_4 := cz_ BK1.out 4; have hf1_4 : w1012.frozen? ⟨g1, 4, none⟩ = false := blk_frozen BK1.out 4; have hx1_5 := cz_ BK1.out 5; have hf1_5 : w1012.frozen? ⟨g1, 5, none⟩ = false := blk_frozen BK1.out 5) | ((with_reducible refine gate_dst (N := 10) rfl ?_); refine bx_ 10 #[.slice none 0 0, .int .i64 0, .bool false, .int .i64 0, .int .i64 0, .int .i64 0] 32 ?_; intro g14 hg w1014 hbox hb; clear hx1_0 hf1_0 hx1_1 hf1_1 hx1_2 hf1_2 hx1_3 hf1_3 hx1_4 hf1_4 hx1_5 hf1_5; have n0_ := Aside0.mk (below_step HB.out hb); have n1_ := Aside0.mk (Kd.S_below HO5.out hb); have n2_ := Aside0.mk (Kd.R_below HO7.out hb); have n3_ := Aside0.mk (Kd.S_below HO9.out hb); have n4_ := Aside0.mk (Kd.S_below HO11.out hb); have n5_ := Aside0.mk (Kd.R_below HO13.out hb); have n6_ := Aside0.mk (blk_below BK1.out hb); have SZ10 := Aside0.mk (show w1012.heap.size ≤ w1014.heap.size from (hb).size); clear HB HO5 HO7 HO9 HO11 HO13 BK1; have HB := n0_; have HO5 := n1_; have HO7 := n2_; have HO9 := n3_; have HO11 := n4_; have HO13 := n5_; have BK1 := n6_; clear n0_ n1_ n2_ n3_ n4_ n5_ n6_; have BK14 := Aside0.mk hbox; have GL14 := Aside0.mk (show w1012.heap.size ≤ g14 from Nat.le_of_eq hg.symm); have GU14 := Aside0.mk (blk_lt hbox); clear hbox hg hb; have hx1_0 := cz_ BK1.out 0; have hf1_0 : w1014.frozen? ⟨g1, 0, none⟩ = false := blk_frozen BK1.out 0; have hx1_1 := cz_ BK1.out 1; have hf1_1 : w1014.frozen? ⟨g1, 1, none⟩ = false := blk_frozen BK1.out 1; have hx1_2 := cz_ BK1.out 2; have hf1_2 : w1014.frozen? ⟨g1, 2, none⟩ = false := blk_frozen BK1.out 2; have hx1_3 := cz_ BK1.out 3; have hf1_3 : w1014.frozen? ⟨g1, 3, none⟩ = false := blk_frozen BK1.out 3; have hx1_4 := cz_ BK1.out 4; have hf1_4 : w1014.frozen? ⟨g1, 4, none⟩ = false := blk_frozen BK1.out 4; have hx1_5 := cz_ BK1.out 5; have hf1_5 : w1014.frozen? ⟨g1, 5, none⟩ = false := blk_frozen BK1.out 5; have hx14_0 := cz_ BK14.out 0; have hf14_0 : w1014.frozen? ⟨g14, 0, none⟩ = false := blk_frozen BK14.out 0; have hx14_1 := cz_ BK14.out 1; have hf14_1 : w1014.frozen? ⟨g14, 1, none⟩ = false := blk_frozen BK14.out 1; have hx14_2 := cz_ BK14.out 2; have hf14_2 : w1014.frozen? ⟨g14, 2, none⟩ = false := blk_frozen BK14.out 2; have hx14_3 := cz_ BK14.out 3; have hf14_3 : w1014.frozen? ⟨g14, 3, none⟩ = false := blk_frozen BK14.out 3; have hx14_4 := cz_ BK14.out 4; have hf14_4 : w1014.frozen? ⟨g14, 4, none⟩ = false := blk_frozen BK14.out 4; have hx14_5 := cz_ BK14.out 5; have hf14_5 : w1014.frozen? ⟨g14, 5, none⟩ = false := blk_frozen BK14.out 5) | ((with_reducible refine gate_store (t := 32) (p := 10) rfl ?_); refine se_ 32 10 ((((((w1014.setCell ⟨g14, 0, none⟩ (.slice A_13 t12_0.length c_13)).setCell ⟨g14, 1, none⟩ (.int .i64 t12_1)).setCell ⟨g14, 2, none⟩ (.bool t12_2)).setCell ⟨g14, 3, none⟩ (.int .i64 t12_3)).setCell ⟨g14, 4, none⟩ (.int .i64 t12_4)).setCell ⟨g14, 5, none⟩ (.int .i64 t12_5)) ?_; intro w2011 hw; have hge_ : w.heap.size ≤ g14 := (by have := GL14.out; have := SZ1.out; have := SZ2.out; have := SZ3.out; have := SZ4.out; have := SZ5.out; have := SZ6.out; have := SZ7.out; have := SZ8.out; have := SZ9.out; omega); have hb : Below w.heap.size w w2011 := (by rw [hw]; exact below_set (below_set (below_set (below_set (below_set (below_set (HB.out) hge_) hge_) hge_) hge_) hge_) hge_); have hkp : Kept w1014 w2011 (fun k_ => k_ = g14) := (by rw [hw]; exact Kept.setCell (Kept.setCell (Kept.setCell (Kept.setCell (Kept.setCell (Kept.setCell (Kept.refl w1014 (fun k_ => k_ = g14)) (.inl rfl) (.slice A_13 t12_0.length c_13)) (.inl rfl) (.int .i64 t12_1)) (.inl rfl) (.bool t12_2)) (.inl rfl) (.int .i64 t12_3)) (.inl rfl) (.int .i64 t12_4)) (.inl rfl) (.int .i64 t12_5)); have hbk : w2011.heap[g14]? = some (.cells #[.slice A_13 t12_0.length c_13, .int .i64 t12_1, .bool t12_2, .int .i64 t12_3, .int .i64 t12_4, .int .i64 t12_5] 32 (0, 0)) := (by rw [hw]; exact blk_put (cs' := #[.slice A_13 t12_0.length c_13, .int .i64 t12_1, .bool t12_2, .int .i64 t12_3, .int .i64 t12_4, .int .i64 t12_5]) (blk_put (cs' := #[.slice A_13 t12_0.length c_13, .int .i64 t12_1, .bool t12_2, .int .i64 t12_3, .int .i64 t12_4, .int .i64 0]) (blk_put (cs' := #[.slice A_13 t12_0.length c_13, .int .i64 t12_1, .bool t12_2, .int .i64 t12_3, .int .i64 0, .int .i64 0]) (blk_put (cs' := #[.slice A_13 t12_0.length c_13, .int .i64 t12_1, .bool t12_2, .int .i64 0, .int .i64 0, .int .i64 0]) (blk_put (cs' := #[.slice A_13 t12_0.length c_13, .int .i64 t12_1, .bool false, .int .i64 0, .int .i64 0, .int .i64 0]) (blk_put (cs' := #[.slice A_13 t12_0.length c_13, .int .i64 0, .bool false, .int .i64 0, .int .i64 0, .int .i64 0]) (BK14.out) 0 (.slice A_13 t12_0.length c_13) rfl) 1 (.int .i64 t12_1) rfl) 2 (.bool t12_2) rfl) 3 (.int .i64 t12_3) rfl) 4 (.int .i64 t12_4) rfl) 5 (.int .i64 t12_5) rfl); clear hx1_0 hf1_0 hx1_1 hf1_1 hx1_2 hf1_2 hx1_3 hf1_3 hx1_4 hf1_4 hx1_5 hf1_5 hx14_0 hf14_0 hx14_1 hf14_1 hx14_2 hf14_2 hx14_3 hf14_3 hx14_4 hf14_4 hx14_5 hf14_5; have n0_ := Aside0.mk (hb); have n1_ := Aside0.mk (Kd.S_step HO5.out (fun k_ h_ hlt_ => hkp.2 k_ hlt_ (fun e_ => (show False from Zone.notblk h_ e_ (by have := GL14.out; have := GU14.out; have := SZ6.out; have := SZ7.out; have := SZ8.out; have := SZ9.out; first | exact .inl (by omega) | exact .inr (by omega))).elim))); have n2_ := Aside0.mk (Kd.R_step HO7.out (fun k_ h_ hlt_ => hkp.2 k_ hlt_ (fun e_ => (show False from Zone.notblk h_ e_ (by have := GL14.out; have := GU14.out; have := SZ7.out; have := SZ8.out; have := SZ9.out; first | exact .inl (by omega) | exact .inr (by omega))).elim))); have n3_ := Aside0.mk (Kd.S_step HO9.out (fun k_ h_ hlt_ => hkp.2 k_ hlt_ (fun e_ => (show False from Zone.notblk h_ e_ (by have := GL14.out; have := GU14.out; have := SZ8.out; have := SZ9.out; first | exact .inl (by omega) | exact .inr (by omega))).elim))); have n4_ := Aside0.mk (Kd.S_step HO11.out (fun k_ h_ hlt_ => hkp.2 k_ hlt_ (fun e_ => (show False from Zone.notblk h_ e_ (by have := GL14.out; have := GU14.out; have := SZ9.out; first | exact .inl (by omega) | exact .inr (by omega))).elim))); have n5_ := Aside0.mk (Kd.R_step HO13.out (fun k_ h_ hlt_ => hkp.2 k_ hlt_ (fun e_ => (show False from Zone.notblk h_ e_ (by have := GL14.out; have := GU14.out; first | exact .inl (by omega) | exact .inr (by omega))).elim))); have n6_ := Aside0.mk ((hkp.2 g1 (blk_lt BK1.out) (fun e_ => (by have e2_ : g1 = g14 := e_; have := GL1.out; have := GU1.out; have := GL14.out; have := GU14.out; have := SZ2.out; have := SZ3.out; have := SZ4.out; have := SZ5.out; have := SZ6.out; have := SZ7.out; have := SZ8.out; have := SZ9.out; omega))).trans BK1.out); have n7_ := Aside0.mk (hbk); have SZ11 := Aside0.mk (show w1014.heap.size ≤ w2011.heap.size from hkp.1); clear HB HO5 HO7 HO9 HO11 HO13 BK1 BK14; have HB := n0_; have HO5 := n1_; have HO7 := n2_; have HO9 := n3_; have HO11 := n4_; have HO13 := n5_; have BK1 := n6_; have BK14 := n7_; clear n0_ n1_ n2_ n3_ n4_ n5_ n6_ n7_; clear hb hkp hbk hw hge_; have hx1_0 := cz_ BK1.out 0; have hf1_0 : w2011.frozen? ⟨g1, 0, none⟩ = false := blk_frozen BK1.out 0; have hx1_1 := cz_ BK1.out 1; have hf1_1 : w2011.frozen? ⟨g1, 1, none⟩ = false := blk_frozen BK1.out 1; have hx1_2 := cz_ BK1.out 2; have hf1_2 : w2011.frozen? ⟨g1, 2, none⟩ = false := blk_frozen BK1.out 2; have hx1_3 := cz_ BK1.out 3; have hf1_3 : w2011.frozen? ⟨g1, 3, none⟩ = false := blk_frozen BK1.out 3; have hx1_4 := cz_ BK1.out 4; have hf1_4 : w2011.frozen? ⟨g1, 4, none⟩ = false := blk_frozen BK1.out 4; have hx1_5 := cz_ BK1.out 5; have hf1_5 : w2011.frozen? ⟨g1, 5, none⟩ = false := blk_frozen BK1.out 5; have hx14_0 := cz_ BK14.out 0; have hf14_0 : w2011.frozen? ⟨g14, 0, none⟩ = false := blk_frozen BK14.out 0; have hx14_1 := cz_ BK14.out 1; have hf14_1 : w2011.frozen? ⟨g14, 1, none⟩ = false := blk_frozen BK14.out 1; have hx14_2 := cz_ BK14.out 2; have hf14_2 : w2011.frozen? ⟨g14, 2, none⟩ = false := blk_frozen BK14.out 2; have hx14_3 := cz_ BK14.out 3; have hf14_3 : w2011.frozen? ⟨g14, 3, none⟩ = false := blk_frozen BK14.out 3; have hx14_4 := cz_ BK14.out 4; have hf14_4 : w2011.frozen? ⟨g14, 4, none⟩ = false := blk_frozen BK14.out 4; have hx14_5 := cz_ BK14.out 5; have hf14_5 : w2011.frozen? ⟨g14, 5, none⟩ = false := blk_frozen BK14.out 5) | (go_at_call 10; (with_reducible refine (impl_TakeVoice.calls k _ _ t10 _ _ t12_0 t12_1 t12_2 t12_3 t12_4 t12_5 t15_0 t33_1 t33_2 _ ?sd15_1 ?sd15_2 ?sd15_3 ?sd15_4 A15.out).mono ?_); (case sd15_1 => exact (Kd.S_reads' HO11.out).2.2); (case sd15_2 => exact (Kd.S_reads' HO11.out).2.1); (case sd15_3 => exact (Kd.R_reads' HO13.out).2.2); (case sd15_4 => exact (Kd.R_reads' HO13.out).2.1); rintro e w1015 ⟨v_16, rfl, ho0, hb⟩; have hs_ := below_size HB.out; clear hx1_0 hf1_0 hx1_1 hf1_1 hx1_2 hf1_2 hx1_3 hf1_3 hx1_4 hf1_4 hx1_5 hf1_5 hx14_0 hf14_0 hx14_1 hf14_1 hx14_2 hf14_2 hx14_3 hf14_3 hx14_4 hf14_4 hx14_5 hf14_5; have n0_ := Aside0.mk (below_step HB.out hb); have n1_ := Aside0.mk (Kd.S_below HO5.out hb); have n2_ := Aside0.mk (Kd.R_below HO7.out hb); have n3_ := Aside0.mk (Kd.S_below HO9.out hb); have n4_ := Aside0.mk (Kd.S_below HO11.out hb); have n5_ := Aside0.mk (Kd.R_below HO13.out hb); have n6_ := Aside0.mk (blk_below BK1.out hb); have n7_ := Aside0.mk (blk_below BK14.out hb); have SZ12 := Aside0.mk (show w2011.heap.size ≤ w1015.heap.size from (hb).size); clear HB HO5 HO7 HO9 HO11 HO13 BK1 BK14; have HB := n0_; have HO5 := n1_; have HO7 := n2_; have HO9 := n3_; have HO11 := n4_; have HO13 := n5_; have BK1 := n6_; have BK14 := n7_; clear n0_ n1_ n2_ n3_ n4_ n5_ n6_ n7_; have HO16 := Aside0.mk (S_zone ho0 hs_); clear ho0; obtain ⟨A_16, c_16, e_16⟩ := Kd.S_slice HO16.out; subst e_16; clear hb hs_; have hx1_0 := cz_ BK1.out 0; have hf1_0 : w1015.frozen? ⟨g1, 0, none⟩ = false := blk_frozen BK1.out 0; have hx1_1 := cz_ BK1.out 1; have hf1_1 : w1015.frozen? ⟨g1, 1, none⟩ = false := blk_frozen BK1.out 1; have hx1_2 := cz_ BK1.out 2; have hf1_2 : w1015.frozen? ⟨g1, 2, none⟩ = false := blk_frozen BK1.out 2; have hx1_3 := cz_ BK1.out 3; have hf1_3 : w1015.frozen? ⟨g1, 3, none⟩ = false := blk_frozen BK1.out 3; have hx1_4 := cz_ BK1.out 4; have hf1_4 : w1015.frozen? ⟨g1, 4, none⟩ = false := blk_frozen BK1.out 4; have hx1_5 := cz_ BK1.out 5; have hf1_5 : w1015.frozen? ⟨g1, 5, none⟩ = false := blk_frozen BK1.out 5; have hx14_0 := cz_ BK14.out 0; have hf14_0 : w1015.frozen? ⟨g14, 0, none⟩ = false := blk_frozen BK14.out 0; have hx14_1 := cz_ BK14.out 1; have hf14_1 : w1015.frozen? ⟨g14, 1, none⟩ = false := blk_frozen BK14.out 1; have hx14_2 := cz_ BK14.out 2; have hf14_2 : w1015.frozen? ⟨g14, 2, none⟩ = false := blk_frozen BK14.out 2; have hx14_3 := cz_ BK14.out 3; have hf14_3 : w1015.frozen? ⟨g14, 3, none⟩ = false := blk_frozen BK14.out 3; have hx14_4 := cz_ BK14.out 4; have hf14_4 : w1015.frozen? ⟨g14, 4, none⟩ = false := blk_frozen BK14.out 4; have hx14_5 := cz_ BK14.out 5; have hf14_5 : w1015.frozen? ⟨g14, 5, none⟩ = false := blk_frozen BK14.out 5) | (go_at_call 11; (with_reducible refine (laws_eqVoiceS.calls k _ _ t15_0 _ _ t8_0 true _ ?sd17_1 ?sd17_2 ?sd17_3 ?sd17_4 A17.out).mono ?_); (case sd17_1 => exact (Kd.S_reads' HO16.out).2.2); (case sd17_2 => exact (Kd.S_reads' HO16.out).2.1); (case sd17_3 => exact (Kd.S_reads' HO9.out).2.2); (case sd17_4 => exact (Kd.S_reads' HO9.out).2.1); rintro e w1017 ⟨rfl, hb⟩; have hs_ := below_size HB.out; clear hx1_0 hf1_0 hx1_1 hf1_1 hx1_2 hf1_2 hx1_3 hf1_3 hx1_4 hf1_4 hx1_5 hf1_5 hx14_0 hf14_0 hx14_1 hf14_1 hx14_2 hf14_2 hx14_3 hf14_3 hx14_4 hf14_4 hx14_5 hf14_5; have n0_ := Aside0.mk (below_step HB.out hb); have n1_ := Aside0.mk (Kd.S_below HO5.out hb); have n2_ := Aside0.mk (Kd.R_below HO7.out hb); have n3_ := Aside0.mk (Kd.S_below HO9.out hb); have n4_ := Aside0.mk (Kd.S_below HO11.out hb); have n5_ := Aside0.mk (Kd.R_below HO13.out hb); have n6_ := Aside0.mk (Kd.S_below HO16.out hb); have n7_ := Aside0.mk (blk_below BK1.out hb); have n8_ := Aside0.mk (blk_below BK14.out hb); have SZ13 := Aside0.mk (show w1015.heap.size ≤ w1017.heap.size from (hb).size); clear HB HO5 HO7 HO9 HO11 HO13 HO16 BK1 BK14; have HB := n0_; have HO5 := n1_; have HO7 := n2_; have HO9 := n3_; have HO11 := n4_; have HO13 := n5_; have HO16 := n6_; have BK1 := n7_; have BK14 := n8_; clear n0_ n1_ n2_ n3_ n4_ n5_ n6_ n7_ n8_; clear hb hs_; have hx1_0 := cz_ BK1.out 0; have hf1_0 : w1017.frozen? ⟨g1, 0, none⟩ = false := blk_frozen BK1.out 0; have hx1_1 := cz_ BK1.out 1; have hf1_1 : w1017.frozen? ⟨g1, 1, none⟩ = false := blk_frozen BK1.out 1; have hx1_2 := cz_ BK1.out 2; have hf1_2 : w1017.frozen? ⟨g1, 2, none⟩ = false := blk_frozen BK1.out 2; have hx1_3 := cz_ BK1.out 3; have hf1_3 : w1017.frozen? ⟨g1, 3, none⟩ = false := blk_frozen BK1.out 3; have hx1_4 := cz_ BK1.out 4; have hf1_4 : w1017.frozen? ⟨g1, 4, none⟩ = false := blk_frozen BK1.out 4; have hx1_5 := cz_ BK1.out 5; have hf1_5 : w1017.frozen? ⟨g1, 5, none⟩ = false := blk_frozen BK1.out 5; have hx14_0 := cz_ BK14.out 0; have hf14_0 : w1017.frozen? ⟨g14, 0, none⟩ = false := blk_frozen BK14.out 0; have hx14_1 := cz_ BK14.out 1; have hf14_1 : w1017.frozen? ⟨g14, 1, none⟩ = false := blk_frozen BK14.out 1; have hx14_2 := cz_ BK14.out 2; have hf14_2 : w1017.frozen? ⟨g14, 2, none⟩ = false := blk_frozen BK14.out 2; have hx14_3 := cz_ BK14.out 3; have hf14_3 : w1017.frozen? ⟨g14, 3, none⟩ = false := blk_frozen BK14.out 3; have hx14_4 := cz_ BK14.out 4; have hf14_4 : w1017.frozen? ⟨g14, 4, none⟩ = false := blk_frozen BK14.out 4; have hx14_5 := cz_ BK14.out 5; have hf14_5 : w1017.frozen? ⟨g14, 5, none⟩ = false := blk_frozen BK14.out 5) | (go_at_call 8; (with_reducible refine (laws_toVoiceS.calls k _ _ l0 t18 _ ?sd18_1 ?sd18_2 A18.out).mono ?_); (case sd18_1 => exact Kd.C_below HR0.out HB.out); (case sd18_2 => exact HC0.out); rintro e w1018 ⟨v_19, rfl, ho0, hb⟩; have hs_ := below_size HB.out; clear hx1_0 hf1_0 hx1_1 hf1_1 hx1_2 hf1_2 hx1_3 hf1_3 hx1_4 hf1_4 hx1_5 hf1_5 hx14_0 hf14_0 hx14_1 hf14_1 hx14_2 hf14_2 hx14_3 hf14_3 hx14_4 hf14_4 hx14_5 hf14_5; have n0_ := Aside0.mk (below_step HB.out hb); have n1_ := Aside0.mk (Kd.S_below HO5.out hb); have n2_ := Aside0.mk (Kd.R_below HO7.out hb); have n3_ := Aside0.mk (Kd.S_below HO9.out hb); have n4_ := Aside0.mk (Kd.S_below HO11.out hb); have n5_ := Aside0.mk (Kd.R_below HO13.out hb); have n6_ := Aside0.mk (Kd.S_below HO16.out hb); have n7_ := Aside0.mk (blk_below BK1.out hb); have n8_ := Aside0.mk (blk_below BK14.out hb); have SZ14 := Aside0.mk (show w1017.heap.size ≤ w1018.heap.size from (hb).size); clear HB HO5 HO7 HO9 HO11 HO13 HO16 BK1 BK14; have HB := n0_; have HO5 := n1_; have HO7 := n2_; have HO9 := n3_; have HO11 := n4_; have HO13 := n5_; have HO16 := n6_; have BK1 := n7_; have BK14 := n8_; clear n0_ n1_ n2_ n3_ n4_ n5_ n6_ n7_ n8_; have HO19 := Aside0.mk (S_zone ho0 hs_); clear ho0; obtain ⟨A_19, c_19, e_19⟩ := Kd.S_slice HO19.out; subst e_19; clear hb hs_; have hx1_0 := cz_ BK1.out 0; have hf1_0 : w1018.frozen? ⟨g1, 0, none⟩ = false := blk_frozen BK1.out 0; have hx1_1 := cz_ BK1.out 1; have hf1_1 : w1018.frozen? ⟨g1, 1, none⟩ = false := blk_frozen BK1.out 1; have hx1_2 := cz_ BK1.out 2; have hf1_2 : w1018.frozen? ⟨g1, 2, none⟩ = false := blk_frozen BK1.out 2; have hx1_3 := cz_ BK1.out 3; have hf1_3 : w1018.frozen? ⟨g1, 3, none⟩ = false := blk_frozen BK1.out 3; have hx1_4 := cz_ BK1.out 4; have hf1_4 : w1018.frozen? ⟨g1, 4, none⟩ = false := blk_frozen BK1.out 4; have hx1_5 := cz_ BK1.out 5; have hf1_5 : w1018.frozen? ⟨g1, 5, none⟩ = false := blk_frozen BK1.out 5; have hx14_0 := cz_ BK14.out 0; have hf14_0 : w1018.frozen? ⟨g14, 0, none⟩ = false := blk_frozen BK14.out 0; have hx14_1 := cz_ BK14.out 1; have hf14_1 : w1018.frozen? ⟨g14, 1, none⟩ = false := blk_frozen BK14.out 1; have hx14_2 := cz_ BK14.out 2; have hf14_2 : w1018.frozen? ⟨g14, 2, none⟩ = false := blk_frozen BK14.out 2; have hx14_3 := cz_ BK14.out 3; have hf14_3 : w1018.frozen? ⟨g14, 3, none⟩ = false := blk_frozen BK14.out 3; have hx14_4 := cz_ BK14.out 4; have hf14_4 : w1018.frozen? ⟨g14, 4, none⟩ = false := blk_frozen BK14.out 4; have hx14_5 := cz_ BK14.out 5; have hf14_5 : w1018.frozen? ⟨g14, 5, none⟩ = false := blk_frozen BK14.out 5) | (go_at_call 11; (with_reducible refine (laws_eqVoiceS.calls k _ _ t10 _ _ t18 true _ ?sd20_1 ?sd20_2 ?sd20_3 ?sd20_4 A20.out).mono ?_); (case sd20_1 => exact (Kd.S_reads' HO11.out).2.2); (case sd20_2 => exact (Kd.S_reads' HO11.out).2.1); (case sd20_3 => exact (Kd.S_reads' HO19.out).2.2); (case sd20_4 => exact (Kd.S_reads' HO19.out).2.1); rintro e w1020 ⟨rfl, hb⟩; have hs_ := below_size HB.out; clear hx1_0 hf1_0 hx1_1 hf1_1 hx1_2 hf1_2 hx1_3 hf1_3 hx1_4 hf1_4 hx1_5 hf1_5 hx14_0 hf14_0 hx14_1 hf14_1 hx14_2 hf14_2 hx14_3 hf14_3 hx14_4 hf14_4 hx14_5 hf14_5; have n0_ := Aside0.mk (below_step HB.out hb); have n1_ := Aside0.mk (Kd.S_below HO5.out hb); have n2_ := Aside0.mk (Kd.R_below HO7.out hb); have n3_ := Aside0.mk (Kd.S_below HO9.out hb); have n4_ := Aside0.mk (Kd.S_below HO11.out hb); have n5_ := Aside0.mk (Kd.R_below HO13.out hb); have n6_ := Aside0.mk (Kd.S_below HO16.out hb); have n7_ := Aside0.mk (Kd.S_below HO19.out hb); have n8_ := Aside0.mk (blk_below BK1.out hb); have n9_ := Aside0.mk (blk_below BK14.out hb); have SZ15 := Aside0.mk (show w1018.heap.size ≤ w1020.heap.size from (hb).size); clear HB HO5 HO7 HO9 HO11 HO13 HO16 HO19 BK1 BK14; have HB := n0_; have HO5 := n1_; have HO7 := n2_; have HO9 := n3_; have HO11 := n4_; have HO13 := n5_; have HO16 := n6_; have HO19 := n7_; have BK1 := n8_; have BK14 := n9_; clear n0_ n1_ n2_ n3_ n4_ n5_ n6_ n7_ n8_ n9_; clear hb hs_; have hx1_0 := cz_ BK1.out 0; have hf1_0 : w1020.frozen? ⟨g1, 0, none⟩ = false := blk_frozen BK1.out 0; have hx1_1 := cz_ BK1.out 1; have hf1_1 : w1020.frozen? ⟨g1, 1, none⟩ = false := blk_frozen BK1.out 1; have hx1_2 := cz_ BK1.out 2; have hf1_2 : w1020.frozen? ⟨g1, 2, none⟩ = false := blk_frozen BK1.out 2; have hx1_3 := cz_ BK1.out 3; have hf1_3 : w1020.frozen? ⟨g1, 3, none⟩ = false := blk_frozen BK1.out 3; have hx1_4 := cz_ BK1.out 4; have hf1_4 : w1020.frozen? ⟨g1, 4, none⟩ = false := blk_frozen BK1.out 4; have hx1_5 := cz_ BK1.out 5; have hf1_5 : w1020.frozen? ⟨g1, 5, none⟩ = false := blk_frozen BK1.out 5; have hx14_0 := cz_ BK14.out 0; have hf14_0 : w1020.frozen? ⟨g14, 0, none⟩ = false := blk_frozen BK14.out 0; have hx14_1 := cz_ BK14.out 1; have hf14_1 : w1020.frozen? ⟨g14, 1, none⟩ = false := blk_frozen BK14.out 1; have hx14_2 := cz_ BK14.out 2; have hf14_2 : w1020.frozen? ⟨g14, 2, none⟩ = false := blk_frozen BK14.out 2; have hx14_3 := cz_ BK14.out 3; have hf14_3 : w1020.frozen? ⟨g14, 3, none⟩ = false := blk_frozen BK14.out 3; have hx14_4 := cz_ BK14.out 4; have hf14_4 : w1020.frozen? ⟨g14, 4, none⟩ = false := blk_frozen BK14.out 4; have hx14_5 := cz_ BK14.out 5; have hf14_5 : w1020.frozen? ⟨g14, 5, none⟩ = false := blk_frozen BK14.out 5))
  (try simp only [Act.put, List.setIfInBounds_toArray, List.set_cons_zero, List.set_cons_succ])
  clear hx1_0 hf1_0 hx1_1 hf1_1 hx1_2 hf1_2 hx1_3 hf1_3 hx1_4 hf1_4 hx1_5 hf1_5 hx14_0 hf14_0 hx14_1 hf14_1 hx14_2 hf14_2 hx14_3 hf14_3 hx14_4 hf14_4 hx14_5 hf14_5
  have n0_ := Aside0.mk (below_step HB.out (below_drew1 (Below.refl w1020.heap.size w1020)))
  have n1_ := Aside0.mk (Kd.S_below HO5.out (below_drew1 (Below.refl w1020.heap.size w1020)))
  have n2_ := Aside0.mk (Kd.R_below HO7.out (below_drew1 (Below.refl w1020.heap.size w1020)))
  have n3_ := Aside0.mk (Kd.S_below HO9.out (below_drew1 (Below.refl w1020.heap.size w1020)))
  have n4_ := Aside0.mk (Kd.S_below HO11.out (below_drew1 (Below.refl w1020.heap.size w1020)))
  have n5_ := Aside0.mk (Kd.R_below HO13.out (below_drew1 (Below.refl w1020.heap.size w1020)))
  have n6_ := Aside0.mk (Kd.S_below HO16.out (below_drew1 (Below.refl w1020.heap.size w1020)))
  have n7_ := Aside0.mk (Kd.S_below HO19.out (below_drew1 (Below.refl w1020.heap.size w1020)))
  have n8_ := Aside0.mk (blk_below BK1.out (below_drew1 (Below.refl w1020.heap.size w1020)))
  have n9_ := Aside0.mk (blk_below BK14.out (below_drew1 (Below.refl w1020.heap.size w1020)))
  have SZ16 := Aside0.mk (show w1020.heap.size ≤ w1020.drew.heap.size from ((below_drew1 (Below.refl w1020.heap.size w1020))).size)
  clear HB HO5 HO7 HO9 HO11 HO13 HO16 HO19 BK1 BK14
  have HB := n0_
  have HO5 := n1_
  have HO7 := n2_
  have HO9 := n3_
  have HO11 := n4_
  have HO13 := n5_
  have HO16 := n6_
  have HO19 := n7_
  have BK1 := n8_
  have BK14 := n9_
  clear n0_ n1_ n2_ n3_ n4_ n5_ n6_ n7_ n8_ n9_
  refine start_ (n := 5) (S := fun w' => w'.cell? ⟨g1, 0, none⟩ = some (.slice A1_0 l1_0.length c1_0) ∧ w'.cell? ⟨g1, 1, none⟩ = some (.int .i64 a1_1) ∧ w'.cell? ⟨g1, 2, none⟩ = some (.bool a1_2) ∧ w'.cell? ⟨g1, 3, none⟩ = some (.int .i64 a1_3) ∧ w'.cell? ⟨g1, 4, none⟩ = some (.int .i64 a1_4) ∧ w'.cell? ⟨g1, 5, none⟩ = some (.int .i64 a1_5) ∧ w'.cell? ⟨g14, 0, none⟩ = some (.slice A_13 t12_0.length c_13) ∧ w'.cell? ⟨g14, 1, none⟩ = some (.int .i64 t12_1) ∧ w'.cell? ⟨g14, 2, none⟩ = some (.bool t12_2) ∧ w'.cell? ⟨g14, 3, none⟩ = some (.int .i64 t12_3) ∧ w'.cell? ⟨g14, 4, none⟩ = some (.int .i64 t12_4) ∧ w'.cell? ⟨g14, 5, none⟩ = some (.int .i64 t12_5)) (ds := []) #[false, false, false, false, false] (by kernel_rfl) rfl rfl ⟨cz_ BK1.out 0, cz_ BK1.out 1, cz_ BK1.out 2, cz_ BK1.out 3, cz_ BK1.out 4, cz_ BK1.out 5, cz_ BK14.out 0, cz_ BK14.out 1, cz_ BK14.out 2, cz_ BK14.out 3, cz_ BK14.out 4, cz_ BK14.out 5⟩ (fun hHeld => ?_); refine with_tabW laws_FnExactTakeVoice.tab16 laws_FnExactTakeVoice.bits16 (fun HT_ HW_ => ?_)
  generalize w1020.drew = w3016 at HB HO5 HO7 HO9 HO11 HO13 HO16 HO19 BK1 BK14 SZ16 hHeld ⊢
  refine take_ (i := 0) (N := some 69) (v := ?_) (a' := ?_) #[true, false, false, false, false] rfl rfl (take_ofW HT_.out HW_.out (by kernel_rfl)) (fun _ _ _ h => h) (Or.inl ⟨by rfl, ?_⟩) hHeld ?_ ?_
  rotate_left
  · rintro w' ⟨s0, s1, s2, s3, s4, s5, s6, s7, s8, s9, s10, s11⟩
    go_simp
    with_reducible rfl
  rotate_left
  · simp only [Act.put, List.setIfInBounds_toArray, List.set_cons_zero, List.set_cons_succ, i64_w, i32_w]
    rfl
  refine take_ (i := 1) (N := some 70) (v := ?_) (a' := ?_) #[true, true, false, false, false] rfl rfl (take_ofW HT_.out HW_.out (by kernel_rfl)) (fun _ _ _ h => h) (Or.inl ⟨by rfl, ?_⟩) hHeld ?_ ?_
  rotate_left
  · rintro w' ⟨s0, s1, s2, s3, s4, s5, s6, s7, s8, s9, s10, s11⟩
    go_simp
    with_reducible rfl
  rotate_left
  · simp only [Act.put, List.setIfInBounds_toArray, List.set_cons_zero, List.set_cons_succ, i64_w, i32_w]
    rfl
  refine oS_ 2 71 HT_ (fun K hK => ?_)
  refine goes_ Try.func9 (by kernel_rfl) rfl #[.agg #[.slice A1_0 l1_0.length c1_0, .int .i64 a1_1, .bool a1_2, .int .i64 a1_3, .int .i64 a1_4, .int .i64 a1_5]] (by rfl) rfl rfl (by (try simp only [List.map_toArray, List.map_cons, List.map_nil]); first | done | rfl) ?_
  (with_reducible refine (laws_toVoice.calls k _ _ l1_0 a1_1 a1_2 a1_3 a1_4 a1_5 t21_0 t21_1 t21_2 t21_3 t21_4 t21_5 _ ?sd21_1 ?sd21_2 A21.out).mono ?_)
  (case sd21_1 => exact Kd.C_below HR1_0.out HB.out)
  (case sd21_2 => exact HC1_0.out)
  rintro e w1021 ⟨v_22, rfl, ho0, hb⟩
  refine ⟨_, rfl, ?_⟩
  have hs_ := below_size HB.out
  have n0_ := Aside0.mk (below_step HB.out hb)
  have n1_ := Aside0.mk (Kd.S_below HO5.out hb)
  have n2_ := Aside0.mk (Kd.R_below HO7.out hb)
  have n3_ := Aside0.mk (Kd.S_below HO9.out hb)
  have n4_ := Aside0.mk (Kd.S_below HO11.out hb)
  have n5_ := Aside0.mk (Kd.R_below HO13.out hb)
  have n6_ := Aside0.mk (Kd.S_below HO16.out hb)
  have n7_ := Aside0.mk (Kd.S_below HO19.out hb)
  have n8_ := Aside0.mk (blk_below BK1.out hb)
  have n9_ := Aside0.mk (blk_below BK14.out hb)
  have SZ17 := Aside0.mk (show w3016.heap.size ≤ w1021.heap.size from (hb).size)
  clear HB HO5 HO7 HO9 HO11 HO13 HO16 HO19 BK1 BK14
  have HB := n0_
  have HO5 := n1_
  have HO7 := n2_
  have HO9 := n3_
  have HO11 := n4_
  have HO13 := n5_
  have HO16 := n6_
  have HO19 := n7_
  have BK1 := n8_
  have BK14 := n9_
  clear n0_ n1_ n2_ n3_ n4_ n5_ n6_ n7_ n8_ n9_
  have HO22 := Aside0.mk (R_zone ho0 hs_)
  clear ho0
  obtain ⟨A_22, c_22, e_22⟩ := Kd.R_slice HO22.out
  subst e_22
  clear hb hs_
  refine hK.out _ _ ⟨cz_ BK1.out 0, cz_ BK1.out 1, cz_ BK1.out 2, cz_ BK1.out 3, cz_ BK1.out 4, cz_ BK1.out 5, cz_ BK14.out 0, cz_ BK14.out 1, cz_ BK14.out 2, cz_ BK14.out 3, cz_ BK14.out 4, cz_ BK14.out 5⟩ (fun hHeld => ?_)
  clear hK K
  refine norm_ (a' := ?_) ?_ ?_
  rotate_left
  · show Act.put _ (some 71) _ = _
    simp only [Act.put, List.setIfInBounds_toArray, List.set_cons_zero, List.set_cons_succ, i64_w, i32_w]
    rfl
  refine oS_ 3 72 HT_ (fun K hK => ?_)
  refine goes_ Try.func12 (by kernel_rfl) rfl #[.agg #[.slice A_13 t12_0.length c_13, .int .i64 t12_1, .bool t12_2, .int .i64 t12_3, .int .i64 t12_4, .int .i64 t12_5], .agg #[.slice A_22 t21_0.length c_22, .int .i64 t21_1, .bool t21_2, .int .i64 t21_3, .int .i64 t21_4, .int .i64 t21_5]] (by rfl) rfl rfl (by (try simp only [List.map_toArray, List.map_cons, List.map_nil]); first | done | rfl) ?_
  (with_reducible refine (laws_eqVoice.calls k _ _ t12_0 t12_1 t12_2 t12_3 t12_4 t12_5 _ _ t21_0 t21_1 t21_2 t21_3 t21_4 t21_5 true _ ?sd23_1 ?sd23_2 ?sd23_3 ?sd23_4 A23.out).mono ?_)
  (case sd23_1 => exact (Kd.R_reads' HO13.out).2.2)
  (case sd23_2 => exact (Kd.R_reads' HO13.out).2.1)
  (case sd23_3 => exact (Kd.R_reads' HO22.out).2.2)
  (case sd23_4 => exact (Kd.R_reads' HO22.out).2.1)
  rintro e w1023 ⟨rfl, hb⟩
  refine ⟨_, rfl, ?_⟩
  have hs_ := below_size HB.out
  have n0_ := Aside0.mk (below_step HB.out hb)
  have n1_ := Aside0.mk (Kd.S_below HO5.out hb)
  have n2_ := Aside0.mk (Kd.R_below HO7.out hb)
  have n3_ := Aside0.mk (Kd.S_below HO9.out hb)
  have n4_ := Aside0.mk (Kd.S_below HO11.out hb)
  have n5_ := Aside0.mk (Kd.R_below HO13.out hb)
  have n6_ := Aside0.mk (Kd.S_below HO16.out hb)
  have n7_ := Aside0.mk (Kd.S_below HO19.out hb)
  have n8_ := Aside0.mk (Kd.R_below HO22.out hb)
  have n9_ := Aside0.mk (blk_below BK1.out hb)
  have n10_ := Aside0.mk (blk_below BK14.out hb)
  have SZ18 := Aside0.mk (show w1021.heap.size ≤ w1023.heap.size from (hb).size)
  clear HB HO5 HO7 HO9 HO11 HO13 HO16 HO19 HO22 BK1 BK14
  have HB := n0_
  have HO5 := n1_
  have HO7 := n2_
  have HO9 := n3_
  have HO11 := n4_
  have HO13 := n5_
  have HO16 := n6_
  have HO19 := n7_
  have HO22 := n8_
  have BK1 := n9_
  have BK14 := n10_
  clear n0_ n1_ n2_ n3_ n4_ n5_ n6_ n7_ n8_ n9_ n10_
  clear hb hs_
  refine hK.out _ _ ⟨cz_ BK1.out 0, cz_ BK1.out 1, cz_ BK1.out 2, cz_ BK1.out 3, cz_ BK1.out 4, cz_ BK1.out 5, cz_ BK14.out 0, cz_ BK14.out 1, cz_ BK14.out 2, cz_ BK14.out 3, cz_ BK14.out 4, cz_ BK14.out 5⟩ (fun hHeld => ?_)
  clear hK K
  refine norm_ (a' := ?_) ?_ ?_
  rotate_left
  · show Act.put _ (some 72) _ = _
    simp only [Act.put, List.setIfInBounds_toArray, List.set_cons_zero, List.set_cons_succ, i64_w, i32_w]
    rfl
  refine pure_ (i := 4) (N := some 73) (v := ?_) (a' := ?_) #[true, true, true, true, true] rfl rfl (any_of HT_.out (by kernel_rfl)) (fun _ _ _ h => h) (Or.inl ⟨by rfl, ?_⟩) ?_ ?_
  rotate_left
  · intro w'
    go_simp
    with_reducible rfl
  rotate_left
  · simp only [Act.put, List.setIfInBounds_toArray, List.set_cons_zero, List.set_cons_succ, i64_w, i32_w]
    rfl
  refine done_ (done_of HT_.out (by kernel_rfl)) ?_
  clear hHeld
  try clear HT_ HW_
  have hx1_0 := cz_ BK1.out 0
  have hf1_0 : w1023.frozen? ⟨g1, 0, none⟩ = false := blk_frozen BK1.out 0
  have hx1_1 := cz_ BK1.out 1
  have hf1_1 : w1023.frozen? ⟨g1, 1, none⟩ = false := blk_frozen BK1.out 1
  have hx1_2 := cz_ BK1.out 2
  have hf1_2 : w1023.frozen? ⟨g1, 2, none⟩ = false := blk_frozen BK1.out 2
  have hx1_3 := cz_ BK1.out 3
  have hf1_3 : w1023.frozen? ⟨g1, 3, none⟩ = false := blk_frozen BK1.out 3
  have hx1_4 := cz_ BK1.out 4
  have hf1_4 : w1023.frozen? ⟨g1, 4, none⟩ = false := blk_frozen BK1.out 4
  have hx1_5 := cz_ BK1.out 5
  have hf1_5 : w1023.frozen? ⟨g1, 5, none⟩ = false := blk_frozen BK1.out 5
  have hx14_0 := cz_ BK14.out 0
  have hf14_0 : w1023.frozen? ⟨g14, 0, none⟩ = false := blk_frozen BK14.out 0
  have hx14_1 := cz_ BK14.out 1
  have hf14_1 : w1023.frozen? ⟨g14, 1, none⟩ = false := blk_frozen BK14.out 1
  have hx14_2 := cz_ BK14.out 2
  have hf14_2 : w1023.frozen? ⟨g14, 2, none⟩ = false := blk_frozen BK14.out 2
  have hx14_3 := cz_ BK14.out 3
  have hf14_3 : w1023.frozen? ⟨g14, 3, none⟩ = false := blk_frozen BK14.out 3
  have hx14_4 := cz_ BK14.out 4
  have hf14_4 : w1023.frozen? ⟨g14, 4, none⟩ = false := blk_frozen BK14.out 4
  have hx14_5 := cz_ BK14.out 5
  have hf14_5 : w1023.frozen? ⟨g14, 5, none⟩ = false := blk_frozen BK14.out 5
  skip
  go_upto_region 31 with (first | (go_at_call 13; (with_reducible refine (laws_markVoiceS.callsP k (Zone w1008 w1010 (32 :: (k32).E)) (.slice A_11 t10.length c_11) t10 1 t24_0 t24_1 w _ ?sd24_1 ?sd24_2 A24.out).mono ?_); (case sd24_1 => exact HB.out); (case sd24_2 => exact HO11.out); rintro e w1024 ⟨rfl, hy0, hb, hkp⟩; clear hx1_0 hf1_0 hx1_1 hf1_1 hx1_2 hf1_2 hx1_3 hf1_3 hx1_4 hf1_4 hx1_5 hf1_5 hx14_0 hf14_0 hx14_1 hf14_1 hx14_2 hf14_2 hx14_3 hf14_3 hx14_4 hf14_4 hx14_5 hf14_5; have n0_ := Aside0.mk (hb); have n1_ := Aside0.mk (Kd.S_step HO5.out (fun k_ h_ hlt_ => hkp.2 k_ hlt_ (fun e_ => (show False from Zone.apart h_ e_ (by have := SZ6.out; have := SZ7.out; first | exact .inl (by omega) | exact .inr (by omega))).elim))); have n2_ := Aside0.mk (Kd.R_step HO7.out (fun k_ h_ hlt_ => hkp.2 k_ hlt_ (fun e_ => (show False from Zone.apart h_ e_ (by have := SZ7.out; first | exact .inl (by omega) | exact .inr (by omega))).elim))); have n3_ := Aside0.mk (Kd.S_step HO9.out (fun k_ h_ hlt_ => hkp.2 k_ hlt_ (fun e_ => (show False from Zone.apart h_ e_ (by first | exact .inl (by omega) | exact .inr (by omega))).elim))); have n4_ := Aside0.mk (hy0); have n5_ := Aside0.mk (Kd.R_step HO13.out (fun k_ h_ hlt_ => hkp.2 k_ hlt_ (fun e_ => (show False from Zone.apart h_ e_ (by first | exact .inl (by omega) | exact .inr (by omega))).elim))); have n6_ := Aside0.mk (Kd.S_step HO16.out (fun k_ h_ hlt_ => hkp.2 k_ hlt_ (fun e_ => (show False from Zone.apart h_ e_ (by have := SZ9.out; have := SZ10.out; have := SZ11.out; first | exact .inl (by omega) | exact .inr (by omega))).elim))); have n7_ := Aside0.mk (Kd.S_step HO19.out (fun k_ h_ hlt_ => hkp.2 k_ hlt_ (fun e_ => (show False from Zone.apart h_ e_ (by have := SZ9.out; have := SZ10.out; have := SZ11.out; have := SZ12.out; have := SZ13.out; first | exact .inl (by omega) | exact .inr (by omega))).elim))); have n8_ := Aside0.mk (Kd.R_step HO22.out (fun k_ h_ hlt_ => hkp.2 k_ hlt_ (fun e_ => (show False from Zone.apart h_ e_ (by have := SZ9.out; have := SZ10.out; have := SZ11.out; have := SZ12.out; have := SZ13.out; have := SZ14.out; have := SZ15.out; have := SZ16.out; first | exact .inl (by omega) | exact .inr (by omega))).elim))); have n9_ := Aside0.mk ((hkp.2 g1 (blk_lt BK1.out) (fun e_ => (show False from Zone.notblk e_ rfl (by have := GL1.out; have := GU1.out; have := SZ2.out; have := SZ3.out; have := SZ4.out; have := SZ5.out; have := SZ6.out; have := SZ7.out; first | exact .inl (by omega) | exact .inr (by omega))).elim)).trans BK1.out); have n10_ := Aside0.mk ((hkp.2 g14 (blk_lt BK14.out) (fun e_ => (show False from Zone.notblk e_ rfl (by have := GL14.out; have := GU14.out; have := SZ9.out; first | exact .inl (by omega) | exact .inr (by omega))).elim)).trans BK14.out); have SZ19 := Aside0.mk (show w1023.heap.size ≤ w1024.heap.size from hkp.1); clear HB HO5 HO7 HO9 HO11 HO13 HO16 HO19 HO22 BK1 BK14; have HB := n0_; have HO5 := n1_; have HO7 := n2_; have HO9 := n3_; have HO11 := n4_; have HO13 := n5_; have HO16 := n6_; have HO19 := n7_; have HO22 := n8_; have BK1 := n9_; have BK14 := n10_; clear n0_ n1_ n2_ n3_ n4_ n5_ n6_ n7_ n8_ n9_ n10_; clear hb hkp hy0; have hx1_0 := cz_ BK1.out 0; have hf1_0 : w1024.frozen? ⟨g1, 0, none⟩ = false := blk_frozen BK1.out 0; have hx1_1 := cz_ BK1.out 1; have hf1_1 : w1024.frozen? ⟨g1, 1, none⟩ = false := blk_frozen BK1.out 1; have hx1_2 := cz_ BK1.out 2; have hf1_2 : w1024.frozen? ⟨g1, 2, none⟩ = false := blk_frozen BK1.out 2; have hx1_3 := cz_ BK1.out 3; have hf1_3 : w1024.frozen? ⟨g1, 3, none⟩ = false := blk_frozen BK1.out 3; have hx1_4 := cz_ BK1.out 4; have hf1_4 : w1024.frozen? ⟨g1, 4, none⟩ = false := blk_frozen BK1.out 4; have hx1_5 := cz_ BK1.out 5; have hf1_5 : w1024.frozen? ⟨g1, 5, none⟩ = false := blk_frozen BK1.out 5; have hx14_0 := cz_ BK14.out 0; have hf14_0 : w1024.frozen? ⟨g14, 0, none⟩ = false := blk_frozen BK14.out 0; have hx14_1 := cz_ BK14.out 1; have hf14_1 : w1024.frozen? ⟨g14, 1, none⟩ = false := blk_frozen BK14.out 1; have hx14_2 := cz_ BK14.out 2; have hf14_2 : w1024.frozen? ⟨g14, 2, none⟩ = false := blk_frozen BK14.out 2; have hx14_3 := cz_ BK14.out 3; have hf14_3 : w1024.frozen? ⟨g14, 3, none⟩ = false := blk_frozen BK14.out 3; have hx14_4 := cz_ BK14.out 4; have hf14_4 : w1024.frozen? ⟨g14, 4, none⟩ = false := blk_frozen BK14.out 4; have hx14_5 := cz_ BK14.out 5; have hf14_5 : w1024.frozen? ⟨g14, 5, none⟩ = false := blk_frozen BK14.out 5) | (go_at_call 14; (with_reducible refine (laws_markVoice.calls k (Zone w1010 w1012 (3 :: ((Kd.int .i64)).E)) (.slice A_13 t12_0.length c_13) t12_0 t12_1 t12_2 t12_3 t12_4 t12_5 t24_0 t25_0 t25_1 w _ ?sd25_1 ?sd25_2 A25.out).mono ?_); (case sd25_1 => exact HB.out); (case sd25_2 => exact HO13.out); rintro e w1025 ⟨rfl, hy0, hb, hkp⟩; clear hx1_0 hf1_0 hx1_1 hf1_1 hx1_2 hf1_2 hx1_3 hf1_3 hx1_4 hf1_4 hx1_5 hf1_5 hx14_0 hf14_0 hx14_1 hf14_1 hx14_2 hf14_2 hx14_3 hf14_3 hx14_4 hf14_4 hx14_5 hf14_5; have n0_ := Aside0.mk (hb); have n1_ := Aside0.mk (Kd.S_step HO5.out (fun k_ h_ hlt_ => hkp.2 k_ hlt_ (fun e_ => (show False from Zone.apart h_ e_ (by have := SZ6.out; have := SZ7.out; have := SZ8.out; first | exact .inl (by omega) | exact .inr (by omega))).elim))); have n2_ := Aside0.mk (Kd.R_step HO7.out (fun k_ h_ hlt_ => hkp.2 k_ hlt_ (fun e_ => (show False from Zone.apart h_ e_ (by have := SZ7.out; have := SZ8.out; first | exact .inl (by omega) | exact .inr (by omega))).elim))); have n3_ := Aside0.mk (Kd.S_step HO9.out (fun k_ h_ hlt_ => hkp.2 k_ hlt_ (fun e_ => (show False from Zone.apart h_ e_ (by have := SZ8.out; first | exact .inl (by omega) | exact .inr (by omega))).elim))); have n4_ := Aside0.mk (Kd.S_step HO11.out (fun k_ h_ hlt_ => hkp.2 k_ hlt_ (fun e_ => (show False from Zone.apart h_ e_ (by first | exact .inl (by omega) | exact .inr (by omega))).elim))); have n5_ := Aside0.mk (Kd.R_reok rfl hy0 HO13.out.1); have n6_ := Aside0.mk (Kd.S_step HO16.out (fun k_ h_ hlt_ => hkp.2 k_ hlt_ (fun e_ => (show False from Zone.apart h_ e_ (by have := SZ10.out; have := SZ11.out; first | exact .inl (by omega) | exact .inr (by omega))).elim))); have n7_ := Aside0.mk (Kd.S_step HO19.out (fun k_ h_ hlt_ => hkp.2 k_ hlt_ (fun e_ => (show False from Zone.apart h_ e_ (by have := SZ10.out; have := SZ11.out; have := SZ12.out; have := SZ13.out; first | exact .inl (by omega) | exact .inr (by omega))).elim))); have n8_ := Aside0.mk (Kd.R_step HO22.out (fun k_ h_ hlt_ => hkp.2 k_ hlt_ (fun e_ => (show False from Zone.apart h_ e_ (by have := SZ10.out; have := SZ11.out; have := SZ12.out; have := SZ13.out; have := SZ14.out; have := SZ15.out; have := SZ16.out; first | exact .inl (by omega) | exact .inr (by omega))).elim))); have n9_ := Aside0.mk ((hkp.2 g1 (blk_lt BK1.out) (fun e_ => (show False from Zone.notblk e_ rfl (by have := GL1.out; have := GU1.out; have := SZ2.out; have := SZ3.out; have := SZ4.out; have := SZ5.out; have := SZ6.out; have := SZ7.out; have := SZ8.out; first | exact .inl (by omega) | exact .inr (by omega))).elim)).trans BK1.out); have n10_ := Aside0.mk ((hkp.2 g14 (blk_lt BK14.out) (fun e_ => (show False from Zone.notblk e_ rfl (by have := GL14.out; have := GU14.out; first | exact .inl (by omega) | exact .inr (by omega))).elim)).trans BK14.out); have SZ20 := Aside0.mk (show w1024.heap.size ≤ w1025.heap.size from hkp.1); clear HB HO5 HO7 HO9 HO11 HO13 HO16 HO19 HO22 BK1 BK14; have HB := n0_; have HO5 := n1_; have HO7 := n2_; have HO9 := n3_; have HO11 := n4_; have HO13 := n5_; have HO16 := n6_; have HO19 := n7_; have HO22 := n8_; have BK1 := n9_; have BK14 := n10_; clear n0_ n1_ n2_ n3_ n4_ n5_ n6_ n7_ n8_ n9_ n10_; clear hb hkp hy0; have hx1_0 := cz_ BK1.out 0; have hf1_0 : w1025.frozen? ⟨g1, 0, none⟩ = false := blk_frozen BK1.out 0; have hx1_1 := cz_ BK1.out 1; have hf1_1 : w1025.frozen? ⟨g1, 1, none⟩ = false := blk_frozen BK1.out 1; have hx1_2 := cz_ BK1.out 2; have hf1_2 : w1025.frozen? ⟨g1, 2, none⟩ = false := blk_frozen BK1.out 2; have hx1_3 := cz_ BK1.out 3; have hf1_3 : w1025.frozen? ⟨g1, 3, none⟩ = false := blk_frozen BK1.out 3; have hx1_4 := cz_ BK1.out 4; have hf1_4 : w1025.frozen? ⟨g1, 4, none⟩ = false := blk_frozen BK1.out 4; have hx1_5 := cz_ BK1.out 5; have hf1_5 : w1025.frozen? ⟨g1, 5, none⟩ = false := blk_frozen BK1.out 5; have hx14_0 := cz_ BK14.out 0; have hf14_0 : w1025.frozen? ⟨g14, 0, none⟩ = false := blk_frozen BK14.out 0; have hx14_1 := cz_ BK14.out 1; have hf14_1 : w1025.frozen? ⟨g14, 1, none⟩ = false := blk_frozen BK14.out 1; have hx14_2 := cz_ BK14.out 2; have hf14_2 : w1025.frozen? ⟨g14, 2, none⟩ = false := blk_frozen BK14.out 2; have hx14_3 := cz_ BK14.out 3; have hf14_3 : w1025.frozen? ⟨g14, 3, none⟩ = false := blk_frozen BK14.out 3; have hx14_4 := cz_ BK14.out 4; have hf14_4 : w1025.frozen? ⟨g14, 4, none⟩ = false := blk_frozen BK14.out 4; have hx14_5 := cz_ BK14.out 5; have hf14_5 : w1025.frozen? ⟨g14, 5, none⟩ = false := blk_frozen BK14.out 5) | (go_at_call 11; (with_reducible refine (laws_eqVoiceS.calls k _ _ t15_0 _ _ t8_0 true _ ?sd26_1 ?sd26_2 ?sd26_3 ?sd26_4 A26.out).mono ?_); (case sd26_1 => exact (Kd.S_reads' HO16.out).2.2); (case sd26_2 => exact (Kd.S_reads' HO16.out).2.1); (case sd26_3 => exact (Kd.S_reads' HO9.out).2.2); (case sd26_4 => exact (Kd.S_reads' HO9.out).2.1); rintro e w1026 ⟨rfl, hb⟩; have hs_ := below_size HB.out; clear hx1_0 hf1_0 hx1_1 hf1_1 hx1_2 hf1_2 hx1_3 hf1_3 hx1_4 hf1_4 hx1_5 hf1_5 hx14_0 hf14_0 hx14_1 hf14_1 hx14_2 hf14_2 hx14_3 hf14_3 hx14_4 hf14_4 hx14_5 hf14_5; have n0_ := Aside0.mk (below_step HB.out hb); have n1_ := Aside0.mk (Kd.S_below HO5.out hb); have n2_ := Aside0.mk (Kd.R_below HO7.out hb); have n3_ := Aside0.mk (Kd.S_below HO9.out hb); have n4_ := Aside0.mk (Kd.S_below HO11.out hb); have n5_ := Aside0.mk (Kd.R_below HO13.out hb); have n6_ := Aside0.mk (Kd.S_below HO16.out hb); have n7_ := Aside0.mk (Kd.S_below HO19.out hb); have n8_ := Aside0.mk (Kd.R_below HO22.out hb); have n9_ := Aside0.mk (blk_below BK1.out hb); have n10_ := Aside0.mk (blk_below BK14.out hb); have SZ21 := Aside0.mk (show w1025.heap.size ≤ w1026.heap.size from (hb).size); clear HB HO5 HO7 HO9 HO11 HO13 HO16 HO19 HO22 BK1 BK14; have HB := n0_; have HO5 := n1_; have HO7 := n2_; have HO9 := n3_; have HO11 := n4_; have HO13 := n5_; have HO16 := n6_; have HO19 := n7_; have HO22 := n8_; have BK1 := n9_; have BK14 := n10_; clear n0_ n1_ n2_ n3_ n4_ n5_ n6_ n7_ n8_ n9_ n10_; clear hb hs_; have hx1_0 := cz_ BK1.out 0; have hf1_0 : w1026.frozen? ⟨g1, 0, none⟩ = false := blk_frozen BK1.out 0; have hx1_1 := cz_ BK1.out 1; have hf1_1 : w1026.frozen? ⟨g1, 1, none⟩ = false := blk_frozen BK1.out 1; have hx1_2 := cz_ BK1.out 2; have hf1_2 : w1026.frozen? ⟨g1, 2, none⟩ = false := blk_frozen BK1.out 2; have hx1_3 := cz_ BK1.out 3; have hf1_3 : w1026.frozen? ⟨g1, 3, none⟩ = false := blk_frozen BK1.out 3; have hx1_4 := cz_ BK1.out 4; have hf1_4 : w1026.frozen? ⟨g1, 4, none⟩ = false := blk_frozen BK1.out 4; have hx1_5 := cz_ BK1.out 5; have hf1_5 : w1026.frozen? ⟨g1, 5, none⟩ = false := blk_frozen BK1.out 5; have hx14_0 := cz_ BK14.out 0; have hf14_0 : w1026.frozen? ⟨g14, 0, none⟩ = false := blk_frozen BK14.out 0; have hx14_1 := cz_ BK14.out 1; have hf14_1 : w1026.frozen? ⟨g14, 1, none⟩ = false := blk_frozen BK14.out 1; have hx14_2 := cz_ BK14.out 2; have hf14_2 : w1026.frozen? ⟨g14, 2, none⟩ = false := blk_frozen BK14.out 2; have hx14_3 := cz_ BK14.out 3; have hf14_3 : w1026.frozen? ⟨g14, 3, none⟩ = false := blk_frozen BK14.out 3; have hx14_4 := cz_ BK14.out 4; have hf14_4 : w1026.frozen? ⟨g14, 4, none⟩ = false := blk_frozen BK14.out 4; have hx14_5 := cz_ BK14.out 5; have hf14_5 : w1026.frozen? ⟨g14, 5, none⟩ = false := blk_frozen BK14.out 5) | (go_at_call 13; (with_reducible refine (laws_markVoiceS.callsP k (Zone w2011 w1015 (32 :: (k32).E)) (.slice A_16 t15_0.length c_16) t15_0 1 t36 t27_1 w _ ?sd27_1 ?sd27_2 A27.out).mono ?_); (case sd27_1 => exact HB.out); (case sd27_2 => exact HO16.out); rintro e w1027 ⟨rfl, hy0, hb, hkp⟩; clear hx1_0 hf1_0 hx1_1 hf1_1 hx1_2 hf1_2 hx1_3 hf1_3 hx1_4 hf1_4 hx1_5 hf1_5 hx14_0 hf14_0 hx14_1 hf14_1 hx14_2 hf14_2 hx14_3 hf14_3 hx14_4 hf14_4 hx14_5 hf14_5; have n0_ := Aside0.mk (hb); have n1_ := Aside0.mk (Kd.S_step HO5.out (fun k_ h_ hlt_ => hkp.2 k_ hlt_ (fun e_ => (show False from Zone.apart h_ e_ (by have := SZ6.out; have := SZ7.out; have := SZ8.out; have := SZ9.out; have := SZ10.out; have := SZ11.out; first | exact .inl (by omega) | exact .inr (by omega))).elim))); have n2_ := Aside0.mk (Kd.R_step HO7.out (fun k_ h_ hlt_ => hkp.2 k_ hlt_ (fun e_ => (show False from Zone.apart h_ e_ (by have := SZ7.out; have := SZ8.out; have := SZ9.out; have := SZ10.out; have := SZ11.out; first | exact .inl (by omega) | exact .inr (by omega))).elim))); have n3_ := Aside0.mk (Kd.S_step HO9.out (fun k_ h_ hlt_ => hkp.2 k_ hlt_ (fun e_ => (show False from Zone.apart h_ e_ (by have := SZ8.out; have := SZ9.out; have := SZ10.out; have := SZ11.out; first | exact .inl (by omega) | exact .inr (by omega))).elim))); have n4_ := Aside0.mk (Kd.S_step HO11.out (fun k_ h_ hlt_ => hkp.2 k_ hlt_ (fun e_ => (show False from Zone.apart h_ e_ (by have := SZ9.out; have := SZ10.out; have := SZ11.out; first | exact .inl (by omega) | exact .inr (by omega))).elim))); have n5_ := Aside0.mk (Kd.R_step HO13.out (fun k_ h_ hlt_ => hkp.2 k_ hlt_ (fun e_ => (show False from Zone.apart h_ e_ (by have := SZ10.out; have := SZ11.out; first | exact .inl (by omega) | exact .inr (by omega))).elim))); have n6_ := Aside0.mk (hy0); have n7_ := Aside0.mk (Kd.S_step HO19.out (fun k_ h_ hlt_ => hkp.2 k_ hlt_ (fun e_ => (show False from Zone.apart h_ e_ (by have := SZ13.out; first | exact .inl (by omega) | exact .inr (by omega))).elim))); have n8_ := Aside0.mk (Kd.R_step HO22.out (fun k_ h_ hlt_ => hkp.2 k_ hlt_ (fun e_ => (show False from Zone.apart h_ e_ (by have := SZ13.out; have := SZ14.out; have := SZ15.out; have := SZ16.out; first | exact .inl (by omega) | exact .inr (by omega))).elim))); have n9_ := Aside0.mk ((hkp.2 g1 (blk_lt BK1.out) (fun e_ => (show False from Zone.notblk e_ rfl (by have := GL1.out; have := GU1.out; have := SZ2.out; have := SZ3.out; have := SZ4.out; have := SZ5.out; have := SZ6.out; have := SZ7.out; have := SZ8.out; have := SZ9.out; have := SZ10.out; have := SZ11.out; first | exact .inl (by omega) | exact .inr (by omega))).elim)).trans BK1.out); have n10_ := Aside0.mk ((hkp.2 g14 (blk_lt BK14.out) (fun e_ => (show False from Zone.notblk e_ rfl (by have := GL14.out; have := GU14.out; have := SZ11.out; first | exact .inl (by omega) | exact .inr (by omega))).elim)).trans BK14.out); have SZ22 := Aside0.mk (show w1026.heap.size ≤ w1027.heap.size from hkp.1); clear HB HO5 HO7 HO9 HO11 HO13 HO16 HO19 HO22 BK1 BK14; have HB := n0_; have HO5 := n1_; have HO7 := n2_; have HO9 := n3_; have HO11 := n4_; have HO13 := n5_; have HO16 := n6_; have HO19 := n7_; have HO22 := n8_; have BK1 := n9_; have BK14 := n10_; clear n0_ n1_ n2_ n3_ n4_ n5_ n6_ n7_ n8_ n9_ n10_; clear hb hkp hy0; have hx1_0 := cz_ BK1.out 0; have hf1_0 : w1027.frozen? ⟨g1, 0, none⟩ = false := blk_frozen BK1.out 0; have hx1_1 := cz_ BK1.out 1; have hf1_1 : w1027.frozen? ⟨g1, 1, none⟩ = false := blk_frozen BK1.out 1; have hx1_2 := cz_ BK1.out 2; have hf1_2 : w1027.frozen? ⟨g1, 2, none⟩ = false := blk_frozen BK1.out 2; have hx1_3 := cz_ BK1.out 3; have hf1_3 : w1027.frozen? ⟨g1, 3, none⟩ = false := blk_frozen BK1.out 3; have hx1_4 := cz_ BK1.out 4; have hf1_4 : w1027.frozen? ⟨g1, 4, none⟩ = false := blk_frozen BK1.out 4; have hx1_5 := cz_ BK1.out 5; have hf1_5 : w1027.frozen? ⟨g1, 5, none⟩ = false := blk_frozen BK1.out 5; have hx14_0 := cz_ BK14.out 0; have hf14_0 : w1027.frozen? ⟨g14, 0, none⟩ = false := blk_frozen BK14.out 0; have hx14_1 := cz_ BK14.out 1; have hf14_1 : w1027.frozen? ⟨g14, 1, none⟩ = false := blk_frozen BK14.out 1; have hx14_2 := cz_ BK14.out 2; have hf14_2 : w1027.frozen? ⟨g14, 2, none⟩ = false := blk_frozen BK14.out 2; have hx14_3 := cz_ BK14.out 3; have hf14_3 : w1027.frozen? ⟨g14, 3, none⟩ = false := blk_frozen BK14.out 3; have hx14_4 := cz_ BK14.out 4; have hf14_4 : w1027.frozen? ⟨g14, 4, none⟩ = false := blk_frozen BK14.out 4; have hx14_5 := cz_ BK14.out 5; have hf14_5 : w1027.frozen? ⟨g14, 5, none⟩ = false := blk_frozen BK14.out 5) | (go_at_call 15; refine calls_of_args (args' := #[.slice A_16 t27_1.length c_16, .int .i64 1]) (by first | (rw [show t27_1.length = t15_0.length from (Kd.S_reads' HO16.out).1.symm] <;> rfl) | rfl) ?_; (with_reducible refine (laws_heldVoiceS.calls k _ _ t27_1 1 t36 _ ?sd28_1 ?sd28_2 A28.out).mono ?_); (case sd28_1 => exact (Kd.S_reads' HO16.out).2.2); (case sd28_2 => exact (by rw [show t27_1.length = t15_0.length from (Kd.S_reads' HO16.out).1.symm]; exact (Kd.S_reads' HO16.out).2.1)); rintro e w1028 ⟨rfl, hd⟩; have hb := hd.below; clear hd; have hs_ := below_size HB.out; clear hx1_0 hf1_0 hx1_1 hf1_1 hx1_2 hf1_2 hx1_3 hf1_3 hx1_4 hf1_4 hx1_5 hf1_5 hx14_0 hf14_0 hx14_1 hf14_1 hx14_2 hf14_2 hx14_3 hf14_3 hx14_4 hf14_4 hx14_5 hf14_5; have n0_ := Aside0.mk (below_step HB.out hb); have n1_ := Aside0.mk (Kd.S_below HO5.out hb); have n2_ := Aside0.mk (Kd.R_below HO7.out hb); have n3_ := Aside0.mk (Kd.S_below HO9.out hb); have n4_ := Aside0.mk (Kd.S_below HO11.out hb); have n5_ := Aside0.mk (Kd.R_below HO13.out hb); have n6_ := Aside0.mk (Kd.S_below HO16.out hb); have n7_ := Aside0.mk (Kd.S_below HO19.out hb); have n8_ := Aside0.mk (Kd.R_below HO22.out hb); have n9_ := Aside0.mk (blk_below BK1.out hb); have n10_ := Aside0.mk (blk_below BK14.out hb); have SZ23 := Aside0.mk (show w1027.heap.size ≤ w1028.heap.size from (hb).size); clear HB HO5 HO7 HO9 HO11 HO13 HO16 HO19 HO22 BK1 BK14; have HB := n0_; have HO5 := n1_; have HO7 := n2_; have HO9 := n3_; have HO11 := n4_; have HO13 := n5_; have HO16 := n6_; have HO19 := n7_; have HO22 := n8_; have BK1 := n9_; have BK14 := n10_; clear n0_ n1_ n2_ n3_ n4_ n5_ n6_ n7_ n8_ n9_ n10_; clear hb hs_; have hx1_0 := cz_ BK1.out 0; have hf1_0 : w1028.frozen? ⟨g1, 0, none⟩ = false := blk_frozen BK1.out 0; have hx1_1 := cz_ BK1.out 1; have hf1_1 : w1028.frozen? ⟨g1, 1, none⟩ = false := blk_frozen BK1.out 1; have hx1_2 := cz_ BK1.out 2; have hf1_2 : w1028.frozen? ⟨g1, 2, none⟩ = false := blk_frozen BK1.out 2; have hx1_3 := cz_ BK1.out 3; have hf1_3 : w1028.frozen? ⟨g1, 3, none⟩ = false := blk_frozen BK1.out 3; have hx1_4 := cz_ BK1.out 4; have hf1_4 : w1028.frozen? ⟨g1, 4, none⟩ = false := blk_frozen BK1.out 4; have hx1_5 := cz_ BK1.out 5; have hf1_5 : w1028.frozen? ⟨g1, 5, none⟩ = false := blk_frozen BK1.out 5; have hx14_0 := cz_ BK14.out 0; have hf14_0 : w1028.frozen? ⟨g14, 0, none⟩ = false := blk_frozen BK14.out 0; have hx14_1 := cz_ BK14.out 1; have hf14_1 : w1028.frozen? ⟨g14, 1, none⟩ = false := blk_frozen BK14.out 1; have hx14_2 := cz_ BK14.out 2; have hf14_2 : w1028.frozen? ⟨g14, 2, none⟩ = false := blk_frozen BK14.out 2; have hx14_3 := cz_ BK14.out 3; have hf14_3 : w1028.frozen? ⟨g14, 3, none⟩ = false := blk_frozen BK14.out 3; have hx14_4 := cz_ BK14.out 4; have hf14_4 : w1028.frozen? ⟨g14, 4, none⟩ = false := blk_frozen BK14.out 4; have hx14_5 := cz_ BK14.out 5; have hf14_5 : w1028.frozen? ⟨g14, 5, none⟩ = false := blk_frozen BK14.out 5))
  (try simp only [Act.put, List.setIfInBounds_toArray, List.set_cons_zero, List.set_cons_succ])
  clear hx1_0 hf1_0 hx1_1 hf1_1 hx1_2 hf1_2 hx1_3 hf1_3 hx1_4 hf1_4 hx1_5 hf1_5 hx14_0 hf14_0 hx14_1 hf14_1 hx14_2 hf14_2 hx14_3 hf14_3 hx14_4 hf14_4 hx14_5 hf14_5
  have n0_ := Aside0.mk (below_step HB.out (below_drew1 (Below.refl w1028.heap.size w1028)))
  have n1_ := Aside0.mk (Kd.S_below HO5.out (below_drew1 (Below.refl w1028.heap.size w1028)))
  have n2_ := Aside0.mk (Kd.R_below HO7.out (below_drew1 (Below.refl w1028.heap.size w1028)))
  have n3_ := Aside0.mk (Kd.S_below HO9.out (below_drew1 (Below.refl w1028.heap.size w1028)))
  have n4_ := Aside0.mk (Kd.S_below HO11.out (below_drew1 (Below.refl w1028.heap.size w1028)))
  have n5_ := Aside0.mk (Kd.R_below HO13.out (below_drew1 (Below.refl w1028.heap.size w1028)))
  have n6_ := Aside0.mk (Kd.S_below HO16.out (below_drew1 (Below.refl w1028.heap.size w1028)))
  have n7_ := Aside0.mk (Kd.S_below HO19.out (below_drew1 (Below.refl w1028.heap.size w1028)))
  have n8_ := Aside0.mk (Kd.R_below HO22.out (below_drew1 (Below.refl w1028.heap.size w1028)))
  have n9_ := Aside0.mk (blk_below BK1.out (below_drew1 (Below.refl w1028.heap.size w1028)))
  have n10_ := Aside0.mk (blk_below BK14.out (below_drew1 (Below.refl w1028.heap.size w1028)))
  have SZ24 := Aside0.mk (show w1028.heap.size ≤ w1028.drew.heap.size from ((below_drew1 (Below.refl w1028.heap.size w1028))).size)
  clear HB HO5 HO7 HO9 HO11 HO13 HO16 HO19 HO22 BK1 BK14
  have HB := n0_
  have HO5 := n1_
  have HO7 := n2_
  have HO9 := n3_
  have HO11 := n4_
  have HO13 := n5_
  have HO16 := n6_
  have HO19 := n7_
  have HO22 := n8_
  have BK1 := n9_
  have BK14 := n10_
  clear n0_ n1_ n2_ n3_ n4_ n5_ n6_ n7_ n8_ n9_ n10_
  refine start_ (n := 12) (S := fun w' => w'.cell? ⟨g1, 0, none⟩ = some (.slice A1_0 l1_0.length c1_0) ∧ w'.cell? ⟨g1, 1, none⟩ = some (.int .i64 a1_1) ∧ w'.cell? ⟨g1, 2, none⟩ = some (.bool a1_2) ∧ w'.cell? ⟨g1, 3, none⟩ = some (.int .i64 a1_3) ∧ w'.cell? ⟨g1, 4, none⟩ = some (.int .i64 a1_4) ∧ w'.cell? ⟨g1, 5, none⟩ = some (.int .i64 a1_5) ∧ w'.cell? ⟨g14, 0, none⟩ = some (.slice A_13 t12_0.length c_13) ∧ w'.cell? ⟨g14, 1, none⟩ = some (.int .i64 t12_1) ∧ w'.cell? ⟨g14, 2, none⟩ = some (.bool t12_2) ∧ w'.cell? ⟨g14, 3, none⟩ = some (.int .i64 t12_3) ∧ w'.cell? ⟨g14, 4, none⟩ = some (.int .i64 t12_4) ∧ w'.cell? ⟨g14, 5, none⟩ = some (.int .i64 t12_5)) (ds := []) (Array.replicate 12 false) (by kernel_rfl) rfl rfl ⟨cz_ BK1.out 0, cz_ BK1.out 1, cz_ BK1.out 2, cz_ BK1.out 3, cz_ BK1.out 4, cz_ BK1.out 5, cz_ BK14.out 0, cz_ BK14.out 1, cz_ BK14.out 2, cz_ BK14.out 3, cz_ BK14.out 4, cz_ BK14.out 5⟩ (fun hHeld => ?_); refine with_tabW laws_FnExactTakeVoice.tab31 laws_FnExactTakeVoice.bits31 (fun HT_ HW_ => ?_)
  generalize w1028.drew = w3025 at HB HO5 HO7 HO9 HO11 HO13 HO16 HO19 HO22 BK1 BK14 SZ24 hHeld ⊢
  refine pure_ (i := 0) (N := some 110) (v := ?_) (a' := ?_) #[true, false, false, false, false, false, false, false, false, false, false, false] rfl rfl (any_of HT_.out (by kernel_rfl)) (fun _ _ _ h => h) (Or.inl ⟨by rfl, ?_⟩) ?_ ?_
  rotate_left
  · intro w'
    go_simp
    with_reducible rfl
  rotate_left
  · simp only [Act.put, List.setIfInBounds_toArray, List.set_cons_zero, List.set_cons_succ, i64_w, i32_w]
    rfl
  refine take_ (i := 2) (N := some 112) (v := ?_) (a' := ?_) #[true, false, true, false, false, false, false, false, false, false, false, false] rfl rfl (take_ofW HT_.out HW_.out (by kernel_rfl)) (fun _ _ _ h => h) (Or.inl ⟨by rfl, ?_⟩) hHeld ?_ ?_
  rotate_left
  · rintro w' ⟨s0, s1, s2, s3, s4, s5, s6, s7, s8, s9, s10, s11⟩
    go_simp
    with_reducible rfl
  rotate_left
  · simp only [Act.put, List.setIfInBounds_toArray, List.set_cons_zero, List.set_cons_succ, i64_w, i32_w]
    rfl
  refine oS_ 1 111 HT_ (fun K hK => ?_)
  refine goes_ Try.func8 (by kernel_rfl) rfl #[.slice A0 l0.length c0] (by rfl) rfl rfl (by (try simp only [List.map_toArray, List.map_cons, List.map_nil]); first | done | rfl) ?_
  (with_reducible refine (laws_toVoiceS.calls k _ _ l0 t29 _ ?sd29_1 ?sd29_2 A29.out).mono ?_)
  (case sd29_1 => exact Kd.C_below HR0.out HB.out)
  (case sd29_2 => exact HC0.out)
  rintro e w1029 ⟨v_30, rfl, ho0, hb⟩
  refine ⟨_, rfl, ?_⟩
  have hs_ := below_size HB.out
  have n0_ := Aside0.mk (below_step HB.out hb)
  have n1_ := Aside0.mk (Kd.S_below HO5.out hb)
  have n2_ := Aside0.mk (Kd.R_below HO7.out hb)
  have n3_ := Aside0.mk (Kd.S_below HO9.out hb)
  have n4_ := Aside0.mk (Kd.S_below HO11.out hb)
  have n5_ := Aside0.mk (Kd.R_below HO13.out hb)
  have n6_ := Aside0.mk (Kd.S_below HO16.out hb)
  have n7_ := Aside0.mk (Kd.S_below HO19.out hb)
  have n8_ := Aside0.mk (Kd.R_below HO22.out hb)
  have n9_ := Aside0.mk (blk_below BK1.out hb)
  have n10_ := Aside0.mk (blk_below BK14.out hb)
  have SZ25 := Aside0.mk (show w3025.heap.size ≤ w1029.heap.size from (hb).size)
  clear HB HO5 HO7 HO9 HO11 HO13 HO16 HO19 HO22 BK1 BK14
  have HB := n0_
  have HO5 := n1_
  have HO7 := n2_
  have HO9 := n3_
  have HO11 := n4_
  have HO13 := n5_
  have HO16 := n6_
  have HO19 := n7_
  have HO22 := n8_
  have BK1 := n9_
  have BK14 := n10_
  clear n0_ n1_ n2_ n3_ n4_ n5_ n6_ n7_ n8_ n9_ n10_
  have HO30 := Aside0.mk (S_zone ho0 hs_)
  clear ho0
  obtain ⟨A_30, c_30, e_30⟩ := Kd.S_slice HO30.out
  subst e_30
  clear hb hs_
  refine hK.out _ _ ⟨cz_ BK1.out 0, cz_ BK1.out 1, cz_ BK1.out 2, cz_ BK1.out 3, cz_ BK1.out 4, cz_ BK1.out 5, cz_ BK14.out 0, cz_ BK14.out 1, cz_ BK14.out 2, cz_ BK14.out 3, cz_ BK14.out 4, cz_ BK14.out 5⟩ (fun hHeld => ?_)
  clear hK K
  refine norm_ (a' := ?_) ?_ ?_
  rotate_left
  · show Act.put _ (some 111) _ = _
    simp only [Act.put, List.setIfInBounds_toArray, List.set_cons_zero, List.set_cons_succ, i64_w, i32_w]
    rfl
  refine oS_ 3 113 HT_ (fun K hK => ?_)
  refine goes_ Try.func9 (by kernel_rfl) rfl #[.agg #[.slice A1_0 l1_0.length c1_0, .int .i64 a1_1, .bool a1_2, .int .i64 a1_3, .int .i64 a1_4, .int .i64 a1_5]] (by rfl) rfl rfl (by (try simp only [List.map_toArray, List.map_cons, List.map_nil]); first | done | rfl) ?_
  (with_reducible refine (laws_toVoice.calls k _ _ l1_0 a1_1 a1_2 a1_3 a1_4 a1_5 t31_0 t31_1 t31_2 t31_3 t31_4 t31_5 _ ?sd31_1 ?sd31_2 A31.out).mono ?_)
  (case sd31_1 => exact Kd.C_below HR1_0.out HB.out)
  (case sd31_2 => exact HC1_0.out)
  rintro e w1031 ⟨v_32, rfl, ho0, hb⟩
  refine ⟨_, rfl, ?_⟩
  have hs_ := below_size HB.out
  have n0_ := Aside0.mk (below_step HB.out hb)
  have n1_ := Aside0.mk (Kd.S_below HO5.out hb)
  have n2_ := Aside0.mk (Kd.R_below HO7.out hb)
  have n3_ := Aside0.mk (Kd.S_below HO9.out hb)
  have n4_ := Aside0.mk (Kd.S_below HO11.out hb)
  have n5_ := Aside0.mk (Kd.R_below HO13.out hb)
  have n6_ := Aside0.mk (Kd.S_below HO16.out hb)
  have n7_ := Aside0.mk (Kd.S_below HO19.out hb)
  have n8_ := Aside0.mk (Kd.R_below HO22.out hb)
  have n9_ := Aside0.mk (Kd.S_below HO30.out hb)
  have n10_ := Aside0.mk (blk_below BK1.out hb)
  have n11_ := Aside0.mk (blk_below BK14.out hb)
  have SZ26 := Aside0.mk (show w1029.heap.size ≤ w1031.heap.size from (hb).size)
  clear HB HO5 HO7 HO9 HO11 HO13 HO16 HO19 HO22 HO30 BK1 BK14
  have HB := n0_
  have HO5 := n1_
  have HO7 := n2_
  have HO9 := n3_
  have HO11 := n4_
  have HO13 := n5_
  have HO16 := n6_
  have HO19 := n7_
  have HO22 := n8_
  have HO30 := n9_
  have BK1 := n10_
  have BK14 := n11_
  clear n0_ n1_ n2_ n3_ n4_ n5_ n6_ n7_ n8_ n9_ n10_ n11_
  have HO32 := Aside0.mk (R_zone ho0 hs_)
  clear ho0
  obtain ⟨A_32, c_32, e_32⟩ := Kd.R_slice HO32.out
  subst e_32
  clear hb hs_
  refine hK.out _ _ ⟨cz_ BK1.out 0, cz_ BK1.out 1, cz_ BK1.out 2, cz_ BK1.out 3, cz_ BK1.out 4, cz_ BK1.out 5, cz_ BK14.out 0, cz_ BK14.out 1, cz_ BK14.out 2, cz_ BK14.out 3, cz_ BK14.out 4, cz_ BK14.out 5⟩ (fun hHeld => ?_)
  clear hK K
  refine norm_ (a' := ?_) ?_ ?_
  rotate_left
  · show Act.put _ (some 113) _ = _
    simp only [Act.put, List.setIfInBounds_toArray, List.set_cons_zero, List.set_cons_succ, i64_w, i32_w]
    rfl
  refine oS_ 4 114 HT_ (fun K hK => ?_)
  refine goes_ Try.func10 (by kernel_rfl) rfl #[.slice A_30 t29.length c_30, .agg #[.slice A_32 t31_0.length c_32, .int .i64 t31_1, .bool t31_2, .int .i64 t31_3, .int .i64 t31_4, .int .i64 t31_5]] (by rfl) rfl rfl (by (try simp only [List.map_toArray, List.map_cons, List.map_nil]); first | done | rfl) ?_
  (with_reducible refine (impl_TakeVoice.calls k _ _ t29 _ _ t31_0 t31_1 t31_2 t31_3 t31_4 t31_5 t33_0 t33_1 t33_2 _ ?sd33_1 ?sd33_2 ?sd33_3 ?sd33_4 A33.out).mono ?_)
  (case sd33_1 => exact (Kd.S_reads' HO30.out).2.2)
  (case sd33_2 => exact (Kd.S_reads' HO30.out).2.1)
  (case sd33_3 => exact (Kd.R_reads' HO32.out).2.2)
  (case sd33_4 => exact (Kd.R_reads' HO32.out).2.1)
  rintro e w1033 ⟨v_34, rfl, ho0, hb⟩
  refine ⟨_, rfl, ?_⟩
  have hs_ := below_size HB.out
  have n0_ := Aside0.mk (below_step HB.out hb)
  have n1_ := Aside0.mk (Kd.S_below HO5.out hb)
  have n2_ := Aside0.mk (Kd.R_below HO7.out hb)
  have n3_ := Aside0.mk (Kd.S_below HO9.out hb)
  have n4_ := Aside0.mk (Kd.S_below HO11.out hb)
  have n5_ := Aside0.mk (Kd.R_below HO13.out hb)
  have n6_ := Aside0.mk (Kd.S_below HO16.out hb)
  have n7_ := Aside0.mk (Kd.S_below HO19.out hb)
  have n8_ := Aside0.mk (Kd.R_below HO22.out hb)
  have n9_ := Aside0.mk (Kd.S_below HO30.out hb)
  have n10_ := Aside0.mk (Kd.R_below HO32.out hb)
  have n11_ := Aside0.mk (blk_below BK1.out hb)
  have n12_ := Aside0.mk (blk_below BK14.out hb)
  have SZ27 := Aside0.mk (show w1031.heap.size ≤ w1033.heap.size from (hb).size)
  clear HB HO5 HO7 HO9 HO11 HO13 HO16 HO19 HO22 HO30 HO32 BK1 BK14
  have HB := n0_
  have HO5 := n1_
  have HO7 := n2_
  have HO9 := n3_
  have HO11 := n4_
  have HO13 := n5_
  have HO16 := n6_
  have HO19 := n7_
  have HO22 := n8_
  have HO30 := n9_
  have HO32 := n10_
  have BK1 := n11_
  have BK14 := n12_
  clear n0_ n1_ n2_ n3_ n4_ n5_ n6_ n7_ n8_ n9_ n10_ n11_ n12_
  have HO34 := Aside0.mk (S_zone ho0 hs_)
  clear ho0
  obtain ⟨A_34, c_34, e_34⟩ := Kd.S_slice HO34.out
  subst e_34
  clear hb hs_
  refine hK.out _ _ ⟨cz_ BK1.out 0, cz_ BK1.out 1, cz_ BK1.out 2, cz_ BK1.out 3, cz_ BK1.out 4, cz_ BK1.out 5, cz_ BK14.out 0, cz_ BK14.out 1, cz_ BK14.out 2, cz_ BK14.out 3, cz_ BK14.out 4, cz_ BK14.out 5⟩ (fun hHeld => ?_)
  clear hK K
  refine norm_ (a' := ?_) ?_ ?_
  rotate_left
  · show Act.put _ (some 114) _ = _
    simp only [Act.put, List.setIfInBounds_toArray, List.set_cons_zero, List.set_cons_succ, i64_w, i32_w]
    rfl
  refine pure_ (i := 5) (N := some 109) (v := ?_) (a' := ?_) #[true, true, true, true, true, true, false, false, false, false, false, false] rfl rfl (any_of HT_.out (by kernel_rfl)) (fun _ _ _ h => h) (Or.inl ⟨by rfl, ?_⟩) ?_ ?_
  rotate_left
  · intro w'
    go_simp
    with_reducible rfl
  rotate_left
  · simp only [Act.put, List.setIfInBounds_toArray, List.set_cons_zero, List.set_cons_succ, i64_w, i32_w]
    rfl
  refine pure_ (i := 6) (N := some 115) (v := ?_) (a' := ?_) #[true, true, true, true, true, true, true, false, false, false, false, false] rfl rfl (any_of HT_.out (by kernel_rfl)) (fun _ _ _ h => h) (Or.inl ⟨by rfl, ?_⟩) ?_ ?_
  rotate_left
  · intro w'
    go_simp
    with_reducible rfl
  rotate_left
  · simp only [Act.put, List.setIfInBounds_toArray, List.set_cons_zero, List.set_cons_succ, i64_w, i32_w]
    rfl
  refine pure_ (i := 7) (N := some 116) (v := ?_) (a' := ?_) #[true, true, true, true, true, true, true, true, false, false, false, false] rfl rfl (any_of HT_.out (by kernel_rfl)) (fun _ _ _ h => h) (Or.inl ⟨by rfl, ?_⟩) ?_ ?_
  rotate_left
  · intro w'
    go_simp
    with_reducible rfl
  rotate_left
  · simp only [Act.put, List.setIfInBounds_toArray, List.set_cons_zero, List.set_cons_succ, i64_w, i32_w]
    rfl
  refine pure_ (i := 8) (N := some 117) (v := ?_) (a' := ?_) #[true, true, true, true, true, true, true, true, true, false, false, false] rfl rfl (any_of HT_.out (by kernel_rfl)) (fun _ _ _ h => h) (Or.inl ⟨by rfl, ?_⟩) ?_ ?_
  rotate_left
  · intro w'
    go_simp
    with_reducible rfl
  rotate_left
  · simp only [Act.put, List.setIfInBounds_toArray, List.set_cons_zero, List.set_cons_succ, i64_w, i32_w]
    rfl
  refine pure_ (i := 9) (N := some 17) (v := ?_) (a' := ?_) #[true, true, true, true, true, true, true, true, true, true, false, false] rfl rfl (any_of HT_.out (by kernel_rfl)) (fun _ _ _ h => h) (Or.inl ⟨by rfl, ?_⟩) ?_ ?_
  rotate_left
  · intro w'
    go_simp
    with_reducible rfl
  rotate_left
  · simp only [Act.put, List.setIfInBounds_toArray, List.set_cons_zero, List.set_cons_succ, i64_w, i32_w]
    rfl
  refine pure_ (i := 10) (N := some 18) (v := ?_) (a' := ?_) #[true, true, true, true, true, true, true, true, true, true, true, false] rfl rfl (any_of HT_.out (by kernel_rfl)) (fun _ _ _ h => h) (Or.inl ⟨by rfl, ?_⟩) ?_ ?_
  rotate_left
  · intro w'
    go_simp
    with_reducible rfl
  rotate_left
  · simp only [Act.put, List.setIfInBounds_toArray, List.set_cons_zero, List.set_cons_succ, i64_w, i32_w]
    rfl
  refine pure_ (i := 11) (N := some 19) (v := ?_) (a' := ?_) #[true, true, true, true, true, true, true, true, true, true, true, true] rfl rfl (any_of HT_.out (by kernel_rfl)) (fun _ _ _ h => h) (Or.inl ⟨by rfl, ?_⟩) ?_ ?_
  rotate_left
  · intro w'
    go_simp
    with_reducible rfl
  rotate_left
  · simp only [Act.put, List.setIfInBounds_toArray, List.set_cons_zero, List.set_cons_succ, i64_w, i32_w]
    rfl
  refine done_ (done_of HT_.out (by kernel_rfl)) ?_
  clear hHeld
  try clear HT_ HW_
  have hx1_0 := cz_ BK1.out 0
  have hf1_0 : w1033.frozen? ⟨g1, 0, none⟩ = false := blk_frozen BK1.out 0
  have hx1_1 := cz_ BK1.out 1
  have hf1_1 : w1033.frozen? ⟨g1, 1, none⟩ = false := blk_frozen BK1.out 1
  have hx1_2 := cz_ BK1.out 2
  have hf1_2 : w1033.frozen? ⟨g1, 2, none⟩ = false := blk_frozen BK1.out 2
  have hx1_3 := cz_ BK1.out 3
  have hf1_3 : w1033.frozen? ⟨g1, 3, none⟩ = false := blk_frozen BK1.out 3
  have hx1_4 := cz_ BK1.out 4
  have hf1_4 : w1033.frozen? ⟨g1, 4, none⟩ = false := blk_frozen BK1.out 4
  have hx1_5 := cz_ BK1.out 5
  have hf1_5 : w1033.frozen? ⟨g1, 5, none⟩ = false := blk_frozen BK1.out 5
  have hx14_0 := cz_ BK14.out 0
  have hf14_0 : w1033.frozen? ⟨g14, 0, none⟩ = false := blk_frozen BK14.out 0
  have hx14_1 := cz_ BK14.out 1
  have hf14_1 : w1033.frozen? ⟨g14, 1, none⟩ = false := blk_frozen BK14.out 1
  have hx14_2 := cz_ BK14.out 2
  have hf14_2 : w1033.frozen? ⟨g14, 2, none⟩ = false := blk_frozen BK14.out 2
  have hx14_3 := cz_ BK14.out 3
  have hf14_3 : w1033.frozen? ⟨g14, 3, none⟩ = false := blk_frozen BK14.out 3
  have hx14_4 := cz_ BK14.out 4
  have hf14_4 : w1033.frozen? ⟨g14, 4, none⟩ = false := blk_frozen BK14.out 4
  have hx14_5 := cz_ BK14.out 5
  have hf14_5 : w1033.frozen? ⟨g14, 5, none⟩ = false := blk_frozen BK14.out 5
  skip
  go_wp2_with (first | (go_at_call 11; (with_reducible refine (laws_eqVoiceS.calls k _ _ t33_0 _ _ t8_0 true _ ?sd35_1 ?sd35_2 ?sd35_3 ?sd35_4 A35.out).mono ?_); (case sd35_1 => exact (Kd.S_reads' HO34.out).2.2); (case sd35_2 => exact (Kd.S_reads' HO34.out).2.1); (case sd35_3 => exact (Kd.S_reads' HO9.out).2.2); (case sd35_4 => exact (Kd.S_reads' HO9.out).2.1); rintro e w1035 ⟨rfl, hb⟩; have hs_ := below_size HB.out; clear hx1_0 hf1_0 hx1_1 hf1_1 hx1_2 hf1_2 hx1_3 hf1_3 hx1_4 hf1_4 hx1_5 hf1_5 hx14_0 hf14_0 hx14_1 hf14_1 hx14_2 hf14_2 hx14_3 hf14_3 hx14_4 hf14_4 hx14_5 hf14_5; have n0_ := Aside0.mk (below_step HB.out hb); have n1_ := Aside0.mk (Kd.S_below HO5.out hb); have n2_ := Aside0.mk (Kd.R_below HO7.out hb); have n3_ := Aside0.mk (Kd.S_below HO9.out hb); have n4_ := Aside0.mk (Kd.S_below HO11.out hb); have n5_ := Aside0.mk (Kd.R_below HO13.out hb); have n6_ := Aside0.mk (Kd.S_below HO16.out hb); have n7_ := Aside0.mk (Kd.S_below HO19.out hb); have n8_ := Aside0.mk (Kd.R_below HO22.out hb); have n9_ := Aside0.mk (Kd.S_below HO30.out hb); have n10_ := Aside0.mk (Kd.R_below HO32.out hb); have n11_ := Aside0.mk (Kd.S_below HO34.out hb); have n12_ := Aside0.mk (blk_below BK1.out hb); have n13_ := Aside0.mk (blk_below BK14.out hb); have SZ28 := Aside0.mk (show w1033.heap.size ≤ w1035.heap.size from (hb).size); clear HB HO5 HO7 HO9 HO11 HO13 HO16 HO19 HO22 HO30 HO32 HO34 BK1 BK14; have HB := n0_; have HO5 := n1_; have HO7 := n2_; have HO9 := n3_; have HO11 := n4_; have HO13 := n5_; have HO16 := n6_; have HO19 := n7_; have HO22 := n8_; have HO30 := n9_; have HO32 := n10_; have HO34 := n11_; have BK1 := n12_; have BK14 := n13_; clear n0_ n1_ n2_ n3_ n4_ n5_ n6_ n7_ n8_ n9_ n10_ n11_ n12_ n13_; clear hb hs_; have hx1_0 := cz_ BK1.out 0; have hf1_0 : w1035.frozen? ⟨g1, 0, none⟩ = false := blk_frozen BK1.out 0; have hx1_1 := cz_ BK1.out 1; have hf1_1 : w1035.frozen? ⟨g1, 1, none⟩ = false := blk_frozen BK1.out 1; have hx1_2 := cz_ BK1.out 2; have hf1_2 : w1035.frozen? ⟨g1, 2, none⟩ = false := blk_frozen BK1.out 2; have hx1_3 := cz_ BK1.out 3; have hf1_3 : w1035.frozen? ⟨g1, 3, none⟩ = false := blk_frozen BK1.out 3; have hx1_4 := cz_ BK1.out 4; have hf1_4 : w1035.frozen? ⟨g1, 4, none⟩ = false := blk_frozen BK1.out 4; have hx1_5 := cz_ BK1.out 5; have hf1_5 : w1035.frozen? ⟨g1, 5, none⟩ = false := blk_frozen BK1.out 5; have hx14_0 := cz_ BK14.out 0; have hf14_0 : w1035.frozen? ⟨g14, 0, none⟩ = false := blk_frozen BK14.out 0; have hx14_1 := cz_ BK14.out 1; have hf14_1 : w1035.frozen? ⟨g14, 1, none⟩ = false := blk_frozen BK14.out 1; have hx14_2 := cz_ BK14.out 2; have hf14_2 : w1035.frozen? ⟨g14, 2, none⟩ = false := blk_frozen BK14.out 2; have hx14_3 := cz_ BK14.out 3; have hf14_3 : w1035.frozen? ⟨g14, 3, none⟩ = false := blk_frozen BK14.out 3; have hx14_4 := cz_ BK14.out 4; have hf14_4 : w1035.frozen? ⟨g14, 4, none⟩ = false := blk_frozen BK14.out 4; have hx14_5 := cz_ BK14.out 5; have hf14_5 : w1035.frozen? ⟨g14, 5, none⟩ = false := blk_frozen BK14.out 5) | (go_at_call 15; refine calls_of_args (args' := #[.slice A_16 t27_1.length c_16, .int .i64 1]) (by first | (rw [show t27_1.length = t15_0.length from (Kd.S_reads' HO16.out).1.symm] <;> rfl) | rfl) ?_; (with_reducible refine (laws_heldVoiceS.calls k _ _ t27_1 1 t36 _ ?sd36_1 ?sd36_2 A36.out).mono ?_); (case sd36_1 => exact (Kd.S_reads' HO16.out).2.2); (case sd36_2 => exact (by rw [show t27_1.length = t15_0.length from (Kd.S_reads' HO16.out).1.symm]; exact (Kd.S_reads' HO16.out).2.1)); rintro e w1036 ⟨rfl, hd⟩; have hb := hd.below; clear hd; have hs_ := below_size HB.out; clear hx1_0 hf1_0 hx1_1 hf1_1 hx1_2 hf1_2 hx1_3 hf1_3 hx1_4 hf1_4 hx1_5 hf1_5 hx14_0 hf14_0 hx14_1 hf14_1 hx14_2 hf14_2 hx14_3 hf14_3 hx14_4 hf14_4 hx14_5 hf14_5; have n0_ := Aside0.mk (below_step HB.out hb); have n1_ := Aside0.mk (Kd.S_below HO5.out hb); have n2_ := Aside0.mk (Kd.R_below HO7.out hb); have n3_ := Aside0.mk (Kd.S_below HO9.out hb); have n4_ := Aside0.mk (Kd.S_below HO11.out hb); have n5_ := Aside0.mk (Kd.R_below HO13.out hb); have n6_ := Aside0.mk (Kd.S_below HO16.out hb); have n7_ := Aside0.mk (Kd.S_below HO19.out hb); have n8_ := Aside0.mk (Kd.R_below HO22.out hb); have n9_ := Aside0.mk (Kd.S_below HO30.out hb); have n10_ := Aside0.mk (Kd.R_below HO32.out hb); have n11_ := Aside0.mk (Kd.S_below HO34.out hb); have n12_ := Aside0.mk (blk_below BK1.out hb); have n13_ := Aside0.mk (blk_below BK14.out hb); have SZ29 := Aside0.mk (show w1035.heap.size ≤ w1036.heap.size from (hb).size); clear HB HO5 HO7 HO9 HO11 HO13 HO16 HO19 HO22 HO30 HO32 HO34 BK1 BK14; have HB := n0_; have HO5 := n1_; have HO7 := n2_; have HO9 := n3_; have HO11 := n4_; have HO13 := n5_; have HO16 := n6_; have HO19 := n7_; have HO22 := n8_; have HO30 := n9_; have HO32 := n10_; have HO34 := n11_; have BK1 := n12_; have BK14 := n13_; clear n0_ n1_ n2_ n3_ n4_ n5_ n6_ n7_ n8_ n9_ n10_ n11_ n12_ n13_; clear hb hs_; have hx1_0 := cz_ BK1.out 0; have hf1_0 : w1036.frozen? ⟨g1, 0, none⟩ = false := blk_frozen BK1.out 0; have hx1_1 := cz_ BK1.out 1; have hf1_1 : w1036.frozen? ⟨g1, 1, none⟩ = false := blk_frozen BK1.out 1; have hx1_2 := cz_ BK1.out 2; have hf1_2 : w1036.frozen? ⟨g1, 2, none⟩ = false := blk_frozen BK1.out 2; have hx1_3 := cz_ BK1.out 3; have hf1_3 : w1036.frozen? ⟨g1, 3, none⟩ = false := blk_frozen BK1.out 3; have hx1_4 := cz_ BK1.out 4; have hf1_4 : w1036.frozen? ⟨g1, 4, none⟩ = false := blk_frozen BK1.out 4; have hx1_5 := cz_ BK1.out 5; have hf1_5 : w1036.frozen? ⟨g1, 5, none⟩ = false := blk_frozen BK1.out 5; have hx14_0 := cz_ BK14.out 0; have hf14_0 : w1036.frozen? ⟨g14, 0, none⟩ = false := blk_frozen BK14.out 0; have hx14_1 := cz_ BK14.out 1; have hf14_1 : w1036.frozen? ⟨g14, 1, none⟩ = false := blk_frozen BK14.out 1; have hx14_2 := cz_ BK14.out 2; have hf14_2 : w1036.frozen? ⟨g14, 2, none⟩ = false := blk_frozen BK14.out 2; have hx14_3 := cz_ BK14.out 3; have hf14_3 : w1036.frozen? ⟨g14, 3, none⟩ = false := blk_frozen BK14.out 3; have hx14_4 := cz_ BK14.out 4; have hf14_4 : w1036.frozen? ⟨g14, 4, none⟩ = false := blk_frozen BK14.out 4; have hx14_5 := cz_ BK14.out 5; have hf14_5 : w1036.frozen? ⟨g14, 5, none⟩ = false := blk_frozen BK14.out 5))
  go_ret
  exact ⟨rfl, HB.out⟩

/-! the law's reading -/
def ok25 (z : S25) : Prop := (z.f0.length ≤ maxLen ∧ ∀ z257 ∈ z.f0, (Lit.int .i64 z257).wf = true) ∧ ((Lit.int .i64 z.f1).wf = true) ∧ (True) ∧ ((Lit.int .i64 z.f3).wf = true) ∧ ((Lit.int .i64 z.f4).wf = true) ∧ ((Lit.int .i64 z.f5).wf = true)
/-- THE ONE PURE STATEMENT of laws_FnExactTakeVoice. -/
def laws_FnExactTakeVoice.Pure : Prop := ∀ (l0 : List (S25)) (l1_0 : List Int) (a1_1 : Int) (a1_2 : Bool) (a1_3 : Int) (a1_4 : Int) (a1_5 : Int), (l0.length ≤ maxLen ∧ ∀ z260 ∈ l0, ok25 z260) → (l1_0.length ≤ maxLen ∧ ∀ z261 ∈ l1_0, (Lit.int .i64 z261).wf = true) → ((Lit.int .i64 a1_1).wf = true) → ((Lit.int .i64 a1_3).wf = true) → ((Lit.int .i64 a1_4).wf = true) → ((Lit.int .i64 a1_5).wf = true) → ∃ k, laws_FnExactTakeVoice.f k l0 l1_0 a1_1 a1_2 a1_3 a1_4 a1_5 = some true


end Go.Proofs.Ytbnbgmpkemlfbaa.XFnExactTakeVoice
