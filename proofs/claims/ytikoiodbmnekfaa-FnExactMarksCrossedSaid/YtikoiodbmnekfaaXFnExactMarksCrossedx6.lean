/- What the Go functions that this law comes to compute, each walked; written by a program of this session. -/
import Derived.Test.YtikoiodbmnekfaaXFnExactMarksCrossedx0
import Derived.Test.YtikoiodbmnekfaaXFnExactMarksCrossedx4
import Derived.Test.YtikoiodbmnekfaaXFnExactMarksCrossedx5
namespace Go.Proofs.Ytikoiodbmnekfaa.XFnExactMarksCrossed
open Go.RowKit Go.Proofs.YtikoiodbmnekfaaW.PrintWords Go.Proofs.YtikoiodbmnekfaaW.PrintLast Go.Proofs.YtikoiodbmnekfaaW.PrintMore
attribute [local go_sem] str_geq max2_int min2_int max_two min_two max_three min_three max_four min_four   -- for this text's walks alone
set_option linter.unusedVariables false
set_option linter.unusedSimpArgs false

/-! ### spec_GoodClip: function 7 -/
mutual
def spec_GoodClip.j0 : Nat → Bool → Int → List (S53) → List (S57) → Option (Bool)
 | 0, _, _, _, _ => none
 | k + 1, x22, x193000, x193001, x193002 => if x22 = true then (some false) else (spec_GoodClip.l0 k x193001 (x193001.length : Int) 0 x193000 x193001 x193002)
def spec_GoodClip.l0 : Nat → List (S53) → Int → Int → Int → List (S53) → List (S57) → Option (Bool)
 | 0, _, _, _, _, _, _ => none
 | k + 1, x24, x25, x26, x193000, x193001, x193002 => if x26 < x25 then (if 0 ≤ x26 then (if x26 < (x24.length : Int) then ((spec_GoodName.f k ((rd_T53 x24 x26).f0)).bind fun t196 => (if t196 = true then ((spec_l11Keys.f k ((rd_T53 x24 x26).f1) x193000).bind fun t197 => (if t197 = true then (if x26 > 0 then (if 0 ≤ (wrap64 (x26 - 1)) then (if (wrap64 (x26 - 1)) < (x193001.length : Int) then (if ((Op.bytesLess (((rd_T53 x193001 (wrap64 (x26 - 1))).f0).toList) (((rd_T53 x24 x26).f0).toList)) = true) then (spec_GoodClip.l0 k x24 x25 (wrap64 (x26 + 1)) x193000 x193001 x193002) else (some false)) else (none)) else (none)) else (spec_GoodClip.l0 k x24 x25 (wrap64 (x26 + 1)) x193000 x193001 x193002)) else (some false))) else (some false))) else (none)) else (none)) else (spec_GoodClip.l1 k x193002 (x193002.length : Int) 0 x193000 x193001 x193002)
def spec_GoodClip.l1 : Nat → List (S57) → Int → Int → Int → List (S53) → List (S57) → Option (Bool)
 | 0, _, _, _, _, _, _ => none
 | k + 1, x61, x62, x63, x193000, x193001, x193002 => if x63 < x62 then (if 0 ≤ x63 then (if x63 < (x61.length : Int) then ((spec_l1In.f ((rd_T57 x61 x63).f0) 0 (wrap64 (x193000 - 1))).bind fun t201 => (if t201 = true then ((spec_GoodName.f k ((rd_T57 x61 x63).f1)).bind fun t202 => (spec_GoodClip.j3 k x63 x61 x62 x63 (!t202) x193000 x193001 x193002 ((rd_T57 x61 x63).f0) ((rd_T57 x61 x63).f1))) else (spec_GoodClip.j3 k x63 x61 x62 x63 true x193000 x193001 x193002 ((rd_T57 x61 x63).f0) ((rd_T57 x61 x63).f1)))) else (none)) else (none)) else (some true)
def spec_GoodClip.j3 : Nat → Int → List (S57) → Int → Int → Bool → Int → List (S53) → List (S57) → Int → ByteArray → Option (Bool)
 | 0, _, _, _, _, _, _, _, _, _, _ => none
 | k + 1, x5, x61, x62, x63, x80, x193000, x193001, x193002, x201000, x201001 => if x80 = true then (some false) else (if x5 > 0 then (if 0 ≤ (wrap64 (x5 - 1)) then (if (wrap64 (x5 - 1)) < (x193002.length : Int) then (if ((rd_T57 x193002 (wrap64 (x5 - 1))).f0) > x201000 then (some false) else (if ((rd_T57 x193002 (wrap64 (x5 - 1))).f0) = x201000 then (if ((Op.bytesLess (((rd_T57 x193002 (wrap64 (x5 - 1))).f1).toList) x201001.toList) = true) then (spec_GoodClip.l1 k x61 x62 (wrap64 (x63 + 1)) x193000 x193001 x193002) else (some false)) else (spec_GoodClip.l1 k x61 x62 (wrap64 (x63 + 1)) x193000 x193001 x193002))) else (none)) else (none)) else (spec_GoodClip.l1 k x61 x62 (wrap64 (x63 + 1)) x193000 x193001 x193002))
end
def spec_GoodClip.f (k : Nat) (a0_0 : Int) (l0_1 : List (S53)) (l0_2 : List (S57)) : Option (Bool) := (spec_l1In.f a0_0 1 60).bind fun t193 => (if t193 = true then (if (l0_1.length : Int) > 8 then (spec_GoodClip.j0 k true a0_0 l0_1 l0_2) else (spec_GoodClip.j0 k (decide ((l0_2.length : Int) > 20)) a0_0 l0_1 l0_2)) else (spec_GoodClip.j0 k true a0_0 l0_1 l0_2))
theorem spec_GoodClip.mono_l : ∀ k, (∀ y0 y1 y2 y3, LeO (spec_GoodClip.j0 k y0 y1 y2 y3) (spec_GoodClip.j0 (k + 1) y0 y1 y2 y3)) ∧ (∀ y0 y1 y2 y3 y4 y5, LeO (spec_GoodClip.l0 k y0 y1 y2 y3 y4 y5) (spec_GoodClip.l0 (k + 1) y0 y1 y2 y3 y4 y5)) ∧ (∀ y0 y1 y2 y3 y4 y5, LeO (spec_GoodClip.l1 k y0 y1 y2 y3 y4 y5) (spec_GoodClip.l1 (k + 1) y0 y1 y2 y3 y4 y5)) ∧ (∀ y0 y1 y2 y3 y4 y5 y6 y7 y8 y9, LeO (spec_GoodClip.j3 k y0 y1 y2 y3 y4 y5 y6 y7 y8 y9) (spec_GoodClip.j3 (k + 1) y0 y1 y2 y3 y4 y5 y6 y7 y8 y9))
 | 0 => ⟨fun _ _ _ _ r h => by simp [spec_GoodClip.j0] at h, fun _ _ _ _ _ _ r h => by simp [spec_GoodClip.l0] at h, fun _ _ _ _ _ _ r h => by simp [spec_GoodClip.l1] at h, fun _ _ _ _ _ _ _ _ _ _ r h => by simp [spec_GoodClip.j3] at h⟩
 | k + 1 => by
  obtain ⟨ih0, ih1, ih2, ih3⟩ := spec_GoodClip.mono_l k
  refine ⟨?_, ?_, ?_, ?_⟩
  ·intro y0 y1 y2 y3
   unfold spec_GoodClip.j0
   repeat' first
   | (with_reducible exact ih0 _ _ _ _)
   | (with_reducible exact ih1 _ _ _ _ _ _)
   | (with_reducible exact ih2 _ _ _ _ _ _)
   | (with_reducible exact ih3 _ _ _ _ _ _ _ _ _ _)
   | (with_reducible exact spec_GoodName.mono _ _)
   | (with_reducible exact spec_l11Keys.mono _ _ _)
   | (with_reducible exact LeO.refl _)
   | (with_reducible exact LeO.none _)
   | (with_reducible refine LeO.ite ?_ ?_)
   | (with_reducible refine LeO.bind ?_ (fun _ => ?_))
   | exact ih0 _ _ _ _
   | exact ih1 _ _ _ _ _ _
   | exact ih2 _ _ _ _ _ _
   | exact ih3 _ _ _ _ _ _ _ _ _ _
   | exact spec_GoodName.mono _ _
   | exact spec_l11Keys.mono _ _ _
   | exact LeO.none _
   | refine LeO.ite ?_ ?_
   | refine LeO.bind ?_ (fun _ => ?_)
  ·intro y0 y1 y2 y3 y4 y5
   unfold spec_GoodClip.l0
   repeat' first
   | (with_reducible exact ih0 _ _ _ _)
   | (with_reducible exact ih1 _ _ _ _ _ _)
   | (with_reducible exact ih2 _ _ _ _ _ _)
   | (with_reducible exact ih3 _ _ _ _ _ _ _ _ _ _)
   | (with_reducible exact spec_GoodName.mono _ _)
   | (with_reducible exact spec_l11Keys.mono _ _ _)
   | (with_reducible exact LeO.refl _)
   | (with_reducible exact LeO.none _)
   | (with_reducible refine LeO.ite ?_ ?_)
   | (with_reducible refine LeO.bind ?_ (fun _ => ?_))
   | exact ih0 _ _ _ _
   | exact ih1 _ _ _ _ _ _
   | exact ih2 _ _ _ _ _ _
   | exact ih3 _ _ _ _ _ _ _ _ _ _
   | exact spec_GoodName.mono _ _
   | exact spec_l11Keys.mono _ _ _
   | exact LeO.none _
   | refine LeO.ite ?_ ?_
   | refine LeO.bind ?_ (fun _ => ?_)
  ·intro y0 y1 y2 y3 y4 y5
   unfold spec_GoodClip.l1
   repeat' first
   | (with_reducible exact ih0 _ _ _ _)
   | (with_reducible exact ih1 _ _ _ _ _ _)
   | (with_reducible exact ih2 _ _ _ _ _ _)
   | (with_reducible exact ih3 _ _ _ _ _ _ _ _ _ _)
   | (with_reducible exact spec_GoodName.mono _ _)
   | (with_reducible exact spec_l11Keys.mono _ _ _)
   | (with_reducible exact LeO.refl _)
   | (with_reducible exact LeO.none _)
   | (with_reducible refine LeO.ite ?_ ?_)
   | (with_reducible refine LeO.bind ?_ (fun _ => ?_))
   | exact ih0 _ _ _ _
   | exact ih1 _ _ _ _ _ _
   | exact ih2 _ _ _ _ _ _
   | exact ih3 _ _ _ _ _ _ _ _ _ _
   | exact spec_GoodName.mono _ _
   | exact spec_l11Keys.mono _ _ _
   | exact LeO.none _
   | refine LeO.ite ?_ ?_
   | refine LeO.bind ?_ (fun _ => ?_)
  ·intro y0 y1 y2 y3 y4 y5 y6 y7 y8 y9
   unfold spec_GoodClip.j3
   repeat' first
   | (with_reducible exact ih0 _ _ _ _)
   | (with_reducible exact ih1 _ _ _ _ _ _)
   | (with_reducible exact ih2 _ _ _ _ _ _)
   | (with_reducible exact ih3 _ _ _ _ _ _ _ _ _ _)
   | (with_reducible exact spec_GoodName.mono _ _)
   | (with_reducible exact spec_l11Keys.mono _ _ _)
   | (with_reducible exact LeO.refl _)
   | (with_reducible exact LeO.none _)
   | (with_reducible refine LeO.ite ?_ ?_)
   | (with_reducible refine LeO.bind ?_ (fun _ => ?_))
   | exact ih0 _ _ _ _
   | exact ih1 _ _ _ _ _ _
   | exact ih2 _ _ _ _ _ _
   | exact ih3 _ _ _ _ _ _ _ _ _ _
   | exact spec_GoodName.mono _ _
   | exact spec_l11Keys.mono _ _ _
   | exact LeO.none _
   | refine LeO.ite ?_ ?_
   | refine LeO.bind ?_ (fun _ => ?_)
theorem spec_GoodClip.mono : ∀ a0 a1 a2 k, LeO (spec_GoodClip.f k a0 a1 a2) (spec_GoodClip.f (k + 1) a0 a1 a2) := by
 intro a0 a1 a2 k
 obtain ⟨ih0, ih1, ih2, ih3⟩ := spec_GoodClip.mono_l k
 unfold spec_GoodClip.f
 repeat' first
   | (with_reducible exact ih0 _ _ _ _)
   | (with_reducible exact ih1 _ _ _ _ _ _)
   | (with_reducible exact ih2 _ _ _ _ _ _)
   | (with_reducible exact ih3 _ _ _ _ _ _ _ _ _ _)
   | (with_reducible exact spec_GoodName.mono _ _)
   | (with_reducible exact spec_l11Keys.mono _ _ _)
   | (with_reducible exact LeO.refl _)
   | (with_reducible exact LeO.none _)
   | (with_reducible refine LeO.ite ?_ ?_)
   | (with_reducible refine LeO.bind ?_ (fun _ => ?_))
   | exact ih0 _ _ _ _
   | exact ih1 _ _ _ _ _ _
   | exact ih2 _ _ _ _ _ _
   | exact ih3 _ _ _ _ _ _ _ _ _ _
   | exact spec_GoodName.mono _ _
   | exact spec_l11Keys.mono _ _ _
   | exact LeO.none _
   | refine LeO.ite ?_ ?_
   | refine LeO.bind ?_ (fun _ => ?_)
def spec_GoodClip.T6 : Bool × List (List Nat × List Nat) := (true, [([], []), ([0], [0]), ([1], [1]), ([2], [2]), ([3, 2], [3]), ([4], [4]), ([5, 4], [4, 5]), ([4], [4]), ([7, 4], [4, 7]), ([6, 8, 4, 4], [4, 6, 8]), ([9, 4], [4, 9]), ([4, 10], [4, 10]), ([11, 9], [11]), ([12], [12]), ([13, 12], [12, 13]), ([14, 12, 12], [12, 14]), ([15], [15]), ([16, 15], [15, 16]), ([15], [15]), ([18, 15], [15, 18]), ([17, 19, 15], [15, 17, 19]), ([20, 15], [15, 20]), ([21, 15], [15, 21]), ([15], [15]), ([23, 15], [15, 23]), ([22, 24, 15], [15, 22, 24]), ([15, 25, 12], [12, 15, 25]), ([12, 26], [12, 26])])
def spec_GoodClip.B6 : List Nat := [0, 1, 3, 7, 15, 31, 63, 31, 159, 511, 1023, 2047, 4095, 8191, 16383, 32767, 65535, 131071, 65535, 327679, 1048575, 2097151, 4194303, 65535, 8454143, 33554431, 67108863, 134217727]
theorem spec_GoodClip.tab6 : rtab .any (opsOf Try.f7 6) = spec_GoodClip.T6 := by kernel_rfl
theorem spec_GoodClip.bits6 : waitsOk spec_GoodClip.T6.2 spec_GoodClip.B6 = true := by kernel_rfl
def spec_GoodClip.T14 : Bool × List (List Nat × List Nat) := (true, [([], []), ([0], [0]), ([1], [1]), ([2], [2]), ([3, 2], [2, 3]), ([2], [2]), ([5, 2], [2, 5]), ([4, 6, 2], [2, 4, 6]), ([7, 2], [2, 7]), ([8, 2], [2, 8]), ([2], [2]), ([10, 2], [2, 10]), ([9, 11, 2], [2, 9, 11]), ([12, 2, 2], [2, 12]), ([13], [13]), ([14, 13], [13, 14]), ([13], [13]), ([16, 13], [13, 16]), ([15, 17, 13], [13, 15, 17]), ([18, 13], [13, 18]), ([19, 13], [13, 19]), ([13], [13]), ([21, 13], [13, 21]), ([20, 22, 13], [13, 20, 22]), ([23, 13, 13], [13, 23]), ([24], [24]), ([25, 24], [24, 25]), ([24], [24]), ([27, 24], [24, 27]), ([26, 28, 24], [24, 26, 28]), ([29, 24], [24, 29]), ([30, 24], [24, 30]), ([24], [24]), ([32, 24], [24, 32]), ([31, 33, 24], [24, 31, 33]), ([24, 34, 13], [13, 24, 34]), ([13, 35, 2], [2, 13, 35]), ([2, 36], [2, 36])])
def spec_GoodClip.B14 : List Nat := [0, 1, 3, 7, 15, 7, 39, 127, 255, 511, 7, 1031, 4095, 8191, 16383, 32767, 16383, 81919, 262143, 524287, 1048575, 16383, 2113535, 8388607, 16777215, 33554431, 67108863, 33554431, 167772159, 536870911, 1073741823, 2147483647, 33554431, 4328521727, 17179869183, 34359738367, 68719476735, 137438953471]
theorem spec_GoodClip.tab14 : rtab .any (opsOf Try.f7 14) = spec_GoodClip.T14 := by kernel_rfl
theorem spec_GoodClip.bits14 : waitsOk spec_GoodClip.T14.2 spec_GoodClip.B14 = true := by kernel_rfl
set_option maxHeartbeats 8000000 in
set_option maxRecDepth 100000 in
theorem spec_GoodClip.calls (k : Nat) (a0_0 : Int) (A0_1 : Option Addr) (c0_1 : Nat) (l0_1 : List (S53)) (A0_2 : Option Addr) (c0_2 : Nat) (l0_2 : List (S57)) (r : Bool) (w : World) (hr0_1 : Kd.C k53 w A0_1 l0_1.length l0_1) (hc0_1 : l0_1.length ≤ c0_1) (hr0_2 : Kd.C k57 w A0_2 l0_2.length l0_2) (hc0_2 : l0_2.length ≤ c0_2) (h : spec_GoodClip.f k a0_0 l0_1 l0_2 = some r) :
  Calls Try.prog 7 #[.agg #[.int .i64 a0_0, .slice A0_1 l0_1.length c0_1, .slice A0_2 l0_2.length c0_2]] w fun e w' => e = .returned (.bool r) ∧ Below w.heap.size w w' := by
 have hu31 := Try.underlying31
 have hu53 := Try.underlying53
 have hu57 := Try.underlying57
 have HR0_1 := Aside0.mk hr0_1
 have HC0_1 := Aside0.mk hc0_1
 clear hr0_1 hc0_1
 have HR0_2 := Aside0.mk hr0_2
 have HC0_2 := Aside0.mk hc0_2
 clear hr0_2 hc0_2
 have HB := Aside0.mk (Below.refl w.heap.size w)
 have H : ((spec_l1In.f a0_0 1 60).bind fun t193 => (if t193 = true then (if (l0_1.length : Int) > 8 then (spec_GoodClip.j0 k true a0_0 l0_1 l0_2) else (spec_GoodClip.j0 k (decide ((l0_2.length : Int) > 20)) a0_0 l0_1 l0_2)) else (spec_GoodClip.j0 k true a0_0 l0_1 l0_2))) = some r := h
 clear h
 have HC2 := Aside0.mk H
 clear H
 go_enter Try.func7, Try.ntmps7
 go_upto_region 1 with (first | ((with_reducible refine gate_dst (N := 1) rfl ?_); (try (refine gate_guard (by rfl) ?_; dsimp only)); refine bx_ 1 #[.int .i64 a0_0, .slice A0_1 l0_1.length c0_1, .slice A0_2 l0_2.length c0_2] 31 ?_; intro gb192 hg w3 hbox hb; have n0_ := Aside0.mk (below_step (bw_ HB.out) hb); have n1_ := Aside0.mk (hbox); have n2_ := Aside0.mk (gs_ hg (bw_ HB.out)); have n3_ := Aside0.mk (gs_ hg (bw_ HB.out)); clear HB; have HB := n0_; have BK192 := n1_; have GW192 := n2_; have GE192 := n3_; clear n0_ n1_ n2_ n3_; clear hb hbox hg))
 (try simp only [Act.put, List.setIfInBounds_toArray, List.set_cons_zero, List.set_cons_succ])
 go_cut [22] (fun v22 wc => ∃ (kq : Nat) (x22_1 : Bool), v22 = .bool x22_1 ∧ Aside0 (spec_GoodClip.j0 kq x22_1 a0_0 l0_1 l0_2 = some r) ∧ Aside0 (kq ≤ k) ∧ Aside0 (wc.heap[gb192]? = some (.cells #[.int .i64 a0_0, (.slice A0_1 l0_1.length c0_1), (.slice A0_2 l0_2.length c0_2)] 31 (0, 0))) ∧ Aside0 (Below w.heap.size w wc))
 case first =>
  have H := HC2.out
  clear HC2
  obtain ⟨t193, A40, H⟩ := bE_ H
  have A4 := Aside0.mk A40
  clear A40
  by_cases c5 : t193 = true
  ·subst c5
   replace H := it_ H rfl
   by_cases c6 : (l0_1.length : Int) > 8
   ·rw [if_pos c6] at H
    have c6b0 : decide (8 < (l0_1.length : Int)) = true := decide_eq_true c6
    have c6b1 : decide (8 < l0_1.length) = true := decide_eq_true (by omega)
    clear c6
    (first | rw [c6b0] | (simp only [i64_w, i32_w]; rw [c6b0]) | skip)
    have H' := Aside0.mk H
    clear H
    have hcz7_0 := cz_ BK192.out 0
    have hcz7_1 := cz_ BK192.out 1
    have hcz7_2 := cz_ BK192.out 2
    have hfz7_0 := blk_frozen BK192.out 0
    have hfz7_1 := blk_frozen BK192.out 1
    have hfz7_2 := blk_frozen BK192.out 2
    go_wp2_with (first | ((with_reducible refine gate_callee (f := 24) rfl ?_); refine goesL_ (some 9) rfl rfl Try.func24 (by kernel_rfl) rfl #[.int .i64 a0_0, .int .i64 1, .int .i64 60] rfl (by (try simp only [List.map_toArray, List.map_cons, List.map_nil]); first | done | rfl | (simp only [List.length_drop, List.length_take]; rfl)) ?_; (with_reducible refine (spec_l1In.calls a0_0 1 60 true _ A4.out).mono ?_); rintro e w' ⟨rfl, ⟨nd, rfl⟩⟩; refine ⟨_, rfl, ?_⟩))
    go_meet
    case rel => exact ⟨_, (true), (by first | rfl | (simp; done) | (simp [*]; done) | (simp [wrap64]; done)), H', ⟨by first | omega | exact Nat.le_refl _⟩, ⟨by (with_reducible repeat (first | refine blk_drewN ?_ _ | refine blk_drew ?_ | refine blk_alloc ?_ _)); exact BK192.out⟩, ⟨bw_ HB.out⟩⟩
   ·rw [if_neg c6] at H
    have c6b0 : decide (8 < (l0_1.length : Int)) = false := decide_eq_false c6
    have c6b1 : decide (8 < l0_1.length) = false := decide_eq_false (by omega)
    clear c6
    (first | rw [c6b0] | (simp only [i64_w, i32_w]; rw [c6b0]) | skip)
    have H' := Aside0.mk H
    clear H
    have hcz8_0 := cz_ BK192.out 0
    have hcz8_1 := cz_ BK192.out 1
    have hcz8_2 := cz_ BK192.out 2
    have hfz8_0 := blk_frozen BK192.out 0
    have hfz8_1 := blk_frozen BK192.out 1
    have hfz8_2 := blk_frozen BK192.out 2
    go_wp2_with (first | ((with_reducible refine gate_callee (f := 24) rfl ?_); refine goesL_ (some 9) rfl rfl Try.func24 (by kernel_rfl) rfl #[.int .i64 a0_0, .int .i64 1, .int .i64 60] rfl (by (try simp only [List.map_toArray, List.map_cons, List.map_nil]); first | done | rfl | (simp only [List.length_drop, List.length_take]; rfl)) ?_; (with_reducible refine (spec_l1In.calls a0_0 1 60 true _ A4.out).mono ?_); rintro e w' ⟨rfl, ⟨nd, rfl⟩⟩; refine ⟨_, rfl, ?_⟩))
    go_meet
    case rel => exact ⟨_, (decide ((l0_2.length : Int) > 20)), (by first | rfl | (simp; done) | (simp [*]; done) | (simp [wrap64]; done)), H', ⟨by first | omega | exact Nat.le_refl _⟩, ⟨by (with_reducible repeat (first | refine blk_drewN ?_ _ | refine blk_drew ?_ | refine blk_alloc ?_ _)); exact BK192.out⟩, ⟨bw_ HB.out⟩⟩
  ·replace c5 := Bool.eq_false_iff.mpr c5
   subst c5
   replace H := if_ H Bool.false_ne_true
   have H' := Aside0.mk H
   clear H
   have hcz9_0 := cz_ BK192.out 0
   have hcz9_1 := cz_ BK192.out 1
   have hcz9_2 := cz_ BK192.out 2
   have hfz9_0 := blk_frozen BK192.out 0
   have hfz9_1 := blk_frozen BK192.out 1
   have hfz9_2 := blk_frozen BK192.out 2
   go_wp2_with (first | ((with_reducible refine gate_callee (f := 24) rfl ?_); refine goesL_ (some 9) rfl rfl Try.func24 (by kernel_rfl) rfl #[.int .i64 a0_0, .int .i64 1, .int .i64 60] rfl (by (try simp only [List.map_toArray, List.map_cons, List.map_nil]); first | done | rfl | (simp only [List.length_drop, List.length_take]; rfl)) ?_; (with_reducible refine (spec_l1In.calls a0_0 1 60 false _ A4.out).mono ?_); rintro e w' ⟨rfl, ⟨nd, rfl⟩⟩; refine ⟨_, rfl, ?_⟩))
   go_meet
   case rel => exact ⟨_, (true), (by first | rfl | (simp; done) | (simp [*]; done) | (simp [wrap64]; done)), H', ⟨by first | omega | exact Nat.le_refl _⟩, ⟨by (with_reducible repeat (first | refine blk_drewN ?_ _ | refine blk_drew ?_ | refine blk_alloc ?_ _)); exact BK192.out⟩, ⟨bw_ HB.out⟩⟩
 case rest =>
  clear HC2
  try clear c2
  try clear p2
  try clear c5
  try clear c6
  try clear c6b0
  try clear c6b1
  try clear c7
  try clear hcz7_0
  try clear hcz7_1
  try clear hcz7_2
  try clear hcz8_0
  try clear hcz8_1
  try clear hcz8_2
  try clear hcz9_0
  try clear hcz9_1
  try clear hcz9_2
  try clear hfz7_0
  try clear hfz7_1
  try clear hfz7_2
  try clear hfz8_0
  try clear hfz8_1
  try clear hfz8_2
  try clear hfz9_0
  try clear hfz9_1
  try clear hfz9_2
  obtain ⟨kq, x22_1, rfl, HA, HJ1, BK192, HB⟩ := hcut
  cases kq with
  | zero => exact absurd HA.out (by simp [spec_GoodClip.j0])
  | succ kj1 =>
   have H := HA.out
   clear HA
   simp only [spec_GoodClip.j0] at H
   by_cases c10 : x22_1 = true
   ·subst c10
    replace H := it_ H rfl
    obtain rfl := Option.some.inj H
    go_wp2
    go_ret
    exact ⟨by first | rfl | (simp [errW_none, errW_some] <;> rfl) | (simp [*, errW_none, errW_some] <;> rfl), bw_ HB.out⟩
   ·replace c10 := Bool.eq_false_iff.mpr c10
    subst c10
    replace H := if_ H Bool.false_ne_true
    have H' := Aside0.mk H
    clear H
    have hcz11_0 := cz_ BK192.out 0
    have hcz11_1 := cz_ BK192.out 1
    have hcz11_2 := cz_ BK192.out 2
    have hfz11_0 := blk_frozen BK192.out 0
    have hfz11_1 := blk_frozen BK192.out 1
    have hfz11_2 := blk_frozen BK192.out 2
    go_wp2
    go_loopg [26] kj1 (fun kq v26 w' => ∃ (x26_2 : Int), v26 = .int .i64 x26_2 ∧ Aside0 (spec_GoodClip.l0 kq l0_1 (l0_1.length : Int) x26_2 a0_0 l0_1 l0_2 = some r) ∧ Aside0 (kq ≤ kj1) ∧ Aside0 (w'.heap[gb192]? = some (.cells #[.int .i64 a0_0, (.slice A0_1 l0_1.length c0_1), (.slice A0_2 l0_2.length c0_2)] 31 (0, 0))) ∧ Aside0 (Below w.heap.size w w'))
    case atStart => exact ⟨(0), (by first | rfl | (simp; done) | (simp [*]; done) | (simp [wrap64]; done)), H', ⟨Nat.le_refl _⟩, ⟨by (with_reducible repeat (first | refine blk_drewN ?_ _ | refine blk_drew ?_ | refine blk_alloc ?_ _)); exact BK192.out⟩, ⟨bw_ HB.out⟩⟩
    case round =>
     clear H'
     try clear c1
     try clear c2
     try clear p2
     try clear c5
     try clear c6
     try clear c6b0
     try clear c6b1
     try clear c7
     try clear c10
     try clear hcz11_0
     try clear hcz11_1
     try clear hcz11_2
     try clear hcz7_0
     try clear hcz7_1
     try clear hcz7_2
     try clear hcz8_0
     try clear hcz8_1
     try clear hcz8_2
     try clear hcz9_0
     try clear hcz9_1
     try clear hcz9_2
     try clear hfz11_0
     try clear hfz11_1
     try clear hfz11_2
     try clear hfz7_0
     try clear hfz7_1
     try clear hfz7_2
     try clear hfz8_0
     try clear hfz8_1
     try clear hfz8_2
     try clear hfz9_0
     try clear hfz9_1
     try clear hfz9_2
     try clear p2
     obtain ⟨x26_2, rfl, HA, HK2, BK192, HB⟩ := hrel
     cases gk with
     | zero => exact absurd HA.out (by simp [spec_GoodClip.l0])
     | succ k2 =>
      have H := HA.out
      clear HA
      simp only [spec_GoodClip.l0] at H
      by_cases c12 : x26_2 < (l0_1.length : Int)
      ·rw [if_pos c12] at H
       have c12b0 : decide (x26_2 < (l0_1.length : Int)) = true := decide_eq_true c12
       clear c12
       by_cases c13 : 0 ≤ x26_2
       ·rw [if_pos c13] at H
        have c13b0 : decide (0 ≤ x26_2) = true := decide_eq_true c13
        clear c13
        by_cases c14 : x26_2 < (l0_1.length : Int)
        ·rw [if_pos c14] at H
         have c14b0 : decide (x26_2 < (l0_1.length : Int)) = true := decide_eq_true c14
         clear c14
         obtain ⟨t196, A150, H⟩ := bE_ H
         have A15 := Aside0.mk A150
         clear A150
         by_cases c16 : t196 = true
         ·subst c16
          replace H := it_ H rfl
          obtain ⟨t197, A170, H⟩ := bE_ H
          have A17 := Aside0.mk A170
          clear A170
          by_cases c18 : t197 = true
          ·subst c18
           replace H := it_ H rfl
           by_cases c19 : x26_2 > 0
           ·rw [if_pos c19] at H
            have c19b0 : decide (0 < x26_2) = true := decide_eq_true c19
            clear c19
            obtain ⟨ji20, hji20⟩ : ∃ j_ : Int, (wrap64 (x26_2 - 1)) = j_ := ⟨_, rfl⟩
            replace H : (if 0 ≤ (ji20) then (if (ji20) < (l0_1.length : Int) then (if ((Op.bytesLess (((rd_T53 l0_1 (ji20)).f0).toList) (((rd_T53 l0_1 x26_2).f0).toList)) = true) then (spec_GoodClip.l0 k2 l0_1 (l0_1.length : Int) (wrap64 (x26_2 + 1)) a0_0 l0_1 l0_2) else (some false)) else (none)) else (none)) = some r := by first | (rw [hji20] at H; exact H) | (simp only [hji20] at H ⊢; exact H)
            (try rw [hji20] at A15)
            (try rw [hji20] at A17)
            have hji20w : (IntKind.i64.wrap (x26_2 - 1)) = ji20 := (i64_w _).trans hji20
            by_cases c21 : 0 ≤ (ji20)
            ·rw [if_pos c21] at H
             have c21b0 : decide (0 ≤ (ji20)) = true := decide_eq_true c21
             clear c21
             by_cases c22 : (ji20) < (l0_1.length : Int)
             ·rw [if_pos c22] at H
              have c22b0 : decide ((ji20) < (l0_1.length : Int)) = true := decide_eq_true c22
              clear c22
              by_cases c23 : ((Op.bytesLess (((rd_T53 l0_1 (ji20)).f0).toList) (((rd_T53 l0_1 x26_2).f0).toList)) = true)
              ·rw [if_pos c23] at H
               have c23b0 : (Op.bytesLess (((rd_T53 l0_1 (ji20)).f0).toList) (((rd_T53 l0_1 x26_2).f0).toList)) = true := c23
               clear c23
               have H' := Aside0.mk H
               clear H
               have p194 : 0 ≤ (x26_2 : Int) := of_decide_eq_true (by first | (with_reducible assumption) | assumption)
               have q194 : x26_2 < (l0_1.length : Int) := of_decide_eq_true (by first | (with_reducible assumption) | assumption)
               obtain ⟨ad194, A194_1, c194_1, e194, hx194_0, hx194_1, hl194_1, hi194_1⟩ := at_T53 HR0_1.out x26_2 p194 q194
               cases e194
               (try replace hx194_0 := (HB.out.cell (World.block_lt_of_cell? w _ hx194_0)).trans hx194_0)
               (try replace hx194_1 := (HB.out.cell (World.block_lt_of_cell? w _ hx194_1)).trans hx194_1)
               have HR194_1 := Aside0.mk hi194_1
               have HC194_1 := Aside0.mk hl194_1
               clear hi194_1 hl194_1
               replace p194 := eq_true p194
               replace q194 := eq_true q194
               try go_wp2_with (first | ((with_reducible refine gate_dst (N := 4) rfl ?_); (try (refine gate_guard (by rfl) ?_; dsimp only)); refine bx_ 4 #[.string (⟨#[]⟩ : ByteArray), .slice none 0 0] 53 ?_; intro gb195 hg w24 hbox hb; have n0_ := Aside0.mk (blk_below (bk_ BK192.out) hb); have n1_ := Aside0.mk (below_step (bw_ HB.out) hb); have n2_ := Aside0.mk (hbox); have n3_ := Aside0.mk (gs_ hg (bw_ HB.out)); have n4_ := Aside0.mk (gs_ hg (bw_ HB.out)); have n5_ := Aside0.mk (nl_ hg (bk_ BK192.out)); have n6_ := Aside0.mk (ng_ hg (bk_ BK192.out)); clear BK192; clear HB; have BK192 := n0_; have HB := n1_; have BK195 := n2_; have GW195 := n3_; have GE195 := n4_; have NB192_195 := n5_; have NB195_192 := n6_; clear n0_ n1_ n2_ n3_ n4_ n5_ n6_; clear hb hbox hg; have hnb25 := NB195_192.out; have hnc25 := NB192_195.out; have hcz26_0 := cz_ BK195.out 0; have hcz26_1 := cz_ BK195.out 1; have hfz26_0 := blk_frozen BK195.out 0; have hfz26_1 := blk_frozen BK195.out 1))
               have n0_ : Aside0 (((w24.setCell ⟨gb195, 0, none⟩ (.string ((rd_T53 l0_1 x26_2).f0))).setCell ⟨gb195, 1, none⟩ (.slice A194_1 ((rd_T53 l0_1 x26_2).f1).length c194_1)).heap[gb192]? = some (.cells #[.int .i64 a0_0, .slice (some ad194) l0_1.length c0_1, .slice A0_2 l0_2.length c0_2] 31 (0, 0))) := ⟨by (with_reducible repeat (first | refine blk_drewN ?_ _ | refine blk_drew ?_ | refine blk_alloc ?_ _)); refine blk_far ?_ NB192_195.out _; (with_reducible repeat (first | refine blk_drewN ?_ _ | refine blk_drew ?_ | refine blk_alloc ?_ _)); refine blk_far ?_ NB192_195.out _; (with_reducible repeat (first | refine blk_drewN ?_ _ | refine blk_drew ?_ | refine blk_alloc ?_ _)); exact BK192.out⟩
               have n1_ : Aside0 (((w24.setCell ⟨gb195, 0, none⟩ (.string ((rd_T53 l0_1 x26_2).f0))).setCell ⟨gb195, 1, none⟩ (.slice A194_1 ((rd_T53 l0_1 x26_2).f1).length c194_1)).heap[gb195]? = some (.cells #[.string ((rd_T53 l0_1 x26_2).f0), .slice A194_1 ((rd_T53 l0_1 x26_2).f1).length c194_1] 53 (0, 0))) := ⟨by (with_reducible repeat (first | refine blk_drewN ?_ _ | refine blk_drew ?_ | refine blk_alloc ?_ _)); refine blk_put (cs := #[.string ((rd_T53 l0_1 x26_2).f0), .slice none 0 0]) ?_ 1 _ rfl; (with_reducible repeat (first | refine blk_drewN ?_ _ | refine blk_drew ?_ | refine blk_alloc ?_ _)); refine blk_put (cs := #[.string (⟨#[]⟩ : ByteArray), .slice none 0 0]) ?_ 0 _ rfl; (with_reducible repeat (first | refine blk_drewN ?_ _ | refine blk_drew ?_ | refine blk_alloc ?_ _)); exact BK195.out⟩
               have n2_ : Aside0 (Below w.heap.size w ((w24.setCell ⟨gb195, 0, none⟩ (.string ((rd_T53 l0_1 x26_2).f0))).setCell ⟨gb195, 1, none⟩ (.slice A194_1 ((rd_T53 l0_1 x26_2).f1).length c194_1))) := ⟨bw_ HB.out⟩
               (try clear BK192)
               (try clear BK195)
               (try clear HB)
               generalize ((w24.setCell ⟨gb195, 0, none⟩ (.string ((rd_T53 l0_1 x26_2).f0))).setCell ⟨gb195, 1, none⟩ (.slice A194_1 ((rd_T53 l0_1 x26_2).f1).length c194_1)) = w27 at n0_ n1_ n2_ ⊢
               have BK192 := n0_
               have BK195 := n1_
               have HB := n2_
               clear n0_ n1_ n2_
               have n0_ := Aside0.mk (blk_drew BK192.out)
               have n1_ := Aside0.mk (blk_drew BK195.out)
               have n2_ := Aside0.mk (below_drew1 HB.out)
               clear BK192
               clear BK195
               clear HB
               have BK192 := n0_
               have BK195 := n1_
               have HB := n2_
               clear n0_ n1_ n2_
               have p198 : 0 ≤ ((ji20) : Int) := of_decide_eq_true (by first | (with_reducible assumption) | assumption)
               have q198 : (ji20) < (l0_1.length : Int) := of_decide_eq_true (by first | (with_reducible assumption) | assumption)
               obtain ⟨ad198, A198_1, c198_1, e198, hx198_0, hx198_1, hl198_1, hi198_1⟩ := at_T53 HR0_1.out (ji20) p198 q198
               have hw198_1 := hx198_1
               have hw198_0 := hx198_0
               obtain rfl : ad194 = ad198 := (by injection e198)
               (try replace hx198_0 := (HB.out.cell (World.block_lt_of_cell? w _ hx198_0)).trans hx198_0)
               (try replace hx198_1 := (HB.out.cell (World.block_lt_of_cell? w _ hx198_1)).trans hx198_1)
               have HR198_1 := Aside0.mk hi198_1
               have HC198_1 := Aside0.mk hl198_1
               clear hi198_1 hl198_1
               replace p198 := eq_true p198
               replace q198 := eq_true q198
               refine start_ (n := 28) (S := fun w' => w'.cell? ⟨gb195, 0, none⟩ = some (.string ((rd_T53 l0_1 x26_2).f0)) ∧ w'.cell? ⟨gb195, 1, none⟩ = some (.slice A194_1 ((rd_T53 l0_1 x26_2).f1).length c194_1) ∧ w'.cell? ⟨gb192, 0, none⟩ = some (.int .i64 a0_0) ∧ w'.cell? ⟨gb192, 1, none⟩ = some (.slice (some ad194) l0_1.length c0_1) ∧ w'.cell? ⟨gb192, 2, none⟩ = some (.slice A0_2 l0_2.length c0_2) ∧ w'.cell? (ad194.add (((ji20)).toNat * 2)) = some (.string ((rd_T53 l0_1 (ji20)).f0)) ∧ w'.cell? ⟨(ad194.add (((ji20)).toNat * 2)).block, (ad194.add (((ji20)).toNat * 2)).off + 1, none⟩ = some (.slice A198_1 ((rd_T53 l0_1 (ji20)).f1).length c198_1)) (ds := []) (Array.replicate 28 false) (by kernel_rfl) rfl rfl ⟨cz_ BK195.out 0, cz_ BK195.out 1, cz_ BK192.out 0, cz_ BK192.out 1, cz_ BK192.out 2, ((HB.out.cell (World.block_lt_of_cell? w _ hw198_0)).trans hw198_0), ((HB.out.cell (World.block_lt_of_cell? w _ hw198_1)).trans hw198_1)⟩ (fun hHeld => ?_); refine with_tabW spec_GoodClip.tab6 spec_GoodClip.bits6 (fun HT_ HW_ => ?_)
               generalize w27.drew = w28 at BK192 BK195 HB HR198_1 hx198_0 hx198_1 hHeld ⊢
               refine pS_ 0 31 HT_ ?_
               refine tS_ 1 32 HT_ HW_ hHeld ?_
               refine oS_ 2 33 HT_ (fun K hK => ?_)
               refine goes_ Try.func25 (by kernel_rfl) rfl #[.string ((rd_T53 l0_1 x26_2).f0)] (by rfl) rfl rfl (by (try simp only [List.map_toArray, List.map_cons, List.map_nil]); first | done | rfl | (simp only [List.length_drop, List.length_take]; rfl)) ?_
               with_reducible refine (spec_GoodName.calls k2 ((rd_T53 l0_1 x26_2).f0) true _ A15.out).mono ?_
               rintro e w' ⟨rfl, ⟨nd, rfl⟩⟩
               refine ⟨_, rfl, ?_⟩
               refine hK.out _ _ ⟨cz_ BK195.out 0, cz_ BK195.out 1, cz_ BK192.out 0, cz_ BK192.out 1, cz_ BK192.out 2, ((HB.out.cell (World.block_lt_of_cell? w _ hw198_0)).trans hw198_0), ((HB.out.cell (World.block_lt_of_cell? w _ hw198_1)).trans hw198_1)⟩ (fun hHeld => ?_)
               clear hK K
               refine nS_ ?_
               refine pS_ 3 34 HT_ ?_
               refine pS_ 4 35 HT_ ?_
               refine pS_ 5 36 HT_ ?_
               refine pS_ 7 38 HT_ ?_
               refine tS_ 6 37 HT_ HW_ hHeld ?_
               refine tS_ 8 39 HT_ HW_ hHeld ?_
               refine oS_ 9 40 HT_ (fun K hK => ?_)
               refine goes_ Try.func26 (by kernel_rfl) rfl #[.slice A194_1 ((rd_T53 l0_1 x26_2).f1).length c194_1, .int .i64 a0_0] (by rfl) rfl rfl (by (try simp only [List.map_toArray, List.map_cons, List.map_nil]); first | done | rfl | (simp only [List.length_drop, List.length_take]; rfl)) ?_
               with_reducible refine (spec_l11Keys.calls k2 _ _ ((rd_T53 l0_1 x26_2).f1) a0_0 true _ ?side1 ?side2 A17.out).mono ?_
               (case side1 => repeat (first | exact (Kd.C_below HR194_1.out (bw_ HB.out)) | (with_reducible refine Kd.C_alloc ?_ _) | (with_reducible refine Kd.C_drewN ?_ _) | (with_reducible refine Kd.C_drew ?_)))
               (case side2 => exact HC194_1.out)
               rintro e w29 ⟨rfl, hb⟩
               refine ⟨_, rfl, ?_⟩
               have n0_ := Aside0.mk (blk_below (bk_ BK192.out) hb)
               have n1_ := Aside0.mk (blk_below (bk_ BK195.out) hb)
               have n2_ := Aside0.mk (below_step (bw_ HB.out) hb)
               clear BK192
               clear BK195
               clear HB
               have BK192 := n0_
               have BK195 := n1_
               have HB := n2_
               clear n0_ n1_ n2_
               (try clear hb)
               (try clear hb2)
               (try clear hk)
               (try clear hi)
               refine hK.out _ _ ⟨cz_ BK195.out 0, cz_ BK195.out 1, cz_ BK192.out 0, cz_ BK192.out 1, cz_ BK192.out 2, ((HB.out.cell (World.block_lt_of_cell? w _ hw198_0)).trans hw198_0), ((HB.out.cell (World.block_lt_of_cell? w _ hw198_1)).trans hw198_1)⟩ (fun hHeld => ?_)
               clear hK K
               refine nS_ ?_
               refine pS_ 10 41 HT_ ?_
               refine pS_ 11 42 HT_ ?_
               refine pS_ 12 43 HT_ ?_
               refine pS_ 13 44 HT_ ?_
               refine pS_ 14 45 HT_ ?_
               refine pS_ 15 46 HT_ ?_
               refine pS_ 16 47 HT_ ?_
               refine pS_ 18 49 HT_ ?_
               refine pS_ 19 50 HT_ ?_
               refine pS_ 23 54 HT_ ?_
               refine tS_ 17 48 HT_ HW_ hHeld ?_
               refine pS_ 20 51 HT_ ?_
               refine pS_ 21 52 HT_ ?_
               refine tS_ 22 53 HT_ HW_ hHeld ?_
               refine tS_ 24 55 HT_ HW_ hHeld ?_
               refine pS_ 25 56 HT_ ?_
               refine pS_ 26 57 HT_ ?_
               refine pS_ 27 58 HT_ ?_
               refine done_ (done_of HT_.out (by kernel_rfl)) ?_
               try go_wp2
               go_roundg k2
               case measure => have := HJ1.out; have := HK2.out; omega
               case rel => exact ⟨(wrap64 (x26_2 + 1)), (by first | rfl | (simp; done) | (simp [*]; done) | (simp [wrap64]; done)), H', ⟨by have := HJ1.out; have := HK2.out; omega⟩, ⟨by (with_reducible repeat (first | refine blk_drewN ?_ _ | refine blk_drew ?_ | refine blk_alloc ?_ _)); exact BK192.out⟩, ⟨bw_ HB.out⟩⟩
              ·rw [if_neg c23] at H
               have c23b0 : (Op.bytesLess (((rd_T53 l0_1 (ji20)).f0).toList) (((rd_T53 l0_1 x26_2).f0).toList)) = false := by simpa using c23
               clear c23
               obtain rfl := Option.some.inj H
               have p194 : 0 ≤ (x26_2 : Int) := of_decide_eq_true (by first | (with_reducible assumption) | assumption)
               have q194 : x26_2 < (l0_1.length : Int) := of_decide_eq_true (by first | (with_reducible assumption) | assumption)
               obtain ⟨ad194, A194_1, c194_1, e194, hx194_0, hx194_1, hl194_1, hi194_1⟩ := at_T53 HR0_1.out x26_2 p194 q194
               cases e194
               (try replace hx194_0 := (HB.out.cell (World.block_lt_of_cell? w _ hx194_0)).trans hx194_0)
               (try replace hx194_1 := (HB.out.cell (World.block_lt_of_cell? w _ hx194_1)).trans hx194_1)
               have HR194_1 := Aside0.mk hi194_1
               have HC194_1 := Aside0.mk hl194_1
               clear hi194_1 hl194_1
               replace p194 := eq_true p194
               replace q194 := eq_true q194
               try go_wp2_with (first | ((with_reducible refine gate_dst (N := 4) rfl ?_); (try (refine gate_guard (by rfl) ?_; dsimp only)); refine bx_ 4 #[.string (⟨#[]⟩ : ByteArray), .slice none 0 0] 53 ?_; intro gb195 hg w30 hbox hb; have n0_ := Aside0.mk (blk_below (bk_ BK192.out) hb); have n1_ := Aside0.mk (below_step (bw_ HB.out) hb); have n2_ := Aside0.mk (hbox); have n3_ := Aside0.mk (gs_ hg (bw_ HB.out)); have n4_ := Aside0.mk (gs_ hg (bw_ HB.out)); have n5_ := Aside0.mk (nl_ hg (bk_ BK192.out)); have n6_ := Aside0.mk (ng_ hg (bk_ BK192.out)); clear BK192; clear HB; have BK192 := n0_; have HB := n1_; have BK195 := n2_; have GW195 := n3_; have GE195 := n4_; have NB192_195 := n5_; have NB195_192 := n6_; clear n0_ n1_ n2_ n3_ n4_ n5_ n6_; clear hb hbox hg; have hnb31 := NB195_192.out; have hnc31 := NB192_195.out; have hcz32_0 := cz_ BK195.out 0; have hcz32_1 := cz_ BK195.out 1; have hfz32_0 := blk_frozen BK195.out 0; have hfz32_1 := blk_frozen BK195.out 1))
               have n0_ : Aside0 (((w30.setCell ⟨gb195, 0, none⟩ (.string ((rd_T53 l0_1 x26_2).f0))).setCell ⟨gb195, 1, none⟩ (.slice A194_1 ((rd_T53 l0_1 x26_2).f1).length c194_1)).heap[gb192]? = some (.cells #[.int .i64 a0_0, .slice (some ad194) l0_1.length c0_1, .slice A0_2 l0_2.length c0_2] 31 (0, 0))) := ⟨by (with_reducible repeat (first | refine blk_drewN ?_ _ | refine blk_drew ?_ | refine blk_alloc ?_ _)); refine blk_far ?_ NB192_195.out _; (with_reducible repeat (first | refine blk_drewN ?_ _ | refine blk_drew ?_ | refine blk_alloc ?_ _)); refine blk_far ?_ NB192_195.out _; (with_reducible repeat (first | refine blk_drewN ?_ _ | refine blk_drew ?_ | refine blk_alloc ?_ _)); exact BK192.out⟩
               have n1_ : Aside0 (((w30.setCell ⟨gb195, 0, none⟩ (.string ((rd_T53 l0_1 x26_2).f0))).setCell ⟨gb195, 1, none⟩ (.slice A194_1 ((rd_T53 l0_1 x26_2).f1).length c194_1)).heap[gb195]? = some (.cells #[.string ((rd_T53 l0_1 x26_2).f0), .slice A194_1 ((rd_T53 l0_1 x26_2).f1).length c194_1] 53 (0, 0))) := ⟨by (with_reducible repeat (first | refine blk_drewN ?_ _ | refine blk_drew ?_ | refine blk_alloc ?_ _)); refine blk_put (cs := #[.string ((rd_T53 l0_1 x26_2).f0), .slice none 0 0]) ?_ 1 _ rfl; (with_reducible repeat (first | refine blk_drewN ?_ _ | refine blk_drew ?_ | refine blk_alloc ?_ _)); refine blk_put (cs := #[.string (⟨#[]⟩ : ByteArray), .slice none 0 0]) ?_ 0 _ rfl; (with_reducible repeat (first | refine blk_drewN ?_ _ | refine blk_drew ?_ | refine blk_alloc ?_ _)); exact BK195.out⟩
               have n2_ : Aside0 (Below w.heap.size w ((w30.setCell ⟨gb195, 0, none⟩ (.string ((rd_T53 l0_1 x26_2).f0))).setCell ⟨gb195, 1, none⟩ (.slice A194_1 ((rd_T53 l0_1 x26_2).f1).length c194_1))) := ⟨bw_ HB.out⟩
               (try clear BK192)
               (try clear BK195)
               (try clear HB)
               generalize ((w30.setCell ⟨gb195, 0, none⟩ (.string ((rd_T53 l0_1 x26_2).f0))).setCell ⟨gb195, 1, none⟩ (.slice A194_1 ((rd_T53 l0_1 x26_2).f1).length c194_1)) = w33 at n0_ n1_ n2_ ⊢
               have BK192 := n0_
               have BK195 := n1_
               have HB := n2_
               clear n0_ n1_ n2_
               have n0_ := Aside0.mk (blk_drew BK192.out)
               have n1_ := Aside0.mk (blk_drew BK195.out)
               have n2_ := Aside0.mk (below_drew1 HB.out)
               clear BK192
               clear BK195
               clear HB
               have BK192 := n0_
               have BK195 := n1_
               have HB := n2_
               clear n0_ n1_ n2_
               have p198 : 0 ≤ ((ji20) : Int) := of_decide_eq_true (by first | (with_reducible assumption) | assumption)
               have q198 : (ji20) < (l0_1.length : Int) := of_decide_eq_true (by first | (with_reducible assumption) | assumption)
               obtain ⟨ad198, A198_1, c198_1, e198, hx198_0, hx198_1, hl198_1, hi198_1⟩ := at_T53 HR0_1.out (ji20) p198 q198
               have hw198_1 := hx198_1
               have hw198_0 := hx198_0
               obtain rfl : ad194 = ad198 := (by injection e198)
               (try replace hx198_0 := (HB.out.cell (World.block_lt_of_cell? w _ hx198_0)).trans hx198_0)
               (try replace hx198_1 := (HB.out.cell (World.block_lt_of_cell? w _ hx198_1)).trans hx198_1)
               have HR198_1 := Aside0.mk hi198_1
               have HC198_1 := Aside0.mk hl198_1
               clear hi198_1 hl198_1
               replace p198 := eq_true p198
               replace q198 := eq_true q198
               refine start_ (n := 28) (S := fun w' => w'.cell? ⟨gb195, 0, none⟩ = some (.string ((rd_T53 l0_1 x26_2).f0)) ∧ w'.cell? ⟨gb195, 1, none⟩ = some (.slice A194_1 ((rd_T53 l0_1 x26_2).f1).length c194_1) ∧ w'.cell? ⟨gb192, 0, none⟩ = some (.int .i64 a0_0) ∧ w'.cell? ⟨gb192, 1, none⟩ = some (.slice (some ad194) l0_1.length c0_1) ∧ w'.cell? ⟨gb192, 2, none⟩ = some (.slice A0_2 l0_2.length c0_2) ∧ w'.cell? (ad194.add (((ji20)).toNat * 2)) = some (.string ((rd_T53 l0_1 (ji20)).f0)) ∧ w'.cell? ⟨(ad194.add (((ji20)).toNat * 2)).block, (ad194.add (((ji20)).toNat * 2)).off + 1, none⟩ = some (.slice A198_1 ((rd_T53 l0_1 (ji20)).f1).length c198_1)) (ds := []) (Array.replicate 28 false) (by kernel_rfl) rfl rfl ⟨cz_ BK195.out 0, cz_ BK195.out 1, cz_ BK192.out 0, cz_ BK192.out 1, cz_ BK192.out 2, ((HB.out.cell (World.block_lt_of_cell? w _ hw198_0)).trans hw198_0), ((HB.out.cell (World.block_lt_of_cell? w _ hw198_1)).trans hw198_1)⟩ (fun hHeld => ?_); refine with_tabW spec_GoodClip.tab6 spec_GoodClip.bits6 (fun HT_ HW_ => ?_)
               generalize w33.drew = w34 at BK192 BK195 HB HR198_1 hx198_0 hx198_1 hHeld ⊢
               refine pS_ 0 31 HT_ ?_
               refine tS_ 1 32 HT_ HW_ hHeld ?_
               refine oS_ 2 33 HT_ (fun K hK => ?_)
               refine goes_ Try.func25 (by kernel_rfl) rfl #[.string ((rd_T53 l0_1 x26_2).f0)] (by rfl) rfl rfl (by (try simp only [List.map_toArray, List.map_cons, List.map_nil]); first | done | rfl | (simp only [List.length_drop, List.length_take]; rfl)) ?_
               with_reducible refine (spec_GoodName.calls k2 ((rd_T53 l0_1 x26_2).f0) true _ A15.out).mono ?_
               rintro e w' ⟨rfl, ⟨nd, rfl⟩⟩
               refine ⟨_, rfl, ?_⟩
               refine hK.out _ _ ⟨cz_ BK195.out 0, cz_ BK195.out 1, cz_ BK192.out 0, cz_ BK192.out 1, cz_ BK192.out 2, ((HB.out.cell (World.block_lt_of_cell? w _ hw198_0)).trans hw198_0), ((HB.out.cell (World.block_lt_of_cell? w _ hw198_1)).trans hw198_1)⟩ (fun hHeld => ?_)
               clear hK K
               refine nS_ ?_
               refine pS_ 3 34 HT_ ?_
               refine pS_ 4 35 HT_ ?_
               refine pS_ 5 36 HT_ ?_
               refine pS_ 7 38 HT_ ?_
               refine tS_ 6 37 HT_ HW_ hHeld ?_
               refine tS_ 8 39 HT_ HW_ hHeld ?_
               refine oS_ 9 40 HT_ (fun K hK => ?_)
               refine goes_ Try.func26 (by kernel_rfl) rfl #[.slice A194_1 ((rd_T53 l0_1 x26_2).f1).length c194_1, .int .i64 a0_0] (by rfl) rfl rfl (by (try simp only [List.map_toArray, List.map_cons, List.map_nil]); first | done | rfl | (simp only [List.length_drop, List.length_take]; rfl)) ?_
               with_reducible refine (spec_l11Keys.calls k2 _ _ ((rd_T53 l0_1 x26_2).f1) a0_0 true _ ?side1 ?side2 A17.out).mono ?_
               (case side1 => repeat (first | exact (Kd.C_below HR194_1.out (bw_ HB.out)) | (with_reducible refine Kd.C_alloc ?_ _) | (with_reducible refine Kd.C_drewN ?_ _) | (with_reducible refine Kd.C_drew ?_)))
               (case side2 => exact HC194_1.out)
               rintro e w35 ⟨rfl, hb⟩
               refine ⟨_, rfl, ?_⟩
               have n0_ := Aside0.mk (blk_below (bk_ BK192.out) hb)
               have n1_ := Aside0.mk (blk_below (bk_ BK195.out) hb)
               have n2_ := Aside0.mk (below_step (bw_ HB.out) hb)
               clear BK192
               clear BK195
               clear HB
               have BK192 := n0_
               have BK195 := n1_
               have HB := n2_
               clear n0_ n1_ n2_
               (try clear hb)
               (try clear hb2)
               (try clear hk)
               (try clear hi)
               refine hK.out _ _ ⟨cz_ BK195.out 0, cz_ BK195.out 1, cz_ BK192.out 0, cz_ BK192.out 1, cz_ BK192.out 2, ((HB.out.cell (World.block_lt_of_cell? w _ hw198_0)).trans hw198_0), ((HB.out.cell (World.block_lt_of_cell? w _ hw198_1)).trans hw198_1)⟩ (fun hHeld => ?_)
               clear hK K
               refine nS_ ?_
               refine pS_ 10 41 HT_ ?_
               refine pS_ 11 42 HT_ ?_
               refine pS_ 12 43 HT_ ?_
               refine pS_ 13 44 HT_ ?_
               refine pS_ 14 45 HT_ ?_
               refine pS_ 15 46 HT_ ?_
               refine pS_ 16 47 HT_ ?_
               refine pS_ 18 49 HT_ ?_
               refine pS_ 19 50 HT_ ?_
               refine pS_ 23 54 HT_ ?_
               refine tS_ 17 48 HT_ HW_ hHeld ?_
               refine pS_ 20 51 HT_ ?_
               refine pS_ 21 52 HT_ ?_
               refine tS_ 22 53 HT_ HW_ hHeld ?_
               refine tS_ 24 55 HT_ HW_ hHeld ?_
               refine pS_ 25 56 HT_ ?_
               refine pS_ 26 57 HT_ ?_
               refine pS_ 27 58 HT_ ?_
               refine done_ (done_of HT_.out (by kernel_rfl)) ?_
               try go_wp2
               go_ret
               exact ⟨by first | rfl | (simp [errW_none, errW_some] <;> rfl) | (simp only [← hji20]; first | rfl | (simp [errW_none, errW_some] <;> rfl)) | (simp [*, errW_none, errW_some] <;> rfl), bw_ HB.out⟩
             ·rw [if_neg c22] at H
              exact absurd H (by simp)
            ·rw [if_neg c21] at H
             exact absurd H (by simp)
           ·rw [if_neg c19] at H
            have c19b0 : decide (0 < x26_2) = false := decide_eq_false c19
            clear c19
            have H' := Aside0.mk H
            clear H
            have p194 : 0 ≤ (x26_2 : Int) := of_decide_eq_true (by first | (with_reducible assumption) | assumption)
            have q194 : x26_2 < (l0_1.length : Int) := of_decide_eq_true (by first | (with_reducible assumption) | assumption)
            obtain ⟨ad194, A194_1, c194_1, e194, hx194_0, hx194_1, hl194_1, hi194_1⟩ := at_T53 HR0_1.out x26_2 p194 q194
            cases e194
            (try replace hx194_0 := (HB.out.cell (World.block_lt_of_cell? w _ hx194_0)).trans hx194_0)
            (try replace hx194_1 := (HB.out.cell (World.block_lt_of_cell? w _ hx194_1)).trans hx194_1)
            have HR194_1 := Aside0.mk hi194_1
            have HC194_1 := Aside0.mk hl194_1
            clear hi194_1 hl194_1
            replace p194 := eq_true p194
            replace q194 := eq_true q194
            try go_wp2_with (first | ((with_reducible refine gate_dst (N := 4) rfl ?_); (try (refine gate_guard (by rfl) ?_; dsimp only)); refine bx_ 4 #[.string (⟨#[]⟩ : ByteArray), .slice none 0 0] 53 ?_; intro gb195 hg w36 hbox hb; have n0_ := Aside0.mk (blk_below (bk_ BK192.out) hb); have n1_ := Aside0.mk (below_step (bw_ HB.out) hb); have n2_ := Aside0.mk (hbox); have n3_ := Aside0.mk (gs_ hg (bw_ HB.out)); have n4_ := Aside0.mk (gs_ hg (bw_ HB.out)); have n5_ := Aside0.mk (nl_ hg (bk_ BK192.out)); have n6_ := Aside0.mk (ng_ hg (bk_ BK192.out)); clear BK192; clear HB; have BK192 := n0_; have HB := n1_; have BK195 := n2_; have GW195 := n3_; have GE195 := n4_; have NB192_195 := n5_; have NB195_192 := n6_; clear n0_ n1_ n2_ n3_ n4_ n5_ n6_; clear hb hbox hg; have hnb37 := NB195_192.out; have hnc37 := NB192_195.out; have hcz38_0 := cz_ BK195.out 0; have hcz38_1 := cz_ BK195.out 1; have hfz38_0 := blk_frozen BK195.out 0; have hfz38_1 := blk_frozen BK195.out 1))
            have n0_ : Aside0 (((w36.setCell ⟨gb195, 0, none⟩ (.string ((rd_T53 l0_1 x26_2).f0))).setCell ⟨gb195, 1, none⟩ (.slice A194_1 ((rd_T53 l0_1 x26_2).f1).length c194_1)).heap[gb192]? = some (.cells #[.int .i64 a0_0, .slice (some ad194) l0_1.length c0_1, .slice A0_2 l0_2.length c0_2] 31 (0, 0))) := ⟨by (with_reducible repeat (first | refine blk_drewN ?_ _ | refine blk_drew ?_ | refine blk_alloc ?_ _)); refine blk_far ?_ NB192_195.out _; (with_reducible repeat (first | refine blk_drewN ?_ _ | refine blk_drew ?_ | refine blk_alloc ?_ _)); refine blk_far ?_ NB192_195.out _; (with_reducible repeat (first | refine blk_drewN ?_ _ | refine blk_drew ?_ | refine blk_alloc ?_ _)); exact BK192.out⟩
            have n1_ : Aside0 (((w36.setCell ⟨gb195, 0, none⟩ (.string ((rd_T53 l0_1 x26_2).f0))).setCell ⟨gb195, 1, none⟩ (.slice A194_1 ((rd_T53 l0_1 x26_2).f1).length c194_1)).heap[gb195]? = some (.cells #[.string ((rd_T53 l0_1 x26_2).f0), .slice A194_1 ((rd_T53 l0_1 x26_2).f1).length c194_1] 53 (0, 0))) := ⟨by (with_reducible repeat (first | refine blk_drewN ?_ _ | refine blk_drew ?_ | refine blk_alloc ?_ _)); refine blk_put (cs := #[.string ((rd_T53 l0_1 x26_2).f0), .slice none 0 0]) ?_ 1 _ rfl; (with_reducible repeat (first | refine blk_drewN ?_ _ | refine blk_drew ?_ | refine blk_alloc ?_ _)); refine blk_put (cs := #[.string (⟨#[]⟩ : ByteArray), .slice none 0 0]) ?_ 0 _ rfl; (with_reducible repeat (first | refine blk_drewN ?_ _ | refine blk_drew ?_ | refine blk_alloc ?_ _)); exact BK195.out⟩
            have n2_ : Aside0 (Below w.heap.size w ((w36.setCell ⟨gb195, 0, none⟩ (.string ((rd_T53 l0_1 x26_2).f0))).setCell ⟨gb195, 1, none⟩ (.slice A194_1 ((rd_T53 l0_1 x26_2).f1).length c194_1))) := ⟨bw_ HB.out⟩
            (try clear BK192)
            (try clear BK195)
            (try clear HB)
            generalize ((w36.setCell ⟨gb195, 0, none⟩ (.string ((rd_T53 l0_1 x26_2).f0))).setCell ⟨gb195, 1, none⟩ (.slice A194_1 ((rd_T53 l0_1 x26_2).f1).length c194_1)) = w39 at n0_ n1_ n2_ ⊢
            have BK192 := n0_
            have BK195 := n1_
            have HB := n2_
            clear n0_ n1_ n2_
            have n0_ := Aside0.mk (blk_drew BK192.out)
            have n1_ := Aside0.mk (blk_drew BK195.out)
            have n2_ := Aside0.mk (below_drew1 HB.out)
            clear BK192
            clear BK195
            clear HB
            have BK192 := n0_
            have BK195 := n1_
            have HB := n2_
            clear n0_ n1_ n2_
            refine start_ (n := 28) (S := fun w' => w'.cell? ⟨gb195, 0, none⟩ = some (.string ((rd_T53 l0_1 x26_2).f0)) ∧ w'.cell? ⟨gb195, 1, none⟩ = some (.slice A194_1 ((rd_T53 l0_1 x26_2).f1).length c194_1) ∧ w'.cell? ⟨gb192, 0, none⟩ = some (.int .i64 a0_0) ∧ w'.cell? ⟨gb192, 1, none⟩ = some (.slice (some ad194) l0_1.length c0_1) ∧ w'.cell? ⟨gb192, 2, none⟩ = some (.slice A0_2 l0_2.length c0_2)) (ds := []) (Array.replicate 28 false) (by kernel_rfl) rfl rfl ⟨cz_ BK195.out 0, cz_ BK195.out 1, cz_ BK192.out 0, cz_ BK192.out 1, cz_ BK192.out 2⟩ (fun hHeld => ?_); refine with_tabW spec_GoodClip.tab6 spec_GoodClip.bits6 (fun HT_ HW_ => ?_)
            generalize w39.drew = w40 at BK192 BK195 HB hHeld ⊢
            refine pS_ 0 31 HT_ ?_
            refine tS_ 1 32 HT_ HW_ hHeld ?_
            refine oS_ 2 33 HT_ (fun K hK => ?_)
            refine goes_ Try.func25 (by kernel_rfl) rfl #[.string ((rd_T53 l0_1 x26_2).f0)] (by rfl) rfl rfl (by (try simp only [List.map_toArray, List.map_cons, List.map_nil]); first | done | rfl | (simp only [List.length_drop, List.length_take]; rfl)) ?_
            with_reducible refine (spec_GoodName.calls k2 ((rd_T53 l0_1 x26_2).f0) true _ A15.out).mono ?_
            rintro e w' ⟨rfl, ⟨nd, rfl⟩⟩
            refine ⟨_, rfl, ?_⟩
            refine hK.out _ _ ⟨cz_ BK195.out 0, cz_ BK195.out 1, cz_ BK192.out 0, cz_ BK192.out 1, cz_ BK192.out 2⟩ (fun hHeld => ?_)
            clear hK K
            refine nS_ ?_
            refine pS_ 3 34 HT_ ?_
            refine pS_ 4 35 HT_ ?_
            refine pS_ 5 36 HT_ ?_
            refine pS_ 7 38 HT_ ?_
            refine tS_ 6 37 HT_ HW_ hHeld ?_
            refine tS_ 8 39 HT_ HW_ hHeld ?_
            refine oS_ 9 40 HT_ (fun K hK => ?_)
            refine goes_ Try.func26 (by kernel_rfl) rfl #[.slice A194_1 ((rd_T53 l0_1 x26_2).f1).length c194_1, .int .i64 a0_0] (by rfl) rfl rfl (by (try simp only [List.map_toArray, List.map_cons, List.map_nil]); first | done | rfl | (simp only [List.length_drop, List.length_take]; rfl)) ?_
            with_reducible refine (spec_l11Keys.calls k2 _ _ ((rd_T53 l0_1 x26_2).f1) a0_0 true _ ?side1 ?side2 A17.out).mono ?_
            (case side1 => repeat (first | exact (Kd.C_below HR194_1.out (bw_ HB.out)) | (with_reducible refine Kd.C_alloc ?_ _) | (with_reducible refine Kd.C_drewN ?_ _) | (with_reducible refine Kd.C_drew ?_)))
            (case side2 => exact HC194_1.out)
            rintro e w41 ⟨rfl, hb⟩
            refine ⟨_, rfl, ?_⟩
            have n0_ := Aside0.mk (blk_below (bk_ BK192.out) hb)
            have n1_ := Aside0.mk (blk_below (bk_ BK195.out) hb)
            have n2_ := Aside0.mk (below_step (bw_ HB.out) hb)
            clear BK192
            clear BK195
            clear HB
            have BK192 := n0_
            have BK195 := n1_
            have HB := n2_
            clear n0_ n1_ n2_
            (try clear hb)
            (try clear hb2)
            (try clear hk)
            (try clear hi)
            refine hK.out _ _ ⟨cz_ BK195.out 0, cz_ BK195.out 1, cz_ BK192.out 0, cz_ BK192.out 1, cz_ BK192.out 2⟩ (fun hHeld => ?_)
            clear hK K
            refine nS_ ?_
            refine pS_ 10 41 HT_ ?_
            refine pS_ 11 42 HT_ ?_
            refine pS_ 12 43 HT_ ?_
            refine pS_ 13 44 HT_ ?_
            refine pS_ 14 45 HT_ ?_
            refine pS_ 15 46 HT_ ?_
            refine pU_ 16 47 HT_ ?_
            refine pU_ 17 48 HT_ ?_
            refine pU_ 18 49 HT_ ?_
            refine pU_ 19 50 HT_ ?_
            refine pU_ 20 51 HT_ ?_
            refine pU_ 21 52 HT_ ?_
            refine pU_ 22 53 HT_ ?_
            refine pU_ 23 54 HT_ ?_
            refine pU_ 24 55 HT_ ?_
            refine pU_ 25 56 HT_ ?_
            refine pS_ 26 57 HT_ ?_
            refine pS_ 27 58 HT_ ?_
            refine done_ (done_of HT_.out (by kernel_rfl)) ?_
            try go_wp2
            go_roundg k2
            case measure => have := HJ1.out; have := HK2.out; omega
            case rel => exact ⟨(wrap64 (x26_2 + 1)), (by first | rfl | (simp; done) | (simp [*]; done) | (simp [wrap64]; done)), H', ⟨by have := HJ1.out; have := HK2.out; omega⟩, ⟨by (with_reducible repeat (first | refine blk_drewN ?_ _ | refine blk_drew ?_ | refine blk_alloc ?_ _)); exact BK192.out⟩, ⟨bw_ HB.out⟩⟩
          ·replace c18 := Bool.eq_false_iff.mpr c18
           subst c18
           replace H := if_ H Bool.false_ne_true
           obtain rfl := Option.some.inj H
           have p194 : 0 ≤ (x26_2 : Int) := of_decide_eq_true (by first | (with_reducible assumption) | assumption)
           have q194 : x26_2 < (l0_1.length : Int) := of_decide_eq_true (by first | (with_reducible assumption) | assumption)
           obtain ⟨ad194, A194_1, c194_1, e194, hx194_0, hx194_1, hl194_1, hi194_1⟩ := at_T53 HR0_1.out x26_2 p194 q194
           cases e194
           (try replace hx194_0 := (HB.out.cell (World.block_lt_of_cell? w _ hx194_0)).trans hx194_0)
           (try replace hx194_1 := (HB.out.cell (World.block_lt_of_cell? w _ hx194_1)).trans hx194_1)
           have HR194_1 := Aside0.mk hi194_1
           have HC194_1 := Aside0.mk hl194_1
           clear hi194_1 hl194_1
           replace p194 := eq_true p194
           replace q194 := eq_true q194
           try go_wp2_with (first | ((with_reducible refine gate_dst (N := 4) rfl ?_); (try (refine gate_guard (by rfl) ?_; dsimp only)); refine bx_ 4 #[.string (⟨#[]⟩ : ByteArray), .slice none 0 0] 53 ?_; intro gb195 hg w42 hbox hb; have n0_ := Aside0.mk (blk_below (bk_ BK192.out) hb); have n1_ := Aside0.mk (below_step (bw_ HB.out) hb); have n2_ := Aside0.mk (hbox); have n3_ := Aside0.mk (gs_ hg (bw_ HB.out)); have n4_ := Aside0.mk (gs_ hg (bw_ HB.out)); have n5_ := Aside0.mk (nl_ hg (bk_ BK192.out)); have n6_ := Aside0.mk (ng_ hg (bk_ BK192.out)); clear BK192; clear HB; have BK192 := n0_; have HB := n1_; have BK195 := n2_; have GW195 := n3_; have GE195 := n4_; have NB192_195 := n5_; have NB195_192 := n6_; clear n0_ n1_ n2_ n3_ n4_ n5_ n6_; clear hb hbox hg; have hnb43 := NB195_192.out; have hnc43 := NB192_195.out; have hcz44_0 := cz_ BK195.out 0; have hcz44_1 := cz_ BK195.out 1; have hfz44_0 := blk_frozen BK195.out 0; have hfz44_1 := blk_frozen BK195.out 1))
           have n0_ : Aside0 (((w42.setCell ⟨gb195, 0, none⟩ (.string ((rd_T53 l0_1 x26_2).f0))).setCell ⟨gb195, 1, none⟩ (.slice A194_1 ((rd_T53 l0_1 x26_2).f1).length c194_1)).heap[gb192]? = some (.cells #[.int .i64 a0_0, .slice (some ad194) l0_1.length c0_1, .slice A0_2 l0_2.length c0_2] 31 (0, 0))) := ⟨by (with_reducible repeat (first | refine blk_drewN ?_ _ | refine blk_drew ?_ | refine blk_alloc ?_ _)); refine blk_far ?_ NB192_195.out _; (with_reducible repeat (first | refine blk_drewN ?_ _ | refine blk_drew ?_ | refine blk_alloc ?_ _)); refine blk_far ?_ NB192_195.out _; (with_reducible repeat (first | refine blk_drewN ?_ _ | refine blk_drew ?_ | refine blk_alloc ?_ _)); exact BK192.out⟩
           have n1_ : Aside0 (((w42.setCell ⟨gb195, 0, none⟩ (.string ((rd_T53 l0_1 x26_2).f0))).setCell ⟨gb195, 1, none⟩ (.slice A194_1 ((rd_T53 l0_1 x26_2).f1).length c194_1)).heap[gb195]? = some (.cells #[.string ((rd_T53 l0_1 x26_2).f0), .slice A194_1 ((rd_T53 l0_1 x26_2).f1).length c194_1] 53 (0, 0))) := ⟨by (with_reducible repeat (first | refine blk_drewN ?_ _ | refine blk_drew ?_ | refine blk_alloc ?_ _)); refine blk_put (cs := #[.string ((rd_T53 l0_1 x26_2).f0), .slice none 0 0]) ?_ 1 _ rfl; (with_reducible repeat (first | refine blk_drewN ?_ _ | refine blk_drew ?_ | refine blk_alloc ?_ _)); refine blk_put (cs := #[.string (⟨#[]⟩ : ByteArray), .slice none 0 0]) ?_ 0 _ rfl; (with_reducible repeat (first | refine blk_drewN ?_ _ | refine blk_drew ?_ | refine blk_alloc ?_ _)); exact BK195.out⟩
           have n2_ : Aside0 (Below w.heap.size w ((w42.setCell ⟨gb195, 0, none⟩ (.string ((rd_T53 l0_1 x26_2).f0))).setCell ⟨gb195, 1, none⟩ (.slice A194_1 ((rd_T53 l0_1 x26_2).f1).length c194_1))) := ⟨bw_ HB.out⟩
           (try clear BK192)
           (try clear BK195)
           (try clear HB)
           generalize ((w42.setCell ⟨gb195, 0, none⟩ (.string ((rd_T53 l0_1 x26_2).f0))).setCell ⟨gb195, 1, none⟩ (.slice A194_1 ((rd_T53 l0_1 x26_2).f1).length c194_1)) = w45 at n0_ n1_ n2_ ⊢
           have BK192 := n0_
           have BK195 := n1_
           have HB := n2_
           clear n0_ n1_ n2_
           have n0_ := Aside0.mk (blk_drew BK192.out)
           have n1_ := Aside0.mk (blk_drew BK195.out)
           have n2_ := Aside0.mk (below_drew1 HB.out)
           clear BK192
           clear BK195
           clear HB
           have BK192 := n0_
           have BK195 := n1_
           have HB := n2_
           clear n0_ n1_ n2_
           refine start_ (n := 28) (S := fun w' => w'.cell? ⟨gb195, 0, none⟩ = some (.string ((rd_T53 l0_1 x26_2).f0)) ∧ w'.cell? ⟨gb195, 1, none⟩ = some (.slice A194_1 ((rd_T53 l0_1 x26_2).f1).length c194_1) ∧ w'.cell? ⟨gb192, 0, none⟩ = some (.int .i64 a0_0) ∧ w'.cell? ⟨gb192, 1, none⟩ = some (.slice (some ad194) l0_1.length c0_1) ∧ w'.cell? ⟨gb192, 2, none⟩ = some (.slice A0_2 l0_2.length c0_2)) (ds := []) (Array.replicate 28 false) (by kernel_rfl) rfl rfl ⟨cz_ BK195.out 0, cz_ BK195.out 1, cz_ BK192.out 0, cz_ BK192.out 1, cz_ BK192.out 2⟩ (fun hHeld => ?_); refine with_tabW spec_GoodClip.tab6 spec_GoodClip.bits6 (fun HT_ HW_ => ?_)
           generalize w45.drew = w46 at BK192 BK195 HB hHeld ⊢
           refine pS_ 0 31 HT_ ?_
           refine tS_ 1 32 HT_ HW_ hHeld ?_
           refine oS_ 2 33 HT_ (fun K hK => ?_)
           refine goes_ Try.func25 (by kernel_rfl) rfl #[.string ((rd_T53 l0_1 x26_2).f0)] (by rfl) rfl rfl (by (try simp only [List.map_toArray, List.map_cons, List.map_nil]); first | done | rfl | (simp only [List.length_drop, List.length_take]; rfl)) ?_
           with_reducible refine (spec_GoodName.calls k2 ((rd_T53 l0_1 x26_2).f0) true _ A15.out).mono ?_
           rintro e w' ⟨rfl, ⟨nd, rfl⟩⟩
           refine ⟨_, rfl, ?_⟩
           refine hK.out _ _ ⟨cz_ BK195.out 0, cz_ BK195.out 1, cz_ BK192.out 0, cz_ BK192.out 1, cz_ BK192.out 2⟩ (fun hHeld => ?_)
           clear hK K
           refine nS_ ?_
           refine pS_ 3 34 HT_ ?_
           refine pS_ 4 35 HT_ ?_
           refine pS_ 5 36 HT_ ?_
           refine pS_ 7 38 HT_ ?_
           refine tS_ 6 37 HT_ HW_ hHeld ?_
           refine tS_ 8 39 HT_ HW_ hHeld ?_
           refine oS_ 9 40 HT_ (fun K hK => ?_)
           refine goes_ Try.func26 (by kernel_rfl) rfl #[.slice A194_1 ((rd_T53 l0_1 x26_2).f1).length c194_1, .int .i64 a0_0] (by rfl) rfl rfl (by (try simp only [List.map_toArray, List.map_cons, List.map_nil]); first | done | rfl | (simp only [List.length_drop, List.length_take]; rfl)) ?_
           with_reducible refine (spec_l11Keys.calls k2 _ _ ((rd_T53 l0_1 x26_2).f1) a0_0 false _ ?side1 ?side2 A17.out).mono ?_
           (case side1 => repeat (first | exact (Kd.C_below HR194_1.out (bw_ HB.out)) | (with_reducible refine Kd.C_alloc ?_ _) | (with_reducible refine Kd.C_drewN ?_ _) | (with_reducible refine Kd.C_drew ?_)))
           (case side2 => exact HC194_1.out)
           rintro e w47 ⟨rfl, hb⟩
           refine ⟨_, rfl, ?_⟩
           have n0_ := Aside0.mk (blk_below (bk_ BK192.out) hb)
           have n1_ := Aside0.mk (blk_below (bk_ BK195.out) hb)
           have n2_ := Aside0.mk (below_step (bw_ HB.out) hb)
           clear BK192
           clear BK195
           clear HB
           have BK192 := n0_
           have BK195 := n1_
           have HB := n2_
           clear n0_ n1_ n2_
           (try clear hb)
           (try clear hb2)
           (try clear hk)
           (try clear hi)
           refine hK.out _ _ ⟨cz_ BK195.out 0, cz_ BK195.out 1, cz_ BK192.out 0, cz_ BK192.out 1, cz_ BK192.out 2⟩ (fun hHeld => ?_)
           clear hK K
           refine nS_ ?_
           refine pS_ 10 41 HT_ ?_
           refine pS_ 11 42 HT_ ?_
           refine pS_ 12 43 HT_ ?_
           refine pU_ 13 44 HT_ ?_
           refine pU_ 14 45 HT_ ?_
           refine pU_ 15 46 HT_ ?_
           refine pU_ 16 47 HT_ ?_
           refine pU_ 17 48 HT_ ?_
           refine pU_ 18 49 HT_ ?_
           refine pU_ 19 50 HT_ ?_
           refine pU_ 20 51 HT_ ?_
           refine pU_ 21 52 HT_ ?_
           refine pU_ 22 53 HT_ ?_
           refine pU_ 23 54 HT_ ?_
           refine pU_ 24 55 HT_ ?_
           refine pU_ 25 56 HT_ ?_
           refine pU_ 26 57 HT_ ?_
           refine pS_ 27 58 HT_ ?_
           refine done_ (done_of HT_.out (by kernel_rfl)) ?_
           try go_wp2
           go_ret
           exact ⟨by first | rfl | (simp [errW_none, errW_some] <;> rfl) | (simp [*, errW_none, errW_some] <;> rfl), bw_ HB.out⟩
         ·replace c16 := Bool.eq_false_iff.mpr c16
          subst c16
          replace H := if_ H Bool.false_ne_true
          obtain rfl := Option.some.inj H
          have p194 : 0 ≤ (x26_2 : Int) := of_decide_eq_true (by first | (with_reducible assumption) | assumption)
          have q194 : x26_2 < (l0_1.length : Int) := of_decide_eq_true (by first | (with_reducible assumption) | assumption)
          obtain ⟨ad194, A194_1, c194_1, e194, hx194_0, hx194_1, hl194_1, hi194_1⟩ := at_T53 HR0_1.out x26_2 p194 q194
          cases e194
          (try replace hx194_0 := (HB.out.cell (World.block_lt_of_cell? w _ hx194_0)).trans hx194_0)
          (try replace hx194_1 := (HB.out.cell (World.block_lt_of_cell? w _ hx194_1)).trans hx194_1)
          have HR194_1 := Aside0.mk hi194_1
          have HC194_1 := Aside0.mk hl194_1
          clear hi194_1 hl194_1
          replace p194 := eq_true p194
          replace q194 := eq_true q194
          try go_wp2_with (first | ((with_reducible refine gate_dst (N := 4) rfl ?_); (try (refine gate_guard (by rfl) ?_; dsimp only)); refine bx_ 4 #[.string (⟨#[]⟩ : ByteArray), .slice none 0 0] 53 ?_; intro gb195 hg w48 hbox hb; have n0_ := Aside0.mk (blk_below (bk_ BK192.out) hb); have n1_ := Aside0.mk (below_step (bw_ HB.out) hb); have n2_ := Aside0.mk (hbox); have n3_ := Aside0.mk (gs_ hg (bw_ HB.out)); have n4_ := Aside0.mk (gs_ hg (bw_ HB.out)); have n5_ := Aside0.mk (nl_ hg (bk_ BK192.out)); have n6_ := Aside0.mk (ng_ hg (bk_ BK192.out)); clear BK192; clear HB; have BK192 := n0_; have HB := n1_; have BK195 := n2_; have GW195 := n3_; have GE195 := n4_; have NB192_195 := n5_; have NB195_192 := n6_; clear n0_ n1_ n2_ n3_ n4_ n5_ n6_; clear hb hbox hg; have hnb49 := NB195_192.out; have hnc49 := NB192_195.out; have hcz50_0 := cz_ BK195.out 0; have hcz50_1 := cz_ BK195.out 1; have hfz50_0 := blk_frozen BK195.out 0; have hfz50_1 := blk_frozen BK195.out 1))
          have n0_ : Aside0 (((w48.setCell ⟨gb195, 0, none⟩ (.string ((rd_T53 l0_1 x26_2).f0))).setCell ⟨gb195, 1, none⟩ (.slice A194_1 ((rd_T53 l0_1 x26_2).f1).length c194_1)).heap[gb192]? = some (.cells #[.int .i64 a0_0, .slice (some ad194) l0_1.length c0_1, .slice A0_2 l0_2.length c0_2] 31 (0, 0))) := ⟨by (with_reducible repeat (first | refine blk_drewN ?_ _ | refine blk_drew ?_ | refine blk_alloc ?_ _)); refine blk_far ?_ NB192_195.out _; (with_reducible repeat (first | refine blk_drewN ?_ _ | refine blk_drew ?_ | refine blk_alloc ?_ _)); refine blk_far ?_ NB192_195.out _; (with_reducible repeat (first | refine blk_drewN ?_ _ | refine blk_drew ?_ | refine blk_alloc ?_ _)); exact BK192.out⟩
          have n1_ : Aside0 (((w48.setCell ⟨gb195, 0, none⟩ (.string ((rd_T53 l0_1 x26_2).f0))).setCell ⟨gb195, 1, none⟩ (.slice A194_1 ((rd_T53 l0_1 x26_2).f1).length c194_1)).heap[gb195]? = some (.cells #[.string ((rd_T53 l0_1 x26_2).f0), .slice A194_1 ((rd_T53 l0_1 x26_2).f1).length c194_1] 53 (0, 0))) := ⟨by (with_reducible repeat (first | refine blk_drewN ?_ _ | refine blk_drew ?_ | refine blk_alloc ?_ _)); refine blk_put (cs := #[.string ((rd_T53 l0_1 x26_2).f0), .slice none 0 0]) ?_ 1 _ rfl; (with_reducible repeat (first | refine blk_drewN ?_ _ | refine blk_drew ?_ | refine blk_alloc ?_ _)); refine blk_put (cs := #[.string (⟨#[]⟩ : ByteArray), .slice none 0 0]) ?_ 0 _ rfl; (with_reducible repeat (first | refine blk_drewN ?_ _ | refine blk_drew ?_ | refine blk_alloc ?_ _)); exact BK195.out⟩
          have n2_ : Aside0 (Below w.heap.size w ((w48.setCell ⟨gb195, 0, none⟩ (.string ((rd_T53 l0_1 x26_2).f0))).setCell ⟨gb195, 1, none⟩ (.slice A194_1 ((rd_T53 l0_1 x26_2).f1).length c194_1))) := ⟨bw_ HB.out⟩
          (try clear BK192)
          (try clear BK195)
          (try clear HB)
          generalize ((w48.setCell ⟨gb195, 0, none⟩ (.string ((rd_T53 l0_1 x26_2).f0))).setCell ⟨gb195, 1, none⟩ (.slice A194_1 ((rd_T53 l0_1 x26_2).f1).length c194_1)) = w51 at n0_ n1_ n2_ ⊢
          have BK192 := n0_
          have BK195 := n1_
          have HB := n2_
          clear n0_ n1_ n2_
          have n0_ := Aside0.mk (blk_drew BK192.out)
          have n1_ := Aside0.mk (blk_drew BK195.out)
          have n2_ := Aside0.mk (below_drew1 HB.out)
          clear BK192
          clear BK195
          clear HB
          have BK192 := n0_
          have BK195 := n1_
          have HB := n2_
          clear n0_ n1_ n2_
          refine start_ (n := 28) (S := fun w' => w'.cell? ⟨gb195, 0, none⟩ = some (.string ((rd_T53 l0_1 x26_2).f0)) ∧ w'.cell? ⟨gb195, 1, none⟩ = some (.slice A194_1 ((rd_T53 l0_1 x26_2).f1).length c194_1)) (ds := []) (Array.replicate 28 false) (by kernel_rfl) rfl rfl ⟨cz_ BK195.out 0, cz_ BK195.out 1⟩ (fun hHeld => ?_); refine with_tabW spec_GoodClip.tab6 spec_GoodClip.bits6 (fun HT_ HW_ => ?_)
          generalize w51.drew = w52 at BK192 BK195 HB hHeld ⊢
          refine pS_ 0 31 HT_ ?_
          refine tS_ 1 32 HT_ HW_ hHeld ?_
          refine oS_ 2 33 HT_ (fun K hK => ?_)
          refine goes_ Try.func25 (by kernel_rfl) rfl #[.string ((rd_T53 l0_1 x26_2).f0)] (by rfl) rfl rfl (by (try simp only [List.map_toArray, List.map_cons, List.map_nil]); first | done | rfl | (simp only [List.length_drop, List.length_take]; rfl)) ?_
          with_reducible refine (spec_GoodName.calls k2 ((rd_T53 l0_1 x26_2).f0) false _ A15.out).mono ?_
          rintro e w' ⟨rfl, ⟨nd, rfl⟩⟩
          refine ⟨_, rfl, ?_⟩
          refine hK.out _ _ ⟨cz_ BK195.out 0, cz_ BK195.out 1⟩ (fun hHeld => ?_)
          clear hK K
          refine nS_ ?_
          refine pS_ 3 34 HT_ ?_
          refine pS_ 4 35 HT_ ?_
          refine pU_ 5 36 HT_ ?_
          refine pU_ 6 37 HT_ ?_
          refine pU_ 7 38 HT_ ?_
          refine pU_ 8 39 HT_ ?_
          refine pU_ 9 40 HT_ ?_
          refine pU_ 10 41 HT_ ?_
          refine pS_ 11 42 HT_ ?_
          refine pS_ 12 43 HT_ ?_
          refine pU_ 13 44 HT_ ?_
          refine pU_ 14 45 HT_ ?_
          refine pU_ 15 46 HT_ ?_
          refine pU_ 16 47 HT_ ?_
          refine pU_ 17 48 HT_ ?_
          refine pU_ 18 49 HT_ ?_
          refine pU_ 19 50 HT_ ?_
          refine pU_ 20 51 HT_ ?_
          refine pU_ 21 52 HT_ ?_
          refine pU_ 22 53 HT_ ?_
          refine pU_ 23 54 HT_ ?_
          refine pU_ 24 55 HT_ ?_
          refine pU_ 25 56 HT_ ?_
          refine pU_ 26 57 HT_ ?_
          refine pS_ 27 58 HT_ ?_
          refine done_ (done_of HT_.out (by kernel_rfl)) ?_
          try go_wp2
          go_ret
          exact ⟨by first | rfl | (simp [errW_none, errW_some] <;> rfl) | (simp [*, errW_none, errW_some] <;> rfl), bw_ HB.out⟩
        ·rw [if_neg c14] at H
         exact absurd H (by simp)
       ·rw [if_neg c13] at H
        exact absurd H (by simp)
      ·rw [if_neg c12] at H
       have c12b0 : decide (x26_2 < (l0_1.length : Int)) = false := decide_eq_false c12
       clear c12
       have H' := Aside0.mk H
       clear H
       have hcz53_0 := cz_ BK192.out 0
       have hcz53_1 := cz_ BK192.out 1
       have hcz53_2 := cz_ BK192.out 2
       have hfz53_0 := blk_frozen BK192.out 0
       have hfz53_1 := blk_frozen BK192.out 1
       have hfz53_2 := blk_frozen BK192.out 2
       go_wp2
       go_loopg [63] k2 (fun kq v63 w' => ∃ (x63_3 : Int), v63 = .int .i64 x63_3 ∧ Aside0 (spec_GoodClip.l1 kq l0_2 (l0_2.length : Int) x63_3 a0_0 l0_1 l0_2 = some r) ∧ Aside0 (kq ≤ k2) ∧ Aside0 (w'.heap[gb192]? = some (.cells #[.int .i64 a0_0, (.slice A0_1 l0_1.length c0_1), (.slice A0_2 l0_2.length c0_2)] 31 (0, 0))) ∧ Aside0 (Below w.heap.size w w'))
       case atStart => exact ⟨(0), (by first | rfl | (simp; done) | (simp [*]; done) | (simp [wrap64]; done)), H', ⟨Nat.le_refl _⟩, ⟨by (with_reducible repeat (first | refine blk_drewN ?_ _ | refine blk_drew ?_ | refine blk_alloc ?_ _)); exact BK192.out⟩, ⟨bw_ HB.out⟩⟩
       case round =>
        clear H'
        try clear c1
        try clear p1
        try clear q1
        try clear hx1
        try clear c2
        try clear p2
        try clear c4
        try clear p6
        try clear c12
        try clear c12b0
        try clear c13
        try clear c14
        try clear c16
        try clear c18
        try clear c19
        try clear p19
        try clear q19
        try clear hx19
        try clear c25
        try clear c26
        try clear c43
        try clear c49
        try clear hcz44_0
        try clear hcz44_1
        try clear hcz50_0
        try clear hcz50_1
        try clear hcz53_0
        try clear hcz53_1
        try clear hcz53_2
        try clear hfz44_0
        try clear hfz44_1
        try clear hfz50_0
        try clear hfz50_1
        try clear hfz53_0
        try clear hfz53_1
        try clear hfz53_2
        try clear hx194_0
        try clear hx194_1
        try clear p194
        try clear q194
        obtain ⟨x63_3, rfl, HA, HK3, BK192, HB⟩ := hrel
        cases gk with
        | zero => exact absurd HA.out (by simp [spec_GoodClip.l1])
        | succ k3 =>
         have H := HA.out
         clear HA
         simp only [spec_GoodClip.l1] at H
         by_cases c54 : x63_3 < (l0_2.length : Int)
         ·rw [if_pos c54] at H
          have c54b0 : decide (x63_3 < (l0_2.length : Int)) = true := decide_eq_true c54
          clear c54
          by_cases c55 : 0 ≤ x63_3
          ·rw [if_pos c55] at H
           have c55b0 : decide (0 ≤ x63_3) = true := decide_eq_true c55
           clear c55
           by_cases c56 : x63_3 < (l0_2.length : Int)
           ·rw [if_pos c56] at H
            have c56b0 : decide (x63_3 < (l0_2.length : Int)) = true := decide_eq_true c56
            clear c56
            have HC57 := Aside0.mk H
            clear H
            have p199 : 0 ≤ (x63_3 : Int) := of_decide_eq_true (by first | (with_reducible assumption) | assumption)
            have q199 : x63_3 < (l0_2.length : Int) := of_decide_eq_true (by first | (with_reducible assumption) | assumption)
            obtain ⟨ad199, e199, hx199_0, hx199_1⟩ := at_T57 HR0_2.out x63_3 p199 q199
            cases e199
            (try replace hx199_0 := (HB.out.cell (World.block_lt_of_cell? w _ hx199_0)).trans hx199_0)
            (try replace hx199_1 := (HB.out.cell (World.block_lt_of_cell? w _ hx199_1)).trans hx199_1)
            replace p199 := eq_true p199
            replace q199 := eq_true q199
            go_upto_region 12 with (first | ((with_reducible refine gate_dst (N := 6) rfl ?_); (try (refine gate_guard (by rfl) ?_; dsimp only)); refine bx_ 6 #[.int .i64 0, .string (⟨#[]⟩ : ByteArray)] 57 ?_; intro gb200 hg w58 hbox hb; have n0_ := Aside0.mk (blk_below (bk_ BK192.out) hb); have n1_ := Aside0.mk (below_step (bw_ HB.out) hb); have n2_ := Aside0.mk (hbox); have n3_ := Aside0.mk (gs_ hg (bw_ HB.out)); have n4_ := Aside0.mk (gs_ hg (bw_ HB.out)); have n5_ := Aside0.mk (nl_ hg (bk_ BK192.out)); have n6_ := Aside0.mk (ng_ hg (bk_ BK192.out)); clear BK192; clear HB; have BK192 := n0_; have HB := n1_; have BK200 := n2_; have GW200 := n3_; have GE200 := n4_; have NB192_200 := n5_; have NB200_192 := n6_; clear n0_ n1_ n2_ n3_ n4_ n5_ n6_; clear hb hbox hg; have hnb59 := NB200_192.out; have hnc59 := NB192_200.out; have hcz60_0 := cz_ BK200.out 0; have hcz60_1 := cz_ BK200.out 1; have hfz60_0 := blk_frozen BK200.out 0; have hfz60_1 := blk_frozen BK200.out 1))
            (try simp only [Act.put, List.setIfInBounds_toArray, List.set_cons_zero, List.set_cons_succ])
            go_cut [80] (fun v80 wc => ∃ (kq : Nat) (x80_56 : Bool), v80 = .bool x80_56 ∧ Aside0 (spec_GoodClip.j3 kq x63_3 l0_2 (l0_2.length : Int) x63_3 x80_56 a0_0 l0_1 l0_2 ((rd_T57 l0_2 x63_3).f0) ((rd_T57 l0_2 x63_3).f1) = some r) ∧ Aside0 (kq ≤ k3) ∧ Aside0 (wc.heap[gb192]? = some (.cells #[.int .i64 a0_0, (.slice A0_1 l0_1.length c0_1), (.slice (some ad199) l0_2.length c0_2)] 31 (0, 0))) ∧ Aside0 (wc.heap[gb200]? = some (.cells #[.int .i64 ((rd_T57 l0_2 x63_3).f0), .string ((rd_T57 l0_2 x63_3).f1)] 57 (0, 0))) ∧ Aside0 (Below w.heap.size w wc))
            case first =>
             have H := HC57.out
             clear HC57
             obtain ⟨t201, A610, H⟩ := bE_ H
             have A61 := Aside0.mk A610
             clear A610
             by_cases c62 : t201 = true
             ·subst c62
              replace H := it_ H rfl
              obtain ⟨t202, A630, H⟩ := bE_ H
              have A63 := Aside0.mk A630
              clear A630
              have H' := Aside0.mk H
              clear H
              have hnb64 := NB200_192.out
              have hnc64 := NB192_200.out
              have hcz65_0 := cz_ BK200.out 0
              have hcz65_1 := cz_ BK200.out 1
              have hfz65_0 := blk_frozen BK200.out 0
              have hfz65_1 := blk_frozen BK200.out 1
              have hcz66_0 := cz_ BK192.out 0
              have hcz66_1 := cz_ BK192.out 1
              have hcz66_2 := cz_ BK192.out 2
              have hfz66_0 := blk_frozen BK192.out 0
              have hfz66_1 := blk_frozen BK192.out 1
              have hfz66_2 := blk_frozen BK192.out 2
              go_wp2_with (first | ((with_reducible refine gate_callee (f := 24) rfl ?_); refine goesL_ (some 73) rfl rfl Try.func24 (by kernel_rfl) rfl #[.int .i64 ((rd_T57 l0_2 x63_3).f0), .int .i64 0, .int .i64 (wrap64 (a0_0 - 1))] rfl (by (try simp only [List.map_toArray, List.map_cons, List.map_nil]); first | done | rfl | (simp only [List.length_drop, List.length_take]; rfl)) ?_; (with_reducible refine (spec_l1In.calls ((rd_T57 l0_2 x63_3).f0) 0 (wrap64 (a0_0 - 1)) true _ A61.out).mono ?_); rintro e w' ⟨rfl, ⟨nd, rfl⟩⟩; refine ⟨_, rfl, ?_⟩) | (go_at_call 25; (with_reducible refine (spec_GoodName.calls k3 ((rd_T57 l0_2 x63_3).f1) t202 _ A63.out).mono ?_); rintro e w' ⟨rfl, ⟨nd, rfl⟩⟩))
              go_meet
              case rel => exact ⟨_, (!t202), (by first | rfl | (simp; done) | (simp [*]; done) | (simp [wrap64]; done)), H', ⟨by have := HJ1.out; have := HK2.out; have := HK3.out; first | omega | exact Nat.le_refl _⟩, ⟨by (with_reducible repeat (first | refine blk_drewN ?_ _ | refine blk_drew ?_ | refine blk_alloc ?_ _)); refine blk_far ?_ NB192_200.out _; (with_reducible repeat (first | refine blk_drewN ?_ _ | refine blk_drew ?_ | refine blk_alloc ?_ _)); refine blk_far ?_ NB192_200.out _; (with_reducible repeat (first | refine blk_drewN ?_ _ | refine blk_drew ?_ | refine blk_alloc ?_ _)); exact BK192.out⟩, ⟨by (with_reducible repeat (first | refine blk_drewN ?_ _ | refine blk_drew ?_ | refine blk_alloc ?_ _)); refine blk_put (cs := #[.int .i64 ((rd_T57 l0_2 x63_3).f0), .string (⟨#[]⟩ : ByteArray)]) ?_ 1 _ rfl; (with_reducible repeat (first | refine blk_drewN ?_ _ | refine blk_drew ?_ | refine blk_alloc ?_ _)); refine blk_put (cs := #[.int .i64 0, .string (⟨#[]⟩ : ByteArray)]) ?_ 0 _ rfl; (with_reducible repeat (first | refine blk_drewN ?_ _ | refine blk_drew ?_ | refine blk_alloc ?_ _)); exact BK200.out⟩, ⟨bw_ HB.out⟩⟩
             ·replace c62 := Bool.eq_false_iff.mpr c62
              subst c62
              replace H := if_ H Bool.false_ne_true
              have H' := Aside0.mk H
              clear H
              have hnb67 := NB200_192.out
              have hnc67 := NB192_200.out
              have hcz68_0 := cz_ BK200.out 0
              have hcz68_1 := cz_ BK200.out 1
              have hfz68_0 := blk_frozen BK200.out 0
              have hfz68_1 := blk_frozen BK200.out 1
              have hcz69_0 := cz_ BK192.out 0
              have hcz69_1 := cz_ BK192.out 1
              have hcz69_2 := cz_ BK192.out 2
              have hfz69_0 := blk_frozen BK192.out 0
              have hfz69_1 := blk_frozen BK192.out 1
              have hfz69_2 := blk_frozen BK192.out 2
              go_wp2_with (first | ((with_reducible refine gate_callee (f := 24) rfl ?_); refine goesL_ (some 73) rfl rfl Try.func24 (by kernel_rfl) rfl #[.int .i64 ((rd_T57 l0_2 x63_3).f0), .int .i64 0, .int .i64 (wrap64 (a0_0 - 1))] rfl (by (try simp only [List.map_toArray, List.map_cons, List.map_nil]); first | done | rfl | (simp only [List.length_drop, List.length_take]; rfl)) ?_; (with_reducible refine (spec_l1In.calls ((rd_T57 l0_2 x63_3).f0) 0 (wrap64 (a0_0 - 1)) false _ A61.out).mono ?_); rintro e w' ⟨rfl, ⟨nd, rfl⟩⟩; refine ⟨_, rfl, ?_⟩))
              go_meet
              case rel => exact ⟨_, (true), (by first | rfl | (simp; done) | (simp [*]; done) | (simp [wrap64]; done)), H', ⟨by have := HJ1.out; have := HK2.out; have := HK3.out; first | omega | exact Nat.le_refl _⟩, ⟨by (with_reducible repeat (first | refine blk_drewN ?_ _ | refine blk_drew ?_ | refine blk_alloc ?_ _)); refine blk_far ?_ NB192_200.out _; (with_reducible repeat (first | refine blk_drewN ?_ _ | refine blk_drew ?_ | refine blk_alloc ?_ _)); refine blk_far ?_ NB192_200.out _; (with_reducible repeat (first | refine blk_drewN ?_ _ | refine blk_drew ?_ | refine blk_alloc ?_ _)); exact BK192.out⟩, ⟨by (with_reducible repeat (first | refine blk_drewN ?_ _ | refine blk_drew ?_ | refine blk_alloc ?_ _)); refine blk_put (cs := #[.int .i64 ((rd_T57 l0_2 x63_3).f0), .string (⟨#[]⟩ : ByteArray)]) ?_ 1 _ rfl; (with_reducible repeat (first | refine blk_drewN ?_ _ | refine blk_drew ?_ | refine blk_alloc ?_ _)); refine blk_put (cs := #[.int .i64 0, .string (⟨#[]⟩ : ByteArray)]) ?_ 0 _ rfl; (with_reducible repeat (first | refine blk_drewN ?_ _ | refine blk_drew ?_ | refine blk_alloc ?_ _)); exact BK200.out⟩, ⟨bw_ HB.out⟩⟩
            case rest =>
             clear HC57
             try clear c1
             try clear p1
             try clear q1
             try clear hx1
             try clear c2
             try clear p2
             try clear c4
             try clear c5
             try clear c6
             try clear p6
             try clear c12
             try clear c12b0
             try clear c13
             try clear c14
             try clear c16
             try clear c18
             try clear c19
             try clear p19
             try clear q19
             try clear hx19
             try clear c24
             try clear c25
             try clear c26
             try clear c43
             try clear c49
             try clear c54
             try clear c54b0
             try clear c55
             try clear c55b0
             try clear c56
             try clear c56b0
             try clear c59
             try clear c62
             try clear c64
             try clear p64
             try clear c67
             try clear hcz44_0
             try clear hcz44_1
             try clear hcz50_0
             try clear hcz50_1
             try clear hcz53_0
             try clear hcz53_1
             try clear hcz53_2
             try clear hcz60_0
             try clear hcz60_1
             try clear hcz65_0
             try clear hcz65_1
             try clear hcz66_0
             try clear hcz66_1
             try clear hcz66_2
             try clear hcz68_0
             try clear hcz68_1
             try clear hcz69_0
             try clear hcz69_1
             try clear hcz69_2
             try clear hfz44_0
             try clear hfz44_1
             try clear hfz50_0
             try clear hfz50_1
             try clear hfz53_0
             try clear hfz53_1
             try clear hfz53_2
             try clear hfz60_0
             try clear hfz60_1
             try clear hfz65_0
             try clear hfz65_1
             try clear hfz66_0
             try clear hfz66_1
             try clear hfz66_2
             try clear hfz68_0
             try clear hfz68_1
             try clear hfz69_0
             try clear hfz69_1
             try clear hfz69_2
             try clear hx194_0
             try clear hx194_1
             try clear hx199_0
             try clear hx199_1
             try clear p1
             try clear p19
             try clear p194
             try clear p199
             try clear p2
             try clear p6
             try clear q1
             try clear q19
             try clear q194
             try clear q199
             obtain ⟨kq, x80_56, rfl, HA, HJ56, BK192, BK200, HB⟩ := hcut
             cases kq with
             | zero => exact absurd HA.out (by simp [spec_GoodClip.j3])
             | succ kj56 =>
              have H := HA.out
              clear HA
              simp only [spec_GoodClip.j3] at H
              by_cases c70 : x80_56 = true
              ·subst c70
               replace H := it_ H rfl
               obtain rfl := Option.some.inj H
               go_wp2
               go_ret
               exact ⟨by first | rfl | (simp [errW_none, errW_some] <;> rfl) | (simp [*, errW_none, errW_some] <;> rfl), bw_ HB.out⟩
              ·replace c70 := Bool.eq_false_iff.mpr c70
               subst c70
               replace H := if_ H Bool.false_ne_true
               by_cases c71 : x63_3 > 0
               ·rw [if_pos c71] at H
                have c71b0 : decide (0 < x63_3) = true := decide_eq_true c71
                clear c71
                obtain ⟨ji72, hji72⟩ : ∃ j_ : Int, (wrap64 (x63_3 - 1)) = j_ := ⟨_, rfl⟩
                replace H : (if 0 ≤ (ji72) then (if (ji72) < (l0_2.length : Int) then (if ((rd_T57 l0_2 (ji72)).f0) > ((rd_T57 l0_2 x63_3).f0) then (some false) else (if ((rd_T57 l0_2 (ji72)).f0) = ((rd_T57 l0_2 x63_3).f0) then (if ((Op.bytesLess (((rd_T57 l0_2 (ji72)).f1).toList) ((rd_T57 l0_2 x63_3).f1).toList) = true) then (spec_GoodClip.l1 kj56 l0_2 (l0_2.length : Int) (wrap64 (x63_3 + 1)) a0_0 l0_1 l0_2) else (some false)) else (spec_GoodClip.l1 kj56 l0_2 (l0_2.length : Int) (wrap64 (x63_3 + 1)) a0_0 l0_1 l0_2))) else (none)) else (none)) = some r := by first | (rw [hji72] at H; exact H) | (simp only [hji72] at H ⊢; exact H)
                have hji72w : (IntKind.i64.wrap (x63_3 - 1)) = ji72 := (i64_w _).trans hji72
                by_cases c73 : 0 ≤ (ji72)
                ·rw [if_pos c73] at H
                 have c73b0 : decide (0 ≤ (ji72)) = true := decide_eq_true c73
                 clear c73
                 by_cases c74 : (ji72) < (l0_2.length : Int)
                 ·rw [if_pos c74] at H
                  have c74b0 : decide ((ji72) < (l0_2.length : Int)) = true := decide_eq_true c74
                  clear c74
                  by_cases c75 : ((rd_T57 l0_2 (ji72)).f0) > ((rd_T57 l0_2 x63_3).f0)
                  ·rw [if_pos c75] at H
                   have c75b0 : decide (((rd_T57 l0_2 x63_3).f0) < ((rd_T57 l0_2 (ji72)).f0)) = true := decide_eq_true c75
                   clear c75
                   obtain rfl := Option.some.inj H
                   try go_wp2
                   have n0_ := Aside0.mk (blk_drew BK192.out)
                   have n1_ := Aside0.mk (blk_drew BK200.out)
                   have n2_ := Aside0.mk (below_drew1 HB.out)
                   clear BK192
                   clear BK200
                   clear HB
                   have BK192 := n0_
                   have BK200 := n1_
                   have HB := n2_
                   clear n0_ n1_ n2_
                   have p203 : 0 ≤ ((ji72) : Int) := of_decide_eq_true (by first | (with_reducible assumption) | assumption)
                   have q203 : (ji72) < (l0_2.length : Int) := of_decide_eq_true (by first | (with_reducible assumption) | assumption)
                   obtain ⟨ad203, e203, hx203_0, hx203_1⟩ := at_T57 HR0_2.out (ji72) p203 q203
                   have hw203_1 := hx203_1
                   have hw203_0 := hx203_0
                   obtain rfl : ad199 = ad203 := (by injection e203)
                   (try replace hx203_0 := (HB.out.cell (World.block_lt_of_cell? w _ hx203_0)).trans hx203_0)
                   (try replace hx203_1 := (HB.out.cell (World.block_lt_of_cell? w _ hx203_1)).trans hx203_1)
                   replace p203 := eq_true p203
                   replace q203 := eq_true q203
                   refine start_ (n := 38) (S := fun w' => w'.cell? ⟨gb192, 0, none⟩ = some (.int .i64 a0_0) ∧ w'.cell? ⟨gb192, 1, none⟩ = some (.slice A0_1 l0_1.length c0_1) ∧ w'.cell? ⟨gb192, 2, none⟩ = some (.slice (some ad199) l0_2.length c0_2) ∧ w'.cell? ⟨gb200, 0, none⟩ = some (.int .i64 ((rd_T57 l0_2 x63_3).f0)) ∧ w'.cell? ⟨gb200, 1, none⟩ = some (.string ((rd_T57 l0_2 x63_3).f1)) ∧ w'.cell? (ad199.add (((ji72)).toNat * 2)) = some (.int .i64 ((rd_T57 l0_2 (ji72)).f0)) ∧ w'.cell? ⟨(ad199.add (((ji72)).toNat * 2)).block, (ad199.add (((ji72)).toNat * 2)).off + 1, none⟩ = some (.string ((rd_T57 l0_2 (ji72)).f1))) (ds := []) (Array.replicate 38 false) (by kernel_rfl) rfl rfl ⟨cz_ BK192.out 0, cz_ BK192.out 1, cz_ BK192.out 2, cz_ BK200.out 0, cz_ BK200.out 1, ((HB.out.cell (World.block_lt_of_cell? w _ hw203_0)).trans hw203_0), ((HB.out.cell (World.block_lt_of_cell? w _ hw203_1)).trans hw203_1)⟩ (fun hHeld => ?_); refine with_tabW spec_GoodClip.tab14 spec_GoodClip.bits14 (fun HT_ HW_ => ?_)
                   generalize wc.drew = w76 at BK192 BK200 HB hx203_0 hx203_1 hHeld ⊢
                   refine pS_ 0 81 HT_ ?_
                   refine pS_ 1 82 HT_ ?_
                   refine pS_ 2 83 HT_ ?_
                   refine pS_ 3 84 HT_ ?_
                   refine pS_ 5 86 HT_ ?_
                   refine pS_ 6 87 HT_ ?_
                   refine pS_ 10 91 HT_ ?_
                   refine tS_ 4 85 HT_ HW_ hHeld ?_
                   refine pS_ 7 88 HT_ ?_
                   refine pS_ 8 89 HT_ ?_
                   refine tS_ 9 90 HT_ HW_ hHeld ?_
                   refine tS_ 11 92 HT_ HW_ hHeld ?_
                   refine pS_ 12 93 HT_ ?_
                   refine pS_ 13 94 HT_ ?_
                   refine pU_ 14 95 HT_ ?_
                   refine pU_ 15 96 HT_ ?_
                   refine pU_ 16 97 HT_ ?_
                   refine pU_ 17 98 HT_ ?_
                   refine pU_ 18 99 HT_ ?_
                   refine pU_ 19 100 HT_ ?_
                   refine pU_ 20 101 HT_ ?_
                   refine pU_ 21 102 HT_ ?_
                   refine pU_ 22 103 HT_ ?_
                   refine pU_ 23 104 HT_ ?_
                   refine pU_ 24 105 HT_ ?_
                   refine pU_ 25 106 HT_ ?_
                   refine pU_ 26 107 HT_ ?_
                   refine pU_ 27 108 HT_ ?_
                   refine pU_ 28 109 HT_ ?_
                   refine pU_ 29 110 HT_ ?_
                   refine pU_ 30 111 HT_ ?_
                   refine pU_ 31 112 HT_ ?_
                   refine pU_ 32 113 HT_ ?_
                   refine pU_ 33 114 HT_ ?_
                   refine pU_ 34 115 HT_ ?_
                   refine pU_ 35 116 HT_ ?_
                   refine pS_ 36 117 HT_ ?_
                   refine pS_ 37 118 HT_ ?_
                   refine done_ (done_of HT_.out (by kernel_rfl)) ?_
                   try go_wp2
                   go_ret
                   exact ⟨by first | rfl | (simp [errW_none, errW_some] <;> rfl) | (simp only [← hji72]; first | rfl | (simp [errW_none, errW_some] <;> rfl)) | (simp [*, errW_none, errW_some] <;> rfl), bw_ HB.out⟩
                  ·rw [if_neg c75] at H
                   have c75b0 : decide (((rd_T57 l0_2 x63_3).f0) < ((rd_T57 l0_2 (ji72)).f0)) = false := decide_eq_false c75
                   clear c75
                   by_cases c77 : ((rd_T57 l0_2 (ji72)).f0) = ((rd_T57 l0_2 x63_3).f0)
                   ·rw [if_pos c77] at H
                    have c77b0 : (((rd_T57 l0_2 (ji72)).f0) == ((rd_T57 l0_2 x63_3).f0)) = true := beq_iff_eq.mpr c77
                    have c77b1 : (((rd_T57 l0_2 (ji72)).f0) != ((rd_T57 l0_2 x63_3).f0)) = false := bne_eq_false_iff_eq.mpr c77
                    clear c77
                    by_cases c78 : ((Op.bytesLess (((rd_T57 l0_2 (ji72)).f1).toList) ((rd_T57 l0_2 x63_3).f1).toList) = true)
                    ·rw [if_pos c78] at H
                     have c78b0 : (Op.bytesLess (((rd_T57 l0_2 (ji72)).f1).toList) ((rd_T57 l0_2 x63_3).f1).toList) = true := c78
                     clear c78
                     have H' := Aside0.mk H
                     clear H
                     try go_wp2
                     have n0_ := Aside0.mk (blk_drew BK192.out)
                     have n1_ := Aside0.mk (blk_drew BK200.out)
                     have n2_ := Aside0.mk (below_drew1 HB.out)
                     clear BK192
                     clear BK200
                     clear HB
                     have BK192 := n0_
                     have BK200 := n1_
                     have HB := n2_
                     clear n0_ n1_ n2_
                     have p203 : 0 ≤ ((ji72) : Int) := of_decide_eq_true (by first | (with_reducible assumption) | assumption)
                     have q203 : (ji72) < (l0_2.length : Int) := of_decide_eq_true (by first | (with_reducible assumption) | assumption)
                     obtain ⟨ad203, e203, hx203_0, hx203_1⟩ := at_T57 HR0_2.out (ji72) p203 q203
                     have hw203_1 := hx203_1
                     have hw203_0 := hx203_0
                     obtain rfl : ad199 = ad203 := (by injection e203)
                     (try replace hx203_0 := (HB.out.cell (World.block_lt_of_cell? w _ hx203_0)).trans hx203_0)
                     (try replace hx203_1 := (HB.out.cell (World.block_lt_of_cell? w _ hx203_1)).trans hx203_1)
                     replace p203 := eq_true p203
                     replace q203 := eq_true q203
                     have p204 : 0 ≤ ((ji72) : Int) := of_decide_eq_true (by first | (with_reducible assumption) | assumption)
                     have q204 : (ji72) < (l0_2.length : Int) := of_decide_eq_true (by first | (with_reducible assumption) | assumption)
                     obtain ⟨ad204, e204, hx204_0, hx204_1⟩ := at_T57 HR0_2.out (ji72) p204 q204
                     have hw204_1 := hx204_1
                     have hw204_0 := hx204_0
                     obtain rfl : ad199 = ad204 := (by injection e204)
                     (try replace hx204_0 := (HB.out.cell (World.block_lt_of_cell? w _ hx204_0)).trans hx204_0)
                     (try replace hx204_1 := (HB.out.cell (World.block_lt_of_cell? w _ hx204_1)).trans hx204_1)
                     replace p204 := eq_true p204
                     replace q204 := eq_true q204
                     have p205 : 0 ≤ ((ji72) : Int) := of_decide_eq_true (by first | (with_reducible assumption) | assumption)
                     have q205 : (ji72) < (l0_2.length : Int) := of_decide_eq_true (by first | (with_reducible assumption) | assumption)
                     obtain ⟨ad205, e205, hx205_0, hx205_1⟩ := at_T57 HR0_2.out (ji72) p205 q205
                     have hw205_1 := hx205_1
                     have hw205_0 := hx205_0
                     obtain rfl : ad199 = ad205 := (by injection e205)
                     (try replace hx205_0 := (HB.out.cell (World.block_lt_of_cell? w _ hx205_0)).trans hx205_0)
                     (try replace hx205_1 := (HB.out.cell (World.block_lt_of_cell? w _ hx205_1)).trans hx205_1)
                     replace p205 := eq_true p205
                     replace q205 := eq_true q205
                     refine start_ (n := 38) (S := fun w' => w'.cell? ⟨gb192, 0, none⟩ = some (.int .i64 a0_0) ∧ w'.cell? ⟨gb192, 1, none⟩ = some (.slice A0_1 l0_1.length c0_1) ∧ w'.cell? ⟨gb192, 2, none⟩ = some (.slice (some ad199) l0_2.length c0_2) ∧ w'.cell? ⟨gb200, 0, none⟩ = some (.int .i64 ((rd_T57 l0_2 x63_3).f0)) ∧ w'.cell? ⟨gb200, 1, none⟩ = some (.string ((rd_T57 l0_2 x63_3).f1)) ∧ w'.cell? (ad199.add (((ji72)).toNat * 2)) = some (.int .i64 ((rd_T57 l0_2 (ji72)).f0)) ∧ w'.cell? ⟨(ad199.add (((ji72)).toNat * 2)).block, (ad199.add (((ji72)).toNat * 2)).off + 1, none⟩ = some (.string ((rd_T57 l0_2 (ji72)).f1)) ∧ w'.cell? (ad199.add (((ji72)).toNat * 2)) = some (.int .i64 ((rd_T57 l0_2 (ji72)).f0)) ∧ w'.cell? ⟨(ad199.add (((ji72)).toNat * 2)).block, (ad199.add (((ji72)).toNat * 2)).off + 1, none⟩ = some (.string ((rd_T57 l0_2 (ji72)).f1)) ∧ w'.cell? (ad199.add (((ji72)).toNat * 2)) = some (.int .i64 ((rd_T57 l0_2 (ji72)).f0)) ∧ w'.cell? ⟨(ad199.add (((ji72)).toNat * 2)).block, (ad199.add (((ji72)).toNat * 2)).off + 1, none⟩ = some (.string ((rd_T57 l0_2 (ji72)).f1))) (ds := []) (Array.replicate 38 false) (by kernel_rfl) rfl rfl ⟨cz_ BK192.out 0, cz_ BK192.out 1, cz_ BK192.out 2, cz_ BK200.out 0, cz_ BK200.out 1, ((HB.out.cell (World.block_lt_of_cell? w _ hw203_0)).trans hw203_0), ((HB.out.cell (World.block_lt_of_cell? w _ hw203_1)).trans hw203_1), ((HB.out.cell (World.block_lt_of_cell? w _ hw204_0)).trans hw204_0), ((HB.out.cell (World.block_lt_of_cell? w _ hw204_1)).trans hw204_1), ((HB.out.cell (World.block_lt_of_cell? w _ hw205_0)).trans hw205_0), ((HB.out.cell (World.block_lt_of_cell? w _ hw205_1)).trans hw205_1)⟩ (fun hHeld => ?_); refine with_tabW spec_GoodClip.tab14 spec_GoodClip.bits14 (fun HT_ HW_ => ?_)
                     generalize wc.drew = w79 at BK192 BK200 HB hx203_0 hx203_1 hx204_0 hx204_1 hx205_0 hx205_1 hHeld ⊢
                     refine pS_ 0 81 HT_ ?_
                     refine pS_ 1 82 HT_ ?_
                     refine pS_ 2 83 HT_ ?_
                     refine pS_ 3 84 HT_ ?_
                     refine pS_ 5 86 HT_ ?_
                     refine pS_ 6 87 HT_ ?_
                     refine pS_ 10 91 HT_ ?_
                     refine tS_ 4 85 HT_ HW_ hHeld ?_
                     refine pS_ 7 88 HT_ ?_
                     refine pS_ 8 89 HT_ ?_
                     refine tS_ 9 90 HT_ HW_ hHeld ?_
                     refine tS_ 11 92 HT_ HW_ hHeld ?_
                     refine pS_ 12 93 HT_ ?_
                     refine pS_ 13 94 HT_ ?_
                     refine pS_ 14 95 HT_ ?_
                     refine pS_ 16 97 HT_ ?_
                     refine pS_ 17 98 HT_ ?_
                     refine pS_ 21 102 HT_ ?_
                     refine tS_ 15 96 HT_ HW_ hHeld ?_
                     refine pS_ 18 99 HT_ ?_
                     refine pS_ 19 100 HT_ ?_
                     refine tS_ 20 101 HT_ HW_ hHeld ?_
                     refine tS_ 22 103 HT_ HW_ hHeld ?_
                     refine pS_ 23 104 HT_ ?_
                     refine pS_ 24 105 HT_ ?_
                     refine pS_ 25 106 HT_ ?_
                     refine pS_ 27 108 HT_ ?_
                     refine pS_ 28 109 HT_ ?_
                     refine pS_ 32 113 HT_ ?_
                     refine tS_ 26 107 HT_ HW_ hHeld ?_
                     refine pS_ 29 110 HT_ ?_
                     refine pS_ 30 111 HT_ ?_
                     refine tS_ 31 112 HT_ HW_ hHeld ?_
                     refine tS_ 33 114 HT_ HW_ hHeld ?_
                     refine pS_ 34 115 HT_ ?_
                     refine pS_ 35 116 HT_ ?_
                     refine pS_ 36 117 HT_ ?_
                     refine pS_ 37 118 HT_ ?_
                     refine done_ (done_of HT_.out (by kernel_rfl)) ?_
                     try go_wp2
                     go_roundg kj56
                     case measure => have := HJ1.out; have := HK2.out; have := HK3.out; have := HJ56.out; omega
                     case rel => exact ⟨(wrap64 (x63_3 + 1)), (by first | rfl | (simp; done) | (simp [*]; done) | (simp [wrap64]; done)), H', ⟨by have := HJ1.out; have := HK2.out; have := HK3.out; have := HJ56.out; omega⟩, ⟨by (with_reducible repeat (first | refine blk_drewN ?_ _ | refine blk_drew ?_ | refine blk_alloc ?_ _)); exact BK192.out⟩, ⟨bw_ HB.out⟩⟩
                    ·rw [if_neg c78] at H
                     have c78b0 : (Op.bytesLess (((rd_T57 l0_2 (ji72)).f1).toList) ((rd_T57 l0_2 x63_3).f1).toList) = false := by simpa using c78
                     clear c78
                     obtain rfl := Option.some.inj H
                     try go_wp2
                     have n0_ := Aside0.mk (blk_drew BK192.out)
                     have n1_ := Aside0.mk (blk_drew BK200.out)
                     have n2_ := Aside0.mk (below_drew1 HB.out)
                     clear BK192
                     clear BK200
                     clear HB
                     have BK192 := n0_
                     have BK200 := n1_
                     have HB := n2_
                     clear n0_ n1_ n2_
                     have p203 : 0 ≤ ((ji72) : Int) := of_decide_eq_true (by first | (with_reducible assumption) | assumption)
                     have q203 : (ji72) < (l0_2.length : Int) := of_decide_eq_true (by first | (with_reducible assumption) | assumption)
                     obtain ⟨ad203, e203, hx203_0, hx203_1⟩ := at_T57 HR0_2.out (ji72) p203 q203
                     have hw203_1 := hx203_1
                     have hw203_0 := hx203_0
                     obtain rfl : ad199 = ad203 := (by injection e203)
                     (try replace hx203_0 := (HB.out.cell (World.block_lt_of_cell? w _ hx203_0)).trans hx203_0)
                     (try replace hx203_1 := (HB.out.cell (World.block_lt_of_cell? w _ hx203_1)).trans hx203_1)
                     replace p203 := eq_true p203
                     replace q203 := eq_true q203
                     have p204 : 0 ≤ ((ji72) : Int) := of_decide_eq_true (by first | (with_reducible assumption) | assumption)
                     have q204 : (ji72) < (l0_2.length : Int) := of_decide_eq_true (by first | (with_reducible assumption) | assumption)
                     obtain ⟨ad204, e204, hx204_0, hx204_1⟩ := at_T57 HR0_2.out (ji72) p204 q204
                     have hw204_1 := hx204_1
                     have hw204_0 := hx204_0
                     obtain rfl : ad199 = ad204 := (by injection e204)
                     (try replace hx204_0 := (HB.out.cell (World.block_lt_of_cell? w _ hx204_0)).trans hx204_0)
                     (try replace hx204_1 := (HB.out.cell (World.block_lt_of_cell? w _ hx204_1)).trans hx204_1)
                     replace p204 := eq_true p204
                     replace q204 := eq_true q204
                     have p205 : 0 ≤ ((ji72) : Int) := of_decide_eq_true (by first | (with_reducible assumption) | assumption)
                     have q205 : (ji72) < (l0_2.length : Int) := of_decide_eq_true (by first | (with_reducible assumption) | assumption)
                     obtain ⟨ad205, e205, hx205_0, hx205_1⟩ := at_T57 HR0_2.out (ji72) p205 q205
                     have hw205_1 := hx205_1
                     have hw205_0 := hx205_0
                     obtain rfl : ad199 = ad205 := (by injection e205)
                     (try replace hx205_0 := (HB.out.cell (World.block_lt_of_cell? w _ hx205_0)).trans hx205_0)
                     (try replace hx205_1 := (HB.out.cell (World.block_lt_of_cell? w _ hx205_1)).trans hx205_1)
                     replace p205 := eq_true p205
                     replace q205 := eq_true q205
                     refine start_ (n := 38) (S := fun w' => w'.cell? ⟨gb192, 0, none⟩ = some (.int .i64 a0_0) ∧ w'.cell? ⟨gb192, 1, none⟩ = some (.slice A0_1 l0_1.length c0_1) ∧ w'.cell? ⟨gb192, 2, none⟩ = some (.slice (some ad199) l0_2.length c0_2) ∧ w'.cell? ⟨gb200, 0, none⟩ = some (.int .i64 ((rd_T57 l0_2 x63_3).f0)) ∧ w'.cell? ⟨gb200, 1, none⟩ = some (.string ((rd_T57 l0_2 x63_3).f1)) ∧ w'.cell? (ad199.add (((ji72)).toNat * 2)) = some (.int .i64 ((rd_T57 l0_2 (ji72)).f0)) ∧ w'.cell? ⟨(ad199.add (((ji72)).toNat * 2)).block, (ad199.add (((ji72)).toNat * 2)).off + 1, none⟩ = some (.string ((rd_T57 l0_2 (ji72)).f1)) ∧ w'.cell? (ad199.add (((ji72)).toNat * 2)) = some (.int .i64 ((rd_T57 l0_2 (ji72)).f0)) ∧ w'.cell? ⟨(ad199.add (((ji72)).toNat * 2)).block, (ad199.add (((ji72)).toNat * 2)).off + 1, none⟩ = some (.string ((rd_T57 l0_2 (ji72)).f1)) ∧ w'.cell? (ad199.add (((ji72)).toNat * 2)) = some (.int .i64 ((rd_T57 l0_2 (ji72)).f0)) ∧ w'.cell? ⟨(ad199.add (((ji72)).toNat * 2)).block, (ad199.add (((ji72)).toNat * 2)).off + 1, none⟩ = some (.string ((rd_T57 l0_2 (ji72)).f1))) (ds := []) (Array.replicate 38 false) (by kernel_rfl) rfl rfl ⟨cz_ BK192.out 0, cz_ BK192.out 1, cz_ BK192.out 2, cz_ BK200.out 0, cz_ BK200.out 1, ((HB.out.cell (World.block_lt_of_cell? w _ hw203_0)).trans hw203_0), ((HB.out.cell (World.block_lt_of_cell? w _ hw203_1)).trans hw203_1), ((HB.out.cell (World.block_lt_of_cell? w _ hw204_0)).trans hw204_0), ((HB.out.cell (World.block_lt_of_cell? w _ hw204_1)).trans hw204_1), ((HB.out.cell (World.block_lt_of_cell? w _ hw205_0)).trans hw205_0), ((HB.out.cell (World.block_lt_of_cell? w _ hw205_1)).trans hw205_1)⟩ (fun hHeld => ?_); refine with_tabW spec_GoodClip.tab14 spec_GoodClip.bits14 (fun HT_ HW_ => ?_)
                     generalize wc.drew = w80 at BK192 BK200 HB hx203_0 hx203_1 hx204_0 hx204_1 hx205_0 hx205_1 hHeld ⊢
                     refine pS_ 0 81 HT_ ?_
                     refine pS_ 1 82 HT_ ?_
                     refine pS_ 2 83 HT_ ?_
                     refine pS_ 3 84 HT_ ?_
                     refine pS_ 5 86 HT_ ?_
                     refine pS_ 6 87 HT_ ?_
                     refine pS_ 10 91 HT_ ?_
                     refine tS_ 4 85 HT_ HW_ hHeld ?_
                     refine pS_ 7 88 HT_ ?_
                     refine pS_ 8 89 HT_ ?_
                     refine tS_ 9 90 HT_ HW_ hHeld ?_
                     refine tS_ 11 92 HT_ HW_ hHeld ?_
                     refine pS_ 12 93 HT_ ?_
                     refine pS_ 13 94 HT_ ?_
                     refine pS_ 14 95 HT_ ?_
                     refine pS_ 16 97 HT_ ?_
                     refine pS_ 17 98 HT_ ?_
                     refine pS_ 21 102 HT_ ?_
                     refine tS_ 15 96 HT_ HW_ hHeld ?_
                     refine pS_ 18 99 HT_ ?_
                     refine pS_ 19 100 HT_ ?_
                     refine tS_ 20 101 HT_ HW_ hHeld ?_
                     refine tS_ 22 103 HT_ HW_ hHeld ?_
                     refine pS_ 23 104 HT_ ?_
                     refine pS_ 24 105 HT_ ?_
                     refine pS_ 25 106 HT_ ?_
                     refine pS_ 27 108 HT_ ?_
                     refine pS_ 28 109 HT_ ?_
                     refine pS_ 32 113 HT_ ?_
                     refine tS_ 26 107 HT_ HW_ hHeld ?_
                     refine pS_ 29 110 HT_ ?_
                     refine pS_ 30 111 HT_ ?_
                     refine tS_ 31 112 HT_ HW_ hHeld ?_
                     refine tS_ 33 114 HT_ HW_ hHeld ?_
                     refine pS_ 34 115 HT_ ?_
                     refine pS_ 35 116 HT_ ?_
                     refine pS_ 36 117 HT_ ?_
                     refine pS_ 37 118 HT_ ?_
                     refine done_ (done_of HT_.out (by kernel_rfl)) ?_
                     try go_wp2
                     go_ret
                     exact ⟨by first | rfl | (simp [errW_none, errW_some] <;> rfl) | (simp only [← hji72]; first | rfl | (simp [errW_none, errW_some] <;> rfl)) | (simp [*, errW_none, errW_some] <;> rfl), bw_ HB.out⟩
                   ·rw [if_neg c77] at H
                    have c77b0 : (((rd_T57 l0_2 (ji72)).f0) == ((rd_T57 l0_2 x63_3).f0)) = false := beq_eq_false_iff_ne.mpr c77
                    have c77b1 : (((rd_T57 l0_2 (ji72)).f0) != ((rd_T57 l0_2 x63_3).f0)) = true := bne_iff_ne.mpr c77
                    have H' := Aside0.mk H
                    clear H
                    try go_wp2
                    have n0_ := Aside0.mk (blk_drew BK192.out)
                    have n1_ := Aside0.mk (blk_drew BK200.out)
                    have n2_ := Aside0.mk (below_drew1 HB.out)
                    clear BK192
                    clear BK200
                    clear HB
                    have BK192 := n0_
                    have BK200 := n1_
                    have HB := n2_
                    clear n0_ n1_ n2_
                    have p203 : 0 ≤ ((ji72) : Int) := of_decide_eq_true (by first | (with_reducible assumption) | assumption)
                    have q203 : (ji72) < (l0_2.length : Int) := of_decide_eq_true (by first | (with_reducible assumption) | assumption)
                    obtain ⟨ad203, e203, hx203_0, hx203_1⟩ := at_T57 HR0_2.out (ji72) p203 q203
                    have hw203_1 := hx203_1
                    have hw203_0 := hx203_0
                    obtain rfl : ad199 = ad203 := (by injection e203)
                    (try replace hx203_0 := (HB.out.cell (World.block_lt_of_cell? w _ hx203_0)).trans hx203_0)
                    (try replace hx203_1 := (HB.out.cell (World.block_lt_of_cell? w _ hx203_1)).trans hx203_1)
                    replace p203 := eq_true p203
                    replace q203 := eq_true q203
                    have p204 : 0 ≤ ((ji72) : Int) := of_decide_eq_true (by first | (with_reducible assumption) | assumption)
                    have q204 : (ji72) < (l0_2.length : Int) := of_decide_eq_true (by first | (with_reducible assumption) | assumption)
                    obtain ⟨ad204, e204, hx204_0, hx204_1⟩ := at_T57 HR0_2.out (ji72) p204 q204
                    have hw204_1 := hx204_1
                    have hw204_0 := hx204_0
                    obtain rfl : ad199 = ad204 := (by injection e204)
                    (try replace hx204_0 := (HB.out.cell (World.block_lt_of_cell? w _ hx204_0)).trans hx204_0)
                    (try replace hx204_1 := (HB.out.cell (World.block_lt_of_cell? w _ hx204_1)).trans hx204_1)
                    replace p204 := eq_true p204
                    replace q204 := eq_true q204
                    refine start_ (n := 38) (S := fun w' => w'.cell? ⟨gb192, 0, none⟩ = some (.int .i64 a0_0) ∧ w'.cell? ⟨gb192, 1, none⟩ = some (.slice A0_1 l0_1.length c0_1) ∧ w'.cell? ⟨gb192, 2, none⟩ = some (.slice (some ad199) l0_2.length c0_2) ∧ w'.cell? ⟨gb200, 0, none⟩ = some (.int .i64 ((rd_T57 l0_2 x63_3).f0)) ∧ w'.cell? ⟨gb200, 1, none⟩ = some (.string ((rd_T57 l0_2 x63_3).f1)) ∧ w'.cell? (ad199.add (((ji72)).toNat * 2)) = some (.int .i64 ((rd_T57 l0_2 (ji72)).f0)) ∧ w'.cell? ⟨(ad199.add (((ji72)).toNat * 2)).block, (ad199.add (((ji72)).toNat * 2)).off + 1, none⟩ = some (.string ((rd_T57 l0_2 (ji72)).f1)) ∧ w'.cell? (ad199.add (((ji72)).toNat * 2)) = some (.int .i64 ((rd_T57 l0_2 (ji72)).f0)) ∧ w'.cell? ⟨(ad199.add (((ji72)).toNat * 2)).block, (ad199.add (((ji72)).toNat * 2)).off + 1, none⟩ = some (.string ((rd_T57 l0_2 (ji72)).f1))) (ds := []) (Array.replicate 38 false) (by kernel_rfl) rfl rfl ⟨cz_ BK192.out 0, cz_ BK192.out 1, cz_ BK192.out 2, cz_ BK200.out 0, cz_ BK200.out 1, ((HB.out.cell (World.block_lt_of_cell? w _ hw203_0)).trans hw203_0), ((HB.out.cell (World.block_lt_of_cell? w _ hw203_1)).trans hw203_1), ((HB.out.cell (World.block_lt_of_cell? w _ hw204_0)).trans hw204_0), ((HB.out.cell (World.block_lt_of_cell? w _ hw204_1)).trans hw204_1)⟩ (fun hHeld => ?_); refine with_tabW spec_GoodClip.tab14 spec_GoodClip.bits14 (fun HT_ HW_ => ?_)
                    generalize wc.drew = w81 at BK192 BK200 HB hx203_0 hx203_1 hx204_0 hx204_1 hHeld ⊢
                    refine pS_ 0 81 HT_ ?_
                    refine pS_ 1 82 HT_ ?_
                    refine pS_ 2 83 HT_ ?_
                    refine pS_ 3 84 HT_ ?_
                    refine pS_ 5 86 HT_ ?_
                    refine pS_ 6 87 HT_ ?_
                    refine pS_ 10 91 HT_ ?_
                    refine tS_ 4 85 HT_ HW_ hHeld ?_
                    refine pS_ 7 88 HT_ ?_
                    refine pS_ 8 89 HT_ ?_
                    refine tS_ 9 90 HT_ HW_ hHeld ?_
                    refine tS_ 11 92 HT_ HW_ hHeld ?_
                    refine pS_ 12 93 HT_ ?_
                    refine pS_ 13 94 HT_ ?_
                    refine pS_ 14 95 HT_ ?_
                    refine pS_ 16 97 HT_ ?_
                    refine pS_ 17 98 HT_ ?_
                    refine pS_ 21 102 HT_ ?_
                    refine tS_ 15 96 HT_ HW_ hHeld ?_
                    refine pS_ 18 99 HT_ ?_
                    refine pS_ 19 100 HT_ ?_
                    refine tS_ 20 101 HT_ HW_ hHeld ?_
                    refine tS_ 22 103 HT_ HW_ hHeld ?_
                    refine pS_ 23 104 HT_ ?_
                    refine pS_ 24 105 HT_ ?_
                    refine pU_ 25 106 HT_ ?_
                    refine pU_ 26 107 HT_ ?_
                    refine pU_ 27 108 HT_ ?_
                    refine pU_ 28 109 HT_ ?_
                    refine pU_ 29 110 HT_ ?_
                    refine pU_ 30 111 HT_ ?_
                    refine pU_ 31 112 HT_ ?_
                    refine pU_ 32 113 HT_ ?_
                    refine pU_ 33 114 HT_ ?_
                    refine pU_ 34 115 HT_ ?_
                    refine pS_ 35 116 HT_ ?_
                    refine pS_ 36 117 HT_ ?_
                    refine pS_ 37 118 HT_ ?_
                    refine done_ (done_of HT_.out (by kernel_rfl)) ?_
                    try go_wp2
                    go_roundg kj56
                    case measure => have := HJ1.out; have := HK2.out; have := HK3.out; have := HJ56.out; omega
                    case rel => exact ⟨(wrap64 (x63_3 + 1)), (by first | rfl | (simp; done) | (simp [*]; done) | (simp [wrap64]; done)), H', ⟨by have := HJ1.out; have := HK2.out; have := HK3.out; have := HJ56.out; omega⟩, ⟨by (with_reducible repeat (first | refine blk_drewN ?_ _ | refine blk_drew ?_ | refine blk_alloc ?_ _)); exact BK192.out⟩, ⟨bw_ HB.out⟩⟩
                 ·rw [if_neg c74] at H
                  exact absurd H (by simp)
                ·rw [if_neg c73] at H
                 exact absurd H (by simp)
               ·rw [if_neg c71] at H
                have c71b0 : decide (0 < x63_3) = false := decide_eq_false c71
                clear c71
                have H' := Aside0.mk H
                clear H
                try go_wp2
                have n0_ := Aside0.mk (blk_drew BK192.out)
                have n1_ := Aside0.mk (blk_drew BK200.out)
                have n2_ := Aside0.mk (below_drew1 HB.out)
                clear BK192
                clear BK200
                clear HB
                have BK192 := n0_
                have BK200 := n1_
                have HB := n2_
                clear n0_ n1_ n2_
                refine start_ (n := 38) (S := fun w' => True) (ds := []) (Array.replicate 38 false) (by kernel_rfl) rfl rfl trivial (fun hHeld => ?_); refine with_tabW spec_GoodClip.tab14 spec_GoodClip.bits14 (fun HT_ HW_ => ?_)
                generalize wc.drew = w82 at BK192 BK200 HB hHeld ⊢
                refine pS_ 0 81 HT_ ?_
                refine pS_ 1 82 HT_ ?_
                refine pS_ 2 83 HT_ ?_
                refine pU_ 3 84 HT_ ?_
                refine pU_ 4 85 HT_ ?_
                refine pU_ 5 86 HT_ ?_
                refine pU_ 6 87 HT_ ?_
                refine pU_ 7 88 HT_ ?_
                refine pU_ 8 89 HT_ ?_
                refine pU_ 9 90 HT_ ?_
                refine pU_ 10 91 HT_ ?_
                refine pU_ 11 92 HT_ ?_
                refine pU_ 12 93 HT_ ?_
                refine pU_ 13 94 HT_ ?_
                refine pU_ 14 95 HT_ ?_
                refine pU_ 15 96 HT_ ?_
                refine pU_ 16 97 HT_ ?_
                refine pU_ 17 98 HT_ ?_
                refine pU_ 18 99 HT_ ?_
                refine pU_ 19 100 HT_ ?_
                refine pU_ 20 101 HT_ ?_
                refine pU_ 21 102 HT_ ?_
                refine pU_ 22 103 HT_ ?_
                refine pU_ 23 104 HT_ ?_
                refine pU_ 24 105 HT_ ?_
                refine pU_ 25 106 HT_ ?_
                refine pU_ 26 107 HT_ ?_
                refine pU_ 27 108 HT_ ?_
                refine pU_ 28 109 HT_ ?_
                refine pU_ 29 110 HT_ ?_
                refine pU_ 30 111 HT_ ?_
                refine pU_ 31 112 HT_ ?_
                refine pU_ 32 113 HT_ ?_
                refine pU_ 33 114 HT_ ?_
                refine pU_ 34 115 HT_ ?_
                refine pU_ 35 116 HT_ ?_
                refine pU_ 36 117 HT_ ?_
                refine pS_ 37 118 HT_ ?_
                refine done_ (done_of HT_.out (by kernel_rfl)) ?_
                try go_wp2
                go_roundg kj56
                case measure => have := HJ1.out; have := HK2.out; have := HK3.out; have := HJ56.out; omega
                case rel => exact ⟨(wrap64 (x63_3 + 1)), (by first | rfl | (simp; done) | (simp [*]; done) | (simp [wrap64]; done)), H', ⟨by have := HJ1.out; have := HK2.out; have := HK3.out; have := HJ56.out; omega⟩, ⟨by (with_reducible repeat (first | refine blk_drewN ?_ _ | refine blk_drew ?_ | refine blk_alloc ?_ _)); exact BK192.out⟩, ⟨bw_ HB.out⟩⟩
           ·rw [if_neg c56] at H
            exact absurd H (by simp)
          ·rw [if_neg c55] at H
           exact absurd H (by simp)
         ·rw [if_neg c54] at H
          have c54b0 : decide (x63_3 < (l0_2.length : Int)) = false := decide_eq_false c54
          clear c54
          obtain rfl := Option.some.inj H
          go_wp2
          go_ret
          exact ⟨by first | rfl | (simp [errW_none, errW_some] <;> rfl) | (simp [*, errW_none, errW_some] <;> rfl), bw_ HB.out⟩

end Go.Proofs.Ytikoiodbmnekfaa.XFnExactMarksCrossed
