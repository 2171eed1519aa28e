/- What the Go functions that this law comes to compute, each walked; written by a program of this session. -/
import Derived.Test.YtikoiodbmnekfaaXFnExactMarksCrossedx0
import Derived.Test.YtikoiodbmnekfaaXFnExactMarksCrossedx7
import Derived.Test.YtikoiodbmnekfaaXFnExactMarksCrossedx8
namespace Go.Proofs.Ytikoiodbmnekfaa.XFnExactMarksCrossed
open Go.RowKit Go.Proofs.YtikoiodbmnekfaaW.PrintWords Go.Proofs.YtikoiodbmnekfaaW.PrintLast Go.Proofs.YtikoiodbmnekfaaW.PrintMore
attribute [local go_sem] str_geq max2_int min2_int max_two min_two max_three min_three max_four min_four   -- for this text's walks alone
set_option linter.unusedVariables false
set_option linter.unusedSimpArgs false

/-! ### impl_GoodClip: function 9 -/
mutual
def impl_GoodClip.j0 : Nat → Bool → Int → List (S53) → List (S57) → Option (Bool)
 | 0, _, _, _, _ => none
 | k + 1, x22, x226000, x226001, x226002 => if x22 = true then (some false) else (impl_GoodClip.l0 k x226001 (x226001.length : Int) 0 x226000 x226001 x226002)
def impl_GoodClip.l0 : Nat → List (S53) → Int → Int → Int → List (S53) → List (S57) → Option (Bool)
 | 0, _, _, _, _, _, _ => none
 | k + 1, x24, x25, x26, x226000, x226001, x226002 => if x26 < x25 then (if 0 ≤ x26 then (if x26 < (x24.length : Int) then ((impl_GoodName.f k ((rd_T53 x24 x26).f0)).bind fun t229 => (if t229 = true then (if x26 > 0 then (if 0 ≤ (wrap64 (x26 - 1)) then (if (wrap64 (x26 - 1)) < (x226001.length : Int) then (if ((Op.bytesLess (((rd_T53 x226001 (wrap64 (x26 - 1))).f0).toList) (((rd_T53 x24 x26).f0).toList)) = true) then ((impl_areKeys.f k ((rd_T53 x24 x26).f1) x226000).bind fun t231 => (if t231 = true then (impl_GoodClip.l0 k x24 x25 (wrap64 (x26 + 1)) x226000 x226001 x226002) else (some false))) else (some false)) else (none)) else (none)) else ((impl_areKeys.f k ((rd_T53 x24 x26).f1) x226000).bind fun t232 => (if t232 = true then (impl_GoodClip.l0 k x24 x25 (wrap64 (x26 + 1)) x226000 x226001 x226002) else (some false)))) else (some false))) else (none)) else (none)) else (impl_GoodClip.l1 k x226002 (x226002.length : Int) 0 x226000 x226001 x226002)
def impl_GoodClip.l1 : Nat → List (S57) → Int → Int → Int → List (S53) → List (S57) → Option (Bool)
 | 0, _, _, _, _, _, _ => none
 | k + 1, x61, x62, x63, x226000, x226001, x226002 => if x63 < x62 then (if 0 ≤ x63 then (if x63 < (x61.length : Int) then ((impl_GoodName.f k ((rd_T57 x61 x63).f1)).bind fun t235 => (if t235 = true then ((impl_inRange.f ((rd_T57 x61 x63).f0) 0 (wrap64 (x226000 - 1))).bind fun t236 => (impl_GoodClip.j3 k x63 x61 x62 x63 (!t236) x226000 x226001 x226002 ((rd_T57 x61 x63).f0) ((rd_T57 x61 x63).f1))) else (impl_GoodClip.j3 k x63 x61 x62 x63 true x226000 x226001 x226002 ((rd_T57 x61 x63).f0) ((rd_T57 x61 x63).f1)))) else (none)) else (none)) else (some true)
def impl_GoodClip.j3 : Nat → Int → List (S57) → Int → Int → Bool → Int → List (S53) → List (S57) → Int → ByteArray → Option (Bool)
 | 0, _, _, _, _, _, _, _, _, _, _ => none
 | k + 1, x5, x61, x62, x63, x80, x226000, x226001, x226002, x235000, x235001 => if x80 = true then (some false) else (if x5 > 0 then (if 0 ≤ (wrap64 (x5 - 1)) then (if (wrap64 (x5 - 1)) < (x226002.length : Int) then (if ((rd_T57 x226002 (wrap64 (x5 - 1))).f0) > x235000 then (some false) else (if ((rd_T57 x226002 (wrap64 (x5 - 1))).f0) = x235000 then (if ((Op.bytesLess (((rd_T57 x226002 (wrap64 (x5 - 1))).f1).toList) x235001.toList) = true) then (impl_GoodClip.l1 k x61 x62 (wrap64 (x63 + 1)) x226000 x226001 x226002) else (some false)) else (impl_GoodClip.l1 k x61 x62 (wrap64 (x63 + 1)) x226000 x226001 x226002))) else (none)) else (none)) else (impl_GoodClip.l1 k x61 x62 (wrap64 (x63 + 1)) x226000 x226001 x226002))
end
def impl_GoodClip.f (k : Nat) (a0_0 : Int) (l0_1 : List (S53)) (l0_2 : List (S57)) : Option (Bool) := (impl_inRange.f a0_0 1 60).bind fun t226 => (if t226 = true then (if (l0_1.length : Int) > 8 then (impl_GoodClip.j0 k true a0_0 l0_1 l0_2) else (impl_GoodClip.j0 k (decide ((l0_2.length : Int) > 20)) a0_0 l0_1 l0_2)) else (impl_GoodClip.j0 k true a0_0 l0_1 l0_2))
theorem impl_GoodClip.mono_l : ∀ k, (∀ y0 y1 y2 y3, LeO (impl_GoodClip.j0 k y0 y1 y2 y3) (impl_GoodClip.j0 (k + 1) y0 y1 y2 y3)) ∧ (∀ y0 y1 y2 y3 y4 y5, LeO (impl_GoodClip.l0 k y0 y1 y2 y3 y4 y5) (impl_GoodClip.l0 (k + 1) y0 y1 y2 y3 y4 y5)) ∧ (∀ y0 y1 y2 y3 y4 y5, LeO (impl_GoodClip.l1 k y0 y1 y2 y3 y4 y5) (impl_GoodClip.l1 (k + 1) y0 y1 y2 y3 y4 y5)) ∧ (∀ y0 y1 y2 y3 y4 y5 y6 y7 y8 y9, LeO (impl_GoodClip.j3 k y0 y1 y2 y3 y4 y5 y6 y7 y8 y9) (impl_GoodClip.j3 (k + 1) y0 y1 y2 y3 y4 y5 y6 y7 y8 y9))
 | 0 => ⟨fun _ _ _ _ r h => by simp [impl_GoodClip.j0] at h, fun _ _ _ _ _ _ r h => by simp [impl_GoodClip.l0] at h, fun _ _ _ _ _ _ r h => by simp [impl_GoodClip.l1] at h, fun _ _ _ _ _ _ _ _ _ _ r h => by simp [impl_GoodClip.j3] at h⟩
 | k + 1 => by
  obtain ⟨ih0, ih1, ih2, ih3⟩ := impl_GoodClip.mono_l k
  refine ⟨?_, ?_, ?_, ?_⟩
  ·intro y0 y1 y2 y3
   unfold impl_GoodClip.j0
   repeat' first
   | (with_reducible exact ih0 _ _ _ _)
   | (with_reducible exact ih1 _ _ _ _ _ _)
   | (with_reducible exact ih2 _ _ _ _ _ _)
   | (with_reducible exact ih3 _ _ _ _ _ _ _ _ _ _)
   | (with_reducible exact impl_GoodName.mono _ _)
   | (with_reducible exact impl_areKeys.mono _ _ _)
   | (with_reducible exact LeO.refl _)
   | (with_reducible exact LeO.none _)
   | (with_reducible refine LeO.ite ?_ ?_)
   | (with_reducible refine LeO.bind ?_ (fun _ => ?_))
   | exact ih0 _ _ _ _
   | exact ih1 _ _ _ _ _ _
   | exact ih2 _ _ _ _ _ _
   | exact ih3 _ _ _ _ _ _ _ _ _ _
   | exact impl_GoodName.mono _ _
   | exact impl_areKeys.mono _ _ _
   | exact LeO.none _
   | refine LeO.ite ?_ ?_
   | refine LeO.bind ?_ (fun _ => ?_)
  ·intro y0 y1 y2 y3 y4 y5
   unfold impl_GoodClip.l0
   repeat' first
   | (with_reducible exact ih0 _ _ _ _)
   | (with_reducible exact ih1 _ _ _ _ _ _)
   | (with_reducible exact ih2 _ _ _ _ _ _)
   | (with_reducible exact ih3 _ _ _ _ _ _ _ _ _ _)
   | (with_reducible exact impl_GoodName.mono _ _)
   | (with_reducible exact impl_areKeys.mono _ _ _)
   | (with_reducible exact LeO.refl _)
   | (with_reducible exact LeO.none _)
   | (with_reducible refine LeO.ite ?_ ?_)
   | (with_reducible refine LeO.bind ?_ (fun _ => ?_))
   | exact ih0 _ _ _ _
   | exact ih1 _ _ _ _ _ _
   | exact ih2 _ _ _ _ _ _
   | exact ih3 _ _ _ _ _ _ _ _ _ _
   | exact impl_GoodName.mono _ _
   | exact impl_areKeys.mono _ _ _
   | exact LeO.none _
   | refine LeO.ite ?_ ?_
   | refine LeO.bind ?_ (fun _ => ?_)
  ·intro y0 y1 y2 y3 y4 y5
   unfold impl_GoodClip.l1
   repeat' first
   | (with_reducible exact ih0 _ _ _ _)
   | (with_reducible exact ih1 _ _ _ _ _ _)
   | (with_reducible exact ih2 _ _ _ _ _ _)
   | (with_reducible exact ih3 _ _ _ _ _ _ _ _ _ _)
   | (with_reducible exact impl_GoodName.mono _ _)
   | (with_reducible exact impl_areKeys.mono _ _ _)
   | (with_reducible exact LeO.refl _)
   | (with_reducible exact LeO.none _)
   | (with_reducible refine LeO.ite ?_ ?_)
   | (with_reducible refine LeO.bind ?_ (fun _ => ?_))
   | exact ih0 _ _ _ _
   | exact ih1 _ _ _ _ _ _
   | exact ih2 _ _ _ _ _ _
   | exact ih3 _ _ _ _ _ _ _ _ _ _
   | exact impl_GoodName.mono _ _
   | exact impl_areKeys.mono _ _ _
   | exact LeO.none _
   | refine LeO.ite ?_ ?_
   | refine LeO.bind ?_ (fun _ => ?_)
  ·intro y0 y1 y2 y3 y4 y5 y6 y7 y8 y9
   unfold impl_GoodClip.j3
   repeat' first
   | (with_reducible exact ih0 _ _ _ _)
   | (with_reducible exact ih1 _ _ _ _ _ _)
   | (with_reducible exact ih2 _ _ _ _ _ _)
   | (with_reducible exact ih3 _ _ _ _ _ _ _ _ _ _)
   | (with_reducible exact impl_GoodName.mono _ _)
   | (with_reducible exact impl_areKeys.mono _ _ _)
   | (with_reducible exact LeO.refl _)
   | (with_reducible exact LeO.none _)
   | (with_reducible refine LeO.ite ?_ ?_)
   | (with_reducible refine LeO.bind ?_ (fun _ => ?_))
   | exact ih0 _ _ _ _
   | exact ih1 _ _ _ _ _ _
   | exact ih2 _ _ _ _ _ _
   | exact ih3 _ _ _ _ _ _ _ _ _ _
   | exact impl_GoodName.mono _ _
   | exact impl_areKeys.mono _ _ _
   | exact LeO.none _
   | refine LeO.ite ?_ ?_
   | refine LeO.bind ?_ (fun _ => ?_)
theorem impl_GoodClip.mono : ∀ a0 a1 a2 k, LeO (impl_GoodClip.f k a0 a1 a2) (impl_GoodClip.f (k + 1) a0 a1 a2) := by
 intro a0 a1 a2 k
 obtain ⟨ih0, ih1, ih2, ih3⟩ := impl_GoodClip.mono_l k
 unfold impl_GoodClip.f
 repeat' first
   | (with_reducible exact ih0 _ _ _ _)
   | (with_reducible exact ih1 _ _ _ _ _ _)
   | (with_reducible exact ih2 _ _ _ _ _ _)
   | (with_reducible exact ih3 _ _ _ _ _ _ _ _ _ _)
   | (with_reducible exact impl_GoodName.mono _ _)
   | (with_reducible exact impl_areKeys.mono _ _ _)
   | (with_reducible exact LeO.refl _)
   | (with_reducible exact LeO.none _)
   | (with_reducible refine LeO.ite ?_ ?_)
   | (with_reducible refine LeO.bind ?_ (fun _ => ?_))
   | exact ih0 _ _ _ _
   | exact ih1 _ _ _ _ _ _
   | exact ih2 _ _ _ _ _ _
   | exact ih3 _ _ _ _ _ _ _ _ _ _
   | exact impl_GoodName.mono _ _
   | exact impl_areKeys.mono _ _ _
   | exact LeO.none _
   | refine LeO.ite ?_ ?_
   | refine LeO.bind ?_ (fun _ => ?_)
def impl_GoodClip.T6 : Bool × List (List Nat × List Nat) := (true, [([], []), ([0], [0]), ([1], [1]), ([2], [2]), ([3, 2], [3]), ([4], [4]), ([5, 4], [4, 5]), ([6, 4, 4], [4, 6]), ([7], [7]), ([8, 7], [7, 8]), ([7], [7]), ([10, 7], [7, 10]), ([9, 11, 7], [7, 9, 11]), ([12, 7], [7, 12]), ([13, 7], [7, 13]), ([7], [7]), ([15, 7], [7, 15]), ([14, 16, 7], [7, 14, 16]), ([7, 17, 4], [4, 7, 17]), ([4, 18], [4, 18]), ([19, 7], [19]), ([20], [20]), ([21, 20], [20, 21]), ([20], [20]), ([23, 20], [20, 23]), ([22, 24, 20, 20], [20, 22, 24]), ([25, 20], [20, 25]), ([20, 26], [20, 26])])
def impl_GoodClip.B6 : List Nat := [0, 1, 3, 7, 15, 31, 63, 127, 255, 511, 255, 1279, 4095, 8191, 16383, 255, 33023, 131071, 262143, 524287, 1048575, 2097151, 4194303, 2097151, 10485759, 33554431, 67108863, 134217727]
theorem impl_GoodClip.tab6 : rtab .any (opsOf Try.f9 6) = impl_GoodClip.T6 := by kernel_rfl
theorem impl_GoodClip.bits6 : waitsOk impl_GoodClip.T6.2 impl_GoodClip.B6 = true := by kernel_rfl
def impl_GoodClip.T14 : Bool × List (List Nat × List Nat) := (true, [([], []), ([0], [0]), ([1], [1]), ([2], [2]), ([3, 2], [2, 3]), ([2], [2]), ([5, 2], [2, 5]), ([4, 6, 2], [2, 4, 6]), ([7, 2], [2, 7]), ([8, 2], [2, 8]), ([2], [2]), ([10, 2], [2, 10]), ([9, 11, 2], [2, 9, 11]), ([12, 2, 2], [2, 12]), ([13], [13]), ([14, 13], [13, 14]), ([13], [13]), ([16, 13], [13, 16]), ([15, 17, 13], [13, 15, 17]), ([18, 13], [13, 18]), ([19, 13], [13, 19]), ([13], [13]), ([21, 13], [13, 21]), ([20, 22, 13], [13, 20, 22]), ([23, 13, 13], [13, 23]), ([24], [24]), ([25, 24], [24, 25]), ([24], [24]), ([27, 24], [24, 27]), ([26, 28, 24], [24, 26, 28]), ([29, 24], [24, 29]), ([30, 24], [24, 30]), ([24], [24]), ([32, 24], [24, 32]), ([31, 33, 24], [24, 31, 33]), ([24, 34, 13], [13, 24, 34]), ([13, 35, 2], [2, 13, 35]), ([2, 36], [2, 36])])
def impl_GoodClip.B14 : List Nat := [0, 1, 3, 7, 15, 7, 39, 127, 255, 511, 7, 1031, 4095, 8191, 16383, 32767, 16383, 81919, 262143, 524287, 1048575, 16383, 2113535, 8388607, 16777215, 33554431, 67108863, 33554431, 167772159, 536870911, 1073741823, 2147483647, 33554431, 4328521727, 17179869183, 34359738367, 68719476735, 137438953471]
theorem impl_GoodClip.tab14 : rtab .any (opsOf Try.f9 14) = impl_GoodClip.T14 := by kernel_rfl
theorem impl_GoodClip.bits14 : waitsOk impl_GoodClip.T14.2 impl_GoodClip.B14 = true := by kernel_rfl
set_option maxHeartbeats 8000000 in
set_option maxRecDepth 100000 in
theorem impl_GoodClip.calls (k : Nat) (a0_0 : Int) (A0_1 : Option Addr) (c0_1 : Nat) (l0_1 : List (S53)) (A0_2 : Option Addr) (c0_2 : Nat) (l0_2 : List (S57)) (r : Bool) (w : World) (hr0_1 : Kd.C k53 w A0_1 l0_1.length l0_1) (hc0_1 : l0_1.length ≤ c0_1) (hr0_2 : Kd.C k57 w A0_2 l0_2.length l0_2) (hc0_2 : l0_2.length ≤ c0_2) (h : impl_GoodClip.f k a0_0 l0_1 l0_2 = some r) :
  Calls Try.prog 9 #[.agg #[.int .i64 a0_0, .slice A0_1 l0_1.length c0_1, .slice A0_2 l0_2.length c0_2]] w fun e w' => e = .returned (.bool r) ∧ Below w.heap.size w w' := by
 have hu31 := Try.underlying31
 have hu53 := Try.underlying53
 have hu57 := Try.underlying57
 have HR0_1 := Aside0.mk hr0_1
 have HC0_1 := Aside0.mk hc0_1
 clear hr0_1 hc0_1
 have HR0_2 := Aside0.mk hr0_2
 have HC0_2 := Aside0.mk hc0_2
 clear hr0_2 hc0_2
 have HB := Aside0.mk (Below.refl w.heap.size w)
 have H : ((impl_inRange.f a0_0 1 60).bind fun t226 => (if t226 = true then (if (l0_1.length : Int) > 8 then (impl_GoodClip.j0 k true a0_0 l0_1 l0_2) else (impl_GoodClip.j0 k (decide ((l0_2.length : Int) > 20)) a0_0 l0_1 l0_2)) else (impl_GoodClip.j0 k true a0_0 l0_1 l0_2))) = some r := h
 clear h
 have HC2 := Aside0.mk H
 clear H
 go_enter Try.func9, Try.ntmps9
 go_upto_region 1 with (first | ((with_reducible refine gate_dst (N := 1) rfl ?_); (try (refine gate_guard (by rfl) ?_; dsimp only)); refine bx_ 1 #[.int .i64 a0_0, .slice A0_1 l0_1.length c0_1, .slice A0_2 l0_2.length c0_2] 31 ?_; intro gb225 hg w3 hbox hb; have n0_ := Aside0.mk (below_step (bw_ HB.out) hb); have n1_ := Aside0.mk (hbox); have n2_ := Aside0.mk (gs_ hg (bw_ HB.out)); have n3_ := Aside0.mk (gs_ hg (bw_ HB.out)); clear HB; have HB := n0_; have BK225 := n1_; have GW225 := n2_; have GE225 := n3_; clear n0_ n1_ n2_ n3_; clear hb hbox hg))
 (try simp only [Act.put, List.setIfInBounds_toArray, List.set_cons_zero, List.set_cons_succ])
 go_cut [22] (fun v22 wc => ∃ (kq : Nat) (x22_1 : Bool), v22 = .bool x22_1 ∧ Aside0 (impl_GoodClip.j0 kq x22_1 a0_0 l0_1 l0_2 = some r) ∧ Aside0 (kq ≤ k) ∧ Aside0 (wc.heap[gb225]? = some (.cells #[.int .i64 a0_0, (.slice A0_1 l0_1.length c0_1), (.slice A0_2 l0_2.length c0_2)] 31 (0, 0))) ∧ Aside0 (Below w.heap.size w wc))
 case first =>
  have H := HC2.out
  clear HC2
  obtain ⟨t226, A40, H⟩ := bE_ H
  have A4 := Aside0.mk A40
  clear A40
  by_cases c5 : t226 = true
  ·subst c5
   replace H := it_ H rfl
   by_cases c6 : (l0_1.length : Int) > 8
   ·rw [if_pos c6] at H
    have c6b0 : decide (8 < (l0_1.length : Int)) = true := decide_eq_true c6
    have c6b1 : decide (8 < l0_1.length) = true := decide_eq_true (by omega)
    clear c6
    (first | rw [c6b0] | (simp only [i64_w, i32_w]; rw [c6b0]) | skip)
    have H' := Aside0.mk H
    clear H
    have hcz7_0 := cz_ BK225.out 0
    have hcz7_1 := cz_ BK225.out 1
    have hcz7_2 := cz_ BK225.out 2
    have hfz7_0 := blk_frozen BK225.out 0
    have hfz7_1 := blk_frozen BK225.out 1
    have hfz7_2 := blk_frozen BK225.out 2
    go_wp2_with (first | ((with_reducible refine gate_callee (f := 29) rfl ?_); refine goesL_ (some 9) rfl rfl Try.func29 (by kernel_rfl) rfl #[.int .i64 a0_0, .int .i64 1, .int .i64 60] rfl (by (try simp only [List.map_toArray, List.map_cons, List.map_nil]); first | done | rfl | (simp only [List.length_drop, List.length_take]; rfl)) ?_; (with_reducible refine (impl_inRange.calls a0_0 1 60 true _ A4.out).mono ?_); rintro e w' ⟨rfl, ⟨nd, rfl⟩⟩; refine ⟨_, rfl, ?_⟩))
    go_meet
    case rel => exact ⟨_, (true), (by first | rfl | (simp; done) | (simp [*]; done) | (simp [wrap64]; done)), H', ⟨by first | omega | exact Nat.le_refl _⟩, ⟨by (with_reducible repeat (first | refine blk_drewN ?_ _ | refine blk_drew ?_ | refine blk_alloc ?_ _)); exact BK225.out⟩, ⟨bw_ HB.out⟩⟩
   ·rw [if_neg c6] at H
    have c6b0 : decide (8 < (l0_1.length : Int)) = false := decide_eq_false c6
    have c6b1 : decide (8 < l0_1.length) = false := decide_eq_false (by omega)
    clear c6
    (first | rw [c6b0] | (simp only [i64_w, i32_w]; rw [c6b0]) | skip)
    have H' := Aside0.mk H
    clear H
    have hcz8_0 := cz_ BK225.out 0
    have hcz8_1 := cz_ BK225.out 1
    have hcz8_2 := cz_ BK225.out 2
    have hfz8_0 := blk_frozen BK225.out 0
    have hfz8_1 := blk_frozen BK225.out 1
    have hfz8_2 := blk_frozen BK225.out 2
    go_wp2_with (first | ((with_reducible refine gate_callee (f := 29) rfl ?_); refine goesL_ (some 9) rfl rfl Try.func29 (by kernel_rfl) rfl #[.int .i64 a0_0, .int .i64 1, .int .i64 60] rfl (by (try simp only [List.map_toArray, List.map_cons, List.map_nil]); first | done | rfl | (simp only [List.length_drop, List.length_take]; rfl)) ?_; (with_reducible refine (impl_inRange.calls a0_0 1 60 true _ A4.out).mono ?_); rintro e w' ⟨rfl, ⟨nd, rfl⟩⟩; refine ⟨_, rfl, ?_⟩))
    go_meet
    case rel => exact ⟨_, (decide ((l0_2.length : Int) > 20)), (by first | rfl | (simp; done) | (simp [*]; done) | (simp [wrap64]; done)), H', ⟨by first | omega | exact Nat.le_refl _⟩, ⟨by (with_reducible repeat (first | refine blk_drewN ?_ _ | refine blk_drew ?_ | refine blk_alloc ?_ _)); exact BK225.out⟩, ⟨bw_ HB.out⟩⟩
  ·replace c5 := Bool.eq_false_iff.mpr c5
   subst c5
   replace H := if_ H Bool.false_ne_true
   have H' := Aside0.mk H
   clear H
   have hcz9_0 := cz_ BK225.out 0
   have hcz9_1 := cz_ BK225.out 1
   have hcz9_2 := cz_ BK225.out 2
   have hfz9_0 := blk_frozen BK225.out 0
   have hfz9_1 := blk_frozen BK225.out 1
   have hfz9_2 := blk_frozen BK225.out 2
   go_wp2_with (first | ((with_reducible refine gate_callee (f := 29) rfl ?_); refine goesL_ (some 9) rfl rfl Try.func29 (by kernel_rfl) rfl #[.int .i64 a0_0, .int .i64 1, .int .i64 60] rfl (by (try simp only [List.map_toArray, List.map_cons, List.map_nil]); first | done | rfl | (simp only [List.length_drop, List.length_take]; rfl)) ?_; (with_reducible refine (impl_inRange.calls a0_0 1 60 false _ A4.out).mono ?_); rintro e w' ⟨rfl, ⟨nd, rfl⟩⟩; refine ⟨_, rfl, ?_⟩))
   go_meet
   case rel => exact ⟨_, (true), (by first | rfl | (simp; done) | (simp [*]; done) | (simp [wrap64]; done)), H', ⟨by first | omega | exact Nat.le_refl _⟩, ⟨by (with_reducible repeat (first | refine blk_drewN ?_ _ | refine blk_drew ?_ | refine blk_alloc ?_ _)); exact BK225.out⟩, ⟨bw_ HB.out⟩⟩
 case rest =>
  clear HC2
  try clear c2
  try clear p2
  try clear c5
  try clear c6
  try clear c6b0
  try clear c6b1
  try clear c9
  try clear hcz7_0
  try clear hcz7_1
  try clear hcz7_2
  try clear hcz8_0
  try clear hcz8_1
  try clear hcz8_2
  try clear hcz9_0
  try clear hcz9_1
  try clear hcz9_2
  try clear hfz7_0
  try clear hfz7_1
  try clear hfz7_2
  try clear hfz8_0
  try clear hfz8_1
  try clear hfz8_2
  try clear hfz9_0
  try clear hfz9_1
  try clear hfz9_2
  obtain ⟨kq, x22_1, rfl, HA, HJ1, BK225, HB⟩ := hcut
  cases kq with
  | zero => exact absurd HA.out (by simp [impl_GoodClip.j0])
  | succ kj1 =>
   have H := HA.out
   clear HA
   simp only [impl_GoodClip.j0] at H
   by_cases c10 : x22_1 = true
   ·subst c10
    replace H := it_ H rfl
    obtain rfl := Option.some.inj H
    go_wp2
    go_ret
    exact ⟨by first | rfl | (simp [errW_none, errW_some] <;> rfl) | (simp [*, errW_none, errW_some] <;> rfl), bw_ HB.out⟩
   ·replace c10 := Bool.eq_false_iff.mpr c10
    subst c10
    replace H := if_ H Bool.false_ne_true
    have H' := Aside0.mk H
    clear H
    have hcz11_0 := cz_ BK225.out 0
    have hcz11_1 := cz_ BK225.out 1
    have hcz11_2 := cz_ BK225.out 2
    have hfz11_0 := blk_frozen BK225.out 0
    have hfz11_1 := blk_frozen BK225.out 1
    have hfz11_2 := blk_frozen BK225.out 2
    go_wp2
    go_loopg [26] kj1 (fun kq v26 w' => ∃ (x26_2 : Int), v26 = .int .i64 x26_2 ∧ Aside0 (impl_GoodClip.l0 kq l0_1 (l0_1.length : Int) x26_2 a0_0 l0_1 l0_2 = some r) ∧ Aside0 (kq ≤ kj1) ∧ Aside0 (w'.heap[gb225]? = some (.cells #[.int .i64 a0_0, (.slice A0_1 l0_1.length c0_1), (.slice A0_2 l0_2.length c0_2)] 31 (0, 0))) ∧ Aside0 (Below w.heap.size w w'))
    case atStart => exact ⟨(0), (by first | rfl | (simp; done) | (simp [*]; done) | (simp [wrap64]; done)), H', ⟨Nat.le_refl _⟩, ⟨by (with_reducible repeat (first | refine blk_drewN ?_ _ | refine blk_drew ?_ | refine blk_alloc ?_ _)); exact BK225.out⟩, ⟨bw_ HB.out⟩⟩
    case round =>
     clear H'
     try clear c1
     try clear c2
     try clear p2
     try clear c5
     try clear c6
     try clear c6b0
     try clear c6b1
     try clear c9
     try clear c10
     try clear hcz11_0
     try clear hcz11_1
     try clear hcz11_2
     try clear hcz7_0
     try clear hcz7_1
     try clear hcz7_2
     try clear hcz8_0
     try clear hcz8_1
     try clear hcz8_2
     try clear hcz9_0
     try clear hcz9_1
     try clear hcz9_2
     try clear hfz11_0
     try clear hfz11_1
     try clear hfz11_2
     try clear hfz7_0
     try clear hfz7_1
     try clear hfz7_2
     try clear hfz8_0
     try clear hfz8_1
     try clear hfz8_2
     try clear hfz9_0
     try clear hfz9_1
     try clear hfz9_2
     try clear p2
     obtain ⟨x26_2, rfl, HA, HK2, BK225, HB⟩ := hrel
     cases gk with
     | zero => exact absurd HA.out (by simp [impl_GoodClip.l0])
     | succ k2 =>
      have H := HA.out
      clear HA
      simp only [impl_GoodClip.l0] at H
      by_cases c12 : x26_2 < (l0_1.length : Int)
      ·rw [if_pos c12] at H
       have c12b0 : decide (x26_2 < (l0_1.length : Int)) = true := decide_eq_true c12
       clear c12
       by_cases c13 : 0 ≤ x26_2
       ·rw [if_pos c13] at H
        have c13b0 : decide (0 ≤ x26_2) = true := decide_eq_true c13
        clear c13
        by_cases c14 : x26_2 < (l0_1.length : Int)
        ·rw [if_pos c14] at H
         have c14b0 : decide (x26_2 < (l0_1.length : Int)) = true := decide_eq_true c14
         clear c14
         obtain ⟨t229, A150, H⟩ := bE_ H
         have A15 := Aside0.mk A150
         clear A150
         by_cases c16 : t229 = true
         ·subst c16
          replace H := it_ H rfl
          by_cases c17 : x26_2 > 0
          ·rw [if_pos c17] at H
           have c17b0 : decide (0 < x26_2) = true := decide_eq_true c17
           clear c17
           obtain ⟨ji18, hji18⟩ : ∃ j_ : Int, (wrap64 (x26_2 - 1)) = j_ := ⟨_, rfl⟩
           replace H : (if 0 ≤ (ji18) then (if (ji18) < (l0_1.length : Int) then (if ((Op.bytesLess (((rd_T53 l0_1 (ji18)).f0).toList) (((rd_T53 l0_1 x26_2).f0).toList)) = true) then ((impl_areKeys.f k2 ((rd_T53 l0_1 x26_2).f1) a0_0).bind fun t231 => (if t231 = true then (impl_GoodClip.l0 k2 l0_1 (l0_1.length : Int) (wrap64 (x26_2 + 1)) a0_0 l0_1 l0_2) else (some false))) else (some false)) else (none)) else (none)) = some r := by first | (rw [hji18] at H; exact H) | (simp only [hji18] at H ⊢; exact H)
           (try rw [hji18] at A15)
           have hji18w : (IntKind.i64.wrap (x26_2 - 1)) = ji18 := (i64_w _).trans hji18
           by_cases c19 : 0 ≤ (ji18)
           ·rw [if_pos c19] at H
            have c19b0 : decide (0 ≤ (ji18)) = true := decide_eq_true c19
            clear c19
            by_cases c20 : (ji18) < (l0_1.length : Int)
            ·rw [if_pos c20] at H
             have c20b0 : decide ((ji18) < (l0_1.length : Int)) = true := decide_eq_true c20
             clear c20
             by_cases c21 : ((Op.bytesLess (((rd_T53 l0_1 (ji18)).f0).toList) (((rd_T53 l0_1 x26_2).f0).toList)) = true)
             ·rw [if_pos c21] at H
              have c21b0 : (Op.bytesLess (((rd_T53 l0_1 (ji18)).f0).toList) (((rd_T53 l0_1 x26_2).f0).toList)) = true := c21
              clear c21
              obtain ⟨t231, A220, H⟩ := bE_ H
              have A22 := Aside0.mk A220
              clear A220
              by_cases c23 : t231 = true
              ·subst c23
               replace H := it_ H rfl
               have H' := Aside0.mk H
               clear H
               have p227 : 0 ≤ (x26_2 : Int) := of_decide_eq_true (by first | (with_reducible assumption) | assumption)
               have q227 : x26_2 < (l0_1.length : Int) := of_decide_eq_true (by first | (with_reducible assumption) | assumption)
               obtain ⟨ad227, A227_1, c227_1, e227, hx227_0, hx227_1, hl227_1, hi227_1⟩ := at_T53 HR0_1.out x26_2 p227 q227
               cases e227
               (try replace hx227_0 := (HB.out.cell (World.block_lt_of_cell? w _ hx227_0)).trans hx227_0)
               (try replace hx227_1 := (HB.out.cell (World.block_lt_of_cell? w _ hx227_1)).trans hx227_1)
               have HR227_1 := Aside0.mk hi227_1
               have HC227_1 := Aside0.mk hl227_1
               clear hi227_1 hl227_1
               replace p227 := eq_true p227
               replace q227 := eq_true q227
               try go_wp2_with (first | ((with_reducible refine gate_dst (N := 4) rfl ?_); (try (refine gate_guard (by rfl) ?_; dsimp only)); refine bx_ 4 #[.string (⟨#[]⟩ : ByteArray), .slice none 0 0] 53 ?_; intro gb228 hg w24 hbox hb; have n0_ := Aside0.mk (blk_below (bk_ BK225.out) hb); have n1_ := Aside0.mk (below_step (bw_ HB.out) hb); have n2_ := Aside0.mk (hbox); have n3_ := Aside0.mk (gs_ hg (bw_ HB.out)); have n4_ := Aside0.mk (gs_ hg (bw_ HB.out)); have n5_ := Aside0.mk (nl_ hg (bk_ BK225.out)); have n6_ := Aside0.mk (ng_ hg (bk_ BK225.out)); clear BK225; clear HB; have BK225 := n0_; have HB := n1_; have BK228 := n2_; have GW228 := n3_; have GE228 := n4_; have NB225_228 := n5_; have NB228_225 := n6_; clear n0_ n1_ n2_ n3_ n4_ n5_ n6_; clear hb hbox hg; have hnb25 := NB228_225.out; have hnc25 := NB225_228.out; have hcz26_0 := cz_ BK228.out 0; have hcz26_1 := cz_ BK228.out 1; have hfz26_0 := blk_frozen BK228.out 0; have hfz26_1 := blk_frozen BK228.out 1))
               have n0_ : Aside0 (((w24.setCell ⟨gb228, 0, none⟩ (.string ((rd_T53 l0_1 x26_2).f0))).setCell ⟨gb228, 1, none⟩ (.slice A227_1 ((rd_T53 l0_1 x26_2).f1).length c227_1)).heap[gb225]? = some (.cells #[.int .i64 a0_0, .slice (some ad227) l0_1.length c0_1, .slice A0_2 l0_2.length c0_2] 31 (0, 0))) := ⟨by (with_reducible repeat (first | refine blk_drewN ?_ _ | refine blk_drew ?_ | refine blk_alloc ?_ _)); refine blk_far ?_ NB225_228.out _; (with_reducible repeat (first | refine blk_drewN ?_ _ | refine blk_drew ?_ | refine blk_alloc ?_ _)); refine blk_far ?_ NB225_228.out _; (with_reducible repeat (first | refine blk_drewN ?_ _ | refine blk_drew ?_ | refine blk_alloc ?_ _)); exact BK225.out⟩
               have n1_ : Aside0 (((w24.setCell ⟨gb228, 0, none⟩ (.string ((rd_T53 l0_1 x26_2).f0))).setCell ⟨gb228, 1, none⟩ (.slice A227_1 ((rd_T53 l0_1 x26_2).f1).length c227_1)).heap[gb228]? = some (.cells #[.string ((rd_T53 l0_1 x26_2).f0), .slice A227_1 ((rd_T53 l0_1 x26_2).f1).length c227_1] 53 (0, 0))) := ⟨by (with_reducible repeat (first | refine blk_drewN ?_ _ | refine blk_drew ?_ | refine blk_alloc ?_ _)); refine blk_put (cs := #[.string ((rd_T53 l0_1 x26_2).f0), .slice none 0 0]) ?_ 1 _ rfl; (with_reducible repeat (first | refine blk_drewN ?_ _ | refine blk_drew ?_ | refine blk_alloc ?_ _)); refine blk_put (cs := #[.string (⟨#[]⟩ : ByteArray), .slice none 0 0]) ?_ 0 _ rfl; (with_reducible repeat (first | refine blk_drewN ?_ _ | refine blk_drew ?_ | refine blk_alloc ?_ _)); exact BK228.out⟩
               have n2_ : Aside0 (Below w.heap.size w ((w24.setCell ⟨gb228, 0, none⟩ (.string ((rd_T53 l0_1 x26_2).f0))).setCell ⟨gb228, 1, none⟩ (.slice A227_1 ((rd_T53 l0_1 x26_2).f1).length c227_1))) := ⟨bw_ HB.out⟩
               (try clear BK225)
               (try clear BK228)
               (try clear HB)
               generalize ((w24.setCell ⟨gb228, 0, none⟩ (.string ((rd_T53 l0_1 x26_2).f0))).setCell ⟨gb228, 1, none⟩ (.slice A227_1 ((rd_T53 l0_1 x26_2).f1).length c227_1)) = w27 at n0_ n1_ n2_ ⊢
               have BK225 := n0_
               have BK228 := n1_
               have HB := n2_
               clear n0_ n1_ n2_
               have n0_ := Aside0.mk (blk_drew BK225.out)
               have n1_ := Aside0.mk (blk_drew BK228.out)
               have n2_ := Aside0.mk (below_drew1 HB.out)
               clear BK225
               clear BK228
               clear HB
               have BK225 := n0_
               have BK228 := n1_
               have HB := n2_
               clear n0_ n1_ n2_
               have p230 : 0 ≤ ((ji18) : Int) := of_decide_eq_true (by first | (with_reducible assumption) | assumption)
               have q230 : (ji18) < (l0_1.length : Int) := of_decide_eq_true (by first | (with_reducible assumption) | assumption)
               obtain ⟨ad230, A230_1, c230_1, e230, hx230_0, hx230_1, hl230_1, hi230_1⟩ := at_T53 HR0_1.out (ji18) p230 q230
               have hw230_1 := hx230_1
               have hw230_0 := hx230_0
               obtain rfl : ad227 = ad230 := (by injection e230)
               (try replace hx230_0 := (HB.out.cell (World.block_lt_of_cell? w _ hx230_0)).trans hx230_0)
               (try replace hx230_1 := (HB.out.cell (World.block_lt_of_cell? w _ hx230_1)).trans hx230_1)
               have HR230_1 := Aside0.mk hi230_1
               have HC230_1 := Aside0.mk hl230_1
               clear hi230_1 hl230_1
               replace p230 := eq_true p230
               replace q230 := eq_true q230
               refine start_ (n := 28) (S := fun w' => w'.cell? ⟨gb228, 0, none⟩ = some (.string ((rd_T53 l0_1 x26_2).f0)) ∧ w'.cell? ⟨gb228, 1, none⟩ = some (.slice A227_1 ((rd_T53 l0_1 x26_2).f1).length c227_1) ∧ w'.cell? ⟨gb225, 0, none⟩ = some (.int .i64 a0_0) ∧ w'.cell? ⟨gb225, 1, none⟩ = some (.slice (some ad227) l0_1.length c0_1) ∧ w'.cell? ⟨gb225, 2, none⟩ = some (.slice A0_2 l0_2.length c0_2) ∧ w'.cell? (ad227.add (((ji18)).toNat * 2)) = some (.string ((rd_T53 l0_1 (ji18)).f0)) ∧ w'.cell? ⟨(ad227.add (((ji18)).toNat * 2)).block, (ad227.add (((ji18)).toNat * 2)).off + 1, none⟩ = some (.slice A230_1 ((rd_T53 l0_1 (ji18)).f1).length c230_1)) (ds := []) (Array.replicate 28 false) (by kernel_rfl) rfl rfl ⟨cz_ BK228.out 0, cz_ BK228.out 1, cz_ BK225.out 0, cz_ BK225.out 1, cz_ BK225.out 2, ((HB.out.cell (World.block_lt_of_cell? w _ hw230_0)).trans hw230_0), ((HB.out.cell (World.block_lt_of_cell? w _ hw230_1)).trans hw230_1)⟩ (fun hHeld => ?_); refine with_tabW impl_GoodClip.tab6 impl_GoodClip.bits6 (fun HT_ HW_ => ?_)
               generalize w27.drew = w28 at BK225 BK228 HB HR230_1 hx230_0 hx230_1 hHeld ⊢
               refine pS_ 0 31 HT_ ?_
               refine tS_ 1 32 HT_ HW_ hHeld ?_
               refine oS_ 2 33 HT_ (fun K hK => ?_)
               refine goes_ Try.func30 (by kernel_rfl) rfl #[.string ((rd_T53 l0_1 x26_2).f0)] (by rfl) rfl rfl (by (try simp only [List.map_toArray, List.map_cons, List.map_nil]); first | done | rfl | (simp only [List.length_drop, List.length_take]; rfl)) ?_
               with_reducible refine (impl_GoodName.calls k2 ((rd_T53 l0_1 x26_2).f0) true _ A15.out).mono ?_
               rintro e w' ⟨rfl, ⟨nd, rfl⟩⟩
               refine ⟨_, rfl, ?_⟩
               refine hK.out _ _ ⟨cz_ BK228.out 0, cz_ BK228.out 1, cz_ BK225.out 0, cz_ BK225.out 1, cz_ BK225.out 2, ((HB.out.cell (World.block_lt_of_cell? w _ hw230_0)).trans hw230_0), ((HB.out.cell (World.block_lt_of_cell? w _ hw230_1)).trans hw230_1)⟩ (fun hHeld => ?_)
               clear hK K
               refine nS_ ?_
               refine pS_ 3 34 HT_ ?_
               refine pS_ 4 35 HT_ ?_
               refine pS_ 5 36 HT_ ?_
               refine pS_ 6 37 HT_ ?_
               refine pS_ 7 38 HT_ ?_
               refine pS_ 8 39 HT_ ?_
               refine pS_ 10 41 HT_ ?_
               refine pS_ 11 42 HT_ ?_
               refine pS_ 15 46 HT_ ?_
               refine tS_ 9 40 HT_ HW_ hHeld ?_
               refine pS_ 12 43 HT_ ?_
               refine pS_ 13 44 HT_ ?_
               refine tS_ 14 45 HT_ HW_ hHeld ?_
               refine tS_ 16 47 HT_ HW_ hHeld ?_
               refine pS_ 17 48 HT_ ?_
               refine pS_ 18 49 HT_ ?_
               refine pS_ 19 50 HT_ ?_
               refine pS_ 20 51 HT_ ?_
               refine pS_ 21 52 HT_ ?_
               refine pS_ 23 54 HT_ ?_
               refine tS_ 22 53 HT_ HW_ hHeld ?_
               refine tS_ 24 55 HT_ HW_ hHeld ?_
               refine oS_ 25 56 HT_ (fun K hK => ?_)
               refine goes_ Try.func31 (by kernel_rfl) rfl #[.slice A227_1 ((rd_T53 l0_1 x26_2).f1).length c227_1, .int .i64 a0_0] (by rfl) rfl rfl (by (try simp only [List.map_toArray, List.map_cons, List.map_nil]); first | done | rfl | (simp only [List.length_drop, List.length_take]; rfl)) ?_
               with_reducible refine (impl_areKeys.calls k2 _ _ ((rd_T53 l0_1 x26_2).f1) a0_0 true _ ?side1 ?side2 A22.out).mono ?_
               (case side1 => repeat (first | exact (Kd.C_below HR227_1.out (bw_ HB.out)) | (with_reducible refine Kd.C_alloc ?_ _) | (with_reducible refine Kd.C_drewN ?_ _) | (with_reducible refine Kd.C_drew ?_)))
               (case side2 => exact HC227_1.out)
               rintro e w29 ⟨rfl, hb⟩
               refine ⟨_, rfl, ?_⟩
               have n0_ := Aside0.mk (blk_below (bk_ BK225.out) hb)
               have n1_ := Aside0.mk (blk_below (bk_ BK228.out) hb)
               have n2_ := Aside0.mk (below_step (bw_ HB.out) hb)
               clear BK225
               clear BK228
               clear HB
               have BK225 := n0_
               have BK228 := n1_
               have HB := n2_
               clear n0_ n1_ n2_
               (try clear hb)
               (try clear hb2)
               (try clear hk)
               (try clear hi)
               refine hK.out _ _ ⟨cz_ BK228.out 0, cz_ BK228.out 1, cz_ BK225.out 0, cz_ BK225.out 1, cz_ BK225.out 2, ((HB.out.cell (World.block_lt_of_cell? w _ hw230_0)).trans hw230_0), ((HB.out.cell (World.block_lt_of_cell? w _ hw230_1)).trans hw230_1)⟩ (fun hHeld => ?_)
               clear hK K
               refine nS_ ?_
               refine pS_ 26 57 HT_ ?_
               refine pS_ 27 58 HT_ ?_
               refine done_ (done_of HT_.out (by kernel_rfl)) ?_
               try go_wp2
               go_roundg k2
               case measure => have := HJ1.out; have := HK2.out; omega
               case rel => exact ⟨(wrap64 (x26_2 + 1)), (by first | rfl | (simp; done) | (simp [*]; done) | (simp [wrap64]; done)), H', ⟨by have := HJ1.out; have := HK2.out; omega⟩, ⟨by (with_reducible repeat (first | refine blk_drewN ?_ _ | refine blk_drew ?_ | refine blk_alloc ?_ _)); exact BK225.out⟩, ⟨bw_ HB.out⟩⟩
              ·replace c23 := Bool.eq_false_iff.mpr c23
               subst c23
               replace H := if_ H Bool.false_ne_true
               obtain rfl := Option.some.inj H
               have p227 : 0 ≤ (x26_2 : Int) := of_decide_eq_true (by first | (with_reducible assumption) | assumption)
               have q227 : x26_2 < (l0_1.length : Int) := of_decide_eq_true (by first | (with_reducible assumption) | assumption)
               obtain ⟨ad227, A227_1, c227_1, e227, hx227_0, hx227_1, hl227_1, hi227_1⟩ := at_T53 HR0_1.out x26_2 p227 q227
               cases e227
               (try replace hx227_0 := (HB.out.cell (World.block_lt_of_cell? w _ hx227_0)).trans hx227_0)
               (try replace hx227_1 := (HB.out.cell (World.block_lt_of_cell? w _ hx227_1)).trans hx227_1)
               have HR227_1 := Aside0.mk hi227_1
               have HC227_1 := Aside0.mk hl227_1
               clear hi227_1 hl227_1
               replace p227 := eq_true p227
               replace q227 := eq_true q227
               try go_wp2_with (first | ((with_reducible refine gate_dst (N := 4) rfl ?_); (try (refine gate_guard (by rfl) ?_; dsimp only)); refine bx_ 4 #[.string (⟨#[]⟩ : ByteArray), .slice none 0 0] 53 ?_; intro gb228 hg w30 hbox hb; have n0_ := Aside0.mk (blk_below (bk_ BK225.out) hb); have n1_ := Aside0.mk (below_step (bw_ HB.out) hb); have n2_ := Aside0.mk (hbox); have n3_ := Aside0.mk (gs_ hg (bw_ HB.out)); have n4_ := Aside0.mk (gs_ hg (bw_ HB.out)); have n5_ := Aside0.mk (nl_ hg (bk_ BK225.out)); have n6_ := Aside0.mk (ng_ hg (bk_ BK225.out)); clear BK225; clear HB; have BK225 := n0_; have HB := n1_; have BK228 := n2_; have GW228 := n3_; have GE228 := n4_; have NB225_228 := n5_; have NB228_225 := n6_; clear n0_ n1_ n2_ n3_ n4_ n5_ n6_; clear hb hbox hg; have hnb31 := NB228_225.out; have hnc31 := NB225_228.out; have hcz32_0 := cz_ BK228.out 0; have hcz32_1 := cz_ BK228.out 1; have hfz32_0 := blk_frozen BK228.out 0; have hfz32_1 := blk_frozen BK228.out 1))
               have n0_ : Aside0 (((w30.setCell ⟨gb228, 0, none⟩ (.string ((rd_T53 l0_1 x26_2).f0))).setCell ⟨gb228, 1, none⟩ (.slice A227_1 ((rd_T53 l0_1 x26_2).f1).length c227_1)).heap[gb225]? = some (.cells #[.int .i64 a0_0, .slice (some ad227) l0_1.length c0_1, .slice A0_2 l0_2.length c0_2] 31 (0, 0))) := ⟨by (with_reducible repeat (first | refine blk_drewN ?_ _ | refine blk_drew ?_ | refine blk_alloc ?_ _)); refine blk_far ?_ NB225_228.out _; (with_reducible repeat (first | refine blk_drewN ?_ _ | refine blk_drew ?_ | refine blk_alloc ?_ _)); refine blk_far ?_ NB225_228.out _; (with_reducible repeat (first | refine blk_drewN ?_ _ | refine blk_drew ?_ | refine blk_alloc ?_ _)); exact BK225.out⟩
               have n1_ : Aside0 (((w30.setCell ⟨gb228, 0, none⟩ (.string ((rd_T53 l0_1 x26_2).f0))).setCell ⟨gb228, 1, none⟩ (.slice A227_1 ((rd_T53 l0_1 x26_2).f1).length c227_1)).heap[gb228]? = some (.cells #[.string ((rd_T53 l0_1 x26_2).f0), .slice A227_1 ((rd_T53 l0_1 x26_2).f1).length c227_1] 53 (0, 0))) := ⟨by (with_reducible repeat (first | refine blk_drewN ?_ _ | refine blk_drew ?_ | refine blk_alloc ?_ _)); refine blk_put (cs := #[.string ((rd_T53 l0_1 x26_2).f0), .slice none 0 0]) ?_ 1 _ rfl; (with_reducible repeat (first | refine blk_drewN ?_ _ | refine blk_drew ?_ | refine blk_alloc ?_ _)); refine blk_put (cs := #[.string (⟨#[]⟩ : ByteArray), .slice none 0 0]) ?_ 0 _ rfl; (with_reducible repeat (first | refine blk_drewN ?_ _ | refine blk_drew ?_ | refine blk_alloc ?_ _)); exact BK228.out⟩
               have n2_ : Aside0 (Below w.heap.size w ((w30.setCell ⟨gb228, 0, none⟩ (.string ((rd_T53 l0_1 x26_2).f0))).setCell ⟨gb228, 1, none⟩ (.slice A227_1 ((rd_T53 l0_1 x26_2).f1).length c227_1))) := ⟨bw_ HB.out⟩
               (try clear BK225)
               (try clear BK228)
               (try clear HB)
               generalize ((w30.setCell ⟨gb228, 0, none⟩ (.string ((rd_T53 l0_1 x26_2).f0))).setCell ⟨gb228, 1, none⟩ (.slice A227_1 ((rd_T53 l0_1 x26_2).f1).length c227_1)) = w33 at n0_ n1_ n2_ ⊢
               have BK225 := n0_
               have BK228 := n1_
               have HB := n2_
               clear n0_ n1_ n2_
               have n0_ := Aside0.mk (blk_drew BK225.out)
               have n1_ := Aside0.mk (blk_drew BK228.out)
               have n2_ := Aside0.mk (below_drew1 HB.out)
               clear BK225
               clear BK228
               clear HB
               have BK225 := n0_
               have BK228 := n1_
               have HB := n2_
               clear n0_ n1_ n2_
               have p230 : 0 ≤ ((ji18) : Int) := of_decide_eq_true (by first | (with_reducible assumption) | assumption)
               have q230 : (ji18) < (l0_1.length : Int) := of_decide_eq_true (by first | (with_reducible assumption) | assumption)
               obtain ⟨ad230, A230_1, c230_1, e230, hx230_0, hx230_1, hl230_1, hi230_1⟩ := at_T53 HR0_1.out (ji18) p230 q230
               have hw230_1 := hx230_1
               have hw230_0 := hx230_0
               obtain rfl : ad227 = ad230 := (by injection e230)
               (try replace hx230_0 := (HB.out.cell (World.block_lt_of_cell? w _ hx230_0)).trans hx230_0)
               (try replace hx230_1 := (HB.out.cell (World.block_lt_of_cell? w _ hx230_1)).trans hx230_1)
               have HR230_1 := Aside0.mk hi230_1
               have HC230_1 := Aside0.mk hl230_1
               clear hi230_1 hl230_1
               replace p230 := eq_true p230
               replace q230 := eq_true q230
               refine start_ (n := 28) (S := fun w' => w'.cell? ⟨gb228, 0, none⟩ = some (.string ((rd_T53 l0_1 x26_2).f0)) ∧ w'.cell? ⟨gb228, 1, none⟩ = some (.slice A227_1 ((rd_T53 l0_1 x26_2).f1).length c227_1) ∧ w'.cell? ⟨gb225, 0, none⟩ = some (.int .i64 a0_0) ∧ w'.cell? ⟨gb225, 1, none⟩ = some (.slice (some ad227) l0_1.length c0_1) ∧ w'.cell? ⟨gb225, 2, none⟩ = some (.slice A0_2 l0_2.length c0_2) ∧ w'.cell? (ad227.add (((ji18)).toNat * 2)) = some (.string ((rd_T53 l0_1 (ji18)).f0)) ∧ w'.cell? ⟨(ad227.add (((ji18)).toNat * 2)).block, (ad227.add (((ji18)).toNat * 2)).off + 1, none⟩ = some (.slice A230_1 ((rd_T53 l0_1 (ji18)).f1).length c230_1)) (ds := []) (Array.replicate 28 false) (by kernel_rfl) rfl rfl ⟨cz_ BK228.out 0, cz_ BK228.out 1, cz_ BK225.out 0, cz_ BK225.out 1, cz_ BK225.out 2, ((HB.out.cell (World.block_lt_of_cell? w _ hw230_0)).trans hw230_0), ((HB.out.cell (World.block_lt_of_cell? w _ hw230_1)).trans hw230_1)⟩ (fun hHeld => ?_); refine with_tabW impl_GoodClip.tab6 impl_GoodClip.bits6 (fun HT_ HW_ => ?_)
               generalize w33.drew = w34 at BK225 BK228 HB HR230_1 hx230_0 hx230_1 hHeld ⊢
               refine pS_ 0 31 HT_ ?_
               refine tS_ 1 32 HT_ HW_ hHeld ?_
               refine oS_ 2 33 HT_ (fun K hK => ?_)
               refine goes_ Try.func30 (by kernel_rfl) rfl #[.string ((rd_T53 l0_1 x26_2).f0)] (by rfl) rfl rfl (by (try simp only [List.map_toArray, List.map_cons, List.map_nil]); first | done | rfl | (simp only [List.length_drop, List.length_take]; rfl)) ?_
               with_reducible refine (impl_GoodName.calls k2 ((rd_T53 l0_1 x26_2).f0) true _ A15.out).mono ?_
               rintro e w' ⟨rfl, ⟨nd, rfl⟩⟩
               refine ⟨_, rfl, ?_⟩
               refine hK.out _ _ ⟨cz_ BK228.out 0, cz_ BK228.out 1, cz_ BK225.out 0, cz_ BK225.out 1, cz_ BK225.out 2, ((HB.out.cell (World.block_lt_of_cell? w _ hw230_0)).trans hw230_0), ((HB.out.cell (World.block_lt_of_cell? w _ hw230_1)).trans hw230_1)⟩ (fun hHeld => ?_)
               clear hK K
               refine nS_ ?_
               refine pS_ 3 34 HT_ ?_
               refine pS_ 4 35 HT_ ?_
               refine pS_ 5 36 HT_ ?_
               refine pS_ 6 37 HT_ ?_
               refine pS_ 7 38 HT_ ?_
               refine pS_ 8 39 HT_ ?_
               refine pS_ 10 41 HT_ ?_
               refine pS_ 11 42 HT_ ?_
               refine pS_ 15 46 HT_ ?_
               refine tS_ 9 40 HT_ HW_ hHeld ?_
               refine pS_ 12 43 HT_ ?_
               refine pS_ 13 44 HT_ ?_
               refine tS_ 14 45 HT_ HW_ hHeld ?_
               refine tS_ 16 47 HT_ HW_ hHeld ?_
               refine pS_ 17 48 HT_ ?_
               refine pS_ 18 49 HT_ ?_
               refine pS_ 19 50 HT_ ?_
               refine pS_ 20 51 HT_ ?_
               refine pS_ 21 52 HT_ ?_
               refine pS_ 23 54 HT_ ?_
               refine tS_ 22 53 HT_ HW_ hHeld ?_
               refine tS_ 24 55 HT_ HW_ hHeld ?_
               refine oS_ 25 56 HT_ (fun K hK => ?_)
               refine goes_ Try.func31 (by kernel_rfl) rfl #[.slice A227_1 ((rd_T53 l0_1 x26_2).f1).length c227_1, .int .i64 a0_0] (by rfl) rfl rfl (by (try simp only [List.map_toArray, List.map_cons, List.map_nil]); first | done | rfl | (simp only [List.length_drop, List.length_take]; rfl)) ?_
               with_reducible refine (impl_areKeys.calls k2 _ _ ((rd_T53 l0_1 x26_2).f1) a0_0 false _ ?side1 ?side2 A22.out).mono ?_
               (case side1 => repeat (first | exact (Kd.C_below HR227_1.out (bw_ HB.out)) | (with_reducible refine Kd.C_alloc ?_ _) | (with_reducible refine Kd.C_drewN ?_ _) | (with_reducible refine Kd.C_drew ?_)))
               (case side2 => exact HC227_1.out)
               rintro e w35 ⟨rfl, hb⟩
               refine ⟨_, rfl, ?_⟩
               have n0_ := Aside0.mk (blk_below (bk_ BK225.out) hb)
               have n1_ := Aside0.mk (blk_below (bk_ BK228.out) hb)
               have n2_ := Aside0.mk (below_step (bw_ HB.out) hb)
               clear BK225
               clear BK228
               clear HB
               have BK225 := n0_
               have BK228 := n1_
               have HB := n2_
               clear n0_ n1_ n2_
               (try clear hb)
               (try clear hb2)
               (try clear hk)
               (try clear hi)
               refine hK.out _ _ ⟨cz_ BK228.out 0, cz_ BK228.out 1, cz_ BK225.out 0, cz_ BK225.out 1, cz_ BK225.out 2, ((HB.out.cell (World.block_lt_of_cell? w _ hw230_0)).trans hw230_0), ((HB.out.cell (World.block_lt_of_cell? w _ hw230_1)).trans hw230_1)⟩ (fun hHeld => ?_)
               clear hK K
               refine nS_ ?_
               refine pS_ 26 57 HT_ ?_
               refine pS_ 27 58 HT_ ?_
               refine done_ (done_of HT_.out (by kernel_rfl)) ?_
               try go_wp2
               go_ret
               exact ⟨by first | rfl | (simp [errW_none, errW_some] <;> rfl) | (simp only [← hji18]; first | rfl | (simp [errW_none, errW_some] <;> rfl)) | (simp [*, errW_none, errW_some] <;> rfl), bw_ HB.out⟩
             ·rw [if_neg c21] at H
              have c21b0 : (Op.bytesLess (((rd_T53 l0_1 (ji18)).f0).toList) (((rd_T53 l0_1 x26_2).f0).toList)) = false := by simpa using c21
              clear c21
              obtain rfl := Option.some.inj H
              have p227 : 0 ≤ (x26_2 : Int) := of_decide_eq_true (by first | (with_reducible assumption) | assumption)
              have q227 : x26_2 < (l0_1.length : Int) := of_decide_eq_true (by first | (with_reducible assumption) | assumption)
              obtain ⟨ad227, A227_1, c227_1, e227, hx227_0, hx227_1, hl227_1, hi227_1⟩ := at_T53 HR0_1.out x26_2 p227 q227
              cases e227
              (try replace hx227_0 := (HB.out.cell (World.block_lt_of_cell? w _ hx227_0)).trans hx227_0)
              (try replace hx227_1 := (HB.out.cell (World.block_lt_of_cell? w _ hx227_1)).trans hx227_1)
              have HR227_1 := Aside0.mk hi227_1
              have HC227_1 := Aside0.mk hl227_1
              clear hi227_1 hl227_1
              replace p227 := eq_true p227
              replace q227 := eq_true q227
              try go_wp2_with (first | ((with_reducible refine gate_dst (N := 4) rfl ?_); (try (refine gate_guard (by rfl) ?_; dsimp only)); refine bx_ 4 #[.string (⟨#[]⟩ : ByteArray), .slice none 0 0] 53 ?_; intro gb228 hg w36 hbox hb; have n0_ := Aside0.mk (blk_below (bk_ BK225.out) hb); have n1_ := Aside0.mk (below_step (bw_ HB.out) hb); have n2_ := Aside0.mk (hbox); have n3_ := Aside0.mk (gs_ hg (bw_ HB.out)); have n4_ := Aside0.mk (gs_ hg (bw_ HB.out)); have n5_ := Aside0.mk (nl_ hg (bk_ BK225.out)); have n6_ := Aside0.mk (ng_ hg (bk_ BK225.out)); clear BK225; clear HB; have BK225 := n0_; have HB := n1_; have BK228 := n2_; have GW228 := n3_; have GE228 := n4_; have NB225_228 := n5_; have NB228_225 := n6_; clear n0_ n1_ n2_ n3_ n4_ n5_ n6_; clear hb hbox hg; have hnb37 := NB228_225.out; have hnc37 := NB225_228.out; have hcz38_0 := cz_ BK228.out 0; have hcz38_1 := cz_ BK228.out 1; have hfz38_0 := blk_frozen BK228.out 0; have hfz38_1 := blk_frozen BK228.out 1))
              have n0_ : Aside0 (((w36.setCell ⟨gb228, 0, none⟩ (.string ((rd_T53 l0_1 x26_2).f0))).setCell ⟨gb228, 1, none⟩ (.slice A227_1 ((rd_T53 l0_1 x26_2).f1).length c227_1)).heap[gb225]? = some (.cells #[.int .i64 a0_0, .slice (some ad227) l0_1.length c0_1, .slice A0_2 l0_2.length c0_2] 31 (0, 0))) := ⟨by (with_reducible repeat (first | refine blk_drewN ?_ _ | refine blk_drew ?_ | refine blk_alloc ?_ _)); refine blk_far ?_ NB225_228.out _; (with_reducible repeat (first | refine blk_drewN ?_ _ | refine blk_drew ?_ | refine blk_alloc ?_ _)); refine blk_far ?_ NB225_228.out _; (with_reducible repeat (first | refine blk_drewN ?_ _ | refine blk_drew ?_ | refine blk_alloc ?_ _)); exact BK225.out⟩
              have n1_ : Aside0 (((w36.setCell ⟨gb228, 0, none⟩ (.string ((rd_T53 l0_1 x26_2).f0))).setCell ⟨gb228, 1, none⟩ (.slice A227_1 ((rd_T53 l0_1 x26_2).f1).length c227_1)).heap[gb228]? = some (.cells #[.string ((rd_T53 l0_1 x26_2).f0), .slice A227_1 ((rd_T53 l0_1 x26_2).f1).length c227_1] 53 (0, 0))) := ⟨by (with_reducible repeat (first | refine blk_drewN ?_ _ | refine blk_drew ?_ | refine blk_alloc ?_ _)); refine blk_put (cs := #[.string ((rd_T53 l0_1 x26_2).f0), .slice none 0 0]) ?_ 1 _ rfl; (with_reducible repeat (first | refine blk_drewN ?_ _ | refine blk_drew ?_ | refine blk_alloc ?_ _)); refine blk_put (cs := #[.string (⟨#[]⟩ : ByteArray), .slice none 0 0]) ?_ 0 _ rfl; (with_reducible repeat (first | refine blk_drewN ?_ _ | refine blk_drew ?_ | refine blk_alloc ?_ _)); exact BK228.out⟩
              have n2_ : Aside0 (Below w.heap.size w ((w36.setCell ⟨gb228, 0, none⟩ (.string ((rd_T53 l0_1 x26_2).f0))).setCell ⟨gb228, 1, none⟩ (.slice A227_1 ((rd_T53 l0_1 x26_2).f1).length c227_1))) := ⟨bw_ HB.out⟩
              (try clear BK225)
              (try clear BK228)
              (try clear HB)
              generalize ((w36.setCell ⟨gb228, 0, none⟩ (.string ((rd_T53 l0_1 x26_2).f0))).setCell ⟨gb228, 1, none⟩ (.slice A227_1 ((rd_T53 l0_1 x26_2).f1).length c227_1)) = w39 at n0_ n1_ n2_ ⊢
              have BK225 := n0_
              have BK228 := n1_
              have HB := n2_
              clear n0_ n1_ n2_
              have n0_ := Aside0.mk (blk_drew BK225.out)
              have n1_ := Aside0.mk (blk_drew BK228.out)
              have n2_ := Aside0.mk (below_drew1 HB.out)
              clear BK225
              clear BK228
              clear HB
              have BK225 := n0_
              have BK228 := n1_
              have HB := n2_
              clear n0_ n1_ n2_
              have p230 : 0 ≤ ((ji18) : Int) := of_decide_eq_true (by first | (with_reducible assumption) | assumption)
              have q230 : (ji18) < (l0_1.length : Int) := of_decide_eq_true (by first | (with_reducible assumption) | assumption)
              obtain ⟨ad230, A230_1, c230_1, e230, hx230_0, hx230_1, hl230_1, hi230_1⟩ := at_T53 HR0_1.out (ji18) p230 q230
              have hw230_1 := hx230_1
              have hw230_0 := hx230_0
              obtain rfl : ad227 = ad230 := (by injection e230)
              (try replace hx230_0 := (HB.out.cell (World.block_lt_of_cell? w _ hx230_0)).trans hx230_0)
              (try replace hx230_1 := (HB.out.cell (World.block_lt_of_cell? w _ hx230_1)).trans hx230_1)
              have HR230_1 := Aside0.mk hi230_1
              have HC230_1 := Aside0.mk hl230_1
              clear hi230_1 hl230_1
              replace p230 := eq_true p230
              replace q230 := eq_true q230
              refine start_ (n := 28) (S := fun w' => w'.cell? ⟨gb228, 0, none⟩ = some (.string ((rd_T53 l0_1 x26_2).f0)) ∧ w'.cell? ⟨gb228, 1, none⟩ = some (.slice A227_1 ((rd_T53 l0_1 x26_2).f1).length c227_1) ∧ w'.cell? ⟨gb225, 0, none⟩ = some (.int .i64 a0_0) ∧ w'.cell? ⟨gb225, 1, none⟩ = some (.slice (some ad227) l0_1.length c0_1) ∧ w'.cell? ⟨gb225, 2, none⟩ = some (.slice A0_2 l0_2.length c0_2) ∧ w'.cell? (ad227.add (((ji18)).toNat * 2)) = some (.string ((rd_T53 l0_1 (ji18)).f0)) ∧ w'.cell? ⟨(ad227.add (((ji18)).toNat * 2)).block, (ad227.add (((ji18)).toNat * 2)).off + 1, none⟩ = some (.slice A230_1 ((rd_T53 l0_1 (ji18)).f1).length c230_1)) (ds := []) (Array.replicate 28 false) (by kernel_rfl) rfl rfl ⟨cz_ BK228.out 0, cz_ BK228.out 1, cz_ BK225.out 0, cz_ BK225.out 1, cz_ BK225.out 2, ((HB.out.cell (World.block_lt_of_cell? w _ hw230_0)).trans hw230_0), ((HB.out.cell (World.block_lt_of_cell? w _ hw230_1)).trans hw230_1)⟩ (fun hHeld => ?_); refine with_tabW impl_GoodClip.tab6 impl_GoodClip.bits6 (fun HT_ HW_ => ?_)
              generalize w39.drew = w40 at BK225 BK228 HB HR230_1 hx230_0 hx230_1 hHeld ⊢
              refine pS_ 0 31 HT_ ?_
              refine tS_ 1 32 HT_ HW_ hHeld ?_
              refine oS_ 2 33 HT_ (fun K hK => ?_)
              refine goes_ Try.func30 (by kernel_rfl) rfl #[.string ((rd_T53 l0_1 x26_2).f0)] (by rfl) rfl rfl (by (try simp only [List.map_toArray, List.map_cons, List.map_nil]); first | done | rfl | (simp only [List.length_drop, List.length_take]; rfl)) ?_
              with_reducible refine (impl_GoodName.calls k2 ((rd_T53 l0_1 x26_2).f0) true _ A15.out).mono ?_
              rintro e w' ⟨rfl, ⟨nd, rfl⟩⟩
              refine ⟨_, rfl, ?_⟩
              refine hK.out _ _ ⟨cz_ BK228.out 0, cz_ BK228.out 1, cz_ BK225.out 0, cz_ BK225.out 1, cz_ BK225.out 2, ((HB.out.cell (World.block_lt_of_cell? w _ hw230_0)).trans hw230_0), ((HB.out.cell (World.block_lt_of_cell? w _ hw230_1)).trans hw230_1)⟩ (fun hHeld => ?_)
              clear hK K
              refine nS_ ?_
              refine pS_ 3 34 HT_ ?_
              refine pS_ 4 35 HT_ ?_
              refine pS_ 5 36 HT_ ?_
              refine pS_ 6 37 HT_ ?_
              refine pS_ 7 38 HT_ ?_
              refine pS_ 8 39 HT_ ?_
              refine pS_ 10 41 HT_ ?_
              refine pS_ 11 42 HT_ ?_
              refine pS_ 15 46 HT_ ?_
              refine tS_ 9 40 HT_ HW_ hHeld ?_
              refine pS_ 12 43 HT_ ?_
              refine pS_ 13 44 HT_ ?_
              refine tS_ 14 45 HT_ HW_ hHeld ?_
              refine tS_ 16 47 HT_ HW_ hHeld ?_
              refine pS_ 17 48 HT_ ?_
              refine pS_ 18 49 HT_ ?_
              refine pS_ 19 50 HT_ ?_
              refine pS_ 20 51 HT_ ?_
              refine pU_ 21 52 HT_ ?_
              refine pU_ 22 53 HT_ ?_
              refine pU_ 23 54 HT_ ?_
              refine pU_ 24 55 HT_ ?_
              refine pU_ 25 56 HT_ ?_
              refine pU_ 26 57 HT_ ?_
              refine pS_ 27 58 HT_ ?_
              refine done_ (done_of HT_.out (by kernel_rfl)) ?_
              try go_wp2
              go_ret
              exact ⟨by first | rfl | (simp [errW_none, errW_some] <;> rfl) | (simp only [← hji18]; first | rfl | (simp [errW_none, errW_some] <;> rfl)) | (simp [*, errW_none, errW_some] <;> rfl), bw_ HB.out⟩
            ·rw [if_neg c20] at H
             exact absurd H (by simp)
           ·rw [if_neg c19] at H
            exact absurd H (by simp)
          ·rw [if_neg c17] at H
           have c17b0 : decide (0 < x26_2) = false := decide_eq_false c17
           clear c17
           obtain ⟨t232, A410, H⟩ := bE_ H
           have A41 := Aside0.mk A410
           clear A410
           by_cases c42 : t232 = true
           ·subst c42
            replace H := it_ H rfl
            have H' := Aside0.mk H
            clear H
            have p227 : 0 ≤ (x26_2 : Int) := of_decide_eq_true (by first | (with_reducible assumption) | assumption)
            have q227 : x26_2 < (l0_1.length : Int) := of_decide_eq_true (by first | (with_reducible assumption) | assumption)
            obtain ⟨ad227, A227_1, c227_1, e227, hx227_0, hx227_1, hl227_1, hi227_1⟩ := at_T53 HR0_1.out x26_2 p227 q227
            cases e227
            (try replace hx227_0 := (HB.out.cell (World.block_lt_of_cell? w _ hx227_0)).trans hx227_0)
            (try replace hx227_1 := (HB.out.cell (World.block_lt_of_cell? w _ hx227_1)).trans hx227_1)
            have HR227_1 := Aside0.mk hi227_1
            have HC227_1 := Aside0.mk hl227_1
            clear hi227_1 hl227_1
            replace p227 := eq_true p227
            replace q227 := eq_true q227
            try go_wp2_with (first | ((with_reducible refine gate_dst (N := 4) rfl ?_); (try (refine gate_guard (by rfl) ?_; dsimp only)); refine bx_ 4 #[.string (⟨#[]⟩ : ByteArray), .slice none 0 0] 53 ?_; intro gb228 hg w43 hbox hb; have n0_ := Aside0.mk (blk_below (bk_ BK225.out) hb); have n1_ := Aside0.mk (below_step (bw_ HB.out) hb); have n2_ := Aside0.mk (hbox); have n3_ := Aside0.mk (gs_ hg (bw_ HB.out)); have n4_ := Aside0.mk (gs_ hg (bw_ HB.out)); have n5_ := Aside0.mk (nl_ hg (bk_ BK225.out)); have n6_ := Aside0.mk (ng_ hg (bk_ BK225.out)); clear BK225; clear HB; have BK225 := n0_; have HB := n1_; have BK228 := n2_; have GW228 := n3_; have GE228 := n4_; have NB225_228 := n5_; have NB228_225 := n6_; clear n0_ n1_ n2_ n3_ n4_ n5_ n6_; clear hb hbox hg; have hnb44 := NB228_225.out; have hnc44 := NB225_228.out; have hcz45_0 := cz_ BK228.out 0; have hcz45_1 := cz_ BK228.out 1; have hfz45_0 := blk_frozen BK228.out 0; have hfz45_1 := blk_frozen BK228.out 1))
            have n0_ : Aside0 (((w43.setCell ⟨gb228, 0, none⟩ (.string ((rd_T53 l0_1 x26_2).f0))).setCell ⟨gb228, 1, none⟩ (.slice A227_1 ((rd_T53 l0_1 x26_2).f1).length c227_1)).heap[gb225]? = some (.cells #[.int .i64 a0_0, .slice (some ad227) l0_1.length c0_1, .slice A0_2 l0_2.length c0_2] 31 (0, 0))) := ⟨by (with_reducible repeat (first | refine blk_drewN ?_ _ | refine blk_drew ?_ | refine blk_alloc ?_ _)); refine blk_far ?_ NB225_228.out _; (with_reducible repeat (first | refine blk_drewN ?_ _ | refine blk_drew ?_ | refine blk_alloc ?_ _)); refine blk_far ?_ NB225_228.out _; (with_reducible repeat (first | refine blk_drewN ?_ _ | refine blk_drew ?_ | refine blk_alloc ?_ _)); exact BK225.out⟩
            have n1_ : Aside0 (((w43.setCell ⟨gb228, 0, none⟩ (.string ((rd_T53 l0_1 x26_2).f0))).setCell ⟨gb228, 1, none⟩ (.slice A227_1 ((rd_T53 l0_1 x26_2).f1).length c227_1)).heap[gb228]? = some (.cells #[.string ((rd_T53 l0_1 x26_2).f0), .slice A227_1 ((rd_T53 l0_1 x26_2).f1).length c227_1] 53 (0, 0))) := ⟨by (with_reducible repeat (first | refine blk_drewN ?_ _ | refine blk_drew ?_ | refine blk_alloc ?_ _)); refine blk_put (cs := #[.string ((rd_T53 l0_1 x26_2).f0), .slice none 0 0]) ?_ 1 _ rfl; (with_reducible repeat (first | refine blk_drewN ?_ _ | refine blk_drew ?_ | refine blk_alloc ?_ _)); refine blk_put (cs := #[.string (⟨#[]⟩ : ByteArray), .slice none 0 0]) ?_ 0 _ rfl; (with_reducible repeat (first | refine blk_drewN ?_ _ | refine blk_drew ?_ | refine blk_alloc ?_ _)); exact BK228.out⟩
            have n2_ : Aside0 (Below w.heap.size w ((w43.setCell ⟨gb228, 0, none⟩ (.string ((rd_T53 l0_1 x26_2).f0))).setCell ⟨gb228, 1, none⟩ (.slice A227_1 ((rd_T53 l0_1 x26_2).f1).length c227_1))) := ⟨bw_ HB.out⟩
            (try clear BK225)
            (try clear BK228)
            (try clear HB)
            generalize ((w43.setCell ⟨gb228, 0, none⟩ (.string ((rd_T53 l0_1 x26_2).f0))).setCell ⟨gb228, 1, none⟩ (.slice A227_1 ((rd_T53 l0_1 x26_2).f1).length c227_1)) = w46 at n0_ n1_ n2_ ⊢
            have BK225 := n0_
            have BK228 := n1_
            have HB := n2_
            clear n0_ n1_ n2_
            have n0_ := Aside0.mk (blk_drew BK225.out)
            have n1_ := Aside0.mk (blk_drew BK228.out)
            have n2_ := Aside0.mk (below_drew1 HB.out)
            clear BK225
            clear BK228
            clear HB
            have BK225 := n0_
            have BK228 := n1_
            have HB := n2_
            clear n0_ n1_ n2_
            refine start_ (n := 28) (S := fun w' => w'.cell? ⟨gb228, 0, none⟩ = some (.string ((rd_T53 l0_1 x26_2).f0)) ∧ w'.cell? ⟨gb228, 1, none⟩ = some (.slice A227_1 ((rd_T53 l0_1 x26_2).f1).length c227_1) ∧ w'.cell? ⟨gb225, 0, none⟩ = some (.int .i64 a0_0) ∧ w'.cell? ⟨gb225, 1, none⟩ = some (.slice (some ad227) l0_1.length c0_1) ∧ w'.cell? ⟨gb225, 2, none⟩ = some (.slice A0_2 l0_2.length c0_2)) (ds := []) (Array.replicate 28 false) (by kernel_rfl) rfl rfl ⟨cz_ BK228.out 0, cz_ BK228.out 1, cz_ BK225.out 0, cz_ BK225.out 1, cz_ BK225.out 2⟩ (fun hHeld => ?_); refine with_tabW impl_GoodClip.tab6 impl_GoodClip.bits6 (fun HT_ HW_ => ?_)
            generalize w46.drew = w47 at BK225 BK228 HB hHeld ⊢
            refine pS_ 0 31 HT_ ?_
            refine tS_ 1 32 HT_ HW_ hHeld ?_
            refine oS_ 2 33 HT_ (fun K hK => ?_)
            refine goes_ Try.func30 (by kernel_rfl) rfl #[.string ((rd_T53 l0_1 x26_2).f0)] (by rfl) rfl rfl (by (try simp only [List.map_toArray, List.map_cons, List.map_nil]); first | done | rfl | (simp only [List.length_drop, List.length_take]; rfl)) ?_
            with_reducible refine (impl_GoodName.calls k2 ((rd_T53 l0_1 x26_2).f0) true _ A15.out).mono ?_
            rintro e w' ⟨rfl, ⟨nd, rfl⟩⟩
            refine ⟨_, rfl, ?_⟩
            refine hK.out _ _ ⟨cz_ BK228.out 0, cz_ BK228.out 1, cz_ BK225.out 0, cz_ BK225.out 1, cz_ BK225.out 2⟩ (fun hHeld => ?_)
            clear hK K
            refine nS_ ?_
            refine pS_ 3 34 HT_ ?_
            refine pS_ 4 35 HT_ ?_
            refine pS_ 5 36 HT_ ?_
            refine pS_ 6 37 HT_ ?_
            refine pS_ 7 38 HT_ ?_
            refine pU_ 8 39 HT_ ?_
            refine pU_ 9 40 HT_ ?_
            refine pU_ 10 41 HT_ ?_
            refine pU_ 11 42 HT_ ?_
            refine pU_ 12 43 HT_ ?_
            refine pU_ 13 44 HT_ ?_
            refine pU_ 14 45 HT_ ?_
            refine pU_ 15 46 HT_ ?_
            refine pU_ 16 47 HT_ ?_
            refine pU_ 17 48 HT_ ?_
            refine pS_ 18 49 HT_ ?_
            refine pS_ 19 50 HT_ ?_
            refine pS_ 20 51 HT_ ?_
            refine pS_ 21 52 HT_ ?_
            refine pS_ 23 54 HT_ ?_
            refine tS_ 22 53 HT_ HW_ hHeld ?_
            refine tS_ 24 55 HT_ HW_ hHeld ?_
            refine oS_ 25 56 HT_ (fun K hK => ?_)
            refine goes_ Try.func31 (by kernel_rfl) rfl #[.slice A227_1 ((rd_T53 l0_1 x26_2).f1).length c227_1, .int .i64 a0_0] (by rfl) rfl rfl (by (try simp only [List.map_toArray, List.map_cons, List.map_nil]); first | done | rfl | (simp only [List.length_drop, List.length_take]; rfl)) ?_
            with_reducible refine (impl_areKeys.calls k2 _ _ ((rd_T53 l0_1 x26_2).f1) a0_0 true _ ?side1 ?side2 A41.out).mono ?_
            (case side1 => repeat (first | exact (Kd.C_below HR227_1.out (bw_ HB.out)) | (with_reducible refine Kd.C_alloc ?_ _) | (with_reducible refine Kd.C_drewN ?_ _) | (with_reducible refine Kd.C_drew ?_)))
            (case side2 => exact HC227_1.out)
            rintro e w48 ⟨rfl, hb⟩
            refine ⟨_, rfl, ?_⟩
            have n0_ := Aside0.mk (blk_below (bk_ BK225.out) hb)
            have n1_ := Aside0.mk (blk_below (bk_ BK228.out) hb)
            have n2_ := Aside0.mk (below_step (bw_ HB.out) hb)
            clear BK225
            clear BK228
            clear HB
            have BK225 := n0_
            have BK228 := n1_
            have HB := n2_
            clear n0_ n1_ n2_
            (try clear hb)
            (try clear hb2)
            (try clear hk)
            (try clear hi)
            refine hK.out _ _ ⟨cz_ BK228.out 0, cz_ BK228.out 1, cz_ BK225.out 0, cz_ BK225.out 1, cz_ BK225.out 2⟩ (fun hHeld => ?_)
            clear hK K
            refine nS_ ?_
            refine pS_ 26 57 HT_ ?_
            refine pS_ 27 58 HT_ ?_
            refine done_ (done_of HT_.out (by kernel_rfl)) ?_
            try go_wp2
            go_roundg k2
            case measure => have := HJ1.out; have := HK2.out; omega
            case rel => exact ⟨(wrap64 (x26_2 + 1)), (by first | rfl | (simp; done) | (simp [*]; done) | (simp [wrap64]; done)), H', ⟨by have := HJ1.out; have := HK2.out; omega⟩, ⟨by (with_reducible repeat (first | refine blk_drewN ?_ _ | refine blk_drew ?_ | refine blk_alloc ?_ _)); exact BK225.out⟩, ⟨bw_ HB.out⟩⟩
           ·replace c42 := Bool.eq_false_iff.mpr c42
            subst c42
            replace H := if_ H Bool.false_ne_true
            obtain rfl := Option.some.inj H
            have p227 : 0 ≤ (x26_2 : Int) := of_decide_eq_true (by first | (with_reducible assumption) | assumption)
            have q227 : x26_2 < (l0_1.length : Int) := of_decide_eq_true (by first | (with_reducible assumption) | assumption)
            obtain ⟨ad227, A227_1, c227_1, e227, hx227_0, hx227_1, hl227_1, hi227_1⟩ := at_T53 HR0_1.out x26_2 p227 q227
            cases e227
            (try replace hx227_0 := (HB.out.cell (World.block_lt_of_cell? w _ hx227_0)).trans hx227_0)
            (try replace hx227_1 := (HB.out.cell (World.block_lt_of_cell? w _ hx227_1)).trans hx227_1)
            have HR227_1 := Aside0.mk hi227_1
            have HC227_1 := Aside0.mk hl227_1
            clear hi227_1 hl227_1
            replace p227 := eq_true p227
            replace q227 := eq_true q227
            try go_wp2_with (first | ((with_reducible refine gate_dst (N := 4) rfl ?_); (try (refine gate_guard (by rfl) ?_; dsimp only)); refine bx_ 4 #[.string (⟨#[]⟩ : ByteArray), .slice none 0 0] 53 ?_; intro gb228 hg w49 hbox hb; have n0_ := Aside0.mk (blk_below (bk_ BK225.out) hb); have n1_ := Aside0.mk (below_step (bw_ HB.out) hb); have n2_ := Aside0.mk (hbox); have n3_ := Aside0.mk (gs_ hg (bw_ HB.out)); have n4_ := Aside0.mk (gs_ hg (bw_ HB.out)); have n5_ := Aside0.mk (nl_ hg (bk_ BK225.out)); have n6_ := Aside0.mk (ng_ hg (bk_ BK225.out)); clear BK225; clear HB; have BK225 := n0_; have HB := n1_; have BK228 := n2_; have GW228 := n3_; have GE228 := n4_; have NB225_228 := n5_; have NB228_225 := n6_; clear n0_ n1_ n2_ n3_ n4_ n5_ n6_; clear hb hbox hg; have hnb50 := NB228_225.out; have hnc50 := NB225_228.out; have hcz51_0 := cz_ BK228.out 0; have hcz51_1 := cz_ BK228.out 1; have hfz51_0 := blk_frozen BK228.out 0; have hfz51_1 := blk_frozen BK228.out 1))
            have n0_ : Aside0 (((w49.setCell ⟨gb228, 0, none⟩ (.string ((rd_T53 l0_1 x26_2).f0))).setCell ⟨gb228, 1, none⟩ (.slice A227_1 ((rd_T53 l0_1 x26_2).f1).length c227_1)).heap[gb225]? = some (.cells #[.int .i64 a0_0, .slice (some ad227) l0_1.length c0_1, .slice A0_2 l0_2.length c0_2] 31 (0, 0))) := ⟨by (with_reducible repeat (first | refine blk_drewN ?_ _ | refine blk_drew ?_ | refine blk_alloc ?_ _)); refine blk_far ?_ NB225_228.out _; (with_reducible repeat (first | refine blk_drewN ?_ _ | refine blk_drew ?_ | refine blk_alloc ?_ _)); refine blk_far ?_ NB225_228.out _; (with_reducible repeat (first | refine blk_drewN ?_ _ | refine blk_drew ?_ | refine blk_alloc ?_ _)); exact BK225.out⟩
            have n1_ : Aside0 (((w49.setCell ⟨gb228, 0, none⟩ (.string ((rd_T53 l0_1 x26_2).f0))).setCell ⟨gb228, 1, none⟩ (.slice A227_1 ((rd_T53 l0_1 x26_2).f1).length c227_1)).heap[gb228]? = some (.cells #[.string ((rd_T53 l0_1 x26_2).f0), .slice A227_1 ((rd_T53 l0_1 x26_2).f1).length c227_1] 53 (0, 0))) := ⟨by (with_reducible repeat (first | refine blk_drewN ?_ _ | refine blk_drew ?_ | refine blk_alloc ?_ _)); refine blk_put (cs := #[.string ((rd_T53 l0_1 x26_2).f0), .slice none 0 0]) ?_ 1 _ rfl; (with_reducible repeat (first | refine blk_drewN ?_ _ | refine blk_drew ?_ | refine blk_alloc ?_ _)); refine blk_put (cs := #[.string (⟨#[]⟩ : ByteArray), .slice none 0 0]) ?_ 0 _ rfl; (with_reducible repeat (first | refine blk_drewN ?_ _ | refine blk_drew ?_ | refine blk_alloc ?_ _)); exact BK228.out⟩
            have n2_ : Aside0 (Below w.heap.size w ((w49.setCell ⟨gb228, 0, none⟩ (.string ((rd_T53 l0_1 x26_2).f0))).setCell ⟨gb228, 1, none⟩ (.slice A227_1 ((rd_T53 l0_1 x26_2).f1).length c227_1))) := ⟨bw_ HB.out⟩
            (try clear BK225)
            (try clear BK228)
            (try clear HB)
            generalize ((w49.setCell ⟨gb228, 0, none⟩ (.string ((rd_T53 l0_1 x26_2).f0))).setCell ⟨gb228, 1, none⟩ (.slice A227_1 ((rd_T53 l0_1 x26_2).f1).length c227_1)) = w52 at n0_ n1_ n2_ ⊢
            have BK225 := n0_
            have BK228 := n1_
            have HB := n2_
            clear n0_ n1_ n2_
            have n0_ := Aside0.mk (blk_drew BK225.out)
            have n1_ := Aside0.mk (blk_drew BK228.out)
            have n2_ := Aside0.mk (below_drew1 HB.out)
            clear BK225
            clear BK228
            clear HB
            have BK225 := n0_
            have BK228 := n1_
            have HB := n2_
            clear n0_ n1_ n2_
            refine start_ (n := 28) (S := fun w' => w'.cell? ⟨gb228, 0, none⟩ = some (.string ((rd_T53 l0_1 x26_2).f0)) ∧ w'.cell? ⟨gb228, 1, none⟩ = some (.slice A227_1 ((rd_T53 l0_1 x26_2).f1).length c227_1) ∧ w'.cell? ⟨gb225, 0, none⟩ = some (.int .i64 a0_0) ∧ w'.cell? ⟨gb225, 1, none⟩ = some (.slice (some ad227) l0_1.length c0_1) ∧ w'.cell? ⟨gb225, 2, none⟩ = some (.slice A0_2 l0_2.length c0_2)) (ds := []) (Array.replicate 28 false) (by kernel_rfl) rfl rfl ⟨cz_ BK228.out 0, cz_ BK228.out 1, cz_ BK225.out 0, cz_ BK225.out 1, cz_ BK225.out 2⟩ (fun hHeld => ?_); refine with_tabW impl_GoodClip.tab6 impl_GoodClip.bits6 (fun HT_ HW_ => ?_)
            generalize w52.drew = w53 at BK225 BK228 HB hHeld ⊢
            refine pS_ 0 31 HT_ ?_
            refine tS_ 1 32 HT_ HW_ hHeld ?_
            refine oS_ 2 33 HT_ (fun K hK => ?_)
            refine goes_ Try.func30 (by kernel_rfl) rfl #[.string ((rd_T53 l0_1 x26_2).f0)] (by rfl) rfl rfl (by (try simp only [List.map_toArray, List.map_cons, List.map_nil]); first | done | rfl | (simp only [List.length_drop, List.length_take]; rfl)) ?_
            with_reducible refine (impl_GoodName.calls k2 ((rd_T53 l0_1 x26_2).f0) true _ A15.out).mono ?_
            rintro e w' ⟨rfl, ⟨nd, rfl⟩⟩
            refine ⟨_, rfl, ?_⟩
            refine hK.out _ _ ⟨cz_ BK228.out 0, cz_ BK228.out 1, cz_ BK225.out 0, cz_ BK225.out 1, cz_ BK225.out 2⟩ (fun hHeld => ?_)
            clear hK K
            refine nS_ ?_
            refine pS_ 3 34 HT_ ?_
            refine pS_ 4 35 HT_ ?_
            refine pS_ 5 36 HT_ ?_
            refine pS_ 6 37 HT_ ?_
            refine pS_ 7 38 HT_ ?_
            refine pU_ 8 39 HT_ ?_
            refine pU_ 9 40 HT_ ?_
            refine pU_ 10 41 HT_ ?_
            refine pU_ 11 42 HT_ ?_
            refine pU_ 12 43 HT_ ?_
            refine pU_ 13 44 HT_ ?_
            refine pU_ 14 45 HT_ ?_
            refine pU_ 15 46 HT_ ?_
            refine pU_ 16 47 HT_ ?_
            refine pU_ 17 48 HT_ ?_
            refine pS_ 18 49 HT_ ?_
            refine pS_ 19 50 HT_ ?_
            refine pS_ 20 51 HT_ ?_
            refine pS_ 21 52 HT_ ?_
            refine pS_ 23 54 HT_ ?_
            refine tS_ 22 53 HT_ HW_ hHeld ?_
            refine tS_ 24 55 HT_ HW_ hHeld ?_
            refine oS_ 25 56 HT_ (fun K hK => ?_)
            refine goes_ Try.func31 (by kernel_rfl) rfl #[.slice A227_1 ((rd_T53 l0_1 x26_2).f1).length c227_1, .int .i64 a0_0] (by rfl) rfl rfl (by (try simp only [List.map_toArray, List.map_cons, List.map_nil]); first | done | rfl | (simp only [List.length_drop, List.length_take]; rfl)) ?_
            with_reducible refine (impl_areKeys.calls k2 _ _ ((rd_T53 l0_1 x26_2).f1) a0_0 false _ ?side1 ?side2 A41.out).mono ?_
            (case side1 => repeat (first | exact (Kd.C_below HR227_1.out (bw_ HB.out)) | (with_reducible refine Kd.C_alloc ?_ _) | (with_reducible refine Kd.C_drewN ?_ _) | (with_reducible refine Kd.C_drew ?_)))
            (case side2 => exact HC227_1.out)
            rintro e w54 ⟨rfl, hb⟩
            refine ⟨_, rfl, ?_⟩
            have n0_ := Aside0.mk (blk_below (bk_ BK225.out) hb)
            have n1_ := Aside0.mk (blk_below (bk_ BK228.out) hb)
            have n2_ := Aside0.mk (below_step (bw_ HB.out) hb)
            clear BK225
            clear BK228
            clear HB
            have BK225 := n0_
            have BK228 := n1_
            have HB := n2_
            clear n0_ n1_ n2_
            (try clear hb)
            (try clear hb2)
            (try clear hk)
            (try clear hi)
            refine hK.out _ _ ⟨cz_ BK228.out 0, cz_ BK228.out 1, cz_ BK225.out 0, cz_ BK225.out 1, cz_ BK225.out 2⟩ (fun hHeld => ?_)
            clear hK K
            refine nS_ ?_
            refine pS_ 26 57 HT_ ?_
            refine pS_ 27 58 HT_ ?_
            refine done_ (done_of HT_.out (by kernel_rfl)) ?_
            try go_wp2
            go_ret
            exact ⟨by first | rfl | (simp [errW_none, errW_some] <;> rfl) | (simp [*, errW_none, errW_some] <;> rfl), bw_ HB.out⟩
         ·replace c16 := Bool.eq_false_iff.mpr c16
          subst c16
          replace H := if_ H Bool.false_ne_true
          obtain rfl := Option.some.inj H
          have p227 : 0 ≤ (x26_2 : Int) := of_decide_eq_true (by first | (with_reducible assumption) | assumption)
          have q227 : x26_2 < (l0_1.length : Int) := of_decide_eq_true (by first | (with_reducible assumption) | assumption)
          obtain ⟨ad227, A227_1, c227_1, e227, hx227_0, hx227_1, hl227_1, hi227_1⟩ := at_T53 HR0_1.out x26_2 p227 q227
          cases e227
          (try replace hx227_0 := (HB.out.cell (World.block_lt_of_cell? w _ hx227_0)).trans hx227_0)
          (try replace hx227_1 := (HB.out.cell (World.block_lt_of_cell? w _ hx227_1)).trans hx227_1)
          have HR227_1 := Aside0.mk hi227_1
          have HC227_1 := Aside0.mk hl227_1
          clear hi227_1 hl227_1
          replace p227 := eq_true p227
          replace q227 := eq_true q227
          try go_wp2_with (first | ((with_reducible refine gate_dst (N := 4) rfl ?_); (try (refine gate_guard (by rfl) ?_; dsimp only)); refine bx_ 4 #[.string (⟨#[]⟩ : ByteArray), .slice none 0 0] 53 ?_; intro gb228 hg w55 hbox hb; have n0_ := Aside0.mk (blk_below (bk_ BK225.out) hb); have n1_ := Aside0.mk (below_step (bw_ HB.out) hb); have n2_ := Aside0.mk (hbox); have n3_ := Aside0.mk (gs_ hg (bw_ HB.out)); have n4_ := Aside0.mk (gs_ hg (bw_ HB.out)); have n5_ := Aside0.mk (nl_ hg (bk_ BK225.out)); have n6_ := Aside0.mk (ng_ hg (bk_ BK225.out)); clear BK225; clear HB; have BK225 := n0_; have HB := n1_; have BK228 := n2_; have GW228 := n3_; have GE228 := n4_; have NB225_228 := n5_; have NB228_225 := n6_; clear n0_ n1_ n2_ n3_ n4_ n5_ n6_; clear hb hbox hg; have hnb56 := NB228_225.out; have hnc56 := NB225_228.out; have hcz57_0 := cz_ BK228.out 0; have hcz57_1 := cz_ BK228.out 1; have hfz57_0 := blk_frozen BK228.out 0; have hfz57_1 := blk_frozen BK228.out 1))
          have n0_ : Aside0 (((w55.setCell ⟨gb228, 0, none⟩ (.string ((rd_T53 l0_1 x26_2).f0))).setCell ⟨gb228, 1, none⟩ (.slice A227_1 ((rd_T53 l0_1 x26_2).f1).length c227_1)).heap[gb225]? = some (.cells #[.int .i64 a0_0, .slice (some ad227) l0_1.length c0_1, .slice A0_2 l0_2.length c0_2] 31 (0, 0))) := ⟨by (with_reducible repeat (first | refine blk_drewN ?_ _ | refine blk_drew ?_ | refine blk_alloc ?_ _)); refine blk_far ?_ NB225_228.out _; (with_reducible repeat (first | refine blk_drewN ?_ _ | refine blk_drew ?_ | refine blk_alloc ?_ _)); refine blk_far ?_ NB225_228.out _; (with_reducible repeat (first | refine blk_drewN ?_ _ | refine blk_drew ?_ | refine blk_alloc ?_ _)); exact BK225.out⟩
          have n1_ : Aside0 (((w55.setCell ⟨gb228, 0, none⟩ (.string ((rd_T53 l0_1 x26_2).f0))).setCell ⟨gb228, 1, none⟩ (.slice A227_1 ((rd_T53 l0_1 x26_2).f1).length c227_1)).heap[gb228]? = some (.cells #[.string ((rd_T53 l0_1 x26_2).f0), .slice A227_1 ((rd_T53 l0_1 x26_2).f1).length c227_1] 53 (0, 0))) := ⟨by (with_reducible repeat (first | refine blk_drewN ?_ _ | refine blk_drew ?_ | refine blk_alloc ?_ _)); refine blk_put (cs := #[.string ((rd_T53 l0_1 x26_2).f0), .slice none 0 0]) ?_ 1 _ rfl; (with_reducible repeat (first | refine blk_drewN ?_ _ | refine blk_drew ?_ | refine blk_alloc ?_ _)); refine blk_put (cs := #[.string (⟨#[]⟩ : ByteArray), .slice none 0 0]) ?_ 0 _ rfl; (with_reducible repeat (first | refine blk_drewN ?_ _ | refine blk_drew ?_ | refine blk_alloc ?_ _)); exact BK228.out⟩
          have n2_ : Aside0 (Below w.heap.size w ((w55.setCell ⟨gb228, 0, none⟩ (.string ((rd_T53 l0_1 x26_2).f0))).setCell ⟨gb228, 1, none⟩ (.slice A227_1 ((rd_T53 l0_1 x26_2).f1).length c227_1))) := ⟨bw_ HB.out⟩
          (try clear BK225)
          (try clear BK228)
          (try clear HB)
          generalize ((w55.setCell ⟨gb228, 0, none⟩ (.string ((rd_T53 l0_1 x26_2).f0))).setCell ⟨gb228, 1, none⟩ (.slice A227_1 ((rd_T53 l0_1 x26_2).f1).length c227_1)) = w58 at n0_ n1_ n2_ ⊢
          have BK225 := n0_
          have BK228 := n1_
          have HB := n2_
          clear n0_ n1_ n2_
          have n0_ := Aside0.mk (blk_drew BK225.out)
          have n1_ := Aside0.mk (blk_drew BK228.out)
          have n2_ := Aside0.mk (below_drew1 HB.out)
          clear BK225
          clear BK228
          clear HB
          have BK225 := n0_
          have BK228 := n1_
          have HB := n2_
          clear n0_ n1_ n2_
          refine start_ (n := 28) (S := fun w' => w'.cell? ⟨gb228, 0, none⟩ = some (.string ((rd_T53 l0_1 x26_2).f0)) ∧ w'.cell? ⟨gb228, 1, none⟩ = some (.slice A227_1 ((rd_T53 l0_1 x26_2).f1).length c227_1)) (ds := []) (Array.replicate 28 false) (by kernel_rfl) rfl rfl ⟨cz_ BK228.out 0, cz_ BK228.out 1⟩ (fun hHeld => ?_); refine with_tabW impl_GoodClip.tab6 impl_GoodClip.bits6 (fun HT_ HW_ => ?_)
          generalize w58.drew = w59 at BK225 BK228 HB hHeld ⊢
          refine pS_ 0 31 HT_ ?_
          refine tS_ 1 32 HT_ HW_ hHeld ?_
          refine oS_ 2 33 HT_ (fun K hK => ?_)
          refine goes_ Try.func30 (by kernel_rfl) rfl #[.string ((rd_T53 l0_1 x26_2).f0)] (by rfl) rfl rfl (by (try simp only [List.map_toArray, List.map_cons, List.map_nil]); first | done | rfl | (simp only [List.length_drop, List.length_take]; rfl)) ?_
          with_reducible refine (impl_GoodName.calls k2 ((rd_T53 l0_1 x26_2).f0) false _ A15.out).mono ?_
          rintro e w' ⟨rfl, ⟨nd, rfl⟩⟩
          refine ⟨_, rfl, ?_⟩
          refine hK.out _ _ ⟨cz_ BK228.out 0, cz_ BK228.out 1⟩ (fun hHeld => ?_)
          clear hK K
          refine nS_ ?_
          refine pS_ 3 34 HT_ ?_
          refine pS_ 4 35 HT_ ?_
          refine pU_ 5 36 HT_ ?_
          refine pU_ 6 37 HT_ ?_
          refine pU_ 7 38 HT_ ?_
          refine pU_ 8 39 HT_ ?_
          refine pU_ 9 40 HT_ ?_
          refine pU_ 10 41 HT_ ?_
          refine pU_ 11 42 HT_ ?_
          refine pU_ 12 43 HT_ ?_
          refine pU_ 13 44 HT_ ?_
          refine pU_ 14 45 HT_ ?_
          refine pU_ 15 46 HT_ ?_
          refine pU_ 16 47 HT_ ?_
          refine pU_ 17 48 HT_ ?_
          refine pU_ 18 49 HT_ ?_
          refine pS_ 19 50 HT_ ?_
          refine pS_ 20 51 HT_ ?_
          refine pU_ 21 52 HT_ ?_
          refine pU_ 22 53 HT_ ?_
          refine pU_ 23 54 HT_ ?_
          refine pU_ 24 55 HT_ ?_
          refine pU_ 25 56 HT_ ?_
          refine pU_ 26 57 HT_ ?_
          refine pS_ 27 58 HT_ ?_
          refine done_ (done_of HT_.out (by kernel_rfl)) ?_
          try go_wp2
          go_ret
          exact ⟨by first | rfl | (simp [errW_none, errW_some] <;> rfl) | (simp [*, errW_none, errW_some] <;> rfl), bw_ HB.out⟩
        ·rw [if_neg c14] at H
         exact absurd H (by simp)
       ·rw [if_neg c13] at H
        exact absurd H (by simp)
      ·rw [if_neg c12] at H
       have c12b0 : decide (x26_2 < (l0_1.length : Int)) = false := decide_eq_false c12
       clear c12
       have H' := Aside0.mk H
       clear H
       have hcz60_0 := cz_ BK225.out 0
       have hcz60_1 := cz_ BK225.out 1
       have hcz60_2 := cz_ BK225.out 2
       have hfz60_0 := blk_frozen BK225.out 0
       have hfz60_1 := blk_frozen BK225.out 1
       have hfz60_2 := blk_frozen BK225.out 2
       go_wp2
       go_loopg [63] k2 (fun kq v63 w' => ∃ (x63_3 : Int), v63 = .int .i64 x63_3 ∧ Aside0 (impl_GoodClip.l1 kq l0_2 (l0_2.length : Int) x63_3 a0_0 l0_1 l0_2 = some r) ∧ Aside0 (kq ≤ k2) ∧ Aside0 (w'.heap[gb225]? = some (.cells #[.int .i64 a0_0, (.slice A0_1 l0_1.length c0_1), (.slice A0_2 l0_2.length c0_2)] 31 (0, 0))) ∧ Aside0 (Below w.heap.size w w'))
       case atStart => exact ⟨(0), (by first | rfl | (simp; done) | (simp [*]; done) | (simp [wrap64]; done)), H', ⟨Nat.le_refl _⟩, ⟨by (with_reducible repeat (first | refine blk_drewN ?_ _ | refine blk_drew ?_ | refine blk_alloc ?_ _)); exact BK225.out⟩, ⟨bw_ HB.out⟩⟩
       case round =>
        clear H'
        try clear c1
        try clear c2
        try clear p2
        try clear q2
        try clear hx2
        try clear c3
        try clear c4
        try clear c5
        try clear p6
        try clear c12
        try clear c12b0
        try clear c13
        try clear c14
        try clear c16
        try clear c22
        try clear p22
        try clear q22
        try clear hx22
        try clear c30
        try clear c31
        try clear c42
        try clear c50
        try clear c56
        try clear hcz51_0
        try clear hcz51_1
        try clear hcz57_0
        try clear hcz57_1
        try clear hcz60_0
        try clear hcz60_1
        try clear hcz60_2
        try clear hfz51_0
        try clear hfz51_1
        try clear hfz57_0
        try clear hfz57_1
        try clear hfz60_0
        try clear hfz60_1
        try clear hfz60_2
        try clear hx227_0
        try clear hx227_1
        try clear p227
        try clear q227
        obtain ⟨x63_3, rfl, HA, HK3, BK225, HB⟩ := hrel
        cases gk with
        | zero => exact absurd HA.out (by simp [impl_GoodClip.l1])
        | succ k3 =>
         have H := HA.out
         clear HA
         simp only [impl_GoodClip.l1] at H
         by_cases c61 : x63_3 < (l0_2.length : Int)
         ·rw [if_pos c61] at H
          have c61b0 : decide (x63_3 < (l0_2.length : Int)) = true := decide_eq_true c61
          clear c61
          by_cases c62 : 0 ≤ x63_3
          ·rw [if_pos c62] at H
           have c62b0 : decide (0 ≤ x63_3) = true := decide_eq_true c62
           clear c62
           by_cases c63 : x63_3 < (l0_2.length : Int)
           ·rw [if_pos c63] at H
            have c63b0 : decide (x63_3 < (l0_2.length : Int)) = true := decide_eq_true c63
            clear c63
            have HC64 := Aside0.mk H
            clear H
            have p233 : 0 ≤ (x63_3 : Int) := of_decide_eq_true (by first | (with_reducible assumption) | assumption)
            have q233 : x63_3 < (l0_2.length : Int) := of_decide_eq_true (by first | (with_reducible assumption) | assumption)
            obtain ⟨ad233, e233, hx233_0, hx233_1⟩ := at_T57 HR0_2.out x63_3 p233 q233
            cases e233
            (try replace hx233_0 := (HB.out.cell (World.block_lt_of_cell? w _ hx233_0)).trans hx233_0)
            (try replace hx233_1 := (HB.out.cell (World.block_lt_of_cell? w _ hx233_1)).trans hx233_1)
            replace p233 := eq_true p233
            replace q233 := eq_true q233
            go_upto_region 12 with (first | ((with_reducible refine gate_dst (N := 6) rfl ?_); (try (refine gate_guard (by rfl) ?_; dsimp only)); refine bx_ 6 #[.int .i64 0, .string (⟨#[]⟩ : ByteArray)] 57 ?_; intro gb234 hg w65 hbox hb; have n0_ := Aside0.mk (blk_below (bk_ BK225.out) hb); have n1_ := Aside0.mk (below_step (bw_ HB.out) hb); have n2_ := Aside0.mk (hbox); have n3_ := Aside0.mk (gs_ hg (bw_ HB.out)); have n4_ := Aside0.mk (gs_ hg (bw_ HB.out)); have n5_ := Aside0.mk (nl_ hg (bk_ BK225.out)); have n6_ := Aside0.mk (ng_ hg (bk_ BK225.out)); clear BK225; clear HB; have BK225 := n0_; have HB := n1_; have BK234 := n2_; have GW234 := n3_; have GE234 := n4_; have NB225_234 := n5_; have NB234_225 := n6_; clear n0_ n1_ n2_ n3_ n4_ n5_ n6_; clear hb hbox hg; have hnb66 := NB234_225.out; have hnc66 := NB225_234.out; have hcz67_0 := cz_ BK234.out 0; have hcz67_1 := cz_ BK234.out 1; have hfz67_0 := blk_frozen BK234.out 0; have hfz67_1 := blk_frozen BK234.out 1))
            (try simp only [Act.put, List.setIfInBounds_toArray, List.set_cons_zero, List.set_cons_succ])
            go_cut [80] (fun v80 wc => ∃ (kq : Nat) (x80_63 : Bool), v80 = .bool x80_63 ∧ Aside0 (impl_GoodClip.j3 kq x63_3 l0_2 (l0_2.length : Int) x63_3 x80_63 a0_0 l0_1 l0_2 ((rd_T57 l0_2 x63_3).f0) ((rd_T57 l0_2 x63_3).f1) = some r) ∧ Aside0 (kq ≤ k3) ∧ Aside0 (wc.heap[gb225]? = some (.cells #[.int .i64 a0_0, (.slice A0_1 l0_1.length c0_1), (.slice (some ad233) l0_2.length c0_2)] 31 (0, 0))) ∧ Aside0 (wc.heap[gb234]? = some (.cells #[.int .i64 ((rd_T57 l0_2 x63_3).f0), .string ((rd_T57 l0_2 x63_3).f1)] 57 (0, 0))) ∧ Aside0 (Below w.heap.size w wc))
            case first =>
             have H := HC64.out
             clear HC64
             obtain ⟨t235, A680, H⟩ := bE_ H
             have A68 := Aside0.mk A680
             clear A680
             by_cases c69 : t235 = true
             ·subst c69
              replace H := it_ H rfl
              obtain ⟨t236, A700, H⟩ := bE_ H
              have A70 := Aside0.mk A700
              clear A700
              have H' := Aside0.mk H
              clear H
              have hnb71 := NB234_225.out
              have hnc71 := NB225_234.out
              have hcz72_0 := cz_ BK234.out 0
              have hcz72_1 := cz_ BK234.out 1
              have hfz72_0 := blk_frozen BK234.out 0
              have hfz72_1 := blk_frozen BK234.out 1
              go_wp2_with (first | ((with_reducible refine gate_callee (f := 30) rfl ?_); refine goesL_ (some 70) rfl rfl Try.func30 (by kernel_rfl) rfl #[.string ((rd_T57 l0_2 x63_3).f1)] rfl (by (try simp only [List.map_toArray, List.map_cons, List.map_nil]); first | done | rfl | (simp only [List.length_drop, List.length_take]; rfl)) ?_; (with_reducible refine (impl_GoodName.calls k3 ((rd_T57 l0_2 x63_3).f1) true _ A68.out).mono ?_); rintro e w' ⟨rfl, ⟨nd, rfl⟩⟩; refine ⟨_, rfl, ?_⟩; have hcz73_0 := cz_ BK225.out 0; have hcz73_1 := cz_ BK225.out 1; have hcz73_2 := cz_ BK225.out 2; have hfz73_0 := blk_frozen BK225.out 0; have hfz73_1 := blk_frozen BK225.out 1; have hfz73_2 := blk_frozen BK225.out 2) | (go_at_call 29; (try simp only [i64_w]); (with_reducible refine (impl_inRange.calls ((rd_T57 l0_2 x63_3).f0) 0 (wrap64 (a0_0 - 1)) t236 _ A70.out).mono ?_); rintro e w' ⟨rfl, ⟨nd, rfl⟩⟩))
              go_meet
              case rel => exact ⟨_, (!t236), (by first | rfl | (simp; done) | (simp [*]; done) | (simp [wrap64]; done)), H', ⟨by have := HJ1.out; have := HK2.out; have := HK3.out; first | omega | exact Nat.le_refl _⟩, ⟨by (with_reducible repeat (first | refine blk_drewN ?_ _ | refine blk_drew ?_ | refine blk_alloc ?_ _)); refine blk_far ?_ NB225_234.out _; (with_reducible repeat (first | refine blk_drewN ?_ _ | refine blk_drew ?_ | refine blk_alloc ?_ _)); refine blk_far ?_ NB225_234.out _; (with_reducible repeat (first | refine blk_drewN ?_ _ | refine blk_drew ?_ | refine blk_alloc ?_ _)); exact BK225.out⟩, ⟨by (with_reducible repeat (first | refine blk_drewN ?_ _ | refine blk_drew ?_ | refine blk_alloc ?_ _)); refine blk_put (cs := #[.int .i64 ((rd_T57 l0_2 x63_3).f0), .string (⟨#[]⟩ : ByteArray)]) ?_ 1 _ rfl; (with_reducible repeat (first | refine blk_drewN ?_ _ | refine blk_drew ?_ | refine blk_alloc ?_ _)); refine blk_put (cs := #[.int .i64 0, .string (⟨#[]⟩ : ByteArray)]) ?_ 0 _ rfl; (with_reducible repeat (first | refine blk_drewN ?_ _ | refine blk_drew ?_ | refine blk_alloc ?_ _)); exact BK234.out⟩, ⟨bw_ HB.out⟩⟩
             ·replace c69 := Bool.eq_false_iff.mpr c69
              subst c69
              replace H := if_ H Bool.false_ne_true
              have H' := Aside0.mk H
              clear H
              have hnb74 := NB234_225.out
              have hnc74 := NB225_234.out
              have hcz75_0 := cz_ BK234.out 0
              have hcz75_1 := cz_ BK234.out 1
              have hfz75_0 := blk_frozen BK234.out 0
              have hfz75_1 := blk_frozen BK234.out 1
              go_wp2_with (first | ((with_reducible refine gate_callee (f := 30) rfl ?_); refine goesL_ (some 70) rfl rfl Try.func30 (by kernel_rfl) rfl #[.string ((rd_T57 l0_2 x63_3).f1)] rfl (by (try simp only [List.map_toArray, List.map_cons, List.map_nil]); first | done | rfl | (simp only [List.length_drop, List.length_take]; rfl)) ?_; (with_reducible refine (impl_GoodName.calls k3 ((rd_T57 l0_2 x63_3).f1) false _ A68.out).mono ?_); rintro e w' ⟨rfl, ⟨nd, rfl⟩⟩; refine ⟨_, rfl, ?_⟩))
              go_meet
              case rel => exact ⟨_, (true), (by first | rfl | (simp; done) | (simp [*]; done) | (simp [wrap64]; done)), H', ⟨by have := HJ1.out; have := HK2.out; have := HK3.out; first | omega | exact Nat.le_refl _⟩, ⟨by (with_reducible repeat (first | refine blk_drewN ?_ _ | refine blk_drew ?_ | refine blk_alloc ?_ _)); refine blk_far ?_ NB225_234.out _; (with_reducible repeat (first | refine blk_drewN ?_ _ | refine blk_drew ?_ | refine blk_alloc ?_ _)); refine blk_far ?_ NB225_234.out _; (with_reducible repeat (first | refine blk_drewN ?_ _ | refine blk_drew ?_ | refine blk_alloc ?_ _)); exact BK225.out⟩, ⟨by (with_reducible repeat (first | refine blk_drewN ?_ _ | refine blk_drew ?_ | refine blk_alloc ?_ _)); refine blk_put (cs := #[.int .i64 ((rd_T57 l0_2 x63_3).f0), .string (⟨#[]⟩ : ByteArray)]) ?_ 1 _ rfl; (with_reducible repeat (first | refine blk_drewN ?_ _ | refine blk_drew ?_ | refine blk_alloc ?_ _)); refine blk_put (cs := #[.int .i64 0, .string (⟨#[]⟩ : ByteArray)]) ?_ 0 _ rfl; (with_reducible repeat (first | refine blk_drewN ?_ _ | refine blk_drew ?_ | refine blk_alloc ?_ _)); exact BK234.out⟩, ⟨bw_ HB.out⟩⟩
            case rest =>
             clear HC64
             try clear c1
             try clear c2
             try clear p2
             try clear q2
             try clear hx2
             try clear c3
             try clear c4
             try clear c5
             try clear c6
             try clear p6
             try clear c7
             try clear c12
             try clear c12b0
             try clear c13
             try clear c14
             try clear c16
             try clear c22
             try clear p22
             try clear q22
             try clear hx22
             try clear p23
             try clear q23
             try clear hx23
             try clear c30
             try clear c31
             try clear c42
             try clear c50
             try clear c56
             try clear c61
             try clear c61b0
             try clear c62
             try clear c62b0
             try clear c63
             try clear c63b0
             try clear p64
             try clear c66
             try clear c69
             try clear c71
             try clear c74
             try clear hcz51_0
             try clear hcz51_1
             try clear hcz57_0
             try clear hcz57_1
             try clear hcz60_0
             try clear hcz60_1
             try clear hcz60_2
             try clear hcz67_0
             try clear hcz67_1
             try clear hcz72_0
             try clear hcz72_1
             try clear hcz73_0
             try clear hcz73_1
             try clear hcz73_2
             try clear hcz75_0
             try clear hcz75_1
             try clear hfz51_0
             try clear hfz51_1
             try clear hfz57_0
             try clear hfz57_1
             try clear hfz60_0
             try clear hfz60_1
             try clear hfz60_2
             try clear hfz67_0
             try clear hfz67_1
             try clear hfz72_0
             try clear hfz72_1
             try clear hfz73_0
             try clear hfz73_1
             try clear hfz73_2
             try clear hfz75_0
             try clear hfz75_1
             try clear hx227_0
             try clear hx227_1
             try clear hx233_0
             try clear hx233_1
             try clear p2
             try clear p22
             try clear p227
             try clear p233
             try clear p6
             try clear q2
             try clear q22
             try clear q227
             try clear q233
             obtain ⟨kq, x80_63, rfl, HA, HJ63, BK225, BK234, HB⟩ := hcut
             cases kq with
             | zero => exact absurd HA.out (by simp [impl_GoodClip.j3])
             | succ kj63 =>
              have H := HA.out
              clear HA
              simp only [impl_GoodClip.j3] at H
              by_cases c76 : x80_63 = true
              ·subst c76
               replace H := it_ H rfl
               obtain rfl := Option.some.inj H
               go_wp2
               go_ret
               exact ⟨by first | rfl | (simp [errW_none, errW_some] <;> rfl) | (simp [*, errW_none, errW_some] <;> rfl), bw_ HB.out⟩
              ·replace c76 := Bool.eq_false_iff.mpr c76
               subst c76
               replace H := if_ H Bool.false_ne_true
               by_cases c77 : x63_3 > 0
               ·rw [if_pos c77] at H
                have c77b0 : decide (0 < x63_3) = true := decide_eq_true c77
                clear c77
                obtain ⟨ji78, hji78⟩ : ∃ j_ : Int, (wrap64 (x63_3 - 1)) = j_ := ⟨_, rfl⟩
                replace H : (if 0 ≤ (ji78) then (if (ji78) < (l0_2.length : Int) then (if ((rd_T57 l0_2 (ji78)).f0) > ((rd_T57 l0_2 x63_3).f0) then (some false) else (if ((rd_T57 l0_2 (ji78)).f0) = ((rd_T57 l0_2 x63_3).f0) then (if ((Op.bytesLess (((rd_T57 l0_2 (ji78)).f1).toList) ((rd_T57 l0_2 x63_3).f1).toList) = true) then (impl_GoodClip.l1 kj63 l0_2 (l0_2.length : Int) (wrap64 (x63_3 + 1)) a0_0 l0_1 l0_2) else (some false)) else (impl_GoodClip.l1 kj63 l0_2 (l0_2.length : Int) (wrap64 (x63_3 + 1)) a0_0 l0_1 l0_2))) else (none)) else (none)) = some r := by first | (rw [hji78] at H; exact H) | (simp only [hji78] at H ⊢; exact H)
                have hji78w : (IntKind.i64.wrap (x63_3 - 1)) = ji78 := (i64_w _).trans hji78
                by_cases c79 : 0 ≤ (ji78)
                ·rw [if_pos c79] at H
                 have c79b0 : decide (0 ≤ (ji78)) = true := decide_eq_true c79
                 clear c79
                 by_cases c80 : (ji78) < (l0_2.length : Int)
                 ·rw [if_pos c80] at H
                  have c80b0 : decide ((ji78) < (l0_2.length : Int)) = true := decide_eq_true c80
                  clear c80
                  by_cases c81 : ((rd_T57 l0_2 (ji78)).f0) > ((rd_T57 l0_2 x63_3).f0)
                  ·rw [if_pos c81] at H
                   have c81b0 : decide (((rd_T57 l0_2 x63_3).f0) < ((rd_T57 l0_2 (ji78)).f0)) = true := decide_eq_true c81
                   clear c81
                   obtain rfl := Option.some.inj H
                   try go_wp2
                   have n0_ := Aside0.mk (blk_drew BK225.out)
                   have n1_ := Aside0.mk (blk_drew BK234.out)
                   have n2_ := Aside0.mk (below_drew1 HB.out)
                   clear BK225
                   clear BK234
                   clear HB
                   have BK225 := n0_
                   have BK234 := n1_
                   have HB := n2_
                   clear n0_ n1_ n2_
                   have p237 : 0 ≤ ((ji78) : Int) := of_decide_eq_true (by first | (with_reducible assumption) | assumption)
                   have q237 : (ji78) < (l0_2.length : Int) := of_decide_eq_true (by first | (with_reducible assumption) | assumption)
                   obtain ⟨ad237, e237, hx237_0, hx237_1⟩ := at_T57 HR0_2.out (ji78) p237 q237
                   have hw237_1 := hx237_1
                   have hw237_0 := hx237_0
                   obtain rfl : ad233 = ad237 := (by injection e237)
                   (try replace hx237_0 := (HB.out.cell (World.block_lt_of_cell? w _ hx237_0)).trans hx237_0)
                   (try replace hx237_1 := (HB.out.cell (World.block_lt_of_cell? w _ hx237_1)).trans hx237_1)
                   replace p237 := eq_true p237
                   replace q237 := eq_true q237
                   refine start_ (n := 38) (S := fun w' => w'.cell? ⟨gb225, 0, none⟩ = some (.int .i64 a0_0) ∧ w'.cell? ⟨gb225, 1, none⟩ = some (.slice A0_1 l0_1.length c0_1) ∧ w'.cell? ⟨gb225, 2, none⟩ = some (.slice (some ad233) l0_2.length c0_2) ∧ w'.cell? ⟨gb234, 0, none⟩ = some (.int .i64 ((rd_T57 l0_2 x63_3).f0)) ∧ w'.cell? ⟨gb234, 1, none⟩ = some (.string ((rd_T57 l0_2 x63_3).f1)) ∧ w'.cell? (ad233.add (((ji78)).toNat * 2)) = some (.int .i64 ((rd_T57 l0_2 (ji78)).f0)) ∧ w'.cell? ⟨(ad233.add (((ji78)).toNat * 2)).block, (ad233.add (((ji78)).toNat * 2)).off + 1, none⟩ = some (.string ((rd_T57 l0_2 (ji78)).f1))) (ds := []) (Array.replicate 38 false) (by kernel_rfl) rfl rfl ⟨cz_ BK225.out 0, cz_ BK225.out 1, cz_ BK225.out 2, cz_ BK234.out 0, cz_ BK234.out 1, ((HB.out.cell (World.block_lt_of_cell? w _ hw237_0)).trans hw237_0), ((HB.out.cell (World.block_lt_of_cell? w _ hw237_1)).trans hw237_1)⟩ (fun hHeld => ?_); refine with_tabW impl_GoodClip.tab14 impl_GoodClip.bits14 (fun HT_ HW_ => ?_)
                   generalize wc.drew = w82 at BK225 BK234 HB hx237_0 hx237_1 hHeld ⊢
                   refine pS_ 0 81 HT_ ?_
                   refine pS_ 1 82 HT_ ?_
                   refine pS_ 2 83 HT_ ?_
                   refine pS_ 3 84 HT_ ?_
                   refine pS_ 5 86 HT_ ?_
                   refine pS_ 6 87 HT_ ?_
                   refine pS_ 10 91 HT_ ?_
                   refine tS_ 4 85 HT_ HW_ hHeld ?_
                   refine pS_ 7 88 HT_ ?_
                   refine pS_ 8 89 HT_ ?_
                   refine tS_ 9 90 HT_ HW_ hHeld ?_
                   refine tS_ 11 92 HT_ HW_ hHeld ?_
                   refine pS_ 12 93 HT_ ?_
                   refine pS_ 13 94 HT_ ?_
                   refine pU_ 14 95 HT_ ?_
                   refine pU_ 15 96 HT_ ?_
                   refine pU_ 16 97 HT_ ?_
                   refine pU_ 17 98 HT_ ?_
                   refine pU_ 18 99 HT_ ?_
                   refine pU_ 19 100 HT_ ?_
                   refine pU_ 20 101 HT_ ?_
                   refine pU_ 21 102 HT_ ?_
                   refine pU_ 22 103 HT_ ?_
                   refine pU_ 23 104 HT_ ?_
                   refine pU_ 24 105 HT_ ?_
                   refine pU_ 25 106 HT_ ?_
                   refine pU_ 26 107 HT_ ?_
                   refine pU_ 27 108 HT_ ?_
                   refine pU_ 28 109 HT_ ?_
                   refine pU_ 29 110 HT_ ?_
                   refine pU_ 30 111 HT_ ?_
                   refine pU_ 31 112 HT_ ?_
                   refine pU_ 32 113 HT_ ?_
                   refine pU_ 33 114 HT_ ?_
                   refine pU_ 34 115 HT_ ?_
                   refine pU_ 35 116 HT_ ?_
                   refine pS_ 36 117 HT_ ?_
                   refine pS_ 37 118 HT_ ?_
                   refine done_ (done_of HT_.out (by kernel_rfl)) ?_
                   try go_wp2
                   go_ret
                   exact ⟨by first | rfl | (simp [errW_none, errW_some] <;> rfl) | (simp only [← hji78]; first | rfl | (simp [errW_none, errW_some] <;> rfl)) | (simp [*, errW_none, errW_some] <;> rfl), bw_ HB.out⟩
                  ·rw [if_neg c81] at H
                   have c81b0 : decide (((rd_T57 l0_2 x63_3).f0) < ((rd_T57 l0_2 (ji78)).f0)) = false := decide_eq_false c81
                   clear c81
                   by_cases c83 : ((rd_T57 l0_2 (ji78)).f0) = ((rd_T57 l0_2 x63_3).f0)
                   ·rw [if_pos c83] at H
                    have c83b0 : (((rd_T57 l0_2 (ji78)).f0) == ((rd_T57 l0_2 x63_3).f0)) = true := beq_iff_eq.mpr c83
                    have c83b1 : (((rd_T57 l0_2 (ji78)).f0) != ((rd_T57 l0_2 x63_3).f0)) = false := bne_eq_false_iff_eq.mpr c83
                    clear c83
                    by_cases c84 : ((Op.bytesLess (((rd_T57 l0_2 (ji78)).f1).toList) ((rd_T57 l0_2 x63_3).f1).toList) = true)
                    ·rw [if_pos c84] at H
                     have c84b0 : (Op.bytesLess (((rd_T57 l0_2 (ji78)).f1).toList) ((rd_T57 l0_2 x63_3).f1).toList) = true := c84
                     clear c84
                     have H' := Aside0.mk H
                     clear H
                     try go_wp2
                     have n0_ := Aside0.mk (blk_drew BK225.out)
                     have n1_ := Aside0.mk (blk_drew BK234.out)
                     have n2_ := Aside0.mk (below_drew1 HB.out)
                     clear BK225
                     clear BK234
                     clear HB
                     have BK225 := n0_
                     have BK234 := n1_
                     have HB := n2_
                     clear n0_ n1_ n2_
                     have p237 : 0 ≤ ((ji78) : Int) := of_decide_eq_true (by first | (with_reducible assumption) | assumption)
                     have q237 : (ji78) < (l0_2.length : Int) := of_decide_eq_true (by first | (with_reducible assumption) | assumption)
                     obtain ⟨ad237, e237, hx237_0, hx237_1⟩ := at_T57 HR0_2.out (ji78) p237 q237
                     have hw237_1 := hx237_1
                     have hw237_0 := hx237_0
                     obtain rfl : ad233 = ad237 := (by injection e237)
                     (try replace hx237_0 := (HB.out.cell (World.block_lt_of_cell? w _ hx237_0)).trans hx237_0)
                     (try replace hx237_1 := (HB.out.cell (World.block_lt_of_cell? w _ hx237_1)).trans hx237_1)
                     replace p237 := eq_true p237
                     replace q237 := eq_true q237
                     have p238 : 0 ≤ ((ji78) : Int) := of_decide_eq_true (by first | (with_reducible assumption) | assumption)
                     have q238 : (ji78) < (l0_2.length : Int) := of_decide_eq_true (by first | (with_reducible assumption) | assumption)
                     obtain ⟨ad238, e238, hx238_0, hx238_1⟩ := at_T57 HR0_2.out (ji78) p238 q238
                     have hw238_1 := hx238_1
                     have hw238_0 := hx238_0
                     obtain rfl : ad233 = ad238 := (by injection e238)
                     (try replace hx238_0 := (HB.out.cell (World.block_lt_of_cell? w _ hx238_0)).trans hx238_0)
                     (try replace hx238_1 := (HB.out.cell (World.block_lt_of_cell? w _ hx238_1)).trans hx238_1)
                     replace p238 := eq_true p238
                     replace q238 := eq_true q238
                     have p239 : 0 ≤ ((ji78) : Int) := of_decide_eq_true (by first | (with_reducible assumption) | assumption)
                     have q239 : (ji78) < (l0_2.length : Int) := of_decide_eq_true (by first | (with_reducible assumption) | assumption)
                     obtain ⟨ad239, e239, hx239_0, hx239_1⟩ := at_T57 HR0_2.out (ji78) p239 q239
                     have hw239_1 := hx239_1
                     have hw239_0 := hx239_0
                     obtain rfl : ad233 = ad239 := (by injection e239)
                     (try replace hx239_0 := (HB.out.cell (World.block_lt_of_cell? w _ hx239_0)).trans hx239_0)
                     (try replace hx239_1 := (HB.out.cell (World.block_lt_of_cell? w _ hx239_1)).trans hx239_1)
                     replace p239 := eq_true p239
                     replace q239 := eq_true q239
                     refine start_ (n := 38) (S := fun w' => w'.cell? ⟨gb225, 0, none⟩ = some (.int .i64 a0_0) ∧ w'.cell? ⟨gb225, 1, none⟩ = some (.slice A0_1 l0_1.length c0_1) ∧ w'.cell? ⟨gb225, 2, none⟩ = some (.slice (some ad233) l0_2.length c0_2) ∧ w'.cell? ⟨gb234, 0, none⟩ = some (.int .i64 ((rd_T57 l0_2 x63_3).f0)) ∧ w'.cell? ⟨gb234, 1, none⟩ = some (.string ((rd_T57 l0_2 x63_3).f1)) ∧ w'.cell? (ad233.add (((ji78)).toNat * 2)) = some (.int .i64 ((rd_T57 l0_2 (ji78)).f0)) ∧ w'.cell? ⟨(ad233.add (((ji78)).toNat * 2)).block, (ad233.add (((ji78)).toNat * 2)).off + 1, none⟩ = some (.string ((rd_T57 l0_2 (ji78)).f1)) ∧ w'.cell? (ad233.add (((ji78)).toNat * 2)) = some (.int .i64 ((rd_T57 l0_2 (ji78)).f0)) ∧ w'.cell? ⟨(ad233.add (((ji78)).toNat * 2)).block, (ad233.add (((ji78)).toNat * 2)).off + 1, none⟩ = some (.string ((rd_T57 l0_2 (ji78)).f1)) ∧ w'.cell? (ad233.add (((ji78)).toNat * 2)) = some (.int .i64 ((rd_T57 l0_2 (ji78)).f0)) ∧ w'.cell? ⟨(ad233.add (((ji78)).toNat * 2)).block, (ad233.add (((ji78)).toNat * 2)).off + 1, none⟩ = some (.string ((rd_T57 l0_2 (ji78)).f1))) (ds := []) (Array.replicate 38 false) (by kernel_rfl) rfl rfl ⟨cz_ BK225.out 0, cz_ BK225.out 1, cz_ BK225.out 2, cz_ BK234.out 0, cz_ BK234.out 1, ((HB.out.cell (World.block_lt_of_cell? w _ hw237_0)).trans hw237_0), ((HB.out.cell (World.block_lt_of_cell? w _ hw237_1)).trans hw237_1), ((HB.out.cell (World.block_lt_of_cell? w _ hw238_0)).trans hw238_0), ((HB.out.cell (World.block_lt_of_cell? w _ hw238_1)).trans hw238_1), ((HB.out.cell (World.block_lt_of_cell? w _ hw239_0)).trans hw239_0), ((HB.out.cell (World.block_lt_of_cell? w _ hw239_1)).trans hw239_1)⟩ (fun hHeld => ?_); refine with_tabW impl_GoodClip.tab14 impl_GoodClip.bits14 (fun HT_ HW_ => ?_)
                     generalize wc.drew = w85 at BK225 BK234 HB hx237_0 hx237_1 hx238_0 hx238_1 hx239_0 hx239_1 hHeld ⊢
                     refine pS_ 0 81 HT_ ?_
                     refine pS_ 1 82 HT_ ?_
                     refine pS_ 2 83 HT_ ?_
                     refine pS_ 3 84 HT_ ?_
                     refine pS_ 5 86 HT_ ?_
                     refine pS_ 6 87 HT_ ?_
                     refine pS_ 10 91 HT_ ?_
                     refine tS_ 4 85 HT_ HW_ hHeld ?_
                     refine pS_ 7 88 HT_ ?_
                     refine pS_ 8 89 HT_ ?_
                     refine tS_ 9 90 HT_ HW_ hHeld ?_
                     refine tS_ 11 92 HT_ HW_ hHeld ?_
                     refine pS_ 12 93 HT_ ?_
                     refine pS_ 13 94 HT_ ?_
                     refine pS_ 14 95 HT_ ?_
                     refine pS_ 16 97 HT_ ?_
                     refine pS_ 17 98 HT_ ?_
                     refine pS_ 21 102 HT_ ?_
                     refine tS_ 15 96 HT_ HW_ hHeld ?_
                     refine pS_ 18 99 HT_ ?_
                     refine pS_ 19 100 HT_ ?_
                     refine tS_ 20 101 HT_ HW_ hHeld ?_
                     refine tS_ 22 103 HT_ HW_ hHeld ?_
                     refine pS_ 23 104 HT_ ?_
                     refine pS_ 24 105 HT_ ?_
                     refine pS_ 25 106 HT_ ?_
                     refine pS_ 27 108 HT_ ?_
                     refine pS_ 28 109 HT_ ?_
                     refine pS_ 32 113 HT_ ?_
                     refine tS_ 26 107 HT_ HW_ hHeld ?_
                     refine pS_ 29 110 HT_ ?_
                     refine pS_ 30 111 HT_ ?_
                     refine tS_ 31 112 HT_ HW_ hHeld ?_
                     refine tS_ 33 114 HT_ HW_ hHeld ?_
                     refine pS_ 34 115 HT_ ?_
                     refine pS_ 35 116 HT_ ?_
                     refine pS_ 36 117 HT_ ?_
                     refine pS_ 37 118 HT_ ?_
                     refine done_ (done_of HT_.out (by kernel_rfl)) ?_
                     try go_wp2
                     go_roundg kj63
                     case measure => have := HJ1.out; have := HK2.out; have := HK3.out; have := HJ63.out; omega
                     case rel => exact ⟨(wrap64 (x63_3 + 1)), (by first | rfl | (simp; done) | (simp [*]; done) | (simp [wrap64]; done)), H', ⟨by have := HJ1.out; have := HK2.out; have := HK3.out; have := HJ63.out; omega⟩, ⟨by (with_reducible repeat (first | refine blk_drewN ?_ _ | refine blk_drew ?_ | refine blk_alloc ?_ _)); exact BK225.out⟩, ⟨bw_ HB.out⟩⟩
                    ·rw [if_neg c84] at H
                     have c84b0 : (Op.bytesLess (((rd_T57 l0_2 (ji78)).f1).toList) ((rd_T57 l0_2 x63_3).f1).toList) = false := by simpa using c84
                     clear c84
                     obtain rfl := Option.some.inj H
                     try go_wp2
                     have n0_ := Aside0.mk (blk_drew BK225.out)
                     have n1_ := Aside0.mk (blk_drew BK234.out)
                     have n2_ := Aside0.mk (below_drew1 HB.out)
                     clear BK225
                     clear BK234
                     clear HB
                     have BK225 := n0_
                     have BK234 := n1_
                     have HB := n2_
                     clear n0_ n1_ n2_
                     have p237 : 0 ≤ ((ji78) : Int) := of_decide_eq_true (by first | (with_reducible assumption) | assumption)
                     have q237 : (ji78) < (l0_2.length : Int) := of_decide_eq_true (by first | (with_reducible assumption) | assumption)
                     obtain ⟨ad237, e237, hx237_0, hx237_1⟩ := at_T57 HR0_2.out (ji78) p237 q237
                     have hw237_1 := hx237_1
                     have hw237_0 := hx237_0
                     obtain rfl : ad233 = ad237 := (by injection e237)
                     (try replace hx237_0 := (HB.out.cell (World.block_lt_of_cell? w _ hx237_0)).trans hx237_0)
                     (try replace hx237_1 := (HB.out.cell (World.block_lt_of_cell? w _ hx237_1)).trans hx237_1)
                     replace p237 := eq_true p237
                     replace q237 := eq_true q237
                     have p238 : 0 ≤ ((ji78) : Int) := of_decide_eq_true (by first | (with_reducible assumption) | assumption)
                     have q238 : (ji78) < (l0_2.length : Int) := of_decide_eq_true (by first | (with_reducible assumption) | assumption)
                     obtain ⟨ad238, e238, hx238_0, hx238_1⟩ := at_T57 HR0_2.out (ji78) p238 q238
                     have hw238_1 := hx238_1
                     have hw238_0 := hx238_0
                     obtain rfl : ad233 = ad238 := (by injection e238)
                     (try replace hx238_0 := (HB.out.cell (World.block_lt_of_cell? w _ hx238_0)).trans hx238_0)
                     (try replace hx238_1 := (HB.out.cell (World.block_lt_of_cell? w _ hx238_1)).trans hx238_1)
                     replace p238 := eq_true p238
                     replace q238 := eq_true q238
                     have p239 : 0 ≤ ((ji78) : Int) := of_decide_eq_true (by first | (with_reducible assumption) | assumption)
                     have q239 : (ji78) < (l0_2.length : Int) := of_decide_eq_true (by first | (with_reducible assumption) | assumption)
                     obtain ⟨ad239, e239, hx239_0, hx239_1⟩ := at_T57 HR0_2.out (ji78) p239 q239
                     have hw239_1 := hx239_1
                     have hw239_0 := hx239_0
                     obtain rfl : ad233 = ad239 := (by injection e239)
                     (try replace hx239_0 := (HB.out.cell (World.block_lt_of_cell? w _ hx239_0)).trans hx239_0)
                     (try replace hx239_1 := (HB.out.cell (World.block_lt_of_cell? w _ hx239_1)).trans hx239_1)
                     replace p239 := eq_true p239
                     replace q239 := eq_true q239
                     refine start_ (n := 38) (S := fun w' => w'.cell? ⟨gb225, 0, none⟩ = some (.int .i64 a0_0) ∧ w'.cell? ⟨gb225, 1, none⟩ = some (.slice A0_1 l0_1.length c0_1) ∧ w'.cell? ⟨gb225, 2, none⟩ = some (.slice (some ad233) l0_2.length c0_2) ∧ w'.cell? ⟨gb234, 0, none⟩ = some (.int .i64 ((rd_T57 l0_2 x63_3).f0)) ∧ w'.cell? ⟨gb234, 1, none⟩ = some (.string ((rd_T57 l0_2 x63_3).f1)) ∧ w'.cell? (ad233.add (((ji78)).toNat * 2)) = some (.int .i64 ((rd_T57 l0_2 (ji78)).f0)) ∧ w'.cell? ⟨(ad233.add (((ji78)).toNat * 2)).block, (ad233.add (((ji78)).toNat * 2)).off + 1, none⟩ = some (.string ((rd_T57 l0_2 (ji78)).f1)) ∧ w'.cell? (ad233.add (((ji78)).toNat * 2)) = some (.int .i64 ((rd_T57 l0_2 (ji78)).f0)) ∧ w'.cell? ⟨(ad233.add (((ji78)).toNat * 2)).block, (ad233.add (((ji78)).toNat * 2)).off + 1, none⟩ = some (.string ((rd_T57 l0_2 (ji78)).f1)) ∧ w'.cell? (ad233.add (((ji78)).toNat * 2)) = some (.int .i64 ((rd_T57 l0_2 (ji78)).f0)) ∧ w'.cell? ⟨(ad233.add (((ji78)).toNat * 2)).block, (ad233.add (((ji78)).toNat * 2)).off + 1, none⟩ = some (.string ((rd_T57 l0_2 (ji78)).f1))) (ds := []) (Array.replicate 38 false) (by kernel_rfl) rfl rfl ⟨cz_ BK225.out 0, cz_ BK225.out 1, cz_ BK225.out 2, cz_ BK234.out 0, cz_ BK234.out 1, ((HB.out.cell (World.block_lt_of_cell? w _ hw237_0)).trans hw237_0), ((HB.out.cell (World.block_lt_of_cell? w _ hw237_1)).trans hw237_1), ((HB.out.cell (World.block_lt_of_cell? w _ hw238_0)).trans hw238_0), ((HB.out.cell (World.block_lt_of_cell? w _ hw238_1)).trans hw238_1), ((HB.out.cell (World.block_lt_of_cell? w _ hw239_0)).trans hw239_0), ((HB.out.cell (World.block_lt_of_cell? w _ hw239_1)).trans hw239_1)⟩ (fun hHeld => ?_); refine with_tabW impl_GoodClip.tab14 impl_GoodClip.bits14 (fun HT_ HW_ => ?_)
                     generalize wc.drew = w86 at BK225 BK234 HB hx237_0 hx237_1 hx238_0 hx238_1 hx239_0 hx239_1 hHeld ⊢
                     refine pS_ 0 81 HT_ ?_
                     refine pS_ 1 82 HT_ ?_
                     refine pS_ 2 83 HT_ ?_
                     refine pS_ 3 84 HT_ ?_
                     refine pS_ 5 86 HT_ ?_
                     refine pS_ 6 87 HT_ ?_
                     refine pS_ 10 91 HT_ ?_
                     refine tS_ 4 85 HT_ HW_ hHeld ?_
                     refine pS_ 7 88 HT_ ?_
                     refine pS_ 8 89 HT_ ?_
                     refine tS_ 9 90 HT_ HW_ hHeld ?_
                     refine tS_ 11 92 HT_ HW_ hHeld ?_
                     refine pS_ 12 93 HT_ ?_
                     refine pS_ 13 94 HT_ ?_
                     refine pS_ 14 95 HT_ ?_
                     refine pS_ 16 97 HT_ ?_
                     refine pS_ 17 98 HT_ ?_
                     refine pS_ 21 102 HT_ ?_
                     refine tS_ 15 96 HT_ HW_ hHeld ?_
                     refine pS_ 18 99 HT_ ?_
                     refine pS_ 19 100 HT_ ?_
                     refine tS_ 20 101 HT_ HW_ hHeld ?_
                     refine tS_ 22 103 HT_ HW_ hHeld ?_
                     refine pS_ 23 104 HT_ ?_
                     refine pS_ 24 105 HT_ ?_
                     refine pS_ 25 106 HT_ ?_
                     refine pS_ 27 108 HT_ ?_
                     refine pS_ 28 109 HT_ ?_
                     refine pS_ 32 113 HT_ ?_
                     refine tS_ 26 107 HT_ HW_ hHeld ?_
                     refine pS_ 29 110 HT_ ?_
                     refine pS_ 30 111 HT_ ?_
                     refine tS_ 31 112 HT_ HW_ hHeld ?_
                     refine tS_ 33 114 HT_ HW_ hHeld ?_
                     refine pS_ 34 115 HT_ ?_
                     refine pS_ 35 116 HT_ ?_
                     refine pS_ 36 117 HT_ ?_
                     refine pS_ 37 118 HT_ ?_
                     refine done_ (done_of HT_.out (by kernel_rfl)) ?_
                     try go_wp2
                     go_ret
                     exact ⟨by first | rfl | (simp [errW_none, errW_some] <;> rfl) | (simp only [← hji78]; first | rfl | (simp [errW_none, errW_some] <;> rfl)) | (simp [*, errW_none, errW_some] <;> rfl), bw_ HB.out⟩
                   ·rw [if_neg c83] at H
                    have c83b0 : (((rd_T57 l0_2 (ji78)).f0) == ((rd_T57 l0_2 x63_3).f0)) = false := beq_eq_false_iff_ne.mpr c83
                    have c83b1 : (((rd_T57 l0_2 (ji78)).f0) != ((rd_T57 l0_2 x63_3).f0)) = true := bne_iff_ne.mpr c83
                    have H' := Aside0.mk H
                    clear H
                    try go_wp2
                    have n0_ := Aside0.mk (blk_drew BK225.out)
                    have n1_ := Aside0.mk (blk_drew BK234.out)
                    have n2_ := Aside0.mk (below_drew1 HB.out)
                    clear BK225
                    clear BK234
                    clear HB
                    have BK225 := n0_
                    have BK234 := n1_
                    have HB := n2_
                    clear n0_ n1_ n2_
                    have p237 : 0 ≤ ((ji78) : Int) := of_decide_eq_true (by first | (with_reducible assumption) | assumption)
                    have q237 : (ji78) < (l0_2.length : Int) := of_decide_eq_true (by first | (with_reducible assumption) | assumption)
                    obtain ⟨ad237, e237, hx237_0, hx237_1⟩ := at_T57 HR0_2.out (ji78) p237 q237
                    have hw237_1 := hx237_1
                    have hw237_0 := hx237_0
                    obtain rfl : ad233 = ad237 := (by injection e237)
                    (try replace hx237_0 := (HB.out.cell (World.block_lt_of_cell? w _ hx237_0)).trans hx237_0)
                    (try replace hx237_1 := (HB.out.cell (World.block_lt_of_cell? w _ hx237_1)).trans hx237_1)
                    replace p237 := eq_true p237
                    replace q237 := eq_true q237
                    have p238 : 0 ≤ ((ji78) : Int) := of_decide_eq_true (by first | (with_reducible assumption) | assumption)
                    have q238 : (ji78) < (l0_2.length : Int) := of_decide_eq_true (by first | (with_reducible assumption) | assumption)
                    obtain ⟨ad238, e238, hx238_0, hx238_1⟩ := at_T57 HR0_2.out (ji78) p238 q238
                    have hw238_1 := hx238_1
                    have hw238_0 := hx238_0
                    obtain rfl : ad233 = ad238 := (by injection e238)
                    (try replace hx238_0 := (HB.out.cell (World.block_lt_of_cell? w _ hx238_0)).trans hx238_0)
                    (try replace hx238_1 := (HB.out.cell (World.block_lt_of_cell? w _ hx238_1)).trans hx238_1)
                    replace p238 := eq_true p238
                    replace q238 := eq_true q238
                    refine start_ (n := 38) (S := fun w' => w'.cell? ⟨gb225, 0, none⟩ = some (.int .i64 a0_0) ∧ w'.cell? ⟨gb225, 1, none⟩ = some (.slice A0_1 l0_1.length c0_1) ∧ w'.cell? ⟨gb225, 2, none⟩ = some (.slice (some ad233) l0_2.length c0_2) ∧ w'.cell? ⟨gb234, 0, none⟩ = some (.int .i64 ((rd_T57 l0_2 x63_3).f0)) ∧ w'.cell? ⟨gb234, 1, none⟩ = some (.string ((rd_T57 l0_2 x63_3).f1)) ∧ w'.cell? (ad233.add (((ji78)).toNat * 2)) = some (.int .i64 ((rd_T57 l0_2 (ji78)).f0)) ∧ w'.cell? ⟨(ad233.add (((ji78)).toNat * 2)).block, (ad233.add (((ji78)).toNat * 2)).off + 1, none⟩ = some (.string ((rd_T57 l0_2 (ji78)).f1)) ∧ w'.cell? (ad233.add (((ji78)).toNat * 2)) = some (.int .i64 ((rd_T57 l0_2 (ji78)).f0)) ∧ w'.cell? ⟨(ad233.add (((ji78)).toNat * 2)).block, (ad233.add (((ji78)).toNat * 2)).off + 1, none⟩ = some (.string ((rd_T57 l0_2 (ji78)).f1))) (ds := []) (Array.replicate 38 false) (by kernel_rfl) rfl rfl ⟨cz_ BK225.out 0, cz_ BK225.out 1, cz_ BK225.out 2, cz_ BK234.out 0, cz_ BK234.out 1, ((HB.out.cell (World.block_lt_of_cell? w _ hw237_0)).trans hw237_0), ((HB.out.cell (World.block_lt_of_cell? w _ hw237_1)).trans hw237_1), ((HB.out.cell (World.block_lt_of_cell? w _ hw238_0)).trans hw238_0), ((HB.out.cell (World.block_lt_of_cell? w _ hw238_1)).trans hw238_1)⟩ (fun hHeld => ?_); refine with_tabW impl_GoodClip.tab14 impl_GoodClip.bits14 (fun HT_ HW_ => ?_)
                    generalize wc.drew = w87 at BK225 BK234 HB hx237_0 hx237_1 hx238_0 hx238_1 hHeld ⊢
                    refine pS_ 0 81 HT_ ?_
                    refine pS_ 1 82 HT_ ?_
                    refine pS_ 2 83 HT_ ?_
                    refine pS_ 3 84 HT_ ?_
                    refine pS_ 5 86 HT_ ?_
                    refine pS_ 6 87 HT_ ?_
                    refine pS_ 10 91 HT_ ?_
                    refine tS_ 4 85 HT_ HW_ hHeld ?_
                    refine pS_ 7 88 HT_ ?_
                    refine pS_ 8 89 HT_ ?_
                    refine tS_ 9 90 HT_ HW_ hHeld ?_
                    refine tS_ 11 92 HT_ HW_ hHeld ?_
                    refine pS_ 12 93 HT_ ?_
                    refine pS_ 13 94 HT_ ?_
                    refine pS_ 14 95 HT_ ?_
                    refine pS_ 16 97 HT_ ?_
                    refine pS_ 17 98 HT_ ?_
                    refine pS_ 21 102 HT_ ?_
                    refine tS_ 15 96 HT_ HW_ hHeld ?_
                    refine pS_ 18 99 HT_ ?_
                    refine pS_ 19 100 HT_ ?_
                    refine tS_ 20 101 HT_ HW_ hHeld ?_
                    refine tS_ 22 103 HT_ HW_ hHeld ?_
                    refine pS_ 23 104 HT_ ?_
                    refine pS_ 24 105 HT_ ?_
                    refine pU_ 25 106 HT_ ?_
                    refine pU_ 26 107 HT_ ?_
                    refine pU_ 27 108 HT_ ?_
                    refine pU_ 28 109 HT_ ?_
                    refine pU_ 29 110 HT_ ?_
                    refine pU_ 30 111 HT_ ?_
                    refine pU_ 31 112 HT_ ?_
                    refine pU_ 32 113 HT_ ?_
                    refine pU_ 33 114 HT_ ?_
                    refine pU_ 34 115 HT_ ?_
                    refine pS_ 35 116 HT_ ?_
                    refine pS_ 36 117 HT_ ?_
                    refine pS_ 37 118 HT_ ?_
                    refine done_ (done_of HT_.out (by kernel_rfl)) ?_
                    try go_wp2
                    go_roundg kj63
                    case measure => have := HJ1.out; have := HK2.out; have := HK3.out; have := HJ63.out; omega
                    case rel => exact ⟨(wrap64 (x63_3 + 1)), (by first | rfl | (simp; done) | (simp [*]; done) | (simp [wrap64]; done)), H', ⟨by have := HJ1.out; have := HK2.out; have := HK3.out; have := HJ63.out; omega⟩, ⟨by (with_reducible repeat (first | refine blk_drewN ?_ _ | refine blk_drew ?_ | refine blk_alloc ?_ _)); exact BK225.out⟩, ⟨bw_ HB.out⟩⟩
                 ·rw [if_neg c80] at H
                  exact absurd H (by simp)
                ·rw [if_neg c79] at H
                 exact absurd H (by simp)
               ·rw [if_neg c77] at H
                have c77b0 : decide (0 < x63_3) = false := decide_eq_false c77
                clear c77
                have H' := Aside0.mk H
                clear H
                try go_wp2
                have n0_ := Aside0.mk (blk_drew BK225.out)
                have n1_ := Aside0.mk (blk_drew BK234.out)
                have n2_ := Aside0.mk (below_drew1 HB.out)
                clear BK225
                clear BK234
                clear HB
                have BK225 := n0_
                have BK234 := n1_
                have HB := n2_
                clear n0_ n1_ n2_
                refine start_ (n := 38) (S := fun w' => True) (ds := []) (Array.replicate 38 false) (by kernel_rfl) rfl rfl trivial (fun hHeld => ?_); refine with_tabW impl_GoodClip.tab14 impl_GoodClip.bits14 (fun HT_ HW_ => ?_)
                generalize wc.drew = w88 at BK225 BK234 HB hHeld ⊢
                refine pS_ 0 81 HT_ ?_
                refine pS_ 1 82 HT_ ?_
                refine pS_ 2 83 HT_ ?_
                refine pU_ 3 84 HT_ ?_
                refine pU_ 4 85 HT_ ?_
                refine pU_ 5 86 HT_ ?_
                refine pU_ 6 87 HT_ ?_
                refine pU_ 7 88 HT_ ?_
                refine pU_ 8 89 HT_ ?_
                refine pU_ 9 90 HT_ ?_
                refine pU_ 10 91 HT_ ?_
                refine pU_ 11 92 HT_ ?_
                refine pU_ 12 93 HT_ ?_
                refine pU_ 13 94 HT_ ?_
                refine pU_ 14 95 HT_ ?_
                refine pU_ 15 96 HT_ ?_
                refine pU_ 16 97 HT_ ?_
                refine pU_ 17 98 HT_ ?_
                refine pU_ 18 99 HT_ ?_
                refine pU_ 19 100 HT_ ?_
                refine pU_ 20 101 HT_ ?_
                refine pU_ 21 102 HT_ ?_
                refine pU_ 22 103 HT_ ?_
                refine pU_ 23 104 HT_ ?_
                refine pU_ 24 105 HT_ ?_
                refine pU_ 25 106 HT_ ?_
                refine pU_ 26 107 HT_ ?_
                refine pU_ 27 108 HT_ ?_
                refine pU_ 28 109 HT_ ?_
                refine pU_ 29 110 HT_ ?_
                refine pU_ 30 111 HT_ ?_
                refine pU_ 31 112 HT_ ?_
                refine pU_ 32 113 HT_ ?_
                refine pU_ 33 114 HT_ ?_
                refine pU_ 34 115 HT_ ?_
                refine pU_ 35 116 HT_ ?_
                refine pU_ 36 117 HT_ ?_
                refine pS_ 37 118 HT_ ?_
                refine done_ (done_of HT_.out (by kernel_rfl)) ?_
                try go_wp2
                go_roundg kj63
                case measure => have := HJ1.out; have := HK2.out; have := HK3.out; have := HJ63.out; omega
                case rel => exact ⟨(wrap64 (x63_3 + 1)), (by first | rfl | (simp; done) | (simp [*]; done) | (simp [wrap64]; done)), H', ⟨by have := HJ1.out; have := HK2.out; have := HK3.out; have := HJ63.out; omega⟩, ⟨by (with_reducible repeat (first | refine blk_drewN ?_ _ | refine blk_drew ?_ | refine blk_alloc ?_ _)); exact BK225.out⟩, ⟨bw_ HB.out⟩⟩
           ·rw [if_neg c63] at H
            exact absurd H (by simp)
          ·rw [if_neg c62] at H
           exact absurd H (by simp)
         ·rw [if_neg c61] at H
          have c61b0 : decide (x63_3 < (l0_2.length : Int)) = false := decide_eq_false c61
          clear c61
          obtain rfl := Option.some.inj H
          go_wp2
          go_ret
          exact ⟨by first | rfl | (simp [errW_none, errW_some] <;> rfl) | (simp [*, errW_none, errW_some] <;> rfl), bw_ HB.out⟩

end Go.Proofs.Ytikoiodbmnekfaa.XFnExactMarksCrossed
