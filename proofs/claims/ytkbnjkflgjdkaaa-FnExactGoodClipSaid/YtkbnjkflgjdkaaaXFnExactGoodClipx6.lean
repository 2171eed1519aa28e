/- What the Go functions that this law comes to compute, each walked; written by a program of this session. -/
import Derived.Test.YtkbnjkflgjdkaaaXFnExactGoodClipx0
import Derived.Test.YtkbnjkflgjdkaaaXFnExactGoodClipx4
import Derived.Test.YtkbnjkflgjdkaaaXFnExactGoodClipx5
namespace Go.Proofs.Ytkbnjkflgjdkaaa.XFnExactGoodClip
open Go.RowKit Go.Proofs.YtkbnjkflgjdkaaaW.PrintWords Go.Proofs.YtkbnjkflgjdkaaaW.PrintLast Go.Proofs.YtkbnjkflgjdkaaaW.PrintMore
attribute [local go_sem] str_geq max2_int min2_int max_two min_two max_three min_three max_four min_four   -- for this text's walks alone
set_option linter.unusedVariables false
set_option linter.unusedSimpArgs false

/-! ### impl_GoodClip: function 7 -/
mutual
def impl_GoodClip.j0 : Nat → Bool → Int → List (S40) → List (S44) → Option (Bool)
 | 0, _, _, _, _ => none
 | k + 1, x22, x189000, x189001, x189002 => if x22 = true then (some false) else (impl_GoodClip.l0 k x189001 (x189001.length : Int) 0 x189000 x189001 x189002)
def impl_GoodClip.l0 : Nat → List (S40) → Int → Int → Int → List (S40) → List (S44) → Option (Bool)
 | 0, _, _, _, _, _, _ => none
 | k + 1, x24, x25, x26, x189000, x189001, x189002 => if x26 < x25 then (if 0 ≤ x26 then (if x26 < (x24.length : Int) then ((impl_GoodName.f k ((rd_T40 x24 x26).f0)).bind fun t192 => (if t192 = true then (if x26 > 0 then (if 0 ≤ (wrap64 (x26 - 1)) then (if (wrap64 (x26 - 1)) < (x189001.length : Int) then (if ((Op.bytesLess (((rd_T40 x189001 (wrap64 (x26 - 1))).f0).toList) (((rd_T40 x24 x26).f0).toList)) = true) then ((impl_areKeys.f k ((rd_T40 x24 x26).f1) x189000).bind fun t194 => (if t194 = true then (impl_GoodClip.l0 k x24 x25 (wrap64 (x26 + 1)) x189000 x189001 x189002) else (some false))) else (some false)) else (none)) else (none)) else ((impl_areKeys.f k ((rd_T40 x24 x26).f1) x189000).bind fun t195 => (if t195 = true then (impl_GoodClip.l0 k x24 x25 (wrap64 (x26 + 1)) x189000 x189001 x189002) else (some false)))) else (some false))) else (none)) else (none)) else (impl_GoodClip.l1 k x189002 (x189002.length : Int) 0 x189000 x189001 x189002)
def impl_GoodClip.l1 : Nat → List (S44) → Int → Int → Int → List (S40) → List (S44) → Option (Bool)
 | 0, _, _, _, _, _, _ => none
 | k + 1, x61, x62, x63, x189000, x189001, x189002 => if x63 < x62 then (if 0 ≤ x63 then (if x63 < (x61.length : Int) then ((impl_GoodName.f k ((rd_T44 x61 x63).f1)).bind fun t198 => (if t198 = true then ((impl_inRange.f ((rd_T44 x61 x63).f0) 0 (wrap64 (x189000 - 1))).bind fun t199 => (impl_GoodClip.j3 k x63 x61 x62 x63 (!t199) x189000 x189001 x189002 ((rd_T44 x61 x63).f0) ((rd_T44 x61 x63).f1))) else (impl_GoodClip.j3 k x63 x61 x62 x63 true x189000 x189001 x189002 ((rd_T44 x61 x63).f0) ((rd_T44 x61 x63).f1)))) else (none)) else (none)) else (some true)
def impl_GoodClip.j3 : Nat → Int → List (S44) → Int → Int → Bool → Int → List (S40) → List (S44) → Int → ByteArray → Option (Bool)
 | 0, _, _, _, _, _, _, _, _, _, _ => none
 | k + 1, x5, x61, x62, x63, x80, x189000, x189001, x189002, x198000, x198001 => if x80 = true then (some false) else (if x5 > 0 then (if 0 ≤ (wrap64 (x5 - 1)) then (if (wrap64 (x5 - 1)) < (x189002.length : Int) then (if ((rd_T44 x189002 (wrap64 (x5 - 1))).f0) > x198000 then (some false) else (if ((rd_T44 x189002 (wrap64 (x5 - 1))).f0) = x198000 then (if ((Op.bytesLess (((rd_T44 x189002 (wrap64 (x5 - 1))).f1).toList) x198001.toList) = true) then (impl_GoodClip.l1 k x61 x62 (wrap64 (x63 + 1)) x189000 x189001 x189002) else (some false)) else (impl_GoodClip.l1 k x61 x62 (wrap64 (x63 + 1)) x189000 x189001 x189002))) else (none)) else (none)) else (impl_GoodClip.l1 k x61 x62 (wrap64 (x63 + 1)) x189000 x189001 x189002))
end
def impl_GoodClip.f (k : Nat) (a0_0 : Int) (l0_1 : List (S40)) (l0_2 : List (S44)) : Option (Bool) := (impl_inRange.f a0_0 1 60).bind fun t189 => (if t189 = true then (if (l0_1.length : Int) > 8 then (impl_GoodClip.j0 k true a0_0 l0_1 l0_2) else (impl_GoodClip.j0 k (decide ((l0_2.length : Int) > 20)) a0_0 l0_1 l0_2)) else (impl_GoodClip.j0 k true a0_0 l0_1 l0_2))
theorem impl_GoodClip.mono_l : ∀ k, (∀ y0 y1 y2 y3, LeO (impl_GoodClip.j0 k y0 y1 y2 y3) (impl_GoodClip.j0 (k + 1) y0 y1 y2 y3)) ∧ (∀ y0 y1 y2 y3 y4 y5, LeO (impl_GoodClip.l0 k y0 y1 y2 y3 y4 y5) (impl_GoodClip.l0 (k + 1) y0 y1 y2 y3 y4 y5)) ∧ (∀ y0 y1 y2 y3 y4 y5, LeO (impl_GoodClip.l1 k y0 y1 y2 y3 y4 y5) (impl_GoodClip.l1 (k + 1) y0 y1 y2 y3 y4 y5)) ∧ (∀ y0 y1 y2 y3 y4 y5 y6 y7 y8 y9, LeO (impl_GoodClip.j3 k y0 y1 y2 y3 y4 y5 y6 y7 y8 y9) (impl_GoodClip.j3 (k + 1) y0 y1 y2 y3 y4 y5 y6 y7 y8 y9))
 | 0 => ⟨fun _ _ _ _ r h => by simp [impl_GoodClip.j0] at h, fun _ _ _ _ _ _ r h => by simp [impl_GoodClip.l0] at h, fun _ _ _ _ _ _ r h => by simp [impl_GoodClip.l1] at h, fun _ _ _ _ _ _ _ _ _ _ r h => by simp [impl_GoodClip.j3] at h⟩
 | k + 1 => by
  obtain ⟨ih0, ih1, ih2, ih3⟩ := impl_GoodClip.mono_l k
  refine ⟨?_, ?_, ?_, ?_⟩
  ·intro y0 y1 y2 y3
   unfold impl_GoodClip.j0
   repeat' first
   | (with_reducible exact ih0 _ _ _ _)
   | (with_reducible exact ih1 _ _ _ _ _ _)
   | (with_reducible exact ih2 _ _ _ _ _ _)
   | (with_reducible exact ih3 _ _ _ _ _ _ _ _ _ _)
   | (with_reducible exact impl_GoodName.mono _ _)
   | (with_reducible exact impl_areKeys.mono _ _ _)
   | (with_reducible exact LeO.refl _)
   | (with_reducible exact LeO.none _)
   | (with_reducible refine LeO.ite ?_ ?_)
   | (with_reducible refine LeO.bind ?_ (fun _ => ?_))
   | exact ih0 _ _ _ _
   | exact ih1 _ _ _ _ _ _
   | exact ih2 _ _ _ _ _ _
   | exact ih3 _ _ _ _ _ _ _ _ _ _
   | exact impl_GoodName.mono _ _
   | exact impl_areKeys.mono _ _ _
   | exact LeO.none _
   | refine LeO.ite ?_ ?_
   | refine LeO.bind ?_ (fun _ => ?_)
  ·intro y0 y1 y2 y3 y4 y5
   unfold impl_GoodClip.l0
   repeat' first
   | (with_reducible exact ih0 _ _ _ _)
   | (with_reducible exact ih1 _ _ _ _ _ _)
   | (with_reducible exact ih2 _ _ _ _ _ _)
   | (with_reducible exact ih3 _ _ _ _ _ _ _ _ _ _)
   | (with_reducible exact impl_GoodName.mono _ _)
   | (with_reducible exact impl_areKeys.mono _ _ _)
   | (with_reducible exact LeO.refl _)
   | (with_reducible exact LeO.none _)
   | (with_reducible refine LeO.ite ?_ ?_)
   | (with_reducible refine LeO.bind ?_ (fun _ => ?_))
   | exact ih0 _ _ _ _
   | exact ih1 _ _ _ _ _ _
   | exact ih2 _ _ _ _ _ _
   | exact ih3 _ _ _ _ _ _ _ _ _ _
   | exact impl_GoodName.mono _ _
   | exact impl_areKeys.mono _ _ _
   | exact LeO.none _
   | refine LeO.ite ?_ ?_
   | refine LeO.bind ?_ (fun _ => ?_)
  ·intro y0 y1 y2 y3 y4 y5
   unfold impl_GoodClip.l1
   repeat' first
   | (with_reducible exact ih0 _ _ _ _)
   | (with_reducible exact ih1 _ _ _ _ _ _)
   | (with_reducible exact ih2 _ _ _ _ _ _)
   | (with_reducible exact ih3 _ _ _ _ _ _ _ _ _ _)
   | (with_reducible exact impl_GoodName.mono _ _)
   | (with_reducible exact impl_areKeys.mono _ _ _)
   | (with_reducible exact LeO.refl _)
   | (with_reducible exact LeO.none _)
   | (with_reducible refine LeO.ite ?_ ?_)
   | (with_reducible refine LeO.bind ?_ (fun _ => ?_))
   | exact ih0 _ _ _ _
   | exact ih1 _ _ _ _ _ _
   | exact ih2 _ _ _ _ _ _
   | exact ih3 _ _ _ _ _ _ _ _ _ _
   | exact impl_GoodName.mono _ _
   | exact impl_areKeys.mono _ _ _
   | exact LeO.none _
   | refine LeO.ite ?_ ?_
   | refine LeO.bind ?_ (fun _ => ?_)
  ·intro y0 y1 y2 y3 y4 y5 y6 y7 y8 y9
   unfold impl_GoodClip.j3
   repeat' first
   | (with_reducible exact ih0 _ _ _ _)
   | (with_reducible exact ih1 _ _ _ _ _ _)
   | (with_reducible exact ih2 _ _ _ _ _ _)
   | (with_reducible exact ih3 _ _ _ _ _ _ _ _ _ _)
   | (with_reducible exact impl_GoodName.mono _ _)
   | (with_reducible exact impl_areKeys.mono _ _ _)
   | (with_reducible exact LeO.refl _)
   | (with_reducible exact LeO.none _)
   | (with_reducible refine LeO.ite ?_ ?_)
   | (with_reducible refine LeO.bind ?_ (fun _ => ?_))
   | exact ih0 _ _ _ _
   | exact ih1 _ _ _ _ _ _
   | exact ih2 _ _ _ _ _ _
   | exact ih3 _ _ _ _ _ _ _ _ _ _
   | exact impl_GoodName.mono _ _
   | exact impl_areKeys.mono _ _ _
   | exact LeO.none _
   | refine LeO.ite ?_ ?_
   | refine LeO.bind ?_ (fun _ => ?_)
theorem impl_GoodClip.mono : ∀ a0 a1 a2 k, LeO (impl_GoodClip.f k a0 a1 a2) (impl_GoodClip.f (k + 1) a0 a1 a2) := by
 intro a0 a1 a2 k
 obtain ⟨ih0, ih1, ih2, ih3⟩ := impl_GoodClip.mono_l k
 unfold impl_GoodClip.f
 repeat' first
   | (with_reducible exact ih0 _ _ _ _)
   | (with_reducible exact ih1 _ _ _ _ _ _)
   | (with_reducible exact ih2 _ _ _ _ _ _)
   | (with_reducible exact ih3 _ _ _ _ _ _ _ _ _ _)
   | (with_reducible exact impl_GoodName.mono _ _)
   | (with_reducible exact impl_areKeys.mono _ _ _)
   | (with_reducible exact LeO.refl _)
   | (with_reducible exact LeO.none _)
   | (with_reducible refine LeO.ite ?_ ?_)
   | (with_reducible refine LeO.bind ?_ (fun _ => ?_))
   | exact ih0 _ _ _ _
   | exact ih1 _ _ _ _ _ _
   | exact ih2 _ _ _ _ _ _
   | exact ih3 _ _ _ _ _ _ _ _ _ _
   | exact impl_GoodName.mono _ _
   | exact impl_areKeys.mono _ _ _
   | exact LeO.none _
   | refine LeO.ite ?_ ?_
   | refine LeO.bind ?_ (fun _ => ?_)
def impl_GoodClip.T6 : Bool × List (List Nat × List Nat) := (true, [([], []), ([0], [0]), ([1], [1]), ([2], [2]), ([3, 2], [3]), ([4], [4]), ([5, 4], [4, 5]), ([6, 4, 4], [4, 6]), ([7], [7]), ([8, 7], [7, 8]), ([7], [7]), ([10, 7], [7, 10]), ([9, 11, 7], [7, 9, 11]), ([12, 7], [7, 12]), ([13, 7], [7, 13]), ([7], [7]), ([15, 7], [7, 15]), ([14, 16, 7], [7, 14, 16]), ([7, 17, 4], [4, 7, 17]), ([4, 18], [4, 18]), ([19, 7], [19]), ([20], [20]), ([21, 20], [20, 21]), ([20], [20]), ([23, 20], [20, 23]), ([22, 24, 20, 20], [20, 22, 24]), ([25, 20], [20, 25]), ([20, 26], [20, 26])])
def impl_GoodClip.B6 : List Nat := [0, 1, 3, 7, 15, 31, 63, 127, 255, 511, 255, 1279, 4095, 8191, 16383, 255, 33023, 131071, 262143, 524287, 1048575, 2097151, 4194303, 2097151, 10485759, 33554431, 67108863, 134217727]
theorem impl_GoodClip.tab6 : rtab .any (opsOf Try.f7 6) = impl_GoodClip.T6 := by kernel_rfl
theorem impl_GoodClip.bits6 : waitsOk impl_GoodClip.T6.2 impl_GoodClip.B6 = true := by kernel_rfl
def impl_GoodClip.T14 : Bool × List (List Nat × List Nat) := (true, [([], []), ([0], [0]), ([1], [1]), ([2], [2]), ([3, 2], [2, 3]), ([2], [2]), ([5, 2], [2, 5]), ([4, 6, 2], [2, 4, 6]), ([7, 2], [2, 7]), ([8, 2], [2, 8]), ([2], [2]), ([10, 2], [2, 10]), ([9, 11, 2], [2, 9, 11]), ([12, 2, 2], [2, 12]), ([13], [13]), ([14, 13], [13, 14]), ([13], [13]), ([16, 13], [13, 16]), ([15, 17, 13], [13, 15, 17]), ([18, 13], [13, 18]), ([19, 13], [13, 19]), ([13], [13]), ([21, 13], [13, 21]), ([20, 22, 13], [13, 20, 22]), ([23, 13, 13], [13, 23]), ([24], [24]), ([25, 24], [24, 25]), ([24], [24]), ([27, 24], [24, 27]), ([26, 28, 24], [24, 26, 28]), ([29, 24], [24, 29]), ([30, 24], [24, 30]), ([24], [24]), ([32, 24], [24, 32]), ([31, 33, 24], [24, 31, 33]), ([24, 34, 13], [13, 24, 34]), ([13, 35, 2], [2, 13, 35]), ([2, 36], [2, 36])])
def impl_GoodClip.B14 : List Nat := [0, 1, 3, 7, 15, 7, 39, 127, 255, 511, 7, 1031, 4095, 8191, 16383, 32767, 16383, 81919, 262143, 524287, 1048575, 16383, 2113535, 8388607, 16777215, 33554431, 67108863, 33554431, 167772159, 536870911, 1073741823, 2147483647, 33554431, 4328521727, 17179869183, 34359738367, 68719476735, 137438953471]
theorem impl_GoodClip.tab14 : rtab .any (opsOf Try.f7 14) = impl_GoodClip.T14 := by kernel_rfl
theorem impl_GoodClip.bits14 : waitsOk impl_GoodClip.T14.2 impl_GoodClip.B14 = true := by kernel_rfl
set_option maxHeartbeats 8000000 in
set_option maxRecDepth 100000 in
theorem impl_GoodClip.calls (k : Nat) (a0_0 : Int) (A0_1 : Option Addr) (c0_1 : Nat) (l0_1 : List (S40)) (A0_2 : Option Addr) (c0_2 : Nat) (l0_2 : List (S44)) (r : Bool) (w : World) (hr0_1 : Kd.C k40 w A0_1 l0_1.length l0_1) (hc0_1 : l0_1.length ≤ c0_1) (hr0_2 : Kd.C k44 w A0_2 l0_2.length l0_2) (hc0_2 : l0_2.length ≤ c0_2) (h : impl_GoodClip.f k a0_0 l0_1 l0_2 = some r) :
  Calls Try.prog 7 #[.agg #[.int .i64 a0_0, .slice A0_1 l0_1.length c0_1, .slice A0_2 l0_2.length c0_2]] w fun e w' => e = .returned (.bool r) ∧ Below w.heap.size w w' := by
 have hu31 := Try.underlying31
 have hu40 := Try.underlying40
 have hu44 := Try.underlying44
 have HR0_1 := Aside0.mk hr0_1
 have HC0_1 := Aside0.mk hc0_1
 clear hr0_1 hc0_1
 have HR0_2 := Aside0.mk hr0_2
 have HC0_2 := Aside0.mk hc0_2
 clear hr0_2 hc0_2
 have HB := Aside0.mk (Below.refl w.heap.size w)
 have H : ((impl_inRange.f a0_0 1 60).bind fun t189 => (if t189 = true then (if (l0_1.length : Int) > 8 then (impl_GoodClip.j0 k true a0_0 l0_1 l0_2) else (impl_GoodClip.j0 k (decide ((l0_2.length : Int) > 20)) a0_0 l0_1 l0_2)) else (impl_GoodClip.j0 k true a0_0 l0_1 l0_2))) = some r := h
 clear h
 have HC2 := Aside0.mk H
 clear H
 go_enter Try.func7, Try.ntmps7
 go_upto_region 1 with (first | ((with_reducible refine gate_dst (N := 1) rfl ?_); (try (refine gate_guard (by rfl) ?_; dsimp only)); refine box_event ?hg (N := 1) ?hd (cs := #[.int .i64 a0_0, .slice A0_1 l0_1.length c0_1, .slice A0_2 l0_2.length c0_2]) (t := 31) ?hr ?_; (case hd => rfl); (case hg => rfl); (case hr => first | (go_simp; done) | (go_simp; rfl)); intro gb188 hg w3 hbox hb; have n0_ := Aside0.mk (below_step (bw_ HB.out) hb); have n1_ := Aside0.mk (hbox); have n2_ := Aside0.mk ((by rw [hg]; exact (below_size (bw_ HB.out)) : w.heap.size ≤ gb188)); have n3_ := Aside0.mk ((by rw [hg]; exact (below_size (bw_ HB.out)) : w.heap.size ≤ gb188)); clear HB; have HB := n0_; have BK188 := n1_; have GW188 := n2_; have GE188 := n3_; clear n0_ n1_ n2_ n3_; clear hb hbox hg))
 (try simp only [Act.put, List.setIfInBounds_toArray, List.set_cons_zero, List.set_cons_succ])
 go_cut [22] (fun v22 wc => ∃ (kq : Nat) (x22_1 : Bool), v22 = .bool x22_1 ∧ Aside0 (impl_GoodClip.j0 kq x22_1 a0_0 l0_1 l0_2 = some r) ∧ Aside0 (kq ≤ k) ∧ Aside0 (wc.heap[gb188]? = some (.cells #[.int .i64 a0_0, (.slice A0_1 l0_1.length c0_1), (.slice A0_2 l0_2.length c0_2)] 31 (0, 0))) ∧ Aside0 (Below w.heap.size w wc))
 case first =>
  have H := HC2.out
  clear HC2
  obtain ⟨t189, A40, H⟩ := bE_ H
  have A4 := Aside0.mk A40
  clear A40
  by_cases c5 : t189 = true
  ·subst c5
   replace H := it_ H rfl
   by_cases c6 : (l0_1.length : Int) > 8
   ·rw [if_pos c6] at H
    have c6b0 : decide (8 < (l0_1.length : Int)) = true := decide_eq_true c6
    have c6b1 : decide (8 < l0_1.length) = true := decide_eq_true (by omega)
    clear c6
    (first | rw [c6b0] | (simp only [i64_w, i32_w]; rw [c6b0]) | skip)
    have H' := Aside0.mk H
    clear H
    have hcz7_0 : w3.cell? ⟨gb188, 0, none⟩ = some (.int .i64 a0_0) := (blk_cell BK188.out 0).trans rfl
    have hcz7_1 : w3.cell? ⟨gb188, 1, none⟩ = some (.slice A0_1 l0_1.length c0_1) := (blk_cell BK188.out 1).trans rfl
    have hcz7_2 : w3.cell? ⟨gb188, 2, none⟩ = some (.slice A0_2 l0_2.length c0_2) := (blk_cell BK188.out 2).trans rfl
    have hfz7_0 := blk_frozen BK188.out 0
    have hfz7_1 := blk_frozen BK188.out 1
    have hfz7_2 := blk_frozen BK188.out 2
    go_wp2_with (first | ((with_reducible refine gate_callee (f := 16) rfl ?_); refine goesL_ (some 9) rfl rfl Try.func16 (by kernel_rfl) rfl #[.int .i64 a0_0, .int .i64 1, .int .i64 60] rfl (by (try simp only [List.map_toArray, List.map_cons, List.map_nil]); first | done | rfl | (simp only [List.length_drop, List.length_take]; rfl)) ?_; (with_reducible refine (impl_inRange.calls a0_0 1 60 true _ A4.out).mono ?_); rintro e w' ⟨rfl, ⟨nd, rfl⟩⟩; refine ⟨_, rfl, ?_⟩))
    go_meet
    case rel => exact ⟨_, (true), (by first | rfl | (simp; done) | (simp [*]; done) | (simp [wrap64]; done)), H', ⟨by first | omega | exact Nat.le_refl _⟩, ⟨by (with_reducible repeat (first | refine blk_drewN ?_ _ | refine blk_drew ?_ | refine blk_alloc ?_ _)); exact BK188.out⟩, ⟨bw_ HB.out⟩⟩
   ·rw [if_neg c6] at H
    have c6b0 : decide (8 < (l0_1.length : Int)) = false := decide_eq_false c6
    have c6b1 : decide (8 < l0_1.length) = false := decide_eq_false (by omega)
    clear c6
    (first | rw [c6b0] | (simp only [i64_w, i32_w]; rw [c6b0]) | skip)
    have H' := Aside0.mk H
    clear H
    have hcz8_0 : w3.cell? ⟨gb188, 0, none⟩ = some (.int .i64 a0_0) := (blk_cell BK188.out 0).trans rfl
    have hcz8_1 : w3.cell? ⟨gb188, 1, none⟩ = some (.slice A0_1 l0_1.length c0_1) := (blk_cell BK188.out 1).trans rfl
    have hcz8_2 : w3.cell? ⟨gb188, 2, none⟩ = some (.slice A0_2 l0_2.length c0_2) := (blk_cell BK188.out 2).trans rfl
    have hfz8_0 := blk_frozen BK188.out 0
    have hfz8_1 := blk_frozen BK188.out 1
    have hfz8_2 := blk_frozen BK188.out 2
    go_wp2_with (first | ((with_reducible refine gate_callee (f := 16) rfl ?_); refine goesL_ (some 9) rfl rfl Try.func16 (by kernel_rfl) rfl #[.int .i64 a0_0, .int .i64 1, .int .i64 60] rfl (by (try simp only [List.map_toArray, List.map_cons, List.map_nil]); first | done | rfl | (simp only [List.length_drop, List.length_take]; rfl)) ?_; (with_reducible refine (impl_inRange.calls a0_0 1 60 true _ A4.out).mono ?_); rintro e w' ⟨rfl, ⟨nd, rfl⟩⟩; refine ⟨_, rfl, ?_⟩))
    go_meet
    case rel => exact ⟨_, (decide ((l0_2.length : Int) > 20)), (by first | rfl | (simp; done) | (simp [*]; done) | (simp [wrap64]; done)), H', ⟨by first | omega | exact Nat.le_refl _⟩, ⟨by (with_reducible repeat (first | refine blk_drewN ?_ _ | refine blk_drew ?_ | refine blk_alloc ?_ _)); exact BK188.out⟩, ⟨bw_ HB.out⟩⟩
  ·replace c5 := Bool.eq_false_iff.mpr c5
   subst c5
   replace H := if_ H Bool.false_ne_true
   have H' := Aside0.mk H
   clear H
   have hcz9_0 : w3.cell? ⟨gb188, 0, none⟩ = some (.int .i64 a0_0) := (blk_cell BK188.out 0).trans rfl
   have hcz9_1 : w3.cell? ⟨gb188, 1, none⟩ = some (.slice A0_1 l0_1.length c0_1) := (blk_cell BK188.out 1).trans rfl
   have hcz9_2 : w3.cell? ⟨gb188, 2, none⟩ = some (.slice A0_2 l0_2.length c0_2) := (blk_cell BK188.out 2).trans rfl
   have hfz9_0 := blk_frozen BK188.out 0
   have hfz9_1 := blk_frozen BK188.out 1
   have hfz9_2 := blk_frozen BK188.out 2
   go_wp2_with (first | ((with_reducible refine gate_callee (f := 16) rfl ?_); refine goesL_ (some 9) rfl rfl Try.func16 (by kernel_rfl) rfl #[.int .i64 a0_0, .int .i64 1, .int .i64 60] rfl (by (try simp only [List.map_toArray, List.map_cons, List.map_nil]); first | done | rfl | (simp only [List.length_drop, List.length_take]; rfl)) ?_; (with_reducible refine (impl_inRange.calls a0_0 1 60 false _ A4.out).mono ?_); rintro e w' ⟨rfl, ⟨nd, rfl⟩⟩; refine ⟨_, rfl, ?_⟩))
   go_meet
   case rel => exact ⟨_, (true), (by first | rfl | (simp; done) | (simp [*]; done) | (simp [wrap64]; done)), H', ⟨by first | omega | exact Nat.le_refl _⟩, ⟨by (with_reducible repeat (first | refine blk_drewN ?_ _ | refine blk_drew ?_ | refine blk_alloc ?_ _)); exact BK188.out⟩, ⟨bw_ HB.out⟩⟩
 case rest =>
  clear HC2
  try clear c1
  try clear p2
  try clear c5
  try clear c6
  try clear c6b0
  try clear c6b1
  try clear c7
  try clear hcz7_0
  try clear hcz7_1
  try clear hcz7_2
  try clear hcz8_0
  try clear hcz8_1
  try clear hcz8_2
  try clear hcz9_0
  try clear hcz9_1
  try clear hcz9_2
  try clear hfz7_0
  try clear hfz7_1
  try clear hfz7_2
  try clear hfz8_0
  try clear hfz8_1
  try clear hfz8_2
  try clear hfz9_0
  try clear hfz9_1
  try clear hfz9_2
  obtain ⟨kq, x22_1, rfl, HA, HJ1, BK188, HB⟩ := hcut
  cases kq with
  | zero => exact absurd HA.out (by simp [impl_GoodClip.j0])
  | succ kj1 =>
   have H := HA.out
   clear HA
   simp only [impl_GoodClip.j0] at H
   by_cases c10 : x22_1 = true
   ·subst c10
    replace H := it_ H rfl
    obtain rfl := Option.some.inj H
    go_wp2
    go_ret
    exact ⟨by first | rfl | (simp [errW_none, errW_some] <;> rfl) | (simp [*, errW_none, errW_some] <;> rfl), bw_ HB.out⟩
   ·replace c10 := Bool.eq_false_iff.mpr c10
    subst c10
    replace H := if_ H Bool.false_ne_true
    have H' := Aside0.mk H
    clear H
    have hcz11_0 : wc.cell? ⟨gb188, 0, none⟩ = some (.int .i64 a0_0) := (blk_cell BK188.out 0).trans rfl
    have hcz11_1 : wc.cell? ⟨gb188, 1, none⟩ = some (.slice A0_1 l0_1.length c0_1) := (blk_cell BK188.out 1).trans rfl
    have hcz11_2 : wc.cell? ⟨gb188, 2, none⟩ = some (.slice A0_2 l0_2.length c0_2) := (blk_cell BK188.out 2).trans rfl
    have hfz11_0 := blk_frozen BK188.out 0
    have hfz11_1 := blk_frozen BK188.out 1
    have hfz11_2 := blk_frozen BK188.out 2
    go_wp2
    go_loopg [26] kj1 (fun kq v26 w' => ∃ (x26_2 : Int), v26 = .int .i64 x26_2 ∧ Aside0 (impl_GoodClip.l0 kq l0_1 (l0_1.length : Int) x26_2 a0_0 l0_1 l0_2 = some r) ∧ Aside0 (kq ≤ kj1) ∧ Aside0 (w'.heap[gb188]? = some (.cells #[.int .i64 a0_0, (.slice A0_1 l0_1.length c0_1), (.slice A0_2 l0_2.length c0_2)] 31 (0, 0))) ∧ Aside0 (Below w.heap.size w w'))
    case atStart => exact ⟨(0), (by first | rfl | (simp; done) | (simp [*]; done) | (simp [wrap64]; done)), H', ⟨Nat.le_refl _⟩, ⟨by (with_reducible repeat (first | refine blk_drewN ?_ _ | refine blk_drew ?_ | refine blk_alloc ?_ _)); exact BK188.out⟩, ⟨bw_ HB.out⟩⟩
    case round =>
     clear H'
     try clear c1
     try clear p2
     try clear c5
     try clear c6
     try clear c6b0
     try clear c6b1
     try clear c7
     try clear c10
     try clear hcz11_0
     try clear hcz11_1
     try clear hcz11_2
     try clear hcz7_0
     try clear hcz7_1
     try clear hcz7_2
     try clear hcz8_0
     try clear hcz8_1
     try clear hcz8_2
     try clear hcz9_0
     try clear hcz9_1
     try clear hcz9_2
     try clear hfz11_0
     try clear hfz11_1
     try clear hfz11_2
     try clear hfz7_0
     try clear hfz7_1
     try clear hfz7_2
     try clear hfz8_0
     try clear hfz8_1
     try clear hfz8_2
     try clear hfz9_0
     try clear hfz9_1
     try clear hfz9_2
     try clear p2
     obtain ⟨x26_2, rfl, HA, HK2, BK188, HB⟩ := hrel
     cases gk with
     | zero => exact absurd HA.out (by simp [impl_GoodClip.l0])
     | succ k2 =>
      have H := HA.out
      clear HA
      simp only [impl_GoodClip.l0] at H
      by_cases c12 : x26_2 < (l0_1.length : Int)
      ·rw [if_pos c12] at H
       have c12b0 : decide (x26_2 < (l0_1.length : Int)) = true := decide_eq_true c12
       clear c12
       by_cases c13 : 0 ≤ x26_2
       ·rw [if_pos c13] at H
        have c13b0 : decide (0 ≤ x26_2) = true := decide_eq_true c13
        clear c13
        by_cases c14 : x26_2 < (l0_1.length : Int)
        ·rw [if_pos c14] at H
         have c14b0 : decide (x26_2 < (l0_1.length : Int)) = true := decide_eq_true c14
         clear c14
         obtain ⟨t192, A150, H⟩ := bE_ H
         have A15 := Aside0.mk A150
         clear A150
         by_cases c16 : t192 = true
         ·subst c16
          replace H := it_ H rfl
          by_cases c17 : x26_2 > 0
          ·rw [if_pos c17] at H
           have c17b0 : decide (0 < x26_2) = true := decide_eq_true c17
           clear c17
           obtain ⟨ji18, hji18⟩ : ∃ j_ : Int, (wrap64 (x26_2 - 1)) = j_ := ⟨_, rfl⟩
           replace H : (if 0 ≤ (ji18) then (if (ji18) < (l0_1.length : Int) then (if ((Op.bytesLess (((rd_T40 l0_1 (ji18)).f0).toList) (((rd_T40 l0_1 x26_2).f0).toList)) = true) then ((impl_areKeys.f k2 ((rd_T40 l0_1 x26_2).f1) a0_0).bind fun t194 => (if t194 = true then (impl_GoodClip.l0 k2 l0_1 (l0_1.length : Int) (wrap64 (x26_2 + 1)) a0_0 l0_1 l0_2) else (some false))) else (some false)) else (none)) else (none)) = some r := by first | (rw [hji18] at H; exact H) | (simp only [hji18] at H ⊢; exact H)
           (try rw [hji18] at A15)
           have hji18w : (IntKind.i64.wrap (x26_2 - 1)) = ji18 := (i64_w _).trans hji18
           by_cases c19 : 0 ≤ (ji18)
           ·rw [if_pos c19] at H
            have c19b0 : decide (0 ≤ (ji18)) = true := decide_eq_true c19
            clear c19
            by_cases c20 : (ji18) < (l0_1.length : Int)
            ·rw [if_pos c20] at H
             have c20b0 : decide ((ji18) < (l0_1.length : Int)) = true := decide_eq_true c20
             clear c20
             by_cases c21 : ((Op.bytesLess (((rd_T40 l0_1 (ji18)).f0).toList) (((rd_T40 l0_1 x26_2).f0).toList)) = true)
             ·rw [if_pos c21] at H
              have c21b0 : (Op.bytesLess (((rd_T40 l0_1 (ji18)).f0).toList) (((rd_T40 l0_1 x26_2).f0).toList)) = true := c21
              clear c21
              obtain ⟨t194, A220, H⟩ := bE_ H
              have A22 := Aside0.mk A220
              clear A220
              by_cases c23 : t194 = true
              ·subst c23
               replace H := it_ H rfl
               have H' := Aside0.mk H
               clear H
               have p190 : 0 ≤ (x26_2 : Int) := of_decide_eq_true (by first | (with_reducible assumption) | assumption)
               have q190 : x26_2 < (l0_1.length : Int) := of_decide_eq_true (by first | (with_reducible assumption) | assumption)
               obtain ⟨ad190, A190_1, c190_1, e190, hx190_0, hx190_1, hl190_1, hi190_1⟩ := at_T40 HR0_1.out x26_2 p190 q190
               cases e190
               (try replace hx190_0 := (HB.out.cell (World.block_lt_of_cell? w _ hx190_0)).trans hx190_0)
               (try replace hx190_1 := (HB.out.cell (World.block_lt_of_cell? w _ hx190_1)).trans hx190_1)
               have HR190_1 := Aside0.mk hi190_1
               have HC190_1 := Aside0.mk hl190_1
               clear hi190_1 hl190_1
               replace p190 := eq_true p190
               replace q190 := eq_true q190
               try go_wp2_with (first | ((with_reducible refine gate_dst (N := 4) rfl ?_); (try (refine gate_guard (by rfl) ?_; dsimp only)); refine box_event ?hg (N := 4) ?hd (cs := #[.string (⟨#[]⟩ : ByteArray), .slice none 0 0]) (t := 40) ?hr ?_; (case hd => rfl); (case hg => rfl); (case hr => first | (go_simp; done) | (go_simp; rfl)); intro gb191 hg w24 hbox hb; have n0_ := Aside0.mk (blk_below (bk_ BK188.out) hb); have n1_ := Aside0.mk (below_step (bw_ HB.out) hb); have n2_ := Aside0.mk (hbox); have n3_ := Aside0.mk ((by rw [hg]; exact (below_size (bw_ HB.out)) : w.heap.size ≤ gb191)); have n4_ := Aside0.mk ((by rw [hg]; exact (below_size (bw_ HB.out)) : w.heap.size ≤ gb191)); have n5_ := Aside0.mk ((by rw [hg]; exact Nat.ne_of_lt (blk_lt (bk_ BK188.out)) : gb188 ≠ gb191)); have n6_ := Aside0.mk ((by rw [hg]; exact Nat.ne_of_gt (blk_lt (bk_ BK188.out)) : gb191 ≠ gb188)); clear BK188; clear HB; have BK188 := n0_; have HB := n1_; have BK191 := n2_; have GW191 := n3_; have GE191 := n4_; have NB188_191 := n5_; have NB191_188 := n6_; clear n0_ n1_ n2_ n3_ n4_ n5_ n6_; clear hb hbox hg; have hnb25 := NB191_188.out; have hnc25 := NB188_191.out; have hcz26_0 : w24.cell? ⟨gb191, 0, none⟩ = some (.string (⟨#[]⟩ : ByteArray)) := (blk_cell BK191.out 0).trans rfl; have hcz26_1 : w24.cell? ⟨gb191, 1, none⟩ = some (.slice none 0 0) := (blk_cell BK191.out 1).trans rfl; have hfz26_0 := blk_frozen BK191.out 0; have hfz26_1 := blk_frozen BK191.out 1))
               have n0_ : Aside0 (((w24.setCell ⟨gb191, 0, none⟩ (.string ((rd_T40 l0_1 x26_2).f0))).setCell ⟨gb191, 1, none⟩ (.slice A190_1 ((rd_T40 l0_1 x26_2).f1).length c190_1)).heap[gb188]? = some (.cells #[.int .i64 a0_0, .slice (some ad190) l0_1.length c0_1, .slice A0_2 l0_2.length c0_2] 31 (0, 0))) := ⟨by (with_reducible repeat (first | refine blk_drewN ?_ _ | refine blk_drew ?_ | refine blk_alloc ?_ _)); refine blk_far ?_ NB188_191.out _; (with_reducible repeat (first | refine blk_drewN ?_ _ | refine blk_drew ?_ | refine blk_alloc ?_ _)); refine blk_far ?_ NB188_191.out _; (with_reducible repeat (first | refine blk_drewN ?_ _ | refine blk_drew ?_ | refine blk_alloc ?_ _)); exact BK188.out⟩
               have n1_ : Aside0 (((w24.setCell ⟨gb191, 0, none⟩ (.string ((rd_T40 l0_1 x26_2).f0))).setCell ⟨gb191, 1, none⟩ (.slice A190_1 ((rd_T40 l0_1 x26_2).f1).length c190_1)).heap[gb191]? = some (.cells #[.string ((rd_T40 l0_1 x26_2).f0), .slice A190_1 ((rd_T40 l0_1 x26_2).f1).length c190_1] 40 (0, 0))) := ⟨by (with_reducible repeat (first | refine blk_drewN ?_ _ | refine blk_drew ?_ | refine blk_alloc ?_ _)); refine blk_put (cs := #[.string ((rd_T40 l0_1 x26_2).f0), .slice none 0 0]) ?_ 1 _ rfl; (with_reducible repeat (first | refine blk_drewN ?_ _ | refine blk_drew ?_ | refine blk_alloc ?_ _)); refine blk_put (cs := #[.string (⟨#[]⟩ : ByteArray), .slice none 0 0]) ?_ 0 _ rfl; (with_reducible repeat (first | refine blk_drewN ?_ _ | refine blk_drew ?_ | refine blk_alloc ?_ _)); exact BK191.out⟩
               have n2_ : Aside0 (Below w.heap.size w ((w24.setCell ⟨gb191, 0, none⟩ (.string ((rd_T40 l0_1 x26_2).f0))).setCell ⟨gb191, 1, none⟩ (.slice A190_1 ((rd_T40 l0_1 x26_2).f1).length c190_1))) := ⟨bw_ HB.out⟩
               (try clear BK188)
               (try clear BK191)
               (try clear HB)
               generalize ((w24.setCell ⟨gb191, 0, none⟩ (.string ((rd_T40 l0_1 x26_2).f0))).setCell ⟨gb191, 1, none⟩ (.slice A190_1 ((rd_T40 l0_1 x26_2).f1).length c190_1)) = w27 at n0_ n1_ n2_ ⊢
               have BK188 := n0_
               have BK191 := n1_
               have HB := n2_
               clear n0_ n1_ n2_
               have n0_ := Aside0.mk (blk_drew BK188.out)
               have n1_ := Aside0.mk (blk_drew BK191.out)
               have n2_ := Aside0.mk (below_drew1 HB.out)
               clear BK188
               clear BK191
               clear HB
               have BK188 := n0_
               have BK191 := n1_
               have HB := n2_
               clear n0_ n1_ n2_
               have p193 : 0 ≤ ((ji18) : Int) := of_decide_eq_true (by first | (with_reducible assumption) | assumption)
               have q193 : (ji18) < (l0_1.length : Int) := of_decide_eq_true (by first | (with_reducible assumption) | assumption)
               obtain ⟨ad193, A193_1, c193_1, e193, hx193_0, hx193_1, hl193_1, hi193_1⟩ := at_T40 HR0_1.out (ji18) p193 q193
               have hw193_1 := hx193_1
               have hw193_0 := hx193_0
               obtain rfl : ad190 = ad193 := (by injection e193)
               (try replace hx193_0 := (HB.out.cell (World.block_lt_of_cell? w _ hx193_0)).trans hx193_0)
               (try replace hx193_1 := (HB.out.cell (World.block_lt_of_cell? w _ hx193_1)).trans hx193_1)
               have HR193_1 := Aside0.mk hi193_1
               have HC193_1 := Aside0.mk hl193_1
               clear hi193_1 hl193_1
               replace p193 := eq_true p193
               replace q193 := eq_true q193
               refine start_ (n := 28) (S := fun w' => w'.cell? ⟨gb191, 0, none⟩ = some (.string ((rd_T40 l0_1 x26_2).f0)) ∧ w'.cell? ⟨gb191, 1, none⟩ = some (.slice A190_1 ((rd_T40 l0_1 x26_2).f1).length c190_1) ∧ w'.cell? ⟨gb188, 0, none⟩ = some (.int .i64 a0_0) ∧ w'.cell? ⟨gb188, 1, none⟩ = some (.slice (some ad190) l0_1.length c0_1) ∧ w'.cell? ⟨gb188, 2, none⟩ = some (.slice A0_2 l0_2.length c0_2) ∧ w'.cell? (ad190.add (((ji18)).toNat * 2)) = some (.string ((rd_T40 l0_1 (ji18)).f0)) ∧ w'.cell? ⟨(ad190.add (((ji18)).toNat * 2)).block, (ad190.add (((ji18)).toNat * 2)).off + 1, none⟩ = some (.slice A193_1 ((rd_T40 l0_1 (ji18)).f1).length c193_1)) (ds := []) (Array.replicate 28 false) (by kernel_rfl) rfl rfl ⟨(blk_cell BK191.out 0).trans rfl, (blk_cell BK191.out 1).trans rfl, (blk_cell BK188.out 0).trans rfl, (blk_cell BK188.out 1).trans rfl, (blk_cell BK188.out 2).trans rfl, ((HB.out.cell (World.block_lt_of_cell? w _ hw193_0)).trans hw193_0), ((HB.out.cell (World.block_lt_of_cell? w _ hw193_1)).trans hw193_1)⟩ (fun hHeld => ?_); refine with_tabW impl_GoodClip.tab6 impl_GoodClip.bits6 (fun HT_ HW_ => ?_)
               generalize w27.drew = w28 at BK188 BK191 HB HR193_1 hx193_0 hx193_1 hHeld ⊢
               refine pS_ 0 31 HT_ ?_
               refine tS_ 1 32 HT_ HW_ hHeld ?_
               refine oS_ 2 33 HT_ (fun K hK => ?_)
               refine goes_ Try.func17 (by kernel_rfl) rfl #[.string ((rd_T40 l0_1 x26_2).f0)] (by rfl) rfl rfl (by (try simp only [List.map_toArray, List.map_cons, List.map_nil]); first | done | rfl | (simp only [List.length_drop, List.length_take]; rfl)) ?_
               with_reducible refine (impl_GoodName.calls k2 ((rd_T40 l0_1 x26_2).f0) true _ A15.out).mono ?_
               rintro e w' ⟨rfl, ⟨nd, rfl⟩⟩
               refine ⟨_, rfl, ?_⟩
               refine hK.out _ _ ⟨(blk_cell BK191.out 0).trans rfl, (blk_cell BK191.out 1).trans rfl, (blk_cell BK188.out 0).trans rfl, (blk_cell BK188.out 1).trans rfl, (blk_cell BK188.out 2).trans rfl, ((HB.out.cell (World.block_lt_of_cell? w _ hw193_0)).trans hw193_0), ((HB.out.cell (World.block_lt_of_cell? w _ hw193_1)).trans hw193_1)⟩ (fun hHeld => ?_)
               clear hK K
               refine nS_ ?_
               refine pS_ 3 34 HT_ ?_
               refine pS_ 4 35 HT_ ?_
               refine pS_ 5 36 HT_ ?_
               refine pS_ 6 37 HT_ ?_
               refine pS_ 7 38 HT_ ?_
               refine pS_ 8 39 HT_ ?_
               refine pS_ 10 41 HT_ ?_
               refine pS_ 11 42 HT_ ?_
               refine pS_ 15 46 HT_ ?_
               refine tS_ 9 40 HT_ HW_ hHeld ?_
               refine pS_ 12 43 HT_ ?_
               refine pS_ 13 44 HT_ ?_
               refine tS_ 14 45 HT_ HW_ hHeld ?_
               refine tS_ 16 47 HT_ HW_ hHeld ?_
               refine pS_ 17 48 HT_ ?_
               refine pS_ 18 49 HT_ ?_
               refine pS_ 19 50 HT_ ?_
               refine pS_ 20 51 HT_ ?_
               refine pS_ 21 52 HT_ ?_
               refine pS_ 23 54 HT_ ?_
               refine tS_ 22 53 HT_ HW_ hHeld ?_
               refine tS_ 24 55 HT_ HW_ hHeld ?_
               refine oS_ 25 56 HT_ (fun K hK => ?_)
               refine goes_ Try.func18 (by kernel_rfl) rfl #[.slice A190_1 ((rd_T40 l0_1 x26_2).f1).length c190_1, .int .i64 a0_0] (by rfl) rfl rfl (by (try simp only [List.map_toArray, List.map_cons, List.map_nil]); first | done | rfl | (simp only [List.length_drop, List.length_take]; rfl)) ?_
               with_reducible refine (impl_areKeys.calls k2 _ _ ((rd_T40 l0_1 x26_2).f1) a0_0 true _ ?side1 ?side2 A22.out).mono ?_
               (case side1 => repeat (first | exact (Kd.C_below HR190_1.out (bw_ HB.out)) | (with_reducible refine Kd.C_alloc ?_ _) | (with_reducible refine Kd.C_drewN ?_ _) | (with_reducible refine Kd.C_drew ?_)))
               (case side2 => exact HC190_1.out)
               rintro e w29 ⟨rfl, hb⟩
               refine ⟨_, rfl, ?_⟩
               have n0_ := Aside0.mk (blk_below (bk_ BK188.out) hb)
               have n1_ := Aside0.mk (blk_below (bk_ BK191.out) hb)
               have n2_ := Aside0.mk (below_step (bw_ HB.out) hb)
               clear BK188
               clear BK191
               clear HB
               have BK188 := n0_
               have BK191 := n1_
               have HB := n2_
               clear n0_ n1_ n2_
               (try clear hb)
               (try clear hb2)
               (try clear hk)
               (try clear hi)
               refine hK.out _ _ ⟨(blk_cell BK191.out 0).trans rfl, (blk_cell BK191.out 1).trans rfl, (blk_cell BK188.out 0).trans rfl, (blk_cell BK188.out 1).trans rfl, (blk_cell BK188.out 2).trans rfl, ((HB.out.cell (World.block_lt_of_cell? w _ hw193_0)).trans hw193_0), ((HB.out.cell (World.block_lt_of_cell? w _ hw193_1)).trans hw193_1)⟩ (fun hHeld => ?_)
               clear hK K
               refine nS_ ?_
               refine pS_ 26 57 HT_ ?_
               refine pS_ 27 58 HT_ ?_
               refine done_ (done_of HT_.out (by kernel_rfl)) ?_
               try go_wp2
               go_roundg k2
               case measure => have := HJ1.out; have := HK2.out; omega
               case rel => exact ⟨(wrap64 (x26_2 + 1)), (by first | rfl | (simp; done) | (simp [*]; done) | (simp [wrap64]; done)), H', ⟨by have := HJ1.out; have := HK2.out; omega⟩, ⟨by (with_reducible repeat (first | refine blk_drewN ?_ _ | refine blk_drew ?_ | refine blk_alloc ?_ _)); exact BK188.out⟩, ⟨bw_ HB.out⟩⟩
              ·replace c23 := Bool.eq_false_iff.mpr c23
               subst c23
               replace H := if_ H Bool.false_ne_true
               obtain rfl := Option.some.inj H
               have p190 : 0 ≤ (x26_2 : Int) := of_decide_eq_true (by first | (with_reducible assumption) | assumption)
               have q190 : x26_2 < (l0_1.length : Int) := of_decide_eq_true (by first | (with_reducible assumption) | assumption)
               obtain ⟨ad190, A190_1, c190_1, e190, hx190_0, hx190_1, hl190_1, hi190_1⟩ := at_T40 HR0_1.out x26_2 p190 q190
               cases e190
               (try replace hx190_0 := (HB.out.cell (World.block_lt_of_cell? w _ hx190_0)).trans hx190_0)
               (try replace hx190_1 := (HB.out.cell (World.block_lt_of_cell? w _ hx190_1)).trans hx190_1)
               have HR190_1 := Aside0.mk hi190_1
               have HC190_1 := Aside0.mk hl190_1
               clear hi190_1 hl190_1
               replace p190 := eq_true p190
               replace q190 := eq_true q190
               try go_wp2_with (first | ((with_reducible refine gate_dst (N := 4) rfl ?_); (try (refine gate_guard (by rfl) ?_; dsimp only)); refine box_event ?hg (N := 4) ?hd (cs := #[.string (⟨#[]⟩ : ByteArray), .slice none 0 0]) (t := 40) ?hr ?_; (case hd => rfl); (case hg => rfl); (case hr => first | (go_simp; done) | (go_simp; rfl)); intro gb191 hg w30 hbox hb; have n0_ := Aside0.mk (blk_below (bk_ BK188.out) hb); have n1_ := Aside0.mk (below_step (bw_ HB.out) hb); have n2_ := Aside0.mk (hbox); have n3_ := Aside0.mk ((by rw [hg]; exact (below_size (bw_ HB.out)) : w.heap.size ≤ gb191)); have n4_ := Aside0.mk ((by rw [hg]; exact (below_size (bw_ HB.out)) : w.heap.size ≤ gb191)); have n5_ := Aside0.mk ((by rw [hg]; exact Nat.ne_of_lt (blk_lt (bk_ BK188.out)) : gb188 ≠ gb191)); have n6_ := Aside0.mk ((by rw [hg]; exact Nat.ne_of_gt (blk_lt (bk_ BK188.out)) : gb191 ≠ gb188)); clear BK188; clear HB; have BK188 := n0_; have HB := n1_; have BK191 := n2_; have GW191 := n3_; have GE191 := n4_; have NB188_191 := n5_; have NB191_188 := n6_; clear n0_ n1_ n2_ n3_ n4_ n5_ n6_; clear hb hbox hg; have hnb31 := NB191_188.out; have hnc31 := NB188_191.out; have hcz32_0 : w30.cell? ⟨gb191, 0, none⟩ = some (.string (⟨#[]⟩ : ByteArray)) := (blk_cell BK191.out 0).trans rfl; have hcz32_1 : w30.cell? ⟨gb191, 1, none⟩ = some (.slice none 0 0) := (blk_cell BK191.out 1).trans rfl; have hfz32_0 := blk_frozen BK191.out 0; have hfz32_1 := blk_frozen BK191.out 1))
               have n0_ : Aside0 (((w30.setCell ⟨gb191, 0, none⟩ (.string ((rd_T40 l0_1 x26_2).f0))).setCell ⟨gb191, 1, none⟩ (.slice A190_1 ((rd_T40 l0_1 x26_2).f1).length c190_1)).heap[gb188]? = some (.cells #[.int .i64 a0_0, .slice (some ad190) l0_1.length c0_1, .slice A0_2 l0_2.length c0_2] 31 (0, 0))) := ⟨by (with_reducible repeat (first | refine blk_drewN ?_ _ | refine blk_drew ?_ | refine blk_alloc ?_ _)); refine blk_far ?_ NB188_191.out _; (with_reducible repeat (first | refine blk_drewN ?_ _ | refine blk_drew ?_ | refine blk_alloc ?_ _)); refine blk_far ?_ NB188_191.out _; (with_reducible repeat (first | refine blk_drewN ?_ _ | refine blk_drew ?_ | refine blk_alloc ?_ _)); exact BK188.out⟩
               have n1_ : Aside0 (((w30.setCell ⟨gb191, 0, none⟩ (.string ((rd_T40 l0_1 x26_2).f0))).setCell ⟨gb191, 1, none⟩ (.slice A190_1 ((rd_T40 l0_1 x26_2).f1).length c190_1)).heap[gb191]? = some (.cells #[.string ((rd_T40 l0_1 x26_2).f0), .slice A190_1 ((rd_T40 l0_1 x26_2).f1).length c190_1] 40 (0, 0))) := ⟨by (with_reducible repeat (first | refine blk_drewN ?_ _ | refine blk_drew ?_ | refine blk_alloc ?_ _)); refine blk_put (cs := #[.string ((rd_T40 l0_1 x26_2).f0), .slice none 0 0]) ?_ 1 _ rfl; (with_reducible repeat (first | refine blk_drewN ?_ _ | refine blk_drew ?_ | refine blk_alloc ?_ _)); refine blk_put (cs := #[.string (⟨#[]⟩ : ByteArray), .slice none 0 0]) ?_ 0 _ rfl; (with_reducible repeat (first | refine blk_drewN ?_ _ | refine blk_drew ?_ | refine blk_alloc ?_ _)); exact BK191.out⟩
               have n2_ : Aside0 (Below w.heap.size w ((w30.setCell ⟨gb191, 0, none⟩ (.string ((rd_T40 l0_1 x26_2).f0))).setCell ⟨gb191, 1, none⟩ (.slice A190_1 ((rd_T40 l0_1 x26_2).f1).length c190_1))) := ⟨bw_ HB.out⟩
               (try clear BK188)
               (try clear BK191)
               (try clear HB)
               generalize ((w30.setCell ⟨gb191, 0, none⟩ (.string ((rd_T40 l0_1 x26_2).f0))).setCell ⟨gb191, 1, none⟩ (.slice A190_1 ((rd_T40 l0_1 x26_2).f1).length c190_1)) = w33 at n0_ n1_ n2_ ⊢
               have BK188 := n0_
               have BK191 := n1_
               have HB := n2_
               clear n0_ n1_ n2_
               have n0_ := Aside0.mk (blk_drew BK188.out)
               have n1_ := Aside0.mk (blk_drew BK191.out)
               have n2_ := Aside0.mk (below_drew1 HB.out)
               clear BK188
               clear BK191
               clear HB
               have BK188 := n0_
               have BK191 := n1_
               have HB := n2_
               clear n0_ n1_ n2_
               have p193 : 0 ≤ ((ji18) : Int) := of_decide_eq_true (by first | (with_reducible assumption) | assumption)
               have q193 : (ji18) < (l0_1.length : Int) := of_decide_eq_true (by first | (with_reducible assumption) | assumption)
               obtain ⟨ad193, A193_1, c193_1, e193, hx193_0, hx193_1, hl193_1, hi193_1⟩ := at_T40 HR0_1.out (ji18) p193 q193
               have hw193_1 := hx193_1
               have hw193_0 := hx193_0
               obtain rfl : ad190 = ad193 := (by injection e193)
               (try replace hx193_0 := (HB.out.cell (World.block_lt_of_cell? w _ hx193_0)).trans hx193_0)
               (try replace hx193_1 := (HB.out.cell (World.block_lt_of_cell? w _ hx193_1)).trans hx193_1)
               have HR193_1 := Aside0.mk hi193_1
               have HC193_1 := Aside0.mk hl193_1
               clear hi193_1 hl193_1
               replace p193 := eq_true p193
               replace q193 := eq_true q193
               refine start_ (n := 28) (S := fun w' => w'.cell? ⟨gb191, 0, none⟩ = some (.string ((rd_T40 l0_1 x26_2).f0)) ∧ w'.cell? ⟨gb191, 1, none⟩ = some (.slice A190_1 ((rd_T40 l0_1 x26_2).f1).length c190_1) ∧ w'.cell? ⟨gb188, 0, none⟩ = some (.int .i64 a0_0) ∧ w'.cell? ⟨gb188, 1, none⟩ = some (.slice (some ad190) l0_1.length c0_1) ∧ w'.cell? ⟨gb188, 2, none⟩ = some (.slice A0_2 l0_2.length c0_2) ∧ w'.cell? (ad190.add (((ji18)).toNat * 2)) = some (.string ((rd_T40 l0_1 (ji18)).f0)) ∧ w'.cell? ⟨(ad190.add (((ji18)).toNat * 2)).block, (ad190.add (((ji18)).toNat * 2)).off + 1, none⟩ = some (.slice A193_1 ((rd_T40 l0_1 (ji18)).f1).length c193_1)) (ds := []) (Array.replicate 28 false) (by kernel_rfl) rfl rfl ⟨(blk_cell BK191.out 0).trans rfl, (blk_cell BK191.out 1).trans rfl, (blk_cell BK188.out 0).trans rfl, (blk_cell BK188.out 1).trans rfl, (blk_cell BK188.out 2).trans rfl, ((HB.out.cell (World.block_lt_of_cell? w _ hw193_0)).trans hw193_0), ((HB.out.cell (World.block_lt_of_cell? w _ hw193_1)).trans hw193_1)⟩ (fun hHeld => ?_); refine with_tabW impl_GoodClip.tab6 impl_GoodClip.bits6 (fun HT_ HW_ => ?_)
               generalize w33.drew = w34 at BK188 BK191 HB HR193_1 hx193_0 hx193_1 hHeld ⊢
               refine pS_ 0 31 HT_ ?_
               refine tS_ 1 32 HT_ HW_ hHeld ?_
               refine oS_ 2 33 HT_ (fun K hK => ?_)
               refine goes_ Try.func17 (by kernel_rfl) rfl #[.string ((rd_T40 l0_1 x26_2).f0)] (by rfl) rfl rfl (by (try simp only [List.map_toArray, List.map_cons, List.map_nil]); first | done | rfl | (simp only [List.length_drop, List.length_take]; rfl)) ?_
               with_reducible refine (impl_GoodName.calls k2 ((rd_T40 l0_1 x26_2).f0) true _ A15.out).mono ?_
               rintro e w' ⟨rfl, ⟨nd, rfl⟩⟩
               refine ⟨_, rfl, ?_⟩
               refine hK.out _ _ ⟨(blk_cell BK191.out 0).trans rfl, (blk_cell BK191.out 1).trans rfl, (blk_cell BK188.out 0).trans rfl, (blk_cell BK188.out 1).trans rfl, (blk_cell BK188.out 2).trans rfl, ((HB.out.cell (World.block_lt_of_cell? w _ hw193_0)).trans hw193_0), ((HB.out.cell (World.block_lt_of_cell? w _ hw193_1)).trans hw193_1)⟩ (fun hHeld => ?_)
               clear hK K
               refine nS_ ?_
               refine pS_ 3 34 HT_ ?_
               refine pS_ 4 35 HT_ ?_
               refine pS_ 5 36 HT_ ?_
               refine pS_ 6 37 HT_ ?_
               refine pS_ 7 38 HT_ ?_
               refine pS_ 8 39 HT_ ?_
               refine pS_ 10 41 HT_ ?_
               refine pS_ 11 42 HT_ ?_
               refine pS_ 15 46 HT_ ?_
               refine tS_ 9 40 HT_ HW_ hHeld ?_
               refine pS_ 12 43 HT_ ?_
               refine pS_ 13 44 HT_ ?_
               refine tS_ 14 45 HT_ HW_ hHeld ?_
               refine tS_ 16 47 HT_ HW_ hHeld ?_
               refine pS_ 17 48 HT_ ?_
               refine pS_ 18 49 HT_ ?_
               refine pS_ 19 50 HT_ ?_
               refine pS_ 20 51 HT_ ?_
               refine pS_ 21 52 HT_ ?_
               refine pS_ 23 54 HT_ ?_
               refine tS_ 22 53 HT_ HW_ hHeld ?_
               refine tS_ 24 55 HT_ HW_ hHeld ?_
               refine oS_ 25 56 HT_ (fun K hK => ?_)
               refine goes_ Try.func18 (by kernel_rfl) rfl #[.slice A190_1 ((rd_T40 l0_1 x26_2).f1).length c190_1, .int .i64 a0_0] (by rfl) rfl rfl (by (try simp only [List.map_toArray, List.map_cons, List.map_nil]); first | done | rfl | (simp only [List.length_drop, List.length_take]; rfl)) ?_
               with_reducible refine (impl_areKeys.calls k2 _ _ ((rd_T40 l0_1 x26_2).f1) a0_0 false _ ?side1 ?side2 A22.out).mono ?_
               (case side1 => repeat (first | exact (Kd.C_below HR190_1.out (bw_ HB.out)) | (with_reducible refine Kd.C_alloc ?_ _) | (with_reducible refine Kd.C_drewN ?_ _) | (with_reducible refine Kd.C_drew ?_)))
               (case side2 => exact HC190_1.out)
               rintro e w35 ⟨rfl, hb⟩
               refine ⟨_, rfl, ?_⟩
               have n0_ := Aside0.mk (blk_below (bk_ BK188.out) hb)
               have n1_ := Aside0.mk (blk_below (bk_ BK191.out) hb)
               have n2_ := Aside0.mk (below_step (bw_ HB.out) hb)
               clear BK188
               clear BK191
               clear HB
               have BK188 := n0_
               have BK191 := n1_
               have HB := n2_
               clear n0_ n1_ n2_
               (try clear hb)
               (try clear hb2)
               (try clear hk)
               (try clear hi)
               refine hK.out _ _ ⟨(blk_cell BK191.out 0).trans rfl, (blk_cell BK191.out 1).trans rfl, (blk_cell BK188.out 0).trans rfl, (blk_cell BK188.out 1).trans rfl, (blk_cell BK188.out 2).trans rfl, ((HB.out.cell (World.block_lt_of_cell? w _ hw193_0)).trans hw193_0), ((HB.out.cell (World.block_lt_of_cell? w _ hw193_1)).trans hw193_1)⟩ (fun hHeld => ?_)
               clear hK K
               refine nS_ ?_
               refine pS_ 26 57 HT_ ?_
               refine pS_ 27 58 HT_ ?_
               refine done_ (done_of HT_.out (by kernel_rfl)) ?_
               try go_wp2
               go_ret
               exact ⟨by first | rfl | (simp [errW_none, errW_some] <;> rfl) | (simp only [← hji18]; first | rfl | (simp [errW_none, errW_some] <;> rfl)) | (simp [*, errW_none, errW_some] <;> rfl), bw_ HB.out⟩
             ·rw [if_neg c21] at H
              have c21b0 : (Op.bytesLess (((rd_T40 l0_1 (ji18)).f0).toList) (((rd_T40 l0_1 x26_2).f0).toList)) = false := by simpa using c21
              clear c21
              obtain rfl := Option.some.inj H
              have p190 : 0 ≤ (x26_2 : Int) := of_decide_eq_true (by first | (with_reducible assumption) | assumption)
              have q190 : x26_2 < (l0_1.length : Int) := of_decide_eq_true (by first | (with_reducible assumption) | assumption)
              obtain ⟨ad190, A190_1, c190_1, e190, hx190_0, hx190_1, hl190_1, hi190_1⟩ := at_T40 HR0_1.out x26_2 p190 q190
              cases e190
              (try replace hx190_0 := (HB.out.cell (World.block_lt_of_cell? w _ hx190_0)).trans hx190_0)
              (try replace hx190_1 := (HB.out.cell (World.block_lt_of_cell? w _ hx190_1)).trans hx190_1)
              have HR190_1 := Aside0.mk hi190_1
              have HC190_1 := Aside0.mk hl190_1
              clear hi190_1 hl190_1
              replace p190 := eq_true p190
              replace q190 := eq_true q190
              try go_wp2_with (first | ((with_reducible refine gate_dst (N := 4) rfl ?_); (try (refine gate_guard (by rfl) ?_; dsimp only)); refine box_event ?hg (N := 4) ?hd (cs := #[.string (⟨#[]⟩ : ByteArray), .slice none 0 0]) (t := 40) ?hr ?_; (case hd => rfl); (case hg => rfl); (case hr => first | (go_simp; done) | (go_simp; rfl)); intro gb191 hg w36 hbox hb; have n0_ := Aside0.mk (blk_below (bk_ BK188.out) hb); have n1_ := Aside0.mk (below_step (bw_ HB.out) hb); have n2_ := Aside0.mk (hbox); have n3_ := Aside0.mk ((by rw [hg]; exact (below_size (bw_ HB.out)) : w.heap.size ≤ gb191)); have n4_ := Aside0.mk ((by rw [hg]; exact (below_size (bw_ HB.out)) : w.heap.size ≤ gb191)); have n5_ := Aside0.mk ((by rw [hg]; exact Nat.ne_of_lt (blk_lt (bk_ BK188.out)) : gb188 ≠ gb191)); have n6_ := Aside0.mk ((by rw [hg]; exact Nat.ne_of_gt (blk_lt (bk_ BK188.out)) : gb191 ≠ gb188)); clear BK188; clear HB; have BK188 := n0_; have HB := n1_; have BK191 := n2_; have GW191 := n3_; have GE191 := n4_; have NB188_191 := n5_; have NB191_188 := n6_; clear n0_ n1_ n2_ n3_ n4_ n5_ n6_; clear hb hbox hg; have hnb37 := NB191_188.out; have hnc37 := NB188_191.out; have hcz38_0 : w36.cell? ⟨gb191, 0, none⟩ = some (.string (⟨#[]⟩ : ByteArray)) := (blk_cell BK191.out 0).trans rfl; have hcz38_1 : w36.cell? ⟨gb191, 1, none⟩ = some (.slice none 0 0) := (blk_cell BK191.out 1).trans rfl; have hfz38_0 := blk_frozen BK191.out 0; have hfz38_1 := blk_frozen BK191.out 1))
              have n0_ : Aside0 (((w36.setCell ⟨gb191, 0, none⟩ (.string ((rd_T40 l0_1 x26_2).f0))).setCell ⟨gb191, 1, none⟩ (.slice A190_1 ((rd_T40 l0_1 x26_2).f1).length c190_1)).heap[gb188]? = some (.cells #[.int .i64 a0_0, .slice (some ad190) l0_1.length c0_1, .slice A0_2 l0_2.length c0_2] 31 (0, 0))) := ⟨by (with_reducible repeat (first | refine blk_drewN ?_ _ | refine blk_drew ?_ | refine blk_alloc ?_ _)); refine blk_far ?_ NB188_191.out _; (with_reducible repeat (first | refine blk_drewN ?_ _ | refine blk_drew ?_ | refine blk_alloc ?_ _)); refine blk_far ?_ NB188_191.out _; (with_reducible repeat (first | refine blk_drewN ?_ _ | refine blk_drew ?_ | refine blk_alloc ?_ _)); exact BK188.out⟩
              have n1_ : Aside0 (((w36.setCell ⟨gb191, 0, none⟩ (.string ((rd_T40 l0_1 x26_2).f0))).setCell ⟨gb191, 1, none⟩ (.slice A190_1 ((rd_T40 l0_1 x26_2).f1).length c190_1)).heap[gb191]? = some (.cells #[.string ((rd_T40 l0_1 x26_2).f0), .slice A190_1 ((rd_T40 l0_1 x26_2).f1).length c190_1] 40 (0, 0))) := ⟨by (with_reducible repeat (first | refine blk_drewN ?_ _ | refine blk_drew ?_ | refine blk_alloc ?_ _)); refine blk_put (cs := #[.string ((rd_T40 l0_1 x26_2).f0), .slice none 0 0]) ?_ 1 _ rfl; (with_reducible repeat (first | refine blk_drewN ?_ _ | refine blk_drew ?_ | refine blk_alloc ?_ _)); refine blk_put (cs := #[.string (⟨#[]⟩ : ByteArray), .slice none 0 0]) ?_ 0 _ rfl; (with_reducible repeat (first | refine blk_drewN ?_ _ | refine blk_drew ?_ | refine blk_alloc ?_ _)); exact BK191.out⟩
              have n2_ : Aside0 (Below w.heap.size w ((w36.setCell ⟨gb191, 0, none⟩ (.string ((rd_T40 l0_1 x26_2).f0))).setCell ⟨gb191, 1, none⟩ (.slice A190_1 ((rd_T40 l0_1 x26_2).f1).length c190_1))) := ⟨bw_ HB.out⟩
              (try clear BK188)
              (try clear BK191)
              (try clear HB)
              generalize ((w36.setCell ⟨gb191, 0, none⟩ (.string ((rd_T40 l0_1 x26_2).f0))).setCell ⟨gb191, 1, none⟩ (.slice A190_1 ((rd_T40 l0_1 x26_2).f1).length c190_1)) = w39 at n0_ n1_ n2_ ⊢
              have BK188 := n0_
              have BK191 := n1_
              have HB := n2_
              clear n0_ n1_ n2_
              have n0_ := Aside0.mk (blk_drew BK188.out)
              have n1_ := Aside0.mk (blk_drew BK191.out)
              have n2_ := Aside0.mk (below_drew1 HB.out)
              clear BK188
              clear BK191
              clear HB
              have BK188 := n0_
              have BK191 := n1_
              have HB := n2_
              clear n0_ n1_ n2_
              have p193 : 0 ≤ ((ji18) : Int) := of_decide_eq_true (by first | (with_reducible assumption) | assumption)
              have q193 : (ji18) < (l0_1.length : Int) := of_decide_eq_true (by first | (with_reducible assumption) | assumption)
              obtain ⟨ad193, A193_1, c193_1, e193, hx193_0, hx193_1, hl193_1, hi193_1⟩ := at_T40 HR0_1.out (ji18) p193 q193
              have hw193_1 := hx193_1
              have hw193_0 := hx193_0
              obtain rfl : ad190 = ad193 := (by injection e193)
              (try replace hx193_0 := (HB.out.cell (World.block_lt_of_cell? w _ hx193_0)).trans hx193_0)
              (try replace hx193_1 := (HB.out.cell (World.block_lt_of_cell? w _ hx193_1)).trans hx193_1)
              have HR193_1 := Aside0.mk hi193_1
              have HC193_1 := Aside0.mk hl193_1
              clear hi193_1 hl193_1
              replace p193 := eq_true p193
              replace q193 := eq_true q193
              refine start_ (n := 28) (S := fun w' => w'.cell? ⟨gb191, 0, none⟩ = some (.string ((rd_T40 l0_1 x26_2).f0)) ∧ w'.cell? ⟨gb191, 1, none⟩ = some (.slice A190_1 ((rd_T40 l0_1 x26_2).f1).length c190_1) ∧ w'.cell? ⟨gb188, 0, none⟩ = some (.int .i64 a0_0) ∧ w'.cell? ⟨gb188, 1, none⟩ = some (.slice (some ad190) l0_1.length c0_1) ∧ w'.cell? ⟨gb188, 2, none⟩ = some (.slice A0_2 l0_2.length c0_2) ∧ w'.cell? (ad190.add (((ji18)).toNat * 2)) = some (.string ((rd_T40 l0_1 (ji18)).f0)) ∧ w'.cell? ⟨(ad190.add (((ji18)).toNat * 2)).block, (ad190.add (((ji18)).toNat * 2)).off + 1, none⟩ = some (.slice A193_1 ((rd_T40 l0_1 (ji18)).f1).length c193_1)) (ds := []) (Array.replicate 28 false) (by kernel_rfl) rfl rfl ⟨(blk_cell BK191.out 0).trans rfl, (blk_cell BK191.out 1).trans rfl, (blk_cell BK188.out 0).trans rfl, (blk_cell BK188.out 1).trans rfl, (blk_cell BK188.out 2).trans rfl, ((HB.out.cell (World.block_lt_of_cell? w _ hw193_0)).trans hw193_0), ((HB.out.cell (World.block_lt_of_cell? w _ hw193_1)).trans hw193_1)⟩ (fun hHeld => ?_); refine with_tabW impl_GoodClip.tab6 impl_GoodClip.bits6 (fun HT_ HW_ => ?_)
              generalize w39.drew = w40 at BK188 BK191 HB HR193_1 hx193_0 hx193_1 hHeld ⊢
              refine pS_ 0 31 HT_ ?_
              refine tS_ 1 32 HT_ HW_ hHeld ?_
              refine oS_ 2 33 HT_ (fun K hK => ?_)
              refine goes_ Try.func17 (by kernel_rfl) rfl #[.string ((rd_T40 l0_1 x26_2).f0)] (by rfl) rfl rfl (by (try simp only [List.map_toArray, List.map_cons, List.map_nil]); first | done | rfl | (simp only [List.length_drop, List.length_take]; rfl)) ?_
              with_reducible refine (impl_GoodName.calls k2 ((rd_T40 l0_1 x26_2).f0) true _ A15.out).mono ?_
              rintro e w' ⟨rfl, ⟨nd, rfl⟩⟩
              refine ⟨_, rfl, ?_⟩
              refine hK.out _ _ ⟨(blk_cell BK191.out 0).trans rfl, (blk_cell BK191.out 1).trans rfl, (blk_cell BK188.out 0).trans rfl, (blk_cell BK188.out 1).trans rfl, (blk_cell BK188.out 2).trans rfl, ((HB.out.cell (World.block_lt_of_cell? w _ hw193_0)).trans hw193_0), ((HB.out.cell (World.block_lt_of_cell? w _ hw193_1)).trans hw193_1)⟩ (fun hHeld => ?_)
              clear hK K
              refine nS_ ?_
              refine pS_ 3 34 HT_ ?_
              refine pS_ 4 35 HT_ ?_
              refine pS_ 5 36 HT_ ?_
              refine pS_ 6 37 HT_ ?_
              refine pS_ 7 38 HT_ ?_
              refine pS_ 8 39 HT_ ?_
              refine pS_ 10 41 HT_ ?_
              refine pS_ 11 42 HT_ ?_
              refine pS_ 15 46 HT_ ?_
              refine tS_ 9 40 HT_ HW_ hHeld ?_
              refine pS_ 12 43 HT_ ?_
              refine pS_ 13 44 HT_ ?_
              refine tS_ 14 45 HT_ HW_ hHeld ?_
              refine tS_ 16 47 HT_ HW_ hHeld ?_
              refine pS_ 17 48 HT_ ?_
              refine pS_ 18 49 HT_ ?_
              refine pS_ 19 50 HT_ ?_
              refine pS_ 20 51 HT_ ?_
              refine pU_ 21 52 HT_ ?_
              refine pU_ 22 53 HT_ ?_
              refine pU_ 23 54 HT_ ?_
              refine pU_ 24 55 HT_ ?_
              refine pU_ 25 56 HT_ ?_
              refine pU_ 26 57 HT_ ?_
              refine pS_ 27 58 HT_ ?_
              refine done_ (done_of HT_.out (by kernel_rfl)) ?_
              try go_wp2
              go_ret
              exact ⟨by first | rfl | (simp [errW_none, errW_some] <;> rfl) | (simp only [← hji18]; first | rfl | (simp [errW_none, errW_some] <;> rfl)) | (simp [*, errW_none, errW_some] <;> rfl), bw_ HB.out⟩
            ·rw [if_neg c20] at H
             exact absurd H (by simp)
           ·rw [if_neg c19] at H
            exact absurd H (by simp)
          ·rw [if_neg c17] at H
           have c17b0 : decide (0 < x26_2) = false := decide_eq_false c17
           clear c17
           obtain ⟨t195, A410, H⟩ := bE_ H
           have A41 := Aside0.mk A410
           clear A410
           by_cases c42 : t195 = true
           ·subst c42
            replace H := it_ H rfl
            have H' := Aside0.mk H
            clear H
            have p190 : 0 ≤ (x26_2 : Int) := of_decide_eq_true (by first | (with_reducible assumption) | assumption)
            have q190 : x26_2 < (l0_1.length : Int) := of_decide_eq_true (by first | (with_reducible assumption) | assumption)
            obtain ⟨ad190, A190_1, c190_1, e190, hx190_0, hx190_1, hl190_1, hi190_1⟩ := at_T40 HR0_1.out x26_2 p190 q190
            cases e190
            (try replace hx190_0 := (HB.out.cell (World.block_lt_of_cell? w _ hx190_0)).trans hx190_0)
            (try replace hx190_1 := (HB.out.cell (World.block_lt_of_cell? w _ hx190_1)).trans hx190_1)
            have HR190_1 := Aside0.mk hi190_1
            have HC190_1 := Aside0.mk hl190_1
            clear hi190_1 hl190_1
            replace p190 := eq_true p190
            replace q190 := eq_true q190
            try go_wp2_with (first | ((with_reducible refine gate_dst (N := 4) rfl ?_); (try (refine gate_guard (by rfl) ?_; dsimp only)); refine box_event ?hg (N := 4) ?hd (cs := #[.string (⟨#[]⟩ : ByteArray), .slice none 0 0]) (t := 40) ?hr ?_; (case hd => rfl); (case hg => rfl); (case hr => first | (go_simp; done) | (go_simp; rfl)); intro gb191 hg w43 hbox hb; have n0_ := Aside0.mk (blk_below (bk_ BK188.out) hb); have n1_ := Aside0.mk (below_step (bw_ HB.out) hb); have n2_ := Aside0.mk (hbox); have n3_ := Aside0.mk ((by rw [hg]; exact (below_size (bw_ HB.out)) : w.heap.size ≤ gb191)); have n4_ := Aside0.mk ((by rw [hg]; exact (below_size (bw_ HB.out)) : w.heap.size ≤ gb191)); have n5_ := Aside0.mk ((by rw [hg]; exact Nat.ne_of_lt (blk_lt (bk_ BK188.out)) : gb188 ≠ gb191)); have n6_ := Aside0.mk ((by rw [hg]; exact Nat.ne_of_gt (blk_lt (bk_ BK188.out)) : gb191 ≠ gb188)); clear BK188; clear HB; have BK188 := n0_; have HB := n1_; have BK191 := n2_; have GW191 := n3_; have GE191 := n4_; have NB188_191 := n5_; have NB191_188 := n6_; clear n0_ n1_ n2_ n3_ n4_ n5_ n6_; clear hb hbox hg; have hnb44 := NB191_188.out; have hnc44 := NB188_191.out; have hcz45_0 : w43.cell? ⟨gb191, 0, none⟩ = some (.string (⟨#[]⟩ : ByteArray)) := (blk_cell BK191.out 0).trans rfl; have hcz45_1 : w43.cell? ⟨gb191, 1, none⟩ = some (.slice none 0 0) := (blk_cell BK191.out 1).trans rfl; have hfz45_0 := blk_frozen BK191.out 0; have hfz45_1 := blk_frozen BK191.out 1))
            have n0_ : Aside0 (((w43.setCell ⟨gb191, 0, none⟩ (.string ((rd_T40 l0_1 x26_2).f0))).setCell ⟨gb191, 1, none⟩ (.slice A190_1 ((rd_T40 l0_1 x26_2).f1).length c190_1)).heap[gb188]? = some (.cells #[.int .i64 a0_0, .slice (some ad190) l0_1.length c0_1, .slice A0_2 l0_2.length c0_2] 31 (0, 0))) := ⟨by (with_reducible repeat (first | refine blk_drewN ?_ _ | refine blk_drew ?_ | refine blk_alloc ?_ _)); refine blk_far ?_ NB188_191.out _; (with_reducible repeat (first | refine blk_drewN ?_ _ | refine blk_drew ?_ | refine blk_alloc ?_ _)); refine blk_far ?_ NB188_191.out _; (with_reducible repeat (first | refine blk_drewN ?_ _ | refine blk_drew ?_ | refine blk_alloc ?_ _)); exact BK188.out⟩
            have n1_ : Aside0 (((w43.setCell ⟨gb191, 0, none⟩ (.string ((rd_T40 l0_1 x26_2).f0))).setCell ⟨gb191, 1, none⟩ (.slice A190_1 ((rd_T40 l0_1 x26_2).f1).length c190_1)).heap[gb191]? = some (.cells #[.string ((rd_T40 l0_1 x26_2).f0), .slice A190_1 ((rd_T40 l0_1 x26_2).f1).length c190_1] 40 (0, 0))) := ⟨by (with_reducible repeat (first | refine blk_drewN ?_ _ | refine blk_drew ?_ | refine blk_alloc ?_ _)); refine blk_put (cs := #[.string ((rd_T40 l0_1 x26_2).f0), .slice none 0 0]) ?_ 1 _ rfl; (with_reducible repeat (first | refine blk_drewN ?_ _ | refine blk_drew ?_ | refine blk_alloc ?_ _)); refine blk_put (cs := #[.string (⟨#[]⟩ : ByteArray), .slice none 0 0]) ?_ 0 _ rfl; (with_reducible repeat (first | refine blk_drewN ?_ _ | refine blk_drew ?_ | refine blk_alloc ?_ _)); exact BK191.out⟩
            have n2_ : Aside0 (Below w.heap.size w ((w43.setCell ⟨gb191, 0, none⟩ (.string ((rd_T40 l0_1 x26_2).f0))).setCell ⟨gb191, 1, none⟩ (.slice A190_1 ((rd_T40 l0_1 x26_2).f1).length c190_1))) := ⟨bw_ HB.out⟩
            (try clear BK188)
            (try clear BK191)
            (try clear HB)
            generalize ((w43.setCell ⟨gb191, 0, none⟩ (.string ((rd_T40 l0_1 x26_2).f0))).setCell ⟨gb191, 1, none⟩ (.slice A190_1 ((rd_T40 l0_1 x26_2).f1).length c190_1)) = w46 at n0_ n1_ n2_ ⊢
            have BK188 := n0_
            have BK191 := n1_
            have HB := n2_
            clear n0_ n1_ n2_
            have n0_ := Aside0.mk (blk_drew BK188.out)
            have n1_ := Aside0.mk (blk_drew BK191.out)
            have n2_ := Aside0.mk (below_drew1 HB.out)
            clear BK188
            clear BK191
            clear HB
            have BK188 := n0_
            have BK191 := n1_
            have HB := n2_
            clear n0_ n1_ n2_
            refine start_ (n := 28) (S := fun w' => w'.cell? ⟨gb191, 0, none⟩ = some (.string ((rd_T40 l0_1 x26_2).f0)) ∧ w'.cell? ⟨gb191, 1, none⟩ = some (.slice A190_1 ((rd_T40 l0_1 x26_2).f1).length c190_1) ∧ w'.cell? ⟨gb188, 0, none⟩ = some (.int .i64 a0_0) ∧ w'.cell? ⟨gb188, 1, none⟩ = some (.slice (some ad190) l0_1.length c0_1) ∧ w'.cell? ⟨gb188, 2, none⟩ = some (.slice A0_2 l0_2.length c0_2)) (ds := []) (Array.replicate 28 false) (by kernel_rfl) rfl rfl ⟨(blk_cell BK191.out 0).trans rfl, (blk_cell BK191.out 1).trans rfl, (blk_cell BK188.out 0).trans rfl, (blk_cell BK188.out 1).trans rfl, (blk_cell BK188.out 2).trans rfl⟩ (fun hHeld => ?_); refine with_tabW impl_GoodClip.tab6 impl_GoodClip.bits6 (fun HT_ HW_ => ?_)
            generalize w46.drew = w47 at BK188 BK191 HB hHeld ⊢
            refine pS_ 0 31 HT_ ?_
            refine tS_ 1 32 HT_ HW_ hHeld ?_
            refine oS_ 2 33 HT_ (fun K hK => ?_)
            refine goes_ Try.func17 (by kernel_rfl) rfl #[.string ((rd_T40 l0_1 x26_2).f0)] (by rfl) rfl rfl (by (try simp only [List.map_toArray, List.map_cons, List.map_nil]); first | done | rfl | (simp only [List.length_drop, List.length_take]; rfl)) ?_
            with_reducible refine (impl_GoodName.calls k2 ((rd_T40 l0_1 x26_2).f0) true _ A15.out).mono ?_
            rintro e w' ⟨rfl, ⟨nd, rfl⟩⟩
            refine ⟨_, rfl, ?_⟩
            refine hK.out _ _ ⟨(blk_cell BK191.out 0).trans rfl, (blk_cell BK191.out 1).trans rfl, (blk_cell BK188.out 0).trans rfl, (blk_cell BK188.out 1).trans rfl, (blk_cell BK188.out 2).trans rfl⟩ (fun hHeld => ?_)
            clear hK K
            refine nS_ ?_
            refine pS_ 3 34 HT_ ?_
            refine pS_ 4 35 HT_ ?_
            refine pS_ 5 36 HT_ ?_
            refine pS_ 6 37 HT_ ?_
            refine pS_ 7 38 HT_ ?_
            refine pU_ 8 39 HT_ ?_
            refine pU_ 9 40 HT_ ?_
            refine pU_ 10 41 HT_ ?_
            refine pU_ 11 42 HT_ ?_
            refine pU_ 12 43 HT_ ?_
            refine pU_ 13 44 HT_ ?_
            refine pU_ 14 45 HT_ ?_
            refine pU_ 15 46 HT_ ?_
            refine pU_ 16 47 HT_ ?_
            refine pU_ 17 48 HT_ ?_
            refine pS_ 18 49 HT_ ?_
            refine pS_ 19 50 HT_ ?_
            refine pS_ 20 51 HT_ ?_
            refine pS_ 21 52 HT_ ?_
            refine pS_ 23 54 HT_ ?_
            refine tS_ 22 53 HT_ HW_ hHeld ?_
            refine tS_ 24 55 HT_ HW_ hHeld ?_
            refine oS_ 25 56 HT_ (fun K hK => ?_)
            refine goes_ Try.func18 (by kernel_rfl) rfl #[.slice A190_1 ((rd_T40 l0_1 x26_2).f1).length c190_1, .int .i64 a0_0] (by rfl) rfl rfl (by (try simp only [List.map_toArray, List.map_cons, List.map_nil]); first | done | rfl | (simp only [List.length_drop, List.length_take]; rfl)) ?_
            with_reducible refine (impl_areKeys.calls k2 _ _ ((rd_T40 l0_1 x26_2).f1) a0_0 true _ ?side1 ?side2 A41.out).mono ?_
            (case side1 => repeat (first | exact (Kd.C_below HR190_1.out (bw_ HB.out)) | (with_reducible refine Kd.C_alloc ?_ _) | (with_reducible refine Kd.C_drewN ?_ _) | (with_reducible refine Kd.C_drew ?_)))
            (case side2 => exact HC190_1.out)
            rintro e w48 ⟨rfl, hb⟩
            refine ⟨_, rfl, ?_⟩
            have n0_ := Aside0.mk (blk_below (bk_ BK188.out) hb)
            have n1_ := Aside0.mk (blk_below (bk_ BK191.out) hb)
            have n2_ := Aside0.mk (below_step (bw_ HB.out) hb)
            clear BK188
            clear BK191
            clear HB
            have BK188 := n0_
            have BK191 := n1_
            have HB := n2_
            clear n0_ n1_ n2_
            (try clear hb)
            (try clear hb2)
            (try clear hk)
            (try clear hi)
            refine hK.out _ _ ⟨(blk_cell BK191.out 0).trans rfl, (blk_cell BK191.out 1).trans rfl, (blk_cell BK188.out 0).trans rfl, (blk_cell BK188.out 1).trans rfl, (blk_cell BK188.out 2).trans rfl⟩ (fun hHeld => ?_)
            clear hK K
            refine nS_ ?_
            refine pS_ 26 57 HT_ ?_
            refine pS_ 27 58 HT_ ?_
            refine done_ (done_of HT_.out (by kernel_rfl)) ?_
            try go_wp2
            go_roundg k2
            case measure => have := HJ1.out; have := HK2.out; omega
            case rel => exact ⟨(wrap64 (x26_2 + 1)), (by first | rfl | (simp; done) | (simp [*]; done) | (simp [wrap64]; done)), H', ⟨by have := HJ1.out; have := HK2.out; omega⟩, ⟨by (with_reducible repeat (first | refine blk_drewN ?_ _ | refine blk_drew ?_ | refine blk_alloc ?_ _)); exact BK188.out⟩, ⟨bw_ HB.out⟩⟩
           ·replace c42 := Bool.eq_false_iff.mpr c42
            subst c42
            replace H := if_ H Bool.false_ne_true
            obtain rfl := Option.some.inj H
            have p190 : 0 ≤ (x26_2 : Int) := of_decide_eq_true (by first | (with_reducible assumption) | assumption)
            have q190 : x26_2 < (l0_1.length : Int) := of_decide_eq_true (by first | (with_reducible assumption) | assumption)
            obtain ⟨ad190, A190_1, c190_1, e190, hx190_0, hx190_1, hl190_1, hi190_1⟩ := at_T40 HR0_1.out x26_2 p190 q190
            cases e190
            (try replace hx190_0 := (HB.out.cell (World.block_lt_of_cell? w _ hx190_0)).trans hx190_0)
            (try replace hx190_1 := (HB.out.cell (World.block_lt_of_cell? w _ hx190_1)).trans hx190_1)
            have HR190_1 := Aside0.mk hi190_1
            have HC190_1 := Aside0.mk hl190_1
            clear hi190_1 hl190_1
            replace p190 := eq_true p190
            replace q190 := eq_true q190
            try go_wp2_with (first | ((with_reducible refine gate_dst (N := 4) rfl ?_); (try (refine gate_guard (by rfl) ?_; dsimp only)); refine box_event ?hg (N := 4) ?hd (cs := #[.string (⟨#[]⟩ : ByteArray), .slice none 0 0]) (t := 40) ?hr ?_; (case hd => rfl); (case hg => rfl); (case hr => first | (go_simp; done) | (go_simp; rfl)); intro gb191 hg w49 hbox hb; have n0_ := Aside0.mk (blk_below (bk_ BK188.out) hb); have n1_ := Aside0.mk (below_step (bw_ HB.out) hb); have n2_ := Aside0.mk (hbox); have n3_ := Aside0.mk ((by rw [hg]; exact (below_size (bw_ HB.out)) : w.heap.size ≤ gb191)); have n4_ := Aside0.mk ((by rw [hg]; exact (below_size (bw_ HB.out)) : w.heap.size ≤ gb191)); have n5_ := Aside0.mk ((by rw [hg]; exact Nat.ne_of_lt (blk_lt (bk_ BK188.out)) : gb188 ≠ gb191)); have n6_ := Aside0.mk ((by rw [hg]; exact Nat.ne_of_gt (blk_lt (bk_ BK188.out)) : gb191 ≠ gb188)); clear BK188; clear HB; have BK188 := n0_; have HB := n1_; have BK191 := n2_; have GW191 := n3_; have GE191 := n4_; have NB188_191 := n5_; have NB191_188 := n6_; clear n0_ n1_ n2_ n3_ n4_ n5_ n6_; clear hb hbox hg; have hnb50 := NB191_188.out; have hnc50 := NB188_191.out; have hcz51_0 : w49.cell? ⟨gb191, 0, none⟩ = some (.string (⟨#[]⟩ : ByteArray)) := (blk_cell BK191.out 0).trans rfl; have hcz51_1 : w49.cell? ⟨gb191, 1, none⟩ = some (.slice none 0 0) := (blk_cell BK191.out 1).trans rfl; have hfz51_0 := blk_frozen BK191.out 0; have hfz51_1 := blk_frozen BK191.out 1))
            have n0_ : Aside0 (((w49.setCell ⟨gb191, 0, none⟩ (.string ((rd_T40 l0_1 x26_2).f0))).setCell ⟨gb191, 1, none⟩ (.slice A190_1 ((rd_T40 l0_1 x26_2).f1).length c190_1)).heap[gb188]? = some (.cells #[.int .i64 a0_0, .slice (some ad190) l0_1.length c0_1, .slice A0_2 l0_2.length c0_2] 31 (0, 0))) := ⟨by (with_reducible repeat (first | refine blk_drewN ?_ _ | refine blk_drew ?_ | refine blk_alloc ?_ _)); refine blk_far ?_ NB188_191.out _; (with_reducible repeat (first | refine blk_drewN ?_ _ | refine blk_drew ?_ | refine blk_alloc ?_ _)); refine blk_far ?_ NB188_191.out _; (with_reducible repeat (first | refine blk_drewN ?_ _ | refine blk_drew ?_ | refine blk_alloc ?_ _)); exact BK188.out⟩
            have n1_ : Aside0 (((w49.setCell ⟨gb191, 0, none⟩ (.string ((rd_T40 l0_1 x26_2).f0))).setCell ⟨gb191, 1, none⟩ (.slice A190_1 ((rd_T40 l0_1 x26_2).f1).length c190_1)).heap[gb191]? = some (.cells #[.string ((rd_T40 l0_1 x26_2).f0), .slice A190_1 ((rd_T40 l0_1 x26_2).f1).length c190_1] 40 (0, 0))) := ⟨by (with_reducible repeat (first | refine blk_drewN ?_ _ | refine blk_drew ?_ | refine blk_alloc ?_ _)); refine blk_put (cs := #[.string ((rd_T40 l0_1 x26_2).f0), .slice none 0 0]) ?_ 1 _ rfl; (with_reducible repeat (first | refine blk_drewN ?_ _ | refine blk_drew ?_ | refine blk_alloc ?_ _)); refine blk_put (cs := #[.string (⟨#[]⟩ : ByteArray), .slice none 0 0]) ?_ 0 _ rfl; (with_reducible repeat (first | refine blk_drewN ?_ _ | refine blk_drew ?_ | refine blk_alloc ?_ _)); exact BK191.out⟩
            have n2_ : Aside0 (Below w.heap.size w ((w49.setCell ⟨gb191, 0, none⟩ (.string ((rd_T40 l0_1 x26_2).f0))).setCell ⟨gb191, 1, none⟩ (.slice A190_1 ((rd_T40 l0_1 x26_2).f1).length c190_1))) := ⟨bw_ HB.out⟩
            (try clear BK188)
            (try clear BK191)
            (try clear HB)
            generalize ((w49.setCell ⟨gb191, 0, none⟩ (.string ((rd_T40 l0_1 x26_2).f0))).setCell ⟨gb191, 1, none⟩ (.slice A190_1 ((rd_T40 l0_1 x26_2).f1).length c190_1)) = w52 at n0_ n1_ n2_ ⊢
            have BK188 := n0_
            have BK191 := n1_
            have HB := n2_
            clear n0_ n1_ n2_
            have n0_ := Aside0.mk (blk_drew BK188.out)
            have n1_ := Aside0.mk (blk_drew BK191.out)
            have n2_ := Aside0.mk (below_drew1 HB.out)
            clear BK188
            clear BK191
            clear HB
            have BK188 := n0_
            have BK191 := n1_
            have HB := n2_
            clear n0_ n1_ n2_
            refine start_ (n := 28) (S := fun w' => w'.cell? ⟨gb191, 0, none⟩ = some (.string ((rd_T40 l0_1 x26_2).f0)) ∧ w'.cell? ⟨gb191, 1, none⟩ = some (.slice A190_1 ((rd_T40 l0_1 x26_2).f1).length c190_1) ∧ w'.cell? ⟨gb188, 0, none⟩ = some (.int .i64 a0_0) ∧ w'.cell? ⟨gb188, 1, none⟩ = some (.slice (some ad190) l0_1.length c0_1) ∧ w'.cell? ⟨gb188, 2, none⟩ = some (.slice A0_2 l0_2.length c0_2)) (ds := []) (Array.replicate 28 false) (by kernel_rfl) rfl rfl ⟨(blk_cell BK191.out 0).trans rfl, (blk_cell BK191.out 1).trans rfl, (blk_cell BK188.out 0).trans rfl, (blk_cell BK188.out 1).trans rfl, (blk_cell BK188.out 2).trans rfl⟩ (fun hHeld => ?_); refine with_tabW impl_GoodClip.tab6 impl_GoodClip.bits6 (fun HT_ HW_ => ?_)
            generalize w52.drew = w53 at BK188 BK191 HB hHeld ⊢
            refine pS_ 0 31 HT_ ?_
            refine tS_ 1 32 HT_ HW_ hHeld ?_
            refine oS_ 2 33 HT_ (fun K hK => ?_)
            refine goes_ Try.func17 (by kernel_rfl) rfl #[.string ((rd_T40 l0_1 x26_2).f0)] (by rfl) rfl rfl (by (try simp only [List.map_toArray, List.map_cons, List.map_nil]); first | done | rfl | (simp only [List.length_drop, List.length_take]; rfl)) ?_
            with_reducible refine (impl_GoodName.calls k2 ((rd_T40 l0_1 x26_2).f0) true _ A15.out).mono ?_
            rintro e w' ⟨rfl, ⟨nd, rfl⟩⟩
            refine ⟨_, rfl, ?_⟩
            refine hK.out _ _ ⟨(blk_cell BK191.out 0).trans rfl, (blk_cell BK191.out 1).trans rfl, (blk_cell BK188.out 0).trans rfl, (blk_cell BK188.out 1).trans rfl, (blk_cell BK188.out 2).trans rfl⟩ (fun hHeld => ?_)
            clear hK K
            refine nS_ ?_
            refine pS_ 3 34 HT_ ?_
            refine pS_ 4 35 HT_ ?_
            refine pS_ 5 36 HT_ ?_
            refine pS_ 6 37 HT_ ?_
            refine pS_ 7 38 HT_ ?_
            refine pU_ 8 39 HT_ ?_
            refine pU_ 9 40 HT_ ?_
            refine pU_ 10 41 HT_ ?_
            refine pU_ 11 42 HT_ ?_
            refine pU_ 12 43 HT_ ?_
            refine pU_ 13 44 HT_ ?_
            refine pU_ 14 45 HT_ ?_
            refine pU_ 15 46 HT_ ?_
            refine pU_ 16 47 HT_ ?_
            refine pU_ 17 48 HT_ ?_
            refine pS_ 18 49 HT_ ?_
            refine pS_ 19 50 HT_ ?_
            refine pS_ 20 51 HT_ ?_
            refine pS_ 21 52 HT_ ?_
            refine pS_ 23 54 HT_ ?_
            refine tS_ 22 53 HT_ HW_ hHeld ?_
            refine tS_ 24 55 HT_ HW_ hHeld ?_
            refine oS_ 25 56 HT_ (fun K hK => ?_)
            refine goes_ Try.func18 (by kernel_rfl) rfl #[.slice A190_1 ((rd_T40 l0_1 x26_2).f1).length c190_1, .int .i64 a0_0] (by rfl) rfl rfl (by (try simp only [List.map_toArray, List.map_cons, List.map_nil]); first | done | rfl | (simp only [List.length_drop, List.length_take]; rfl)) ?_
            with_reducible refine (impl_areKeys.calls k2 _ _ ((rd_T40 l0_1 x26_2).f1) a0_0 false _ ?side1 ?side2 A41.out).mono ?_
            (case side1 => repeat (first | exact (Kd.C_below HR190_1.out (bw_ HB.out)) | (with_reducible refine Kd.C_alloc ?_ _) | (with_reducible refine Kd.C_drewN ?_ _) | (with_reducible refine Kd.C_drew ?_)))
            (case side2 => exact HC190_1.out)
            rintro e w54 ⟨rfl, hb⟩
            refine ⟨_, rfl, ?_⟩
            have n0_ := Aside0.mk (blk_below (bk_ BK188.out) hb)
            have n1_ := Aside0.mk (blk_below (bk_ BK191.out) hb)
            have n2_ := Aside0.mk (below_step (bw_ HB.out) hb)
            clear BK188
            clear BK191
            clear HB
            have BK188 := n0_
            have BK191 := n1_
            have HB := n2_
            clear n0_ n1_ n2_
            (try clear hb)
            (try clear hb2)
            (try clear hk)
            (try clear hi)
            refine hK.out _ _ ⟨(blk_cell BK191.out 0).trans rfl, (blk_cell BK191.out 1).trans rfl, (blk_cell BK188.out 0).trans rfl, (blk_cell BK188.out 1).trans rfl, (blk_cell BK188.out 2).trans rfl⟩ (fun hHeld => ?_)
            clear hK K
            refine nS_ ?_
            refine pS_ 26 57 HT_ ?_
            refine pS_ 27 58 HT_ ?_
            refine done_ (done_of HT_.out (by kernel_rfl)) ?_
            try go_wp2
            go_ret
            exact ⟨by first | rfl | (simp [errW_none, errW_some] <;> rfl) | (simp [*, errW_none, errW_some] <;> rfl), bw_ HB.out⟩
         ·replace c16 := Bool.eq_false_iff.mpr c16
          subst c16
          replace H := if_ H Bool.false_ne_true
          obtain rfl := Option.some.inj H
          have p190 : 0 ≤ (x26_2 : Int) := of_decide_eq_true (by first | (with_reducible assumption) | assumption)
          have q190 : x26_2 < (l0_1.length : Int) := of_decide_eq_true (by first | (with_reducible assumption) | assumption)
          obtain ⟨ad190, A190_1, c190_1, e190, hx190_0, hx190_1, hl190_1, hi190_1⟩ := at_T40 HR0_1.out x26_2 p190 q190
          cases e190
          (try replace hx190_0 := (HB.out.cell (World.block_lt_of_cell? w _ hx190_0)).trans hx190_0)
          (try replace hx190_1 := (HB.out.cell (World.block_lt_of_cell? w _ hx190_1)).trans hx190_1)
          have HR190_1 := Aside0.mk hi190_1
          have HC190_1 := Aside0.mk hl190_1
          clear hi190_1 hl190_1
          replace p190 := eq_true p190
          replace q190 := eq_true q190
          try go_wp2_with (first | ((with_reducible refine gate_dst (N := 4) rfl ?_); (try (refine gate_guard (by rfl) ?_; dsimp only)); refine box_event ?hg (N := 4) ?hd (cs := #[.string (⟨#[]⟩ : ByteArray), .slice none 0 0]) (t := 40) ?hr ?_; (case hd => rfl); (case hg => rfl); (case hr => first | (go_simp; done) | (go_simp; rfl)); intro gb191 hg w55 hbox hb; have n0_ := Aside0.mk (blk_below (bk_ BK188.out) hb); have n1_ := Aside0.mk (below_step (bw_ HB.out) hb); have n2_ := Aside0.mk (hbox); have n3_ := Aside0.mk ((by rw [hg]; exact (below_size (bw_ HB.out)) : w.heap.size ≤ gb191)); have n4_ := Aside0.mk ((by rw [hg]; exact (below_size (bw_ HB.out)) : w.heap.size ≤ gb191)); have n5_ := Aside0.mk ((by rw [hg]; exact Nat.ne_of_lt (blk_lt (bk_ BK188.out)) : gb188 ≠ gb191)); have n6_ := Aside0.mk ((by rw [hg]; exact Nat.ne_of_gt (blk_lt (bk_ BK188.out)) : gb191 ≠ gb188)); clear BK188; clear HB; have BK188 := n0_; have HB := n1_; have BK191 := n2_; have GW191 := n3_; have GE191 := n4_; have NB188_191 := n5_; have NB191_188 := n6_; clear n0_ n1_ n2_ n3_ n4_ n5_ n6_; clear hb hbox hg; have hnb56 := NB191_188.out; have hnc56 := NB188_191.out; have hcz57_0 : w55.cell? ⟨gb191, 0, none⟩ = some (.string (⟨#[]⟩ : ByteArray)) := (blk_cell BK191.out 0).trans rfl; have hcz57_1 : w55.cell? ⟨gb191, 1, none⟩ = some (.slice none 0 0) := (blk_cell BK191.out 1).trans rfl; have hfz57_0 := blk_frozen BK191.out 0; have hfz57_1 := blk_frozen BK191.out 1))
          have n0_ : Aside0 (((w55.setCell ⟨gb191, 0, none⟩ (.string ((rd_T40 l0_1 x26_2).f0))).setCell ⟨gb191, 1, none⟩ (.slice A190_1 ((rd_T40 l0_1 x26_2).f1).length c190_1)).heap[gb188]? = some (.cells #[.int .i64 a0_0, .slice (some ad190) l0_1.length c0_1, .slice A0_2 l0_2.length c0_2] 31 (0, 0))) := ⟨by (with_reducible repeat (first | refine blk_drewN ?_ _ | refine blk_drew ?_ | refine blk_alloc ?_ _)); refine blk_far ?_ NB188_191.out _; (with_reducible repeat (first | refine blk_drewN ?_ _ | refine blk_drew ?_ | refine blk_alloc ?_ _)); refine blk_far ?_ NB188_191.out _; (with_reducible repeat (first | refine blk_drewN ?_ _ | refine blk_drew ?_ | refine blk_alloc ?_ _)); exact BK188.out⟩
          have n1_ : Aside0 (((w55.setCell ⟨gb191, 0, none⟩ (.string ((rd_T40 l0_1 x26_2).f0))).setCell ⟨gb191, 1, none⟩ (.slice A190_1 ((rd_T40 l0_1 x26_2).f1).length c190_1)).heap[gb191]? = some (.cells #[.string ((rd_T40 l0_1 x26_2).f0), .slice A190_1 ((rd_T40 l0_1 x26_2).f1).length c190_1] 40 (0, 0))) := ⟨by (with_reducible repeat (first | refine blk_drewN ?_ _ | refine blk_drew ?_ | refine blk_alloc ?_ _)); refine blk_put (cs := #[.string ((rd_T40 l0_1 x26_2).f0), .slice none 0 0]) ?_ 1 _ rfl; (with_reducible repeat (first | refine blk_drewN ?_ _ | refine blk_drew ?_ | refine blk_alloc ?_ _)); refine blk_put (cs := #[.string (⟨#[]⟩ : ByteArray), .slice none 0 0]) ?_ 0 _ rfl; (with_reducible repeat (first | refine blk_drewN ?_ _ | refine blk_drew ?_ | refine blk_alloc ?_ _)); exact BK191.out⟩
          have n2_ : Aside0 (Below w.heap.size w ((w55.setCell ⟨gb191, 0, none⟩ (.string ((rd_T40 l0_1 x26_2).f0))).setCell ⟨gb191, 1, none⟩ (.slice A190_1 ((rd_T40 l0_1 x26_2).f1).length c190_1))) := ⟨bw_ HB.out⟩
          (try clear BK188)
          (try clear BK191)
          (try clear HB)
          generalize ((w55.setCell ⟨gb191, 0, none⟩ (.string ((rd_T40 l0_1 x26_2).f0))).setCell ⟨gb191, 1, none⟩ (.slice A190_1 ((rd_T40 l0_1 x26_2).f1).length c190_1)) = w58 at n0_ n1_ n2_ ⊢
          have BK188 := n0_
          have BK191 := n1_
          have HB := n2_
          clear n0_ n1_ n2_
          have n0_ := Aside0.mk (blk_drew BK188.out)
          have n1_ := Aside0.mk (blk_drew BK191.out)
          have n2_ := Aside0.mk (below_drew1 HB.out)
          clear BK188
          clear BK191
          clear HB
          have BK188 := n0_
          have BK191 := n1_
          have HB := n2_
          clear n0_ n1_ n2_
          refine start_ (n := 28) (S := fun w' => w'.cell? ⟨gb191, 0, none⟩ = some (.string ((rd_T40 l0_1 x26_2).f0)) ∧ w'.cell? ⟨gb191, 1, none⟩ = some (.slice A190_1 ((rd_T40 l0_1 x26_2).f1).length c190_1)) (ds := []) (Array.replicate 28 false) (by kernel_rfl) rfl rfl ⟨(blk_cell BK191.out 0).trans rfl, (blk_cell BK191.out 1).trans rfl⟩ (fun hHeld => ?_); refine with_tabW impl_GoodClip.tab6 impl_GoodClip.bits6 (fun HT_ HW_ => ?_)
          generalize w58.drew = w59 at BK188 BK191 HB hHeld ⊢
          refine pS_ 0 31 HT_ ?_
          refine tS_ 1 32 HT_ HW_ hHeld ?_
          refine oS_ 2 33 HT_ (fun K hK => ?_)
          refine goes_ Try.func17 (by kernel_rfl) rfl #[.string ((rd_T40 l0_1 x26_2).f0)] (by rfl) rfl rfl (by (try simp only [List.map_toArray, List.map_cons, List.map_nil]); first | done | rfl | (simp only [List.length_drop, List.length_take]; rfl)) ?_
          with_reducible refine (impl_GoodName.calls k2 ((rd_T40 l0_1 x26_2).f0) false _ A15.out).mono ?_
          rintro e w' ⟨rfl, ⟨nd, rfl⟩⟩
          refine ⟨_, rfl, ?_⟩
          refine hK.out _ _ ⟨(blk_cell BK191.out 0).trans rfl, (blk_cell BK191.out 1).trans rfl⟩ (fun hHeld => ?_)
          clear hK K
          refine nS_ ?_
          refine pS_ 3 34 HT_ ?_
          refine pS_ 4 35 HT_ ?_
          refine pU_ 5 36 HT_ ?_
          refine pU_ 6 37 HT_ ?_
          refine pU_ 7 38 HT_ ?_
          refine pU_ 8 39 HT_ ?_
          refine pU_ 9 40 HT_ ?_
          refine pU_ 10 41 HT_ ?_
          refine pU_ 11 42 HT_ ?_
          refine pU_ 12 43 HT_ ?_
          refine pU_ 13 44 HT_ ?_
          refine pU_ 14 45 HT_ ?_
          refine pU_ 15 46 HT_ ?_
          refine pU_ 16 47 HT_ ?_
          refine pU_ 17 48 HT_ ?_
          refine pU_ 18 49 HT_ ?_
          refine pS_ 19 50 HT_ ?_
          refine pS_ 20 51 HT_ ?_
          refine pU_ 21 52 HT_ ?_
          refine pU_ 22 53 HT_ ?_
          refine pU_ 23 54 HT_ ?_
          refine pU_ 24 55 HT_ ?_
          refine pU_ 25 56 HT_ ?_
          refine pU_ 26 57 HT_ ?_
          refine pS_ 27 58 HT_ ?_
          refine done_ (done_of HT_.out (by kernel_rfl)) ?_
          try go_wp2
          go_ret
          exact ⟨by first | rfl | (simp [errW_none, errW_some] <;> rfl) | (simp [*, errW_none, errW_some] <;> rfl), bw_ HB.out⟩
        ·rw [if_neg c14] at H
         exact absurd H (by simp)
       ·rw [if_neg c13] at H
        exact absurd H (by simp)
      ·rw [if_neg c12] at H
       have c12b0 : decide (x26_2 < (l0_1.length : Int)) = false := decide_eq_false c12
       clear c12
       have H' := Aside0.mk H
       clear H
       have hcz60_0 : wr.cell? ⟨gb188, 0, none⟩ = some (.int .i64 a0_0) := (blk_cell BK188.out 0).trans rfl
       have hcz60_1 : wr.cell? ⟨gb188, 1, none⟩ = some (.slice A0_1 l0_1.length c0_1) := (blk_cell BK188.out 1).trans rfl
       have hcz60_2 : wr.cell? ⟨gb188, 2, none⟩ = some (.slice A0_2 l0_2.length c0_2) := (blk_cell BK188.out 2).trans rfl
       have hfz60_0 := blk_frozen BK188.out 0
       have hfz60_1 := blk_frozen BK188.out 1
       have hfz60_2 := blk_frozen BK188.out 2
       go_wp2
       go_loopg [63] k2 (fun kq v63 w' => ∃ (x63_3 : Int), v63 = .int .i64 x63_3 ∧ Aside0 (impl_GoodClip.l1 kq l0_2 (l0_2.length : Int) x63_3 a0_0 l0_1 l0_2 = some r) ∧ Aside0 (kq ≤ k2) ∧ Aside0 (w'.heap[gb188]? = some (.cells #[.int .i64 a0_0, (.slice A0_1 l0_1.length c0_1), (.slice A0_2 l0_2.length c0_2)] 31 (0, 0))) ∧ Aside0 (Below w.heap.size w w'))
       case atStart => exact ⟨(0), (by first | rfl | (simp; done) | (simp [*]; done) | (simp [wrap64]; done)), H', ⟨Nat.le_refl _⟩, ⟨by (with_reducible repeat (first | refine blk_drewN ?_ _ | refine blk_drew ?_ | refine blk_alloc ?_ _)); exact BK188.out⟩, ⟨bw_ HB.out⟩⟩
       case round =>
        clear H'
        try clear c1
        try clear p1
        try clear q1
        try clear hx1
        try clear p2
        try clear c4
        try clear c5
        try clear p6
        try clear c12
        try clear c12b0
        try clear c13
        try clear c14
        try clear c16
        try clear c17
        try clear c18
        try clear c19
        try clear p19
        try clear q19
        try clear hx19
        try clear c42
        try clear c50
        try clear c56
        try clear hcz51_0
        try clear hcz51_1
        try clear hcz57_0
        try clear hcz57_1
        try clear hcz60_0
        try clear hcz60_1
        try clear hcz60_2
        try clear hfz51_0
        try clear hfz51_1
        try clear hfz57_0
        try clear hfz57_1
        try clear hfz60_0
        try clear hfz60_1
        try clear hfz60_2
        try clear hx190_0
        try clear hx190_1
        try clear p190
        try clear q190
        obtain ⟨x63_3, rfl, HA, HK3, BK188, HB⟩ := hrel
        cases gk with
        | zero => exact absurd HA.out (by simp [impl_GoodClip.l1])
        | succ k3 =>
         have H := HA.out
         clear HA
         simp only [impl_GoodClip.l1] at H
         by_cases c61 : x63_3 < (l0_2.length : Int)
         ·rw [if_pos c61] at H
          have c61b0 : decide (x63_3 < (l0_2.length : Int)) = true := decide_eq_true c61
          clear c61
          by_cases c62 : 0 ≤ x63_3
          ·rw [if_pos c62] at H
           have c62b0 : decide (0 ≤ x63_3) = true := decide_eq_true c62
           clear c62
           by_cases c63 : x63_3 < (l0_2.length : Int)
           ·rw [if_pos c63] at H
            have c63b0 : decide (x63_3 < (l0_2.length : Int)) = true := decide_eq_true c63
            clear c63
            have HC64 := Aside0.mk H
            clear H
            have p196 : 0 ≤ (x63_3 : Int) := of_decide_eq_true (by first | (with_reducible assumption) | assumption)
            have q196 : x63_3 < (l0_2.length : Int) := of_decide_eq_true (by first | (with_reducible assumption) | assumption)
            obtain ⟨ad196, e196, hx196_0, hx196_1⟩ := at_T44 HR0_2.out x63_3 p196 q196
            cases e196
            (try replace hx196_0 := (HB.out.cell (World.block_lt_of_cell? w _ hx196_0)).trans hx196_0)
            (try replace hx196_1 := (HB.out.cell (World.block_lt_of_cell? w _ hx196_1)).trans hx196_1)
            replace p196 := eq_true p196
            replace q196 := eq_true q196
            go_upto_region 12 with (first | ((with_reducible refine gate_dst (N := 6) rfl ?_); (try (refine gate_guard (by rfl) ?_; dsimp only)); refine box_event ?hg (N := 6) ?hd (cs := #[.int .i64 0, .string (⟨#[]⟩ : ByteArray)]) (t := 44) ?hr ?_; (case hd => rfl); (case hg => rfl); (case hr => first | (go_simp; done) | (go_simp; rfl)); intro gb197 hg w65 hbox hb; have n0_ := Aside0.mk (blk_below (bk_ BK188.out) hb); have n1_ := Aside0.mk (below_step (bw_ HB.out) hb); have n2_ := Aside0.mk (hbox); have n3_ := Aside0.mk ((by rw [hg]; exact (below_size (bw_ HB.out)) : w.heap.size ≤ gb197)); have n4_ := Aside0.mk ((by rw [hg]; exact (below_size (bw_ HB.out)) : w.heap.size ≤ gb197)); have n5_ := Aside0.mk ((by rw [hg]; exact Nat.ne_of_lt (blk_lt (bk_ BK188.out)) : gb188 ≠ gb197)); have n6_ := Aside0.mk ((by rw [hg]; exact Nat.ne_of_gt (blk_lt (bk_ BK188.out)) : gb197 ≠ gb188)); clear BK188; clear HB; have BK188 := n0_; have HB := n1_; have BK197 := n2_; have GW197 := n3_; have GE197 := n4_; have NB188_197 := n5_; have NB197_188 := n6_; clear n0_ n1_ n2_ n3_ n4_ n5_ n6_; clear hb hbox hg; have hnb66 := NB197_188.out; have hnc66 := NB188_197.out; have hcz67_0 : w65.cell? ⟨gb197, 0, none⟩ = some (.int .i64 0) := (blk_cell BK197.out 0).trans rfl; have hcz67_1 : w65.cell? ⟨gb197, 1, none⟩ = some (.string (⟨#[]⟩ : ByteArray)) := (blk_cell BK197.out 1).trans rfl; have hfz67_0 := blk_frozen BK197.out 0; have hfz67_1 := blk_frozen BK197.out 1))
            (try simp only [Act.put, List.setIfInBounds_toArray, List.set_cons_zero, List.set_cons_succ])
            go_cut [80] (fun v80 wc => ∃ (kq : Nat) (x80_63 : Bool), v80 = .bool x80_63 ∧ Aside0 (impl_GoodClip.j3 kq x63_3 l0_2 (l0_2.length : Int) x63_3 x80_63 a0_0 l0_1 l0_2 ((rd_T44 l0_2 x63_3).f0) ((rd_T44 l0_2 x63_3).f1) = some r) ∧ Aside0 (kq ≤ k3) ∧ Aside0 (wc.heap[gb188]? = some (.cells #[.int .i64 a0_0, (.slice A0_1 l0_1.length c0_1), (.slice (some ad196) l0_2.length c0_2)] 31 (0, 0))) ∧ Aside0 (wc.heap[gb197]? = some (.cells #[.int .i64 ((rd_T44 l0_2 x63_3).f0), .string ((rd_T44 l0_2 x63_3).f1)] 44 (0, 0))) ∧ Aside0 (Below w.heap.size w wc))
            case first =>
             have H := HC64.out
             clear HC64
             obtain ⟨t198, A680, H⟩ := bE_ H
             have A68 := Aside0.mk A680
             clear A680
             by_cases c69 : t198 = true
             ·subst c69
              replace H := it_ H rfl
              obtain ⟨t199, A700, H⟩ := bE_ H
              have A70 := Aside0.mk A700
              clear A700
              have H' := Aside0.mk H
              clear H
              have hnb71 := NB197_188.out
              have hnc71 := NB188_197.out
              have hcz72_0 : w65.cell? ⟨gb197, 0, none⟩ = some (.int .i64 0) := (blk_cell BK197.out 0).trans rfl
              have hcz72_1 : w65.cell? ⟨gb197, 1, none⟩ = some (.string (⟨#[]⟩ : ByteArray)) := (blk_cell BK197.out 1).trans rfl
              have hfz72_0 := blk_frozen BK197.out 0
              have hfz72_1 := blk_frozen BK197.out 1
              go_wp2_with (first | ((with_reducible refine gate_callee (f := 17) rfl ?_); refine goesL_ (some 70) rfl rfl Try.func17 (by kernel_rfl) rfl #[.string ((rd_T44 l0_2 x63_3).f1)] rfl (by (try simp only [List.map_toArray, List.map_cons, List.map_nil]); first | done | rfl | (simp only [List.length_drop, List.length_take]; rfl)) ?_; (with_reducible refine (impl_GoodName.calls k3 ((rd_T44 l0_2 x63_3).f1) true _ A68.out).mono ?_); rintro e w' ⟨rfl, ⟨nd, rfl⟩⟩; refine ⟨_, rfl, ?_⟩; have hcz73_0 : w65.cell? ⟨gb188, 0, none⟩ = some (.int .i64 a0_0) := (blk_cell BK188.out 0).trans rfl; have hcz73_1 : w65.cell? ⟨gb188, 1, none⟩ = some (.slice A0_1 l0_1.length c0_1) := (blk_cell BK188.out 1).trans rfl; have hcz73_2 : w65.cell? ⟨gb188, 2, none⟩ = some (.slice (some ad196) l0_2.length c0_2) := (blk_cell BK188.out 2).trans rfl; have hfz73_0 := blk_frozen BK188.out 0; have hfz73_1 := blk_frozen BK188.out 1; have hfz73_2 := blk_frozen BK188.out 2) | (go_at_call 16; (try simp only [i64_w]); (with_reducible refine (impl_inRange.calls ((rd_T44 l0_2 x63_3).f0) 0 (wrap64 (a0_0 - 1)) t199 _ A70.out).mono ?_); rintro e w' ⟨rfl, ⟨nd, rfl⟩⟩))
              go_meet
              case rel => exact ⟨_, (!t199), (by first | rfl | (simp; done) | (simp [*]; done) | (simp [wrap64]; done)), H', ⟨by have := HJ1.out; have := HK2.out; have := HK3.out; first | omega | exact Nat.le_refl _⟩, ⟨by (with_reducible repeat (first | refine blk_drewN ?_ _ | refine blk_drew ?_ | refine blk_alloc ?_ _)); refine blk_far ?_ NB188_197.out _; (with_reducible repeat (first | refine blk_drewN ?_ _ | refine blk_drew ?_ | refine blk_alloc ?_ _)); refine blk_far ?_ NB188_197.out _; (with_reducible repeat (first | refine blk_drewN ?_ _ | refine blk_drew ?_ | refine blk_alloc ?_ _)); exact BK188.out⟩, ⟨by (with_reducible repeat (first | refine blk_drewN ?_ _ | refine blk_drew ?_ | refine blk_alloc ?_ _)); refine blk_put (cs := #[.int .i64 ((rd_T44 l0_2 x63_3).f0), .string (⟨#[]⟩ : ByteArray)]) ?_ 1 _ rfl; (with_reducible repeat (first | refine blk_drewN ?_ _ | refine blk_drew ?_ | refine blk_alloc ?_ _)); refine blk_put (cs := #[.int .i64 0, .string (⟨#[]⟩ : ByteArray)]) ?_ 0 _ rfl; (with_reducible repeat (first | refine blk_drewN ?_ _ | refine blk_drew ?_ | refine blk_alloc ?_ _)); exact BK197.out⟩, ⟨bw_ HB.out⟩⟩
             ·replace c69 := Bool.eq_false_iff.mpr c69
              subst c69
              replace H := if_ H Bool.false_ne_true
              have H' := Aside0.mk H
              clear H
              have hnb74 := NB197_188.out
              have hnc74 := NB188_197.out
              have hcz75_0 : w65.cell? ⟨gb197, 0, none⟩ = some (.int .i64 0) := (blk_cell BK197.out 0).trans rfl
              have hcz75_1 : w65.cell? ⟨gb197, 1, none⟩ = some (.string (⟨#[]⟩ : ByteArray)) := (blk_cell BK197.out 1).trans rfl
              have hfz75_0 := blk_frozen BK197.out 0
              have hfz75_1 := blk_frozen BK197.out 1
              go_wp2_with (first | ((with_reducible refine gate_callee (f := 17) rfl ?_); refine goesL_ (some 70) rfl rfl Try.func17 (by kernel_rfl) rfl #[.string ((rd_T44 l0_2 x63_3).f1)] rfl (by (try simp only [List.map_toArray, List.map_cons, List.map_nil]); first | done | rfl | (simp only [List.length_drop, List.length_take]; rfl)) ?_; (with_reducible refine (impl_GoodName.calls k3 ((rd_T44 l0_2 x63_3).f1) false _ A68.out).mono ?_); rintro e w' ⟨rfl, ⟨nd, rfl⟩⟩; refine ⟨_, rfl, ?_⟩))
              go_meet
              case rel => exact ⟨_, (true), (by first | rfl | (simp; done) | (simp [*]; done) | (simp [wrap64]; done)), H', ⟨by have := HJ1.out; have := HK2.out; have := HK3.out; first | omega | exact Nat.le_refl _⟩, ⟨by (with_reducible repeat (first | refine blk_drewN ?_ _ | refine blk_drew ?_ | refine blk_alloc ?_ _)); refine blk_far ?_ NB188_197.out _; (with_reducible repeat (first | refine blk_drewN ?_ _ | refine blk_drew ?_ | refine blk_alloc ?_ _)); refine blk_far ?_ NB188_197.out _; (with_reducible repeat (first | refine blk_drewN ?_ _ | refine blk_drew ?_ | refine blk_alloc ?_ _)); exact BK188.out⟩, ⟨by (with_reducible repeat (first | refine blk_drewN ?_ _ | refine blk_drew ?_ | refine blk_alloc ?_ _)); refine blk_put (cs := #[.int .i64 ((rd_T44 l0_2 x63_3).f0), .string (⟨#[]⟩ : ByteArray)]) ?_ 1 _ rfl; (with_reducible repeat (first | refine blk_drewN ?_ _ | refine blk_drew ?_ | refine blk_alloc ?_ _)); refine blk_put (cs := #[.int .i64 0, .string (⟨#[]⟩ : ByteArray)]) ?_ 0 _ rfl; (with_reducible repeat (first | refine blk_drewN ?_ _ | refine blk_drew ?_ | refine blk_alloc ?_ _)); exact BK197.out⟩, ⟨bw_ HB.out⟩⟩
            case rest =>
             clear HC64
             try clear c1
             try clear p1
             try clear q1
             try clear hx1
             try clear p2
             try clear c4
             try clear c5
             try clear c6
             try clear p6
             try clear c7
             try clear c12
             try clear c12b0
             try clear c13
             try clear c14
             try clear c16
             try clear c17
             try clear c18
             try clear c19
             try clear p19
             try clear q19
             try clear hx19
             try clear c42
             try clear c50
             try clear c56
             try clear c61
             try clear c61b0
             try clear c62
             try clear c62b0
             try clear c63
             try clear c63b0
             try clear p64
             try clear c66
             try clear c69
             try clear c71
             try clear c74
             try clear hcz51_0
             try clear hcz51_1
             try clear hcz57_0
             try clear hcz57_1
             try clear hcz60_0
             try clear hcz60_1
             try clear hcz60_2
             try clear hcz67_0
             try clear hcz67_1
             try clear hcz72_0
             try clear hcz72_1
             try clear hcz73_0
             try clear hcz73_1
             try clear hcz73_2
             try clear hcz75_0
             try clear hcz75_1
             try clear hfz51_0
             try clear hfz51_1
             try clear hfz57_0
             try clear hfz57_1
             try clear hfz60_0
             try clear hfz60_1
             try clear hfz60_2
             try clear hfz67_0
             try clear hfz67_1
             try clear hfz72_0
             try clear hfz72_1
             try clear hfz73_0
             try clear hfz73_1
             try clear hfz73_2
             try clear hfz75_0
             try clear hfz75_1
             try clear hx190_0
             try clear hx190_1
             try clear hx196_0
             try clear hx196_1
             try clear p1
             try clear p19
             try clear p190
             try clear p196
             try clear p2
             try clear p6
             try clear q1
             try clear q19
             try clear q190
             try clear q196
             obtain ⟨kq, x80_63, rfl, HA, HJ63, BK188, BK197, HB⟩ := hcut
             cases kq with
             | zero => exact absurd HA.out (by simp [impl_GoodClip.j3])
             | succ kj63 =>
              have H := HA.out
              clear HA
              simp only [impl_GoodClip.j3] at H
              by_cases c76 : x80_63 = true
              ·subst c76
               replace H := it_ H rfl
               obtain rfl := Option.some.inj H
               go_wp2
               go_ret
               exact ⟨by first | rfl | (simp [errW_none, errW_some] <;> rfl) | (simp [*, errW_none, errW_some] <;> rfl), bw_ HB.out⟩
              ·replace c76 := Bool.eq_false_iff.mpr c76
               subst c76
               replace H := if_ H Bool.false_ne_true
               by_cases c77 : x63_3 > 0
               ·rw [if_pos c77] at H
                have c77b0 : decide (0 < x63_3) = true := decide_eq_true c77
                clear c77
                obtain ⟨ji78, hji78⟩ : ∃ j_ : Int, (wrap64 (x63_3 - 1)) = j_ := ⟨_, rfl⟩
                replace H : (if 0 ≤ (ji78) then (if (ji78) < (l0_2.length : Int) then (if ((rd_T44 l0_2 (ji78)).f0) > ((rd_T44 l0_2 x63_3).f0) then (some false) else (if ((rd_T44 l0_2 (ji78)).f0) = ((rd_T44 l0_2 x63_3).f0) then (if ((Op.bytesLess (((rd_T44 l0_2 (ji78)).f1).toList) ((rd_T44 l0_2 x63_3).f1).toList) = true) then (impl_GoodClip.l1 kj63 l0_2 (l0_2.length : Int) (wrap64 (x63_3 + 1)) a0_0 l0_1 l0_2) else (some false)) else (impl_GoodClip.l1 kj63 l0_2 (l0_2.length : Int) (wrap64 (x63_3 + 1)) a0_0 l0_1 l0_2))) else (none)) else (none)) = some r := by first | (rw [hji78] at H; exact H) | (simp only [hji78] at H ⊢; exact H)
                have hji78w : (IntKind.i64.wrap (x63_3 - 1)) = ji78 := (i64_w _).trans hji78
                by_cases c79 : 0 ≤ (ji78)
                ·rw [if_pos c79] at H
                 have c79b0 : decide (0 ≤ (ji78)) = true := decide_eq_true c79
                 clear c79
                 by_cases c80 : (ji78) < (l0_2.length : Int)
                 ·rw [if_pos c80] at H
                  have c80b0 : decide ((ji78) < (l0_2.length : Int)) = true := decide_eq_true c80
                  clear c80
                  by_cases c81 : ((rd_T44 l0_2 (ji78)).f0) > ((rd_T44 l0_2 x63_3).f0)
                  ·rw [if_pos c81] at H
                   have c81b0 : decide (((rd_T44 l0_2 x63_3).f0) < ((rd_T44 l0_2 (ji78)).f0)) = true := decide_eq_true c81
                   clear c81
                   obtain rfl := Option.some.inj H
                   try go_wp2
                   have n0_ := Aside0.mk (blk_drew BK188.out)
                   have n1_ := Aside0.mk (blk_drew BK197.out)
                   have n2_ := Aside0.mk (below_drew1 HB.out)
                   clear BK188
                   clear BK197
                   clear HB
                   have BK188 := n0_
                   have BK197 := n1_
                   have HB := n2_
                   clear n0_ n1_ n2_
                   have p200 : 0 ≤ ((ji78) : Int) := of_decide_eq_true (by first | (with_reducible assumption) | assumption)
                   have q200 : (ji78) < (l0_2.length : Int) := of_decide_eq_true (by first | (with_reducible assumption) | assumption)
                   obtain ⟨ad200, e200, hx200_0, hx200_1⟩ := at_T44 HR0_2.out (ji78) p200 q200
                   have hw200_1 := hx200_1
                   have hw200_0 := hx200_0
                   obtain rfl : ad196 = ad200 := (by injection e200)
                   (try replace hx200_0 := (HB.out.cell (World.block_lt_of_cell? w _ hx200_0)).trans hx200_0)
                   (try replace hx200_1 := (HB.out.cell (World.block_lt_of_cell? w _ hx200_1)).trans hx200_1)
                   replace p200 := eq_true p200
                   replace q200 := eq_true q200
                   refine start_ (n := 38) (S := fun w' => w'.cell? ⟨gb188, 0, none⟩ = some (.int .i64 a0_0) ∧ w'.cell? ⟨gb188, 1, none⟩ = some (.slice A0_1 l0_1.length c0_1) ∧ w'.cell? ⟨gb188, 2, none⟩ = some (.slice (some ad196) l0_2.length c0_2) ∧ w'.cell? ⟨gb197, 0, none⟩ = some (.int .i64 ((rd_T44 l0_2 x63_3).f0)) ∧ w'.cell? ⟨gb197, 1, none⟩ = some (.string ((rd_T44 l0_2 x63_3).f1)) ∧ w'.cell? (ad196.add (((ji78)).toNat * 2)) = some (.int .i64 ((rd_T44 l0_2 (ji78)).f0)) ∧ w'.cell? ⟨(ad196.add (((ji78)).toNat * 2)).block, (ad196.add (((ji78)).toNat * 2)).off + 1, none⟩ = some (.string ((rd_T44 l0_2 (ji78)).f1))) (ds := []) (Array.replicate 38 false) (by kernel_rfl) rfl rfl ⟨(blk_cell BK188.out 0).trans rfl, (blk_cell BK188.out 1).trans rfl, (blk_cell BK188.out 2).trans rfl, (blk_cell BK197.out 0).trans rfl, (blk_cell BK197.out 1).trans rfl, ((HB.out.cell (World.block_lt_of_cell? w _ hw200_0)).trans hw200_0), ((HB.out.cell (World.block_lt_of_cell? w _ hw200_1)).trans hw200_1)⟩ (fun hHeld => ?_); refine with_tabW impl_GoodClip.tab14 impl_GoodClip.bits14 (fun HT_ HW_ => ?_)
                   generalize wc.drew = w82 at BK188 BK197 HB hx200_0 hx200_1 hHeld ⊢
                   refine pS_ 0 81 HT_ ?_
                   refine pS_ 1 82 HT_ ?_
                   refine pS_ 2 83 HT_ ?_
                   refine pS_ 3 84 HT_ ?_
                   refine pS_ 5 86 HT_ ?_
                   refine pS_ 6 87 HT_ ?_
                   refine pS_ 10 91 HT_ ?_
                   refine tS_ 4 85 HT_ HW_ hHeld ?_
                   refine pS_ 7 88 HT_ ?_
                   refine pS_ 8 89 HT_ ?_
                   refine tS_ 9 90 HT_ HW_ hHeld ?_
                   refine tS_ 11 92 HT_ HW_ hHeld ?_
                   refine pS_ 12 93 HT_ ?_
                   refine pS_ 13 94 HT_ ?_
                   refine pU_ 14 95 HT_ ?_
                   refine pU_ 15 96 HT_ ?_
                   refine pU_ 16 97 HT_ ?_
                   refine pU_ 17 98 HT_ ?_
                   refine pU_ 18 99 HT_ ?_
                   refine pU_ 19 100 HT_ ?_
                   refine pU_ 20 101 HT_ ?_
                   refine pU_ 21 102 HT_ ?_
                   refine pU_ 22 103 HT_ ?_
                   refine pU_ 23 104 HT_ ?_
                   refine pU_ 24 105 HT_ ?_
                   refine pU_ 25 106 HT_ ?_
                   refine pU_ 26 107 HT_ ?_
                   refine pU_ 27 108 HT_ ?_
                   refine pU_ 28 109 HT_ ?_
                   refine pU_ 29 110 HT_ ?_
                   refine pU_ 30 111 HT_ ?_
                   refine pU_ 31 112 HT_ ?_
                   refine pU_ 32 113 HT_ ?_
                   refine pU_ 33 114 HT_ ?_
                   refine pU_ 34 115 HT_ ?_
                   refine pU_ 35 116 HT_ ?_
                   refine pS_ 36 117 HT_ ?_
                   refine pS_ 37 118 HT_ ?_
                   refine done_ (done_of HT_.out (by kernel_rfl)) ?_
                   try go_wp2
                   go_ret
                   exact ⟨by first | rfl | (simp [errW_none, errW_some] <;> rfl) | (simp only [← hji78]; first | rfl | (simp [errW_none, errW_some] <;> rfl)) | (simp [*, errW_none, errW_some] <;> rfl), bw_ HB.out⟩
                  ·rw [if_neg c81] at H
                   have c81b0 : decide (((rd_T44 l0_2 x63_3).f0) < ((rd_T44 l0_2 (ji78)).f0)) = false := decide_eq_false c81
                   clear c81
                   by_cases c83 : ((rd_T44 l0_2 (ji78)).f0) = ((rd_T44 l0_2 x63_3).f0)
                   ·rw [if_pos c83] at H
                    have c83b0 : (((rd_T44 l0_2 (ji78)).f0) == ((rd_T44 l0_2 x63_3).f0)) = true := beq_iff_eq.mpr c83
                    have c83b1 : (((rd_T44 l0_2 (ji78)).f0) != ((rd_T44 l0_2 x63_3).f0)) = false := bne_eq_false_iff_eq.mpr c83
                    clear c83
                    by_cases c84 : ((Op.bytesLess (((rd_T44 l0_2 (ji78)).f1).toList) ((rd_T44 l0_2 x63_3).f1).toList) = true)
                    ·rw [if_pos c84] at H
                     have c84b0 : (Op.bytesLess (((rd_T44 l0_2 (ji78)).f1).toList) ((rd_T44 l0_2 x63_3).f1).toList) = true := c84
                     clear c84
                     have H' := Aside0.mk H
                     clear H
                     try go_wp2
                     have n0_ := Aside0.mk (blk_drew BK188.out)
                     have n1_ := Aside0.mk (blk_drew BK197.out)
                     have n2_ := Aside0.mk (below_drew1 HB.out)
                     clear BK188
                     clear BK197
                     clear HB
                     have BK188 := n0_
                     have BK197 := n1_
                     have HB := n2_
                     clear n0_ n1_ n2_
                     have p200 : 0 ≤ ((ji78) : Int) := of_decide_eq_true (by first | (with_reducible assumption) | assumption)
                     have q200 : (ji78) < (l0_2.length : Int) := of_decide_eq_true (by first | (with_reducible assumption) | assumption)
                     obtain ⟨ad200, e200, hx200_0, hx200_1⟩ := at_T44 HR0_2.out (ji78) p200 q200
                     have hw200_1 := hx200_1
                     have hw200_0 := hx200_0
                     obtain rfl : ad196 = ad200 := (by injection e200)
                     (try replace hx200_0 := (HB.out.cell (World.block_lt_of_cell? w _ hx200_0)).trans hx200_0)
                     (try replace hx200_1 := (HB.out.cell (World.block_lt_of_cell? w _ hx200_1)).trans hx200_1)
                     replace p200 := eq_true p200
                     replace q200 := eq_true q200
                     have p201 : 0 ≤ ((ji78) : Int) := of_decide_eq_true (by first | (with_reducible assumption) | assumption)
                     have q201 : (ji78) < (l0_2.length : Int) := of_decide_eq_true (by first | (with_reducible assumption) | assumption)
                     obtain ⟨ad201, e201, hx201_0, hx201_1⟩ := at_T44 HR0_2.out (ji78) p201 q201
                     have hw201_1 := hx201_1
                     have hw201_0 := hx201_0
                     obtain rfl : ad196 = ad201 := (by injection e201)
                     (try replace hx201_0 := (HB.out.cell (World.block_lt_of_cell? w _ hx201_0)).trans hx201_0)
                     (try replace hx201_1 := (HB.out.cell (World.block_lt_of_cell? w _ hx201_1)).trans hx201_1)
                     replace p201 := eq_true p201
                     replace q201 := eq_true q201
                     have p202 : 0 ≤ ((ji78) : Int) := of_decide_eq_true (by first | (with_reducible assumption) | assumption)
                     have q202 : (ji78) < (l0_2.length : Int) := of_decide_eq_true (by first | (with_reducible assumption) | assumption)
                     obtain ⟨ad202, e202, hx202_0, hx202_1⟩ := at_T44 HR0_2.out (ji78) p202 q202
                     have hw202_1 := hx202_1
                     have hw202_0 := hx202_0
                     obtain rfl : ad196 = ad202 := (by injection e202)
                     (try replace hx202_0 := (HB.out.cell (World.block_lt_of_cell? w _ hx202_0)).trans hx202_0)
                     (try replace hx202_1 := (HB.out.cell (World.block_lt_of_cell? w _ hx202_1)).trans hx202_1)
                     replace p202 := eq_true p202
                     replace q202 := eq_true q202
                     refine start_ (n := 38) (S := fun w' => w'.cell? ⟨gb188, 0, none⟩ = some (.int .i64 a0_0) ∧ w'.cell? ⟨gb188, 1, none⟩ = some (.slice A0_1 l0_1.length c0_1) ∧ w'.cell? ⟨gb188, 2, none⟩ = some (.slice (some ad196) l0_2.length c0_2) ∧ w'.cell? ⟨gb197, 0, none⟩ = some (.int .i64 ((rd_T44 l0_2 x63_3).f0)) ∧ w'.cell? ⟨gb197, 1, none⟩ = some (.string ((rd_T44 l0_2 x63_3).f1)) ∧ w'.cell? (ad196.add (((ji78)).toNat * 2)) = some (.int .i64 ((rd_T44 l0_2 (ji78)).f0)) ∧ w'.cell? ⟨(ad196.add (((ji78)).toNat * 2)).block, (ad196.add (((ji78)).toNat * 2)).off + 1, none⟩ = some (.string ((rd_T44 l0_2 (ji78)).f1)) ∧ w'.cell? (ad196.add (((ji78)).toNat * 2)) = some (.int .i64 ((rd_T44 l0_2 (ji78)).f0)) ∧ w'.cell? ⟨(ad196.add (((ji78)).toNat * 2)).block, (ad196.add (((ji78)).toNat * 2)).off + 1, none⟩ = some (.string ((rd_T44 l0_2 (ji78)).f1)) ∧ w'.cell? (ad196.add (((ji78)).toNat * 2)) = some (.int .i64 ((rd_T44 l0_2 (ji78)).f0)) ∧ w'.cell? ⟨(ad196.add (((ji78)).toNat * 2)).block, (ad196.add (((ji78)).toNat * 2)).off + 1, none⟩ = some (.string ((rd_T44 l0_2 (ji78)).f1))) (ds := []) (Array.replicate 38 false) (by kernel_rfl) rfl rfl ⟨(blk_cell BK188.out 0).trans rfl, (blk_cell BK188.out 1).trans rfl, (blk_cell BK188.out 2).trans rfl, (blk_cell BK197.out 0).trans rfl, (blk_cell BK197.out 1).trans rfl, ((HB.out.cell (World.block_lt_of_cell? w _ hw200_0)).trans hw200_0), ((HB.out.cell (World.block_lt_of_cell? w _ hw200_1)).trans hw200_1), ((HB.out.cell (World.block_lt_of_cell? w _ hw201_0)).trans hw201_0), ((HB.out.cell (World.block_lt_of_cell? w _ hw201_1)).trans hw201_1), ((HB.out.cell (World.block_lt_of_cell? w _ hw202_0)).trans hw202_0), ((HB.out.cell (World.block_lt_of_cell? w _ hw202_1)).trans hw202_1)⟩ (fun hHeld => ?_); refine with_tabW impl_GoodClip.tab14 impl_GoodClip.bits14 (fun HT_ HW_ => ?_)
                     generalize wc.drew = w85 at BK188 BK197 HB hx200_0 hx200_1 hx201_0 hx201_1 hx202_0 hx202_1 hHeld ⊢
                     refine pS_ 0 81 HT_ ?_
                     refine pS_ 1 82 HT_ ?_
                     refine pS_ 2 83 HT_ ?_
                     refine pS_ 3 84 HT_ ?_
                     refine pS_ 5 86 HT_ ?_
                     refine pS_ 6 87 HT_ ?_
                     refine pS_ 10 91 HT_ ?_
                     refine tS_ 4 85 HT_ HW_ hHeld ?_
                     refine pS_ 7 88 HT_ ?_
                     refine pS_ 8 89 HT_ ?_
                     refine tS_ 9 90 HT_ HW_ hHeld ?_
                     refine tS_ 11 92 HT_ HW_ hHeld ?_
                     refine pS_ 12 93 HT_ ?_
                     refine pS_ 13 94 HT_ ?_
                     refine pS_ 14 95 HT_ ?_
                     refine pS_ 16 97 HT_ ?_
                     refine pS_ 17 98 HT_ ?_
                     refine pS_ 21 102 HT_ ?_
                     refine tS_ 15 96 HT_ HW_ hHeld ?_
                     refine pS_ 18 99 HT_ ?_
                     refine pS_ 19 100 HT_ ?_
                     refine tS_ 20 101 HT_ HW_ hHeld ?_
                     refine tS_ 22 103 HT_ HW_ hHeld ?_
                     refine pS_ 23 104 HT_ ?_
                     refine pS_ 24 105 HT_ ?_
                     refine pS_ 25 106 HT_ ?_
                     refine pS_ 27 108 HT_ ?_
                     refine pS_ 28 109 HT_ ?_
                     refine pS_ 32 113 HT_ ?_
                     refine tS_ 26 107 HT_ HW_ hHeld ?_
                     refine pS_ 29 110 HT_ ?_
                     refine pS_ 30 111 HT_ ?_
                     refine tS_ 31 112 HT_ HW_ hHeld ?_
                     refine tS_ 33 114 HT_ HW_ hHeld ?_
                     refine pS_ 34 115 HT_ ?_
                     refine pS_ 35 116 HT_ ?_
                     refine pS_ 36 117 HT_ ?_
                     refine pS_ 37 118 HT_ ?_
                     refine done_ (done_of HT_.out (by kernel_rfl)) ?_
                     try go_wp2
                     go_roundg kj63
                     case measure => have := HJ1.out; have := HK2.out; have := HK3.out; have := HJ63.out; omega
                     case rel => exact ⟨(wrap64 (x63_3 + 1)), (by first | rfl | (simp; done) | (simp [*]; done) | (simp [wrap64]; done)), H', ⟨by have := HJ1.out; have := HK2.out; have := HK3.out; have := HJ63.out; omega⟩, ⟨by (with_reducible repeat (first | refine blk_drewN ?_ _ | refine blk_drew ?_ | refine blk_alloc ?_ _)); exact BK188.out⟩, ⟨bw_ HB.out⟩⟩
                    ·rw [if_neg c84] at H
                     have c84b0 : (Op.bytesLess (((rd_T44 l0_2 (ji78)).f1).toList) ((rd_T44 l0_2 x63_3).f1).toList) = false := by simpa using c84
                     clear c84
                     obtain rfl := Option.some.inj H
                     try go_wp2
                     have n0_ := Aside0.mk (blk_drew BK188.out)
                     have n1_ := Aside0.mk (blk_drew BK197.out)
                     have n2_ := Aside0.mk (below_drew1 HB.out)
                     clear BK188
                     clear BK197
                     clear HB
                     have BK188 := n0_
                     have BK197 := n1_
                     have HB := n2_
                     clear n0_ n1_ n2_
                     have p200 : 0 ≤ ((ji78) : Int) := of_decide_eq_true (by first | (with_reducible assumption) | assumption)
                     have q200 : (ji78) < (l0_2.length : Int) := of_decide_eq_true (by first | (with_reducible assumption) | assumption)
                     obtain ⟨ad200, e200, hx200_0, hx200_1⟩ := at_T44 HR0_2.out (ji78) p200 q200
                     have hw200_1 := hx200_1
                     have hw200_0 := hx200_0
                     obtain rfl : ad196 = ad200 := (by injection e200)
                     (try replace hx200_0 := (HB.out.cell (World.block_lt_of_cell? w _ hx200_0)).trans hx200_0)
                     (try replace hx200_1 := (HB.out.cell (World.block_lt_of_cell? w _ hx200_1)).trans hx200_1)
                     replace p200 := eq_true p200
                     replace q200 := eq_true q200
                     have p201 : 0 ≤ ((ji78) : Int) := of_decide_eq_true (by first | (with_reducible assumption) | assumption)
                     have q201 : (ji78) < (l0_2.length : Int) := of_decide_eq_true (by first | (with_reducible assumption) | assumption)
                     obtain ⟨ad201, e201, hx201_0, hx201_1⟩ := at_T44 HR0_2.out (ji78) p201 q201
                     have hw201_1 := hx201_1
                     have hw201_0 := hx201_0
                     obtain rfl : ad196 = ad201 := (by injection e201)
                     (try replace hx201_0 := (HB.out.cell (World.block_lt_of_cell? w _ hx201_0)).trans hx201_0)
                     (try replace hx201_1 := (HB.out.cell (World.block_lt_of_cell? w _ hx201_1)).trans hx201_1)
                     replace p201 := eq_true p201
                     replace q201 := eq_true q201
                     have p202 : 0 ≤ ((ji78) : Int) := of_decide_eq_true (by first | (with_reducible assumption) | assumption)
                     have q202 : (ji78) < (l0_2.length : Int) := of_decide_eq_true (by first | (with_reducible assumption) | assumption)
                     obtain ⟨ad202, e202, hx202_0, hx202_1⟩ := at_T44 HR0_2.out (ji78) p202 q202
                     have hw202_1 := hx202_1
                     have hw202_0 := hx202_0
                     obtain rfl : ad196 = ad202 := (by injection e202)
                     (try replace hx202_0 := (HB.out.cell (World.block_lt_of_cell? w _ hx202_0)).trans hx202_0)
                     (try replace hx202_1 := (HB.out.cell (World.block_lt_of_cell? w _ hx202_1)).trans hx202_1)
                     replace p202 := eq_true p202
                     replace q202 := eq_true q202
                     refine start_ (n := 38) (S := fun w' => w'.cell? ⟨gb188, 0, none⟩ = some (.int .i64 a0_0) ∧ w'.cell? ⟨gb188, 1, none⟩ = some (.slice A0_1 l0_1.length c0_1) ∧ w'.cell? ⟨gb188, 2, none⟩ = some (.slice (some ad196) l0_2.length c0_2) ∧ w'.cell? ⟨gb197, 0, none⟩ = some (.int .i64 ((rd_T44 l0_2 x63_3).f0)) ∧ w'.cell? ⟨gb197, 1, none⟩ = some (.string ((rd_T44 l0_2 x63_3).f1)) ∧ w'.cell? (ad196.add (((ji78)).toNat * 2)) = some (.int .i64 ((rd_T44 l0_2 (ji78)).f0)) ∧ w'.cell? ⟨(ad196.add (((ji78)).toNat * 2)).block, (ad196.add (((ji78)).toNat * 2)).off + 1, none⟩ = some (.string ((rd_T44 l0_2 (ji78)).f1)) ∧ w'.cell? (ad196.add (((ji78)).toNat * 2)) = some (.int .i64 ((rd_T44 l0_2 (ji78)).f0)) ∧ w'.cell? ⟨(ad196.add (((ji78)).toNat * 2)).block, (ad196.add (((ji78)).toNat * 2)).off + 1, none⟩ = some (.string ((rd_T44 l0_2 (ji78)).f1)) ∧ w'.cell? (ad196.add (((ji78)).toNat * 2)) = some (.int .i64 ((rd_T44 l0_2 (ji78)).f0)) ∧ w'.cell? ⟨(ad196.add (((ji78)).toNat * 2)).block, (ad196.add (((ji78)).toNat * 2)).off + 1, none⟩ = some (.string ((rd_T44 l0_2 (ji78)).f1))) (ds := []) (Array.replicate 38 false) (by kernel_rfl) rfl rfl ⟨(blk_cell BK188.out 0).trans rfl, (blk_cell BK188.out 1).trans rfl, (blk_cell BK188.out 2).trans rfl, (blk_cell BK197.out 0).trans rfl, (blk_cell BK197.out 1).trans rfl, ((HB.out.cell (World.block_lt_of_cell? w _ hw200_0)).trans hw200_0), ((HB.out.cell (World.block_lt_of_cell? w _ hw200_1)).trans hw200_1), ((HB.out.cell (World.block_lt_of_cell? w _ hw201_0)).trans hw201_0), ((HB.out.cell (World.block_lt_of_cell? w _ hw201_1)).trans hw201_1), ((HB.out.cell (World.block_lt_of_cell? w _ hw202_0)).trans hw202_0), ((HB.out.cell (World.block_lt_of_cell? w _ hw202_1)).trans hw202_1)⟩ (fun hHeld => ?_); refine with_tabW impl_GoodClip.tab14 impl_GoodClip.bits14 (fun HT_ HW_ => ?_)
                     generalize wc.drew = w86 at BK188 BK197 HB hx200_0 hx200_1 hx201_0 hx201_1 hx202_0 hx202_1 hHeld ⊢
                     refine pS_ 0 81 HT_ ?_
                     refine pS_ 1 82 HT_ ?_
                     refine pS_ 2 83 HT_ ?_
                     refine pS_ 3 84 HT_ ?_
                     refine pS_ 5 86 HT_ ?_
                     refine pS_ 6 87 HT_ ?_
                     refine pS_ 10 91 HT_ ?_
                     refine tS_ 4 85 HT_ HW_ hHeld ?_
                     refine pS_ 7 88 HT_ ?_
                     refine pS_ 8 89 HT_ ?_
                     refine tS_ 9 90 HT_ HW_ hHeld ?_
                     refine tS_ 11 92 HT_ HW_ hHeld ?_
                     refine pS_ 12 93 HT_ ?_
                     refine pS_ 13 94 HT_ ?_
                     refine pS_ 14 95 HT_ ?_
                     refine pS_ 16 97 HT_ ?_
                     refine pS_ 17 98 HT_ ?_
                     refine pS_ 21 102 HT_ ?_
                     refine tS_ 15 96 HT_ HW_ hHeld ?_
                     refine pS_ 18 99 HT_ ?_
                     refine pS_ 19 100 HT_ ?_
                     refine tS_ 20 101 HT_ HW_ hHeld ?_
                     refine tS_ 22 103 HT_ HW_ hHeld ?_
                     refine pS_ 23 104 HT_ ?_
                     refine pS_ 24 105 HT_ ?_
                     refine pS_ 25 106 HT_ ?_
                     refine pS_ 27 108 HT_ ?_
                     refine pS_ 28 109 HT_ ?_
                     refine pS_ 32 113 HT_ ?_
                     refine tS_ 26 107 HT_ HW_ hHeld ?_
                     refine pS_ 29 110 HT_ ?_
                     refine pS_ 30 111 HT_ ?_
                     refine tS_ 31 112 HT_ HW_ hHeld ?_
                     refine tS_ 33 114 HT_ HW_ hHeld ?_
                     refine pS_ 34 115 HT_ ?_
                     refine pS_ 35 116 HT_ ?_
                     refine pS_ 36 117 HT_ ?_
                     refine pS_ 37 118 HT_ ?_
                     refine done_ (done_of HT_.out (by kernel_rfl)) ?_
                     try go_wp2
                     go_ret
                     exact ⟨by first | rfl | (simp [errW_none, errW_some] <;> rfl) | (simp only [← hji78]; first | rfl | (simp [errW_none, errW_some] <;> rfl)) | (simp [*, errW_none, errW_some] <;> rfl), bw_ HB.out⟩
                   ·rw [if_neg c83] at H
                    have c83b0 : (((rd_T44 l0_2 (ji78)).f0) == ((rd_T44 l0_2 x63_3).f0)) = false := beq_eq_false_iff_ne.mpr c83
                    have c83b1 : (((rd_T44 l0_2 (ji78)).f0) != ((rd_T44 l0_2 x63_3).f0)) = true := bne_iff_ne.mpr c83
                    have H' := Aside0.mk H
                    clear H
                    try go_wp2
                    have n0_ := Aside0.mk (blk_drew BK188.out)
                    have n1_ := Aside0.mk (blk_drew BK197.out)
                    have n2_ := Aside0.mk (below_drew1 HB.out)
                    clear BK188
                    clear BK197
                    clear HB
                    have BK188 := n0_
                    have BK197 := n1_
                    have HB := n2_
                    clear n0_ n1_ n2_
                    have p200 : 0 ≤ ((ji78) : Int) := of_decide_eq_true (by first | (with_reducible assumption) | assumption)
                    have q200 : (ji78) < (l0_2.length : Int) := of_decide_eq_true (by first | (with_reducible assumption) | assumption)
                    obtain ⟨ad200, e200, hx200_0, hx200_1⟩ := at_T44 HR0_2.out (ji78) p200 q200
                    have hw200_1 := hx200_1
                    have hw200_0 := hx200_0
                    obtain rfl : ad196 = ad200 := (by injection e200)
                    (try replace hx200_0 := (HB.out.cell (World.block_lt_of_cell? w _ hx200_0)).trans hx200_0)
                    (try replace hx200_1 := (HB.out.cell (World.block_lt_of_cell? w _ hx200_1)).trans hx200_1)
                    replace p200 := eq_true p200
                    replace q200 := eq_true q200
                    have p201 : 0 ≤ ((ji78) : Int) := of_decide_eq_true (by first | (with_reducible assumption) | assumption)
                    have q201 : (ji78) < (l0_2.length : Int) := of_decide_eq_true (by first | (with_reducible assumption) | assumption)
                    obtain ⟨ad201, e201, hx201_0, hx201_1⟩ := at_T44 HR0_2.out (ji78) p201 q201
                    have hw201_1 := hx201_1
                    have hw201_0 := hx201_0
                    obtain rfl : ad196 = ad201 := (by injection e201)
                    (try replace hx201_0 := (HB.out.cell (World.block_lt_of_cell? w _ hx201_0)).trans hx201_0)
                    (try replace hx201_1 := (HB.out.cell (World.block_lt_of_cell? w _ hx201_1)).trans hx201_1)
                    replace p201 := eq_true p201
                    replace q201 := eq_true q201
                    refine start_ (n := 38) (S := fun w' => w'.cell? ⟨gb188, 0, none⟩ = some (.int .i64 a0_0) ∧ w'.cell? ⟨gb188, 1, none⟩ = some (.slice A0_1 l0_1.length c0_1) ∧ w'.cell? ⟨gb188, 2, none⟩ = some (.slice (some ad196) l0_2.length c0_2) ∧ w'.cell? ⟨gb197, 0, none⟩ = some (.int .i64 ((rd_T44 l0_2 x63_3).f0)) ∧ w'.cell? ⟨gb197, 1, none⟩ = some (.string ((rd_T44 l0_2 x63_3).f1)) ∧ w'.cell? (ad196.add (((ji78)).toNat * 2)) = some (.int .i64 ((rd_T44 l0_2 (ji78)).f0)) ∧ w'.cell? ⟨(ad196.add (((ji78)).toNat * 2)).block, (ad196.add (((ji78)).toNat * 2)).off + 1, none⟩ = some (.string ((rd_T44 l0_2 (ji78)).f1)) ∧ w'.cell? (ad196.add (((ji78)).toNat * 2)) = some (.int .i64 ((rd_T44 l0_2 (ji78)).f0)) ∧ w'.cell? ⟨(ad196.add (((ji78)).toNat * 2)).block, (ad196.add (((ji78)).toNat * 2)).off + 1, none⟩ = some (.string ((rd_T44 l0_2 (ji78)).f1))) (ds := []) (Array.replicate 38 false) (by kernel_rfl) rfl rfl ⟨(blk_cell BK188.out 0).trans rfl, (blk_cell BK188.out 1).trans rfl, (blk_cell BK188.out 2).trans rfl, (blk_cell BK197.out 0).trans rfl, (blk_cell BK197.out 1).trans rfl, ((HB.out.cell (World.block_lt_of_cell? w _ hw200_0)).trans hw200_0), ((HB.out.cell (World.block_lt_of_cell? w _ hw200_1)).trans hw200_1), ((HB.out.cell (World.block_lt_of_cell? w _ hw201_0)).trans hw201_0), ((HB.out.cell (World.block_lt_of_cell? w _ hw201_1)).trans hw201_1)⟩ (fun hHeld => ?_); refine with_tabW impl_GoodClip.tab14 impl_GoodClip.bits14 (fun HT_ HW_ => ?_)
                    generalize wc.drew = w87 at BK188 BK197 HB hx200_0 hx200_1 hx201_0 hx201_1 hHeld ⊢
                    refine pS_ 0 81 HT_ ?_
                    refine pS_ 1 82 HT_ ?_
                    refine pS_ 2 83 HT_ ?_
                    refine pS_ 3 84 HT_ ?_
                    refine pS_ 5 86 HT_ ?_
                    refine pS_ 6 87 HT_ ?_
                    refine pS_ 10 91 HT_ ?_
                    refine tS_ 4 85 HT_ HW_ hHeld ?_
                    refine pS_ 7 88 HT_ ?_
                    refine pS_ 8 89 HT_ ?_
                    refine tS_ 9 90 HT_ HW_ hHeld ?_
                    refine tS_ 11 92 HT_ HW_ hHeld ?_
                    refine pS_ 12 93 HT_ ?_
                    refine pS_ 13 94 HT_ ?_
                    refine pS_ 14 95 HT_ ?_
                    refine pS_ 16 97 HT_ ?_
                    refine pS_ 17 98 HT_ ?_
                    refine pS_ 21 102 HT_ ?_
                    refine tS_ 15 96 HT_ HW_ hHeld ?_
                    refine pS_ 18 99 HT_ ?_
                    refine pS_ 19 100 HT_ ?_
                    refine tS_ 20 101 HT_ HW_ hHeld ?_
                    refine tS_ 22 103 HT_ HW_ hHeld ?_
                    refine pS_ 23 104 HT_ ?_
                    refine pS_ 24 105 HT_ ?_
                    refine pU_ 25 106 HT_ ?_
                    refine pU_ 26 107 HT_ ?_
                    refine pU_ 27 108 HT_ ?_
                    refine pU_ 28 109 HT_ ?_
                    refine pU_ 29 110 HT_ ?_
                    refine pU_ 30 111 HT_ ?_
                    refine pU_ 31 112 HT_ ?_
                    refine pU_ 32 113 HT_ ?_
                    refine pU_ 33 114 HT_ ?_
                    refine pU_ 34 115 HT_ ?_
                    refine pS_ 35 116 HT_ ?_
                    refine pS_ 36 117 HT_ ?_
                    refine pS_ 37 118 HT_ ?_
                    refine done_ (done_of HT_.out (by kernel_rfl)) ?_
                    try go_wp2
                    go_roundg kj63
                    case measure => have := HJ1.out; have := HK2.out; have := HK3.out; have := HJ63.out; omega
                    case rel => exact ⟨(wrap64 (x63_3 + 1)), (by first | rfl | (simp; done) | (simp [*]; done) | (simp [wrap64]; done)), H', ⟨by have := HJ1.out; have := HK2.out; have := HK3.out; have := HJ63.out; omega⟩, ⟨by (with_reducible repeat (first | refine blk_drewN ?_ _ | refine blk_drew ?_ | refine blk_alloc ?_ _)); exact BK188.out⟩, ⟨bw_ HB.out⟩⟩
                 ·rw [if_neg c80] at H
                  exact absurd H (by simp)
                ·rw [if_neg c79] at H
                 exact absurd H (by simp)
               ·rw [if_neg c77] at H
                have c77b0 : decide (0 < x63_3) = false := decide_eq_false c77
                clear c77
                have H' := Aside0.mk H
                clear H
                try go_wp2
                have n0_ := Aside0.mk (blk_drew BK188.out)
                have n1_ := Aside0.mk (blk_drew BK197.out)
                have n2_ := Aside0.mk (below_drew1 HB.out)
                clear BK188
                clear BK197
                clear HB
                have BK188 := n0_
                have BK197 := n1_
                have HB := n2_
                clear n0_ n1_ n2_
                refine start_ (n := 38) (S := fun w' => True) (ds := []) (Array.replicate 38 false) (by kernel_rfl) rfl rfl trivial (fun hHeld => ?_); refine with_tabW impl_GoodClip.tab14 impl_GoodClip.bits14 (fun HT_ HW_ => ?_)
                generalize wc.drew = w88 at BK188 BK197 HB hHeld ⊢
                refine pS_ 0 81 HT_ ?_
                refine pS_ 1 82 HT_ ?_
                refine pS_ 2 83 HT_ ?_
                refine pU_ 3 84 HT_ ?_
                refine pU_ 4 85 HT_ ?_
                refine pU_ 5 86 HT_ ?_
                refine pU_ 6 87 HT_ ?_
                refine pU_ 7 88 HT_ ?_
                refine pU_ 8 89 HT_ ?_
                refine pU_ 9 90 HT_ ?_
                refine pU_ 10 91 HT_ ?_
                refine pU_ 11 92 HT_ ?_
                refine pU_ 12 93 HT_ ?_
                refine pU_ 13 94 HT_ ?_
                refine pU_ 14 95 HT_ ?_
                refine pU_ 15 96 HT_ ?_
                refine pU_ 16 97 HT_ ?_
                refine pU_ 17 98 HT_ ?_
                refine pU_ 18 99 HT_ ?_
                refine pU_ 19 100 HT_ ?_
                refine pU_ 20 101 HT_ ?_
                refine pU_ 21 102 HT_ ?_
                refine pU_ 22 103 HT_ ?_
                refine pU_ 23 104 HT_ ?_
                refine pU_ 24 105 HT_ ?_
                refine pU_ 25 106 HT_ ?_
                refine pU_ 26 107 HT_ ?_
                refine pU_ 27 108 HT_ ?_
                refine pU_ 28 109 HT_ ?_
                refine pU_ 29 110 HT_ ?_
                refine pU_ 30 111 HT_ ?_
                refine pU_ 31 112 HT_ ?_
                refine pU_ 32 113 HT_ ?_
                refine pU_ 33 114 HT_ ?_
                refine pU_ 34 115 HT_ ?_
                refine pU_ 35 116 HT_ ?_
                refine pU_ 36 117 HT_ ?_
                refine pS_ 37 118 HT_ ?_
                refine done_ (done_of HT_.out (by kernel_rfl)) ?_
                try go_wp2
                go_roundg kj63
                case measure => have := HJ1.out; have := HK2.out; have := HK3.out; have := HJ63.out; omega
                case rel => exact ⟨(wrap64 (x63_3 + 1)), (by first | rfl | (simp; done) | (simp [*]; done) | (simp [wrap64]; done)), H', ⟨by have := HJ1.out; have := HK2.out; have := HK3.out; have := HJ63.out; omega⟩, ⟨by (with_reducible repeat (first | refine blk_drewN ?_ _ | refine blk_drew ?_ | refine blk_alloc ?_ _)); exact BK188.out⟩, ⟨bw_ HB.out⟩⟩
           ·rw [if_neg c63] at H
            exact absurd H (by simp)
          ·rw [if_neg c62] at H
           exact absurd H (by simp)
         ·rw [if_neg c61] at H
          have c61b0 : decide (x63_3 < (l0_2.length : Int)) = false := decide_eq_false c61
          clear c61
          obtain rfl := Option.some.inj H
          go_wp2
          go_ret
          exact ⟨by first | rfl | (simp [errW_none, errW_some] <;> rfl) | (simp [*, errW_none, errW_some] <;> rfl), bw_ HB.out⟩

end Go.Proofs.Ytkbnjkflgjdkaaa.XFnExactGoodClip
