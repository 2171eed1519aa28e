/- What the Go functions that this law comes to compute, each walked; written by a program of this session. -/
import Derived.Test.YtblmejanjhmjdaaXMark
import Derived.Test.YtblmejanjhmjdaaXFnExactMayStandx0
import Derived.Test.YtblmejanjhmjdaaXFnExactMayStandx1
import Derived.Test.YtblmejanjhmjdaaXFnExactMayStandx3
import Derived.Test.YtblmejanjhmjdaaXFnExactMayStandx4
namespace Go.Proofs.Ytblmejanjhmjdaa.XFnExactMayStand
open Go.RowKit Go.Proofs.YtblmejanjhmjdaaW.PrintWords Go.Proofs.YtblmejanjhmjdaaW.PrintLast Go.Proofs.YtblmejanjhmjdaaW.PrintMore
attribute [local go_sem] str_geq max2_int min2_int max_two min_two max_three min_three max_four min_four   -- for this text's walks alone
set_option linter.unusedVariables false
set_option linter.unusedSimpArgs false

/-! ### spec_MayStand: function 7 -/
mutual
def spec_MayStand.j0 : Nat → Int → Bool → Int → List (List Int) → List (List Int) → Int → Int → List Int → Option (List Int × Bool)
 | 0, _, _, _, _, _, _, _, _ => none
 | k + 1, x2, x22, x143000, x143001, x143002, x144000, x144001, x144002 => if x22 = true then (some (([] : List Int), false)) else (spec_MayStand.l0 k x2 ([] : List Int) 0 x143000 x143001 x143002 x144000 x144001 x144002)
def spec_MayStand.l0 : Nat → Int → List Int → Int → Int → List (List Int) → List (List Int) → Int → Int → List Int → Option (List Int × Bool)
 | 0, _, _, _, _, _, _, _, _, _ => none
 | k + 1, x2, x8, x9, x143000, x143001, x143002, x144000, x144001, x144002 => if x9 < x143000 then ((spec_l14Fits.f k x143000 x143001 x143002 x144000 x144001 x144002 x2 x9).bind fun t146 => (if t146 = true then (if x8.length < 17592186044416 then (spec_MayStand.l0 k x2 (x8 ++ [x9]) (wrap64 (x9 + 1)) x143000 x143001 x143002 x144000 x144001 x144002) else (none)) else (spec_MayStand.l0 k x2 x8 (wrap64 (x9 + 1)) x143000 x143001 x143002 x144000 x144001 x144002))) else (some (x8, true))
end
def spec_MayStand.f (k : Nat) (a0_0 : Int) (l0_1 : List (List Int)) (l0_2 : List (List Int)) (a1_0 : Int) (a1_1 : Int) (l1_2 : List Int) (a2 : Int) : Option (List Int × Bool) := (spec_GoodField.f k a0_0 l0_1 l0_2 a1_0 a1_1 l1_2).bind fun t144 => (if t144 = true then ((spec_l1In.f a2 0 (wrap64 ((l1_2.length : Int) - 1))).bind fun t145 => (spec_MayStand.j0 k a2 (!t145) a0_0 l0_1 l0_2 a1_0 a1_1 l1_2)) else (spec_MayStand.j0 k a2 true a0_0 l0_1 l0_2 a1_0 a1_1 l1_2))
theorem spec_MayStand.mono_l : ∀ k, (∀ y0 y1 y2 y3 y4 y5 y6 y7, LeO (spec_MayStand.j0 k y0 y1 y2 y3 y4 y5 y6 y7) (spec_MayStand.j0 (k + 1) y0 y1 y2 y3 y4 y5 y6 y7)) ∧ (∀ y0 y1 y2 y3 y4 y5 y6 y7 y8, LeO (spec_MayStand.l0 k y0 y1 y2 y3 y4 y5 y6 y7 y8) (spec_MayStand.l0 (k + 1) y0 y1 y2 y3 y4 y5 y6 y7 y8))
 | 0 => ⟨fun _ _ _ _ _ _ _ _ r h => by simp [spec_MayStand.j0] at h, fun _ _ _ _ _ _ _ _ _ r h => by simp [spec_MayStand.l0] at h⟩
 | k + 1 => by
  obtain ⟨ih0, ih1⟩ := spec_MayStand.mono_l k
  refine ⟨?_, ?_⟩
  ·intro y0 y1 y2 y3 y4 y5 y6 y7
   unfold spec_MayStand.j0
   repeat' first
   | (with_reducible exact ih0 _ _ _ _ _ _ _ _)
   | (with_reducible exact ih1 _ _ _ _ _ _ _ _ _)
   | (with_reducible exact spec_GoodField.mono _ _ _ _ _ _ _)
   | (with_reducible exact spec_l14Fits.mono _ _ _ _ _ _ _ _ _)
   | (with_reducible exact LeO.refl _)
   | (with_reducible exact LeO.none _)
   | (with_reducible refine LeO.ite ?_ ?_)
   | (with_reducible refine LeO.bind ?_ (fun _ => ?_))
   | exact ih0 _ _ _ _ _ _ _ _
   | exact ih1 _ _ _ _ _ _ _ _ _
   | exact spec_GoodField.mono _ _ _ _ _ _ _
   | exact spec_l14Fits.mono _ _ _ _ _ _ _ _ _
   | exact LeO.none _
   | refine LeO.ite ?_ ?_
   | refine LeO.bind ?_ (fun _ => ?_)
  ·intro y0 y1 y2 y3 y4 y5 y6 y7 y8
   unfold spec_MayStand.l0
   repeat' first
   | (with_reducible exact ih0 _ _ _ _ _ _ _ _)
   | (with_reducible exact ih1 _ _ _ _ _ _ _ _ _)
   | (with_reducible exact spec_GoodField.mono _ _ _ _ _ _ _)
   | (with_reducible exact spec_l14Fits.mono _ _ _ _ _ _ _ _ _)
   | (with_reducible exact LeO.refl _)
   | (with_reducible exact LeO.none _)
   | (with_reducible refine LeO.ite ?_ ?_)
   | (with_reducible refine LeO.bind ?_ (fun _ => ?_))
   | exact ih0 _ _ _ _ _ _ _ _
   | exact ih1 _ _ _ _ _ _ _ _ _
   | exact spec_GoodField.mono _ _ _ _ _ _ _
   | exact spec_l14Fits.mono _ _ _ _ _ _ _ _ _
   | exact LeO.none _
   | refine LeO.ite ?_ ?_
   | refine LeO.bind ?_ (fun _ => ?_)
theorem spec_MayStand.mono : ∀ a0 a1 a2 a3 a4 a5 a6 k, LeO (spec_MayStand.f k a0 a1 a2 a3 a4 a5 a6) (spec_MayStand.f (k + 1) a0 a1 a2 a3 a4 a5 a6) := by
 intro a0 a1 a2 a3 a4 a5 a6 k
 obtain ⟨ih0, ih1⟩ := spec_MayStand.mono_l k
 unfold spec_MayStand.f
 repeat' first
   | (with_reducible exact ih0 _ _ _ _ _ _ _ _)
   | (with_reducible exact ih1 _ _ _ _ _ _ _ _ _)
   | (with_reducible exact spec_GoodField.mono _ _ _ _ _ _ _)
   | (with_reducible exact spec_l14Fits.mono _ _ _ _ _ _ _ _ _)
   | (with_reducible exact LeO.refl _)
   | (with_reducible exact LeO.none _)
   | (with_reducible refine LeO.ite ?_ ?_)
   | (with_reducible refine LeO.bind ?_ (fun _ => ?_))
   | exact ih0 _ _ _ _ _ _ _ _
   | exact ih1 _ _ _ _ _ _ _ _ _
   | exact spec_GoodField.mono _ _ _ _ _ _ _
   | exact spec_l14Fits.mono _ _ _ _ _ _ _ _ _
   | exact LeO.none _
   | refine LeO.ite ?_ ?_
   | refine LeO.bind ?_ (fun _ => ?_)
set_option maxHeartbeats 8000000 in
set_option maxRecDepth 100000 in
theorem spec_MayStand.calls (k : Nat) (a0_0 : Int) (A0_1 : Option Addr) (c0_1 : Nat) (l0_1 : List (List Int)) (A0_2 : Option Addr) (c0_2 : Nat) (l0_2 : List (List Int)) (a1_0 : Int) (a1_1 : Int) (A1_2 : Option Addr) (c1_2 : Nat) (l1_2 : List Int) (a2 : Int) (r1 : List Int) (r2 : Bool) (w : World) (hr0_1 : Kd.C (Kd.slice 3 (Kd.int .i64)) w A0_1 l0_1.length l0_1) (hc0_1 : l0_1.length ≤ c0_1) (hr0_2 : Kd.C (Kd.slice 3 (Kd.int .i64)) w A0_2 l0_2.length l0_2) (hc0_2 : l0_2.length ≤ c0_2) (hr1_2 : Kd.C (Kd.int .i64) w A1_2 l1_2.length l1_2) (hc1_2 : l1_2.length ≤ c1_2) (h : spec_MayStand.f k a0_0 l0_1 l0_2 a1_0 a1_1 l1_2 a2 = some (r1, r2)) :
  Calls Try.prog 7 #[.agg #[.int .i64 a0_0, .slice A0_1 l0_1.length c0_1, .slice A0_2 l0_2.length c0_2], .agg #[.int .i64 a1_0, .int .i64 a1_1, .slice A1_2 l1_2.length c1_2], .int .i64 a2] w fun e w' => ∃ v0_ : Value, e = .returned (.tuple #[v0_, .bool r2]) ∧ Kd.R (Kd.int .i64) 3 w' w.heap.size (fun _ => True) v0_ r1 ∧ Below w.heap.size w w' := by
 have hu32 := Try.underlying32
 have hu34 := Try.underlying34
 have HR0_1 := Aside0.mk hr0_1
 have HC0_1 := Aside0.mk hc0_1
 clear hr0_1 hc0_1
 have HR0_2 := Aside0.mk hr0_2
 have HC0_2 := Aside0.mk hc0_2
 clear hr0_2 hc0_2
 have HR1_2 := Aside0.mk hr1_2
 have HC1_2 := Aside0.mk hc1_2
 clear hr1_2 hc1_2
 have HB := Aside0.mk (Below.refl w.heap.size w)
 have H : ((spec_GoodField.f k a0_0 l0_1 l0_2 a1_0 a1_1 l1_2).bind fun t144 => (if t144 = true then ((spec_l1In.f a2 0 (wrap64 ((l1_2.length : Int) - 1))).bind fun t145 => (spec_MayStand.j0 k a2 (!t145) a0_0 l0_1 l0_2 a1_0 a1_1 l1_2)) else (spec_MayStand.j0 k a2 true a0_0 l0_1 l0_2 a1_0 a1_1 l1_2))) = some (r1, r2) := h
 clear h
 have HC4 := Aside0.mk H
 clear H
 go_enter Try.func7, Try.ntmps7
 go_upto_region 1 with (first | ((with_reducible refine gate_dst (N := 3) rfl ?_); (try (refine gate_guard (by rfl) ?_; dsimp only)); refine bx_ 3 #[.int .i64 a0_0, .slice A0_1 l0_1.length c0_1, .slice A0_2 l0_2.length c0_2] 32 ?_; intro gb142 hg w5 hbox hb; have n0_ := Aside0.mk (below_step (bw_ HB.out) hb); have n1_ := Aside0.mk (hbox); have n2_ := Aside0.mk (gs_ hg (bw_ HB.out)); have n3_ := Aside0.mk (gs_ hg (bw_ HB.out)); clear HB; have HB := n0_; have BK142 := n1_; have GW142 := n2_; have GE142 := n3_; clear n0_ n1_ n2_ n3_; clear hb hbox hg) | ((with_reducible refine gate_dst (N := 4) rfl ?_); (try (refine gate_guard (by rfl) ?_; dsimp only)); refine bx_ 4 #[.int .i64 a1_0, .int .i64 a1_1, .slice A1_2 l1_2.length c1_2] 34 ?_; intro gb143 hg w6 hbox hb; have n0_ := Aside0.mk (blk_below (bk_ BK142.out) hb); have n1_ := Aside0.mk (below_step (bw_ HB.out) hb); have n2_ := Aside0.mk (hbox); have n3_ := Aside0.mk (gs_ hg (bw_ HB.out)); have n4_ := Aside0.mk (gs_ hg (bw_ HB.out)); have n5_ := Aside0.mk (nl_ hg (bk_ BK142.out)); have n6_ := Aside0.mk (ng_ hg (bk_ BK142.out)); clear BK142; clear HB; have BK142 := n0_; have HB := n1_; have BK143 := n2_; have GW143 := n3_; have GE143 := n4_; have NB142_143 := n5_; have NB143_142 := n6_; clear n0_ n1_ n2_ n3_ n4_ n5_ n6_; clear hb hbox hg))
 (try simp only [Act.put, List.setIfInBounds_toArray, List.set_cons_zero, List.set_cons_succ])
 go_cut [22] (fun v22 wc => ∃ (kq : Nat) (x22_3 : Bool), v22 = .bool x22_3 ∧ Aside0 (spec_MayStand.j0 kq a2 x22_3 a0_0 l0_1 l0_2 a1_0 a1_1 l1_2 = some (r1, r2)) ∧ Aside0 (kq ≤ k) ∧ Aside0 (wc.heap[gb142]? = some (.cells #[.int .i64 a0_0, (.slice A0_1 l0_1.length c0_1), (.slice A0_2 l0_2.length c0_2)] 32 (0, 0))) ∧ Aside0 (wc.heap[gb143]? = some (.cells #[.int .i64 a1_0, .int .i64 a1_1, (.slice A1_2 l1_2.length c1_2)] 34 (0, 0))) ∧ Aside0 (Below w.heap.size w wc))
 case first =>
  have H := HC4.out
  clear HC4
  obtain ⟨t144, A70, H⟩ := bE_ H
  have A7 := Aside0.mk A70
  clear A70
  by_cases c8 : t144 = true
  ·subst c8
   replace H := it_ H rfl
   obtain ⟨t145, A90, H⟩ := bE_ H
   have A9 := Aside0.mk A90
   clear A90
   have H' := Aside0.mk H
   clear H
   have hnb10 := NB142_143.out
   have hnc10 := NB143_142.out
   have hcz11_0 := cz_ BK142.out 0
   have hcz11_1 := cz_ BK142.out 1
   have hcz11_2 := cz_ BK142.out 2
   have hfz11_0 := blk_frozen BK142.out 0
   have hfz11_1 := blk_frozen BK142.out 1
   have hfz11_2 := blk_frozen BK142.out 2
   have hcz12_0 := cz_ BK143.out 0
   have hcz12_1 := cz_ BK143.out 1
   have hcz12_2 := cz_ BK143.out 2
   have hfz12_0 := blk_frozen BK143.out 0
   have hfz12_1 := blk_frozen BK143.out 1
   have hfz12_2 := blk_frozen BK143.out 2
   go_wp2_with (first | ((with_reducible refine gate_callee (f := 25) rfl ?_); refine goesL_ (some 12) rfl rfl Try.func25 (by kernel_rfl) rfl #[.agg #[.int .i64 a0_0, .slice A0_1 l0_1.length c0_1, .slice A0_2 l0_2.length c0_2], .agg #[.int .i64 a1_0, .int .i64 a1_1, .slice A1_2 l1_2.length c1_2]] rfl (by (try simp only [List.map_toArray, List.map_cons, List.map_nil]); first | done | rfl | (simp only [List.length_drop, List.length_take]; rfl)) ?_; (with_reducible refine (spec_GoodField.calls k a0_0 _ _ l0_1 _ _ l0_2 a1_0 a1_1 _ _ l1_2 true _ ?side1 ?side2 ?side3 ?side4 ?side5 ?side6 A7.out).mono ?_); (case side1 => repeat (first | exact (Kd.C_below HR0_1.out HB.out) | (with_reducible refine Kd.C_alloc ?_ _) | (with_reducible refine Kd.C_drewN ?_ _) | (with_reducible refine Kd.C_drew ?_))); (case side2 => exact HC0_1.out); (case side3 => repeat (first | exact (Kd.C_below HR0_2.out HB.out) | (with_reducible refine Kd.C_alloc ?_ _) | (with_reducible refine Kd.C_drewN ?_ _) | (with_reducible refine Kd.C_drew ?_))); (case side4 => exact HC0_2.out); (case side5 => repeat (first | exact (Kd.C_below HR1_2.out HB.out) | (with_reducible refine Kd.C_alloc ?_ _) | (with_reducible refine Kd.C_drewN ?_ _) | (with_reducible refine Kd.C_drew ?_))); (case side6 => exact HC1_2.out); rintro e w13 ⟨rfl, hb⟩; refine ⟨_, rfl, ?_⟩; have n0_ := Aside0.mk (blk_below (bk_ BK142.out) hb); have n1_ := Aside0.mk (blk_below (bk_ BK143.out) hb); have n2_ := Aside0.mk (below_step (bw_ HB.out) hb); clear BK142; clear BK143; clear HB; have BK142 := n0_; have BK143 := n1_; have HB := n2_; clear n0_ n1_ n2_; (try clear hb); (try clear hb2); (try clear hk); (try clear hi); have hcz14_0 := cz_ BK143.out 0; have hcz14_1 := cz_ BK143.out 1; have hcz14_2 := cz_ BK143.out 2; have hfz14_0 := blk_frozen BK143.out 0; have hfz14_1 := blk_frozen BK143.out 1; have hfz14_2 := blk_frozen BK143.out 2) | (go_at_call 26; (try simp only [i64_w]); (with_reducible refine (spec_l1In.calls a2 0 (wrap64 ((l1_2.length : Int) - 1)) t145 _ A9.out).mono ?_); rintro e w' ⟨rfl, ⟨nd, rfl⟩⟩))
   go_meet
   case rel => exact ⟨_, (!t145), (by first | rfl | (simp; done) | (simp [*]; done) | (simp [wrap64]; done)), H', ⟨by first | omega | exact Nat.le_refl _⟩, ⟨by (with_reducible repeat (first | refine blk_drewN ?_ _ | refine blk_drew ?_ | refine blk_alloc ?_ _)); exact BK142.out⟩, ⟨by (with_reducible repeat (first | refine blk_drewN ?_ _ | refine blk_drew ?_ | refine blk_alloc ?_ _)); exact BK143.out⟩, ⟨bw_ HB.out⟩⟩
  ·replace c8 := Bool.eq_false_iff.mpr c8
   subst c8
   replace H := if_ H Bool.false_ne_true
   have H' := Aside0.mk H
   clear H
   have hnb15 := NB142_143.out
   have hnc15 := NB143_142.out
   have hcz16_0 := cz_ BK142.out 0
   have hcz16_1 := cz_ BK142.out 1
   have hcz16_2 := cz_ BK142.out 2
   have hfz16_0 := blk_frozen BK142.out 0
   have hfz16_1 := blk_frozen BK142.out 1
   have hfz16_2 := blk_frozen BK142.out 2
   have hcz17_0 := cz_ BK143.out 0
   have hcz17_1 := cz_ BK143.out 1
   have hcz17_2 := cz_ BK143.out 2
   have hfz17_0 := blk_frozen BK143.out 0
   have hfz17_1 := blk_frozen BK143.out 1
   have hfz17_2 := blk_frozen BK143.out 2
   go_wp2_with (first | ((with_reducible refine gate_callee (f := 25) rfl ?_); refine goesL_ (some 12) rfl rfl Try.func25 (by kernel_rfl) rfl #[.agg #[.int .i64 a0_0, .slice A0_1 l0_1.length c0_1, .slice A0_2 l0_2.length c0_2], .agg #[.int .i64 a1_0, .int .i64 a1_1, .slice A1_2 l1_2.length c1_2]] rfl (by (try simp only [List.map_toArray, List.map_cons, List.map_nil]); first | done | rfl | (simp only [List.length_drop, List.length_take]; rfl)) ?_; (with_reducible refine (spec_GoodField.calls k a0_0 _ _ l0_1 _ _ l0_2 a1_0 a1_1 _ _ l1_2 false _ ?side1 ?side2 ?side3 ?side4 ?side5 ?side6 A7.out).mono ?_); (case side1 => repeat (first | exact (Kd.C_below HR0_1.out HB.out) | (with_reducible refine Kd.C_alloc ?_ _) | (with_reducible refine Kd.C_drewN ?_ _) | (with_reducible refine Kd.C_drew ?_))); (case side2 => exact HC0_1.out); (case side3 => repeat (first | exact (Kd.C_below HR0_2.out HB.out) | (with_reducible refine Kd.C_alloc ?_ _) | (with_reducible refine Kd.C_drewN ?_ _) | (with_reducible refine Kd.C_drew ?_))); (case side4 => exact HC0_2.out); (case side5 => repeat (first | exact (Kd.C_below HR1_2.out HB.out) | (with_reducible refine Kd.C_alloc ?_ _) | (with_reducible refine Kd.C_drewN ?_ _) | (with_reducible refine Kd.C_drew ?_))); (case side6 => exact HC1_2.out); rintro e w18 ⟨rfl, hb⟩; refine ⟨_, rfl, ?_⟩; have n0_ := Aside0.mk (blk_below (bk_ BK142.out) hb); have n1_ := Aside0.mk (blk_below (bk_ BK143.out) hb); have n2_ := Aside0.mk (below_step (bw_ HB.out) hb); clear BK142; clear BK143; clear HB; have BK142 := n0_; have BK143 := n1_; have HB := n2_; clear n0_ n1_ n2_; (try clear hb); (try clear hb2); (try clear hk); (try clear hi)))
   go_meet
   case rel => exact ⟨_, (true), (by first | rfl | (simp; done) | (simp [*]; done) | (simp [wrap64]; done)), H', ⟨by first | omega | exact Nat.le_refl _⟩, ⟨by (with_reducible repeat (first | refine blk_drewN ?_ _ | refine blk_drew ?_ | refine blk_alloc ?_ _)); exact BK142.out⟩, ⟨by (with_reducible repeat (first | refine blk_drewN ?_ _ | refine blk_drew ?_ | refine blk_alloc ?_ _)); exact BK143.out⟩, ⟨bw_ HB.out⟩⟩
 case rest =>
  clear HC4
  try clear c1
  try clear c2
  try clear p2
  try clear p6
  try clear c7
  try clear c8
  try clear c10
  try clear c15
  try clear hcz11_0
  try clear hcz11_1
  try clear hcz11_2
  try clear hcz12_0
  try clear hcz12_1
  try clear hcz12_2
  try clear hcz14_0
  try clear hcz14_1
  try clear hcz14_2
  try clear hcz16_0
  try clear hcz16_1
  try clear hcz16_2
  try clear hcz17_0
  try clear hcz17_1
  try clear hcz17_2
  try clear hfz11_0
  try clear hfz11_1
  try clear hfz11_2
  try clear hfz12_0
  try clear hfz12_1
  try clear hfz12_2
  try clear hfz14_0
  try clear hfz14_1
  try clear hfz14_2
  try clear hfz16_0
  try clear hfz16_1
  try clear hfz16_2
  try clear hfz17_0
  try clear hfz17_1
  try clear hfz17_2
  obtain ⟨kq, x22_3, rfl, HA, HJ3, BK142, BK143, HB⟩ := hcut
  cases kq with
  | zero => exact absurd HA.out (by simp [spec_MayStand.j0])
  | succ kj3 =>
   have H := HA.out
   clear HA
   simp only [spec_MayStand.j0] at H
   by_cases c19 : x22_3 = true
   ·subst c19
    replace H := it_ H rfl
    simp only [Option.some.injEq, Prod.mk.injEq] at H
    obtain ⟨rfl, rfl⟩ := H
    go_wp2
    go_ret2
    exact ⟨_, by first | rfl | (simp [errW_none, errW_some] <;> rfl) | (simp [*, errW_none, errW_some] <;> rfl), by first | exact Kd.R_nil _ _ _ _ _ | exact Kd.N_nil _ _ _ _ _ | exact Kd.V_nil _ _ _ _ _ | exact Kd.Q_nil _ _ _ _ _ | exact Kd.S_nil _ _ _ _ _, bw_ HB.out⟩
   ·replace c19 := Bool.eq_false_iff.mpr c19
    subst c19
    replace H := if_ H Bool.false_ne_true
    have H' := Aside0.mk H
    clear H
    go_wp2
    go_loopg [8, 9] kj3 (fun kq v8 v9 w' => ∃ (x8_2 : List Int) (x9_2 : Int), v9 = .int .i64 x9_2 ∧ Aside0 (spec_MayStand.l0 kq a2 x8_2 x9_2 a0_0 l0_1 l0_2 a1_0 a1_1 l1_2 = some (r1, r2)) ∧ Aside0 (kq ≤ kj3) ∧ Aside0 (Kd.R (Kd.int .i64) 3 w' w.heap.size (fun _ => True) v8 x8_2) ∧ Aside0 (w'.heap[gb142]? = some (.cells #[.int .i64 a0_0, (.slice A0_1 l0_1.length c0_1), (.slice A0_2 l0_2.length c0_2)] 32 (0, 0))) ∧ Aside0 (w'.heap[gb143]? = some (.cells #[.int .i64 a1_0, .int .i64 a1_1, (.slice A1_2 l1_2.length c1_2)] 34 (0, 0))) ∧ Aside0 (Below w.heap.size w w'))
    case atStart => exact ⟨(([] : List Int)), (0), (by first | rfl | (simp; done) | (simp [*]; done) | (simp [wrap64]; done)), H', ⟨Nat.le_refl _⟩, ⟨by first | exact Kd.R_nil _ _ _ _ _ | exact Kd.N_nil _ _ _ _ _ | exact Kd.V_nil _ _ _ _ _ | exact Kd.Q_nil _ _ _ _ _ | exact Kd.S_nil _ _ _ _ _⟩, ⟨by (with_reducible repeat (first | refine blk_drewN ?_ _ | refine blk_drew ?_ | refine blk_alloc ?_ _)); exact BK142.out⟩, ⟨by (with_reducible repeat (first | refine blk_drewN ?_ _ | refine blk_drew ?_ | refine blk_alloc ?_ _)); exact BK143.out⟩, ⟨bw_ HB.out⟩⟩
    case round =>
     clear H'
     try clear c1
     try clear c2
     try clear p2
     try clear p6
     try clear c7
     try clear c8
     try clear c10
     try clear c15
     try clear c19
     try clear hcz11_0
     try clear hcz11_1
     try clear hcz11_2
     try clear hcz12_0
     try clear hcz12_1
     try clear hcz12_2
     try clear hcz14_0
     try clear hcz14_1
     try clear hcz14_2
     try clear hcz16_0
     try clear hcz16_1
     try clear hcz16_2
     try clear hcz17_0
     try clear hcz17_1
     try clear hcz17_2
     try clear hfz11_0
     try clear hfz11_1
     try clear hfz11_2
     try clear hfz12_0
     try clear hfz12_1
     try clear hfz12_2
     try clear hfz14_0
     try clear hfz14_1
     try clear hfz14_2
     try clear hfz16_0
     try clear hfz16_1
     try clear hfz16_2
     try clear hfz17_0
     try clear hfz17_1
     try clear hfz17_2
     try clear p2
     try clear p6
     obtain ⟨x8_2, x9_2, rfl, HA, HK2, HO_8, BK142, BK143, HB⟩ := hrel
     cases gk with
     | zero => exact absurd HA.out (by simp [spec_MayStand.l0])
     | succ k2 =>
      have H := HA.out
      clear HA
      simp only [spec_MayStand.l0] at H
      by_cases c20 : x9_2 < a0_0
      ·rw [if_pos c20] at H
       have c20b0 : decide (x9_2 < a0_0) = true := decide_eq_true c20
       clear c20
       obtain ⟨t146, A210, H⟩ := bE_ H
       have A21 := Aside0.mk A210
       clear A210
       by_cases c22 : t146 = true
       ·subst c22
        replace H := it_ H rfl
        by_cases c23 : x8_2.length < 17592186044416
        ·rw [if_pos c23] at H
         have LMc23 := Aside0.mk c23
         clear c23
         obtain ⟨y147, hy147⟩ : ∃ y_ : List Int, y_ = (x8_2 ++ [x9_2]) := ⟨_, rfl⟩
         replace H : (spec_MayStand.l0 k2 a2 y147 (wrap64 (x9_2 + 1)) a0_0 l0_1 l0_2 a1_0 a1_1 l1_2) = some (r1, r2) := by first | (rw [hy147]; with_reducible exact H) | (have H2_ := (Option.bind_some _ _).symm.trans H; rw [hy147]; with_reducible exact H2_) | (have H2_ := (Option.bind_some _ _).symm.trans H; with_reducible exact H2_) | with_reducible exact H | (rw [hy147]; exact H) | exact H
         have Ny147 := Aside0.mk hy147
         clear hy147
         have H' := Aside0.mk H
         clear H
         have hnb24 := NB142_143.out
         have hnc24 := NB143_142.out
         have hcz25_0 := cz_ BK142.out 0
         have hcz25_1 := cz_ BK142.out 1
         have hcz25_2 := cz_ BK142.out 2
         have hfz25_0 := blk_frozen BK142.out 0
         have hfz25_1 := blk_frozen BK142.out 1
         have hfz25_2 := blk_frozen BK142.out 2
         have hcz26_0 := cz_ BK143.out 0
         have hcz26_1 := cz_ BK143.out 1
         have hcz26_2 := cz_ BK143.out 2
         have hfz26_0 := blk_frozen BK143.out 0
         have hfz26_1 := blk_frozen BK143.out 1
         have hfz26_2 := blk_frozen BK143.out 2
         go_wp2_with (first | ((with_reducible refine gate_callee (f := 27) rfl ?_); refine goesL_ (some 33) rfl rfl Try.func27 (by kernel_rfl) rfl #[.agg #[.int .i64 a0_0, .slice A0_1 l0_1.length c0_1, .slice A0_2 l0_2.length c0_2], .agg #[.int .i64 a1_0, .int .i64 a1_1, .slice A1_2 l1_2.length c1_2], .int .i64 a2, .int .i64 x9_2] rfl (by (try simp only [List.map_toArray, List.map_cons, List.map_nil]); first | done | rfl | (simp only [List.length_drop, List.length_take]; rfl)) ?_; (with_reducible refine (spec_l14Fits.calls k2 a0_0 _ _ l0_1 _ _ l0_2 a1_0 a1_1 _ _ l1_2 a2 x9_2 true _ ?side1 ?side2 ?side3 ?side4 ?side5 ?side6 A21.out).mono ?_); (case side1 => repeat (first | exact (Kd.C_below HR0_1.out HB.out) | (with_reducible refine Kd.C_alloc ?_ _) | (with_reducible refine Kd.C_drewN ?_ _) | (with_reducible refine Kd.C_drew ?_))); (case side2 => exact HC0_1.out); (case side3 => repeat (first | exact (Kd.C_below HR0_2.out HB.out) | (with_reducible refine Kd.C_alloc ?_ _) | (with_reducible refine Kd.C_drewN ?_ _) | (with_reducible refine Kd.C_drew ?_))); (case side4 => exact HC0_2.out); (case side5 => repeat (first | exact (Kd.C_below HR1_2.out HB.out) | (with_reducible refine Kd.C_alloc ?_ _) | (with_reducible refine Kd.C_drewN ?_ _) | (with_reducible refine Kd.C_drew ?_))); (case side6 => exact HC1_2.out); rintro e w27 ⟨rfl, hb⟩; refine ⟨_, rfl, ?_⟩; have n0_ := Aside0.mk (Kd.R_below (by (with_reducible repeat (first | apply Kd.R_alloc | apply Kd.R_drewN | apply Kd.R_drew)); exact HO_8.out) hb); have n1_ := Aside0.mk (blk_below (bk_ BK142.out) hb); have n2_ := Aside0.mk (blk_below (bk_ BK143.out) hb); have n3_ := Aside0.mk (below_step (bw_ HB.out) hb); clear HO_8; clear BK142; clear BK143; clear HB; have HO_8 := n0_; have BK142 := n1_; have BK143 := n2_; have HB := n3_; clear n0_ n1_ n2_ n3_; (try clear hb); (try clear hb2); (try clear hk); (try clear hi)) | ((with_reducible refine gate_builtin (b := .append) (xs := #[.tmp 34, .tmp 36]) rfl ?_); (try (refine gate_guard (by rfl) ?_; dsimp only)); at_builtin; refine Kd.R_append (Kd.int .i64) (w0 := w) w.heap.size rfl (.tmp 34) (.tmp 36) 25 3 (.int .i64 0) 8 rfl Try.underlying25 info3 rfl (by decide) (by omega) u8 x8_2 x9_2 [.int .i64 x9_2] (fun _ => True) (fun _ => False) rfl rfl ?aP (fun _ hk => hk.elim) ?aF ?aO ?aB ?aS ?aL ?_; (case aP => exact rfl); (case aB => exact (bw_ HB.out)); (case aF => exact (fun _ _ => trivial)); (case aO => exact (by (with_reducible repeat (first | apply Kd.R_alloc | apply Kd.R_drewN | apply Kd.R_drew)); exact HO_8.out)); (case aS => exact (below_size (bw_ HB.out))); (case aL => have := LMc23.out; omega); intro v148 w28 ho hb hg hat; rw [← Ny147.out] at ho; have n0_ := Aside0.mk (blk_grown (bk_ BK142.out) hg (Kd.R_ne HO_8.out BK142.out (by decide))); have n1_ := Aside0.mk (blk_grown (bk_ BK143.out) hg (Kd.R_ne HO_8.out BK143.out (by decide))); have n2_ := Aside0.mk (hb); have n3_ := Aside0.mk (ho); clear BK142; clear BK143; clear HB; clear HO_8; have BK142 := n0_; have BK143 := n1_; have HB := n2_; have HO149 := n3_; clear n0_ n1_ n2_ n3_; clear ho hb hg hat))
         go_roundg k2
         case measure => have := HJ3.out; have := HK2.out; omega
         case rel => exact ⟨(y147), (wrap64 (x9_2 + 1)), (by first | rfl | (simp; done) | (simp [*]; done) | (simp [wrap64]; done)), H', ⟨by have := HJ3.out; have := HK2.out; omega⟩, ⟨by (with_reducible repeat (first | apply Kd.R_alloc | apply Kd.R_drewN | apply Kd.R_drew)); exact HO149.out⟩, ⟨by (with_reducible repeat (first | refine blk_drewN ?_ _ | refine blk_drew ?_ | refine blk_alloc ?_ _)); exact BK142.out⟩, ⟨by (with_reducible repeat (first | refine blk_drewN ?_ _ | refine blk_drew ?_ | refine blk_alloc ?_ _)); exact BK143.out⟩, ⟨bw_ HB.out⟩⟩
        ·rw [if_neg c23] at H
         exact absurd H (by simp)
       ·replace c22 := Bool.eq_false_iff.mpr c22
        subst c22
        replace H := if_ H Bool.false_ne_true
        have H' := Aside0.mk H
        clear H
        have hnb29 := NB142_143.out
        have hnc29 := NB143_142.out
        have hcz30_0 := cz_ BK142.out 0
        have hcz30_1 := cz_ BK142.out 1
        have hcz30_2 := cz_ BK142.out 2
        have hfz30_0 := blk_frozen BK142.out 0
        have hfz30_1 := blk_frozen BK142.out 1
        have hfz30_2 := blk_frozen BK142.out 2
        have hcz31_0 := cz_ BK143.out 0
        have hcz31_1 := cz_ BK143.out 1
        have hcz31_2 := cz_ BK143.out 2
        have hfz31_0 := blk_frozen BK143.out 0
        have hfz31_1 := blk_frozen BK143.out 1
        have hfz31_2 := blk_frozen BK143.out 2
        go_wp2_with (first | ((with_reducible refine gate_callee (f := 27) rfl ?_); refine goesL_ (some 33) rfl rfl Try.func27 (by kernel_rfl) rfl #[.agg #[.int .i64 a0_0, .slice A0_1 l0_1.length c0_1, .slice A0_2 l0_2.length c0_2], .agg #[.int .i64 a1_0, .int .i64 a1_1, .slice A1_2 l1_2.length c1_2], .int .i64 a2, .int .i64 x9_2] rfl (by (try simp only [List.map_toArray, List.map_cons, List.map_nil]); first | done | rfl | (simp only [List.length_drop, List.length_take]; rfl)) ?_; (with_reducible refine (spec_l14Fits.calls k2 a0_0 _ _ l0_1 _ _ l0_2 a1_0 a1_1 _ _ l1_2 a2 x9_2 false _ ?side1 ?side2 ?side3 ?side4 ?side5 ?side6 A21.out).mono ?_); (case side1 => repeat (first | exact (Kd.C_below HR0_1.out HB.out) | (with_reducible refine Kd.C_alloc ?_ _) | (with_reducible refine Kd.C_drewN ?_ _) | (with_reducible refine Kd.C_drew ?_))); (case side2 => exact HC0_1.out); (case side3 => repeat (first | exact (Kd.C_below HR0_2.out HB.out) | (with_reducible refine Kd.C_alloc ?_ _) | (with_reducible refine Kd.C_drewN ?_ _) | (with_reducible refine Kd.C_drew ?_))); (case side4 => exact HC0_2.out); (case side5 => repeat (first | exact (Kd.C_below HR1_2.out HB.out) | (with_reducible refine Kd.C_alloc ?_ _) | (with_reducible refine Kd.C_drewN ?_ _) | (with_reducible refine Kd.C_drew ?_))); (case side6 => exact HC1_2.out); rintro e w32 ⟨rfl, hb⟩; refine ⟨_, rfl, ?_⟩; have n0_ := Aside0.mk (Kd.R_below (by (with_reducible repeat (first | apply Kd.R_alloc | apply Kd.R_drewN | apply Kd.R_drew)); exact HO_8.out) hb); have n1_ := Aside0.mk (blk_below (bk_ BK142.out) hb); have n2_ := Aside0.mk (blk_below (bk_ BK143.out) hb); have n3_ := Aside0.mk (below_step (bw_ HB.out) hb); clear HO_8; clear BK142; clear BK143; clear HB; have HO_8 := n0_; have BK142 := n1_; have BK143 := n2_; have HB := n3_; clear n0_ n1_ n2_ n3_; (try clear hb); (try clear hb2); (try clear hk); (try clear hi)))
        go_roundg k2
        case measure => have := HJ3.out; have := HK2.out; omega
        case rel => exact ⟨(x8_2), (wrap64 (x9_2 + 1)), (by first | rfl | (simp; done) | (simp [*]; done) | (simp [wrap64]; done)), H', ⟨by have := HJ3.out; have := HK2.out; omega⟩, ⟨by (with_reducible repeat (first | apply Kd.R_alloc | apply Kd.R_drewN | apply Kd.R_drew)); exact HO_8.out⟩, ⟨by (with_reducible repeat (first | refine blk_drewN ?_ _ | refine blk_drew ?_ | refine blk_alloc ?_ _)); exact BK142.out⟩, ⟨by (with_reducible repeat (first | refine blk_drewN ?_ _ | refine blk_drew ?_ | refine blk_alloc ?_ _)); exact BK143.out⟩, ⟨bw_ HB.out⟩⟩
      ·rw [if_neg c20] at H
       have c20b0 : decide (x9_2 < a0_0) = false := decide_eq_false c20
       clear c20
       simp only [Option.some.injEq, Prod.mk.injEq] at H
       obtain ⟨rfl, rfl⟩ := H
       have hnb33 := NB142_143.out
       have hnc33 := NB143_142.out
       have hcz34_0 := cz_ BK142.out 0
       have hcz34_1 := cz_ BK142.out 1
       have hcz34_2 := cz_ BK142.out 2
       have hfz34_0 := blk_frozen BK142.out 0
       have hfz34_1 := blk_frozen BK142.out 1
       have hfz34_2 := blk_frozen BK142.out 2
       go_wp2
       go_ret2
       exact ⟨_, by first | rfl | (simp [errW_none, errW_some] <;> rfl) | (simp [*, errW_none, errW_some] <;> rfl), by (with_reducible repeat (first | apply Kd.R_alloc | apply Kd.R_drewN | apply Kd.R_drew)); exact HO_8.out, bw_ HB.out⟩

/-! ### laws_toIntS: function 29 -/
def laws_toIntS.l0 : Nat → List Int → List Int → Int → Option (List Int)
 | 0, _, _, _ => none
 | k + 1, x0, x3, x4 => if x4 < (x0.length : Int) then (if 0 ≤ x4 then (if x4 < (x3.length : Int) then (laws_toIntS.l0 k x0 (x3.set (x4 : Int).toNat (rd x0 x4)) (wrap64 (x4 + 1))) else (none)) else (none)) else (some x3)
def laws_toIntS.f (k : Nat) (l0 : List Int) : Option (List Int) := if 0 ≤ (l0.length : Int) then (if ((l0.length : Int) : Int).toNat ≤ 35184372088832 then (laws_toIntS.l0 k l0 (List.replicate ((l0.length : Int) : Int).toNat 0) 0) else (none)) else (none)
theorem laws_toIntS.mono_l : ∀ k, (∀ y0 y1 y2, LeO (laws_toIntS.l0 k y0 y1 y2) (laws_toIntS.l0 (k + 1) y0 y1 y2))
 | 0 => fun _ _ _ r h => by simp [laws_toIntS.l0] at h
 | k + 1 => by
  have ih0 := laws_toIntS.mono_l k
  ·intro y0 y1 y2
   unfold laws_toIntS.l0
   repeat' first
   | (with_reducible exact ih0 _ _ _)
   | (with_reducible exact LeO.refl _)
   | (with_reducible exact LeO.none _)
   | (with_reducible refine LeO.ite ?_ ?_)
   | (with_reducible refine LeO.bind ?_ (fun _ => ?_))
   | exact ih0 _ _ _
   | exact LeO.none _
   | refine LeO.ite ?_ ?_
   | refine LeO.bind ?_ (fun _ => ?_)
theorem laws_toIntS.mono : ∀ a0 k, LeO (laws_toIntS.f k a0) (laws_toIntS.f (k + 1) a0) := by
 intro a0 k
 have ih0 := laws_toIntS.mono_l k
 unfold laws_toIntS.f
 repeat' first
   | (with_reducible exact ih0 _ _ _)
   | (with_reducible exact LeO.refl _)
   | (with_reducible exact LeO.none _)
   | (with_reducible refine LeO.ite ?_ ?_)
   | (with_reducible refine LeO.bind ?_ (fun _ => ?_))
   | exact ih0 _ _ _
   | exact LeO.none _
   | refine LeO.ite ?_ ?_
   | refine LeO.bind ?_ (fun _ => ?_)
set_option maxHeartbeats 8000000 in
set_option maxRecDepth 100000 in
theorem laws_toIntS.calls (k : Nat) (A0 : Option Addr) (c0 : Nat) (l0 : List Int) (r : List Int) (w : World) (hr0 : Kd.C (Kd.int .i64) w A0 l0.length l0) (hc0 : l0.length ≤ c0) (h : laws_toIntS.f k l0 = some r) :
  Calls Try.prog 29 #[.slice A0 l0.length c0] w fun e w' => ∃ v0_ : Value, e = .returned (v0_) ∧ Kd.R (Kd.int .i64) 3 w' w.heap.size (fun _ => True) v0_ r ∧ Below w.heap.size w w' := by
 have HR0 := Aside0.mk hr0
 have HC0 := Aside0.mk hc0
 clear hr0 hc0
 have HB := Aside0.mk (Below.refl w.heap.size w)
 have H : (if 0 ≤ (l0.length : Int) then (if ((l0.length : Int) : Int).toNat ≤ 35184372088832 then (laws_toIntS.l0 k l0 (List.replicate ((l0.length : Int) : Int).toNat 0) 0) else (none)) else (none)) = some r := h
 clear h
 by_cases c2 : 0 ≤ (l0.length : Int)
 ·rw [if_pos c2] at H
  have c2b0 := eq_true c2
  have c2b1 : decide (0 ≤ (l0.length : Int)) = true := decide_eq_true c2
  clear c2
  by_cases c3 : ((l0.length : Int) : Int).toNat ≤ 35184372088832
  ·rw [if_pos c3] at H
   have c3b0 := eq_true c3
   have c3b1 : decide (((l0.length : Int) : Int).toNat ≤ 35184372088832) = true := decide_eq_true c3
   clear c3
   obtain ⟨y150, hy150⟩ : ∃ y_ : List Int, y_ = (List.replicate ((l0.length : Int) : Int).toNat 0) := ⟨_, rfl⟩
   replace H : (laws_toIntS.l0 k l0 y150 0) = some r := by first | (rw [hy150]; with_reducible exact H) | (have H2_ := (Option.bind_some _ _).symm.trans H; rw [hy150]; with_reducible exact H2_) | (have H2_ := (Option.bind_some _ _).symm.trans H; with_reducible exact H2_) | with_reducible exact H | (rw [hy150]; exact H) | exact H
   have Ny150 := Aside0.mk hy150
   clear hy150
   have H' := Aside0.mk H
   clear H
   go_enter Try.func29, Try.ntmps29
   go_wp2_with (first | ((with_reducible refine gate_dst (N := 7) rfl ?_); refine Kd.R_make (Kd.int .i64) _ 3 rfl (N := 7) rfl 25 _ _ rfl (l0.length : Int) rfl rfl Try.underlying25 (.int .i64 0) 8 info3 rfl (by decide) (by omega) 0 (ok := fun _ => True) (okp := fun _ => True) rfl (fun _ hk => hk) trivial (of_decide_eq_true (by first | (with_reducible assumption) | assumption)) (Nat.le_trans (Nat.mul_le_mul_right _ (of_decide_eq_true (by first | (with_reducible assumption) | assumption) : (l0.length : Int).toNat ≤ 35184372088832)) (by omega)) (Below.refl _ _) (Nat.le_refl _) ?_; intro v151 w4 ho5 hb hg_ hnew_; clear hg_ hnew_; (first | rw [← Ny150.out] at ho5 | (simp only [Int.reduceToNat] at ho5; rw [← Ny150.out] at ho5)); have n0_ := Aside0.mk (Kd.R_lower ho5 (below_size (bw_ HB.out))); have n1_ := Aside0.mk (below_step (bw_ HB.out) hb); clear HB; have HO152 := n0_; have HB := n1_; clear n0_ n1_; clear hb ho5))
   go_loopg [4] k (fun kq v4 w' => ∃ (x3_1 : List Int) (x4_1 : Int), v4 = .int .i64 x4_1 ∧ Aside0 (laws_toIntS.l0 kq l0 x3_1 x4_1 = some r) ∧ Aside0 (kq ≤ k) ∧ Aside0 (Kd.R (Kd.int .i64) 3 w' w.heap.size (fun _ => True) v151 x3_1) ∧ Aside0 (Below w.heap.size w w'))
   case atStart => exact ⟨(y150), (0), (by first | rfl | (simp; done) | (simp [*]; done) | (simp [wrap64]; done)), H', ⟨Nat.le_refl _⟩, ⟨by (with_reducible repeat (first | apply Kd.R_alloc | apply Kd.R_drewN | apply Kd.R_drew)); exact HO152.out⟩, ⟨bw_ HB.out⟩⟩
   case round =>
    clear H'
    try clear c2
    try clear c2b0
    try clear c2b1
    try clear p2
    try clear c3
    try clear c3b0
    try clear c3b1
    obtain ⟨x3_1, x4_1, rfl, HA, HK1, HO_3, HB⟩ := hrel
    cases gk with
    | zero => exact absurd HA.out (by simp [laws_toIntS.l0])
    | succ k1 =>
     have H := HA.out
     clear HA
     simp only [laws_toIntS.l0] at H
     by_cases c6 : x4_1 < (l0.length : Int)
     ·rw [if_pos c6] at H
      have c6b0 : decide (x4_1 < (l0.length : Int)) = true := decide_eq_true c6
      clear c6
      by_cases c7 : 0 ≤ x4_1
      ·rw [if_pos c7] at H
       have c7b0 : decide (0 ≤ x4_1) = true := decide_eq_true c7
       clear c7
       by_cases c8 : x4_1 < (x3_1.length : Int)
       ·rw [if_pos c8] at H
        have c8b0 : decide (x4_1 < (x3_1.length : Int)) = true := decide_eq_true c8
        clear c8
        obtain ⟨y154, hy154⟩ : ∃ y_ : List Int, y_ = (x3_1.set (x4_1 : Int).toNat (rd l0 x4_1)) := ⟨_, rfl⟩
        replace H : (laws_toIntS.l0 k1 l0 y154 (wrap64 (x4_1 + 1))) = some r := by first | (rw [hy154]; with_reducible exact H) | (have H2_ := (Option.bind_some _ _).symm.trans H; rw [hy154]; with_reducible exact H2_) | (have H2_ := (Option.bind_some _ _).symm.trans H; with_reducible exact H2_) | with_reducible exact H | (rw [hy154]; exact H) | exact H
        have Ny154 := Aside0.mk hy154
        clear hy154
        have H' := Aside0.mk H
        clear H
        have p153 : 0 ≤ (x4_1 : Int) := of_decide_eq_true (by first | (with_reducible assumption) | assumption)
        have q153 : x4_1 < (l0.length : Int) := of_decide_eq_true (by first | (with_reducible assumption) | assumption)
        obtain ⟨ad153, e153, hx153_0⟩ := Kd.at_int HR0.out x4_1 p153 q153
        cases e153
        (try replace hx153_0 := (HB.out.cell (World.block_lt_of_cell? w _ hx153_0)).trans hx153_0)
        replace p153 := eq_true p153
        replace q153 := eq_true q153
        have p9 : 0 ≤ (x4_1 : Int) := of_decide_eq_true (by first | (with_reducible assumption) | assumption)
        have q9 : (x4_1 : Int) < ((x3_1.length : Int) : Int) := of_decide_eq_true (by first | (with_reducible assumption) | assumption)
        obtain ⟨go9, co9, eo9, gb9, gl9, cl9, HG9⟩ := Kd.R_form HO_3.out (by omega)
        (first | cases eo9 | (injection eo9 with ea_ en_ ec_; (first | subst ea_ | (injection ea_ with ea_; subst ea_)); subst ec_; clear en_))
        have GB9 := Aside0.mk gb9
        have GG9 := Aside0.mk HG9
        clear gb9 gl9 HG9
        obtain ⟨hx9_0, hf9_0⟩ := Kd.R_celln 0 HO_3.out (x4_1 : Int) p9 q9
        replace p9 := eq_true p9
        replace q9 := eq_true q9
        have HP10 := Kd.R_putg HO_3.out (x4_1 : Int) (rd l0 x4_1)
        go_wp2_with (first | ((with_reducible refine gate_store (t := 3) (p := 20) rfl ?_); refine se_ 3 20 (wr.setCell ⟨go9, (x4_1 : Int).toNat, none⟩ (.int .i64 (rd l0 x4_1))) ?_; intro w11 hw; have hg : wr.grownBy w11 (some go9) := (by rw [hw]; exact HP10.2); have hp_ : Kd.R (Kd.int .i64) 3 w11 w.heap.size (fun _ => True) (.slice (some ⟨go9, 0, none⟩) x3_1.length co9) y154 := (by rw [hw, Ny154.out]; exact HP10.1); clear HP10; have n0_ := Aside0.mk (hp_); have n1_ := Aside0.mk ((by rw [hw]; exact below_set (HB.out) GB9.out : Below w.heap.size w w11)); clear HO_3; clear HB; have HO_3 := n0_; have HB := n1_; clear n0_ n1_; clear hg hw hp_))
        go_roundg k1
        case measure => have := HK1.out; omega
        case rel => exact ⟨(y154), (wrap64 (x4_1 + 1)), (by first | rfl | (simp; done) | (simp [*]; done) | (simp [wrap64]; done)), H', ⟨by have := HK1.out; omega⟩, ⟨by (with_reducible repeat (first | apply Kd.R_alloc | apply Kd.R_drewN | apply Kd.R_drew)); exact HO_3.out⟩, ⟨bw_ HB.out⟩⟩
       ·rw [if_neg c8] at H
        exact absurd H (by simp)
      ·rw [if_neg c7] at H
       exact absurd H (by simp)
     ·rw [if_neg c6] at H
      have c6b0 : decide (x4_1 < (l0.length : Int)) = false := decide_eq_false c6
      clear c6
      obtain rfl := Option.some.inj H
      go_wp2
      go_ret
      exact ⟨_, by first | rfl | (simp [errW_none, errW_some] <;> rfl) | (simp [*, errW_none, errW_some] <;> rfl), by (with_reducible repeat (first | apply Kd.R_alloc | apply Kd.R_drewN | apply Kd.R_drew)); exact HO_3.out, bw_ HB.out⟩
  ·rw [if_neg c3] at H
   exact absurd H (by simp)
 ·rw [if_neg c2] at H
  exact absurd H (by simp)

/-! ### laws_toIntSS: function 28 -/
def laws_toIntSS.l0 : Nat → List (List Int) → List (List Int) → Int → Option ((List (List Int)))
 | 0, _, _, _ => none
 | k + 1, x0, x3, x4 => if x4 < (x0.length : Int) then (if 0 ≤ x4 then ((laws_toIntS.f k (rd_L1 x0 x4)).bind fun t159 => (if x4 < (x3.length : Int) then (laws_toIntSS.l0 k x0 (x3.set (x4 : Int).toNat t159) (wrap64 (x4 + 1))) else (none))) else (none)) else (some x3)
def laws_toIntSS.f (k : Nat) (l0 : List (List Int)) : Option ((List (List Int))) := if 0 ≤ (l0.length : Int) then (if ((l0.length : Int) : Int).toNat ≤ 11728124029610 then (laws_toIntSS.l0 k l0 (List.replicate ((l0.length : Int) : Int).toNat []) 0) else (none)) else (none)
theorem laws_toIntSS.mono_l : ∀ k, (∀ y0 y1 y2, LeO (laws_toIntSS.l0 k y0 y1 y2) (laws_toIntSS.l0 (k + 1) y0 y1 y2))
 | 0 => fun _ _ _ r h => by simp [laws_toIntSS.l0] at h
 | k + 1 => by
  have ih0 := laws_toIntSS.mono_l k
  ·intro y0 y1 y2
   unfold laws_toIntSS.l0
   repeat' first
   | (with_reducible exact ih0 _ _ _)
   | (with_reducible exact laws_toIntS.mono _ _)
   | (with_reducible exact LeO.refl _)
   | (with_reducible exact LeO.none _)
   | (with_reducible refine LeO.ite ?_ ?_)
   | (with_reducible refine LeO.bind ?_ (fun _ => ?_))
   | exact ih0 _ _ _
   | exact laws_toIntS.mono _ _
   | exact LeO.none _
   | refine LeO.ite ?_ ?_
   | refine LeO.bind ?_ (fun _ => ?_)
theorem laws_toIntSS.mono : ∀ a0 k, LeO (laws_toIntSS.f k a0) (laws_toIntSS.f (k + 1) a0) := by
 intro a0 k
 have ih0 := laws_toIntSS.mono_l k
 unfold laws_toIntSS.f
 repeat' first
   | (with_reducible exact ih0 _ _ _)
   | (with_reducible exact laws_toIntS.mono _ _)
   | (with_reducible exact LeO.refl _)
   | (with_reducible exact LeO.none _)
   | (with_reducible refine LeO.ite ?_ ?_)
   | (with_reducible refine LeO.bind ?_ (fun _ => ?_))
   | exact ih0 _ _ _
   | exact laws_toIntS.mono _ _
   | exact LeO.none _
   | refine LeO.ite ?_ ?_
   | refine LeO.bind ?_ (fun _ => ?_)
set_option maxHeartbeats 8000000 in
set_option maxRecDepth 100000 in
theorem laws_toIntSS.calls (k : Nat) (A0 : Option Addr) (c0 : Nat) (l0 : List (List Int)) (r : List (List Int)) (w : World) (hr0 : Kd.C (Kd.slice 3 (Kd.int .i64)) w A0 l0.length l0) (hc0 : l0.length ≤ c0) (h : laws_toIntSS.f k l0 = some r) :
  Calls Try.prog 28 #[.slice A0 l0.length c0] w fun e w' => ∃ v0_ : Value, e = .returned (v0_) ∧ Kd.S (Kd.slice 3 (Kd.int .i64)) 25 w' w.heap.size (fun _ => True) v0_ r ∧ Below w.heap.size w w' := by
 have HR0 := Aside0.mk hr0
 have HC0 := Aside0.mk hc0
 clear hr0 hc0
 have HB := Aside0.mk (Below.refl w.heap.size w)
 have H : (if 0 ≤ (l0.length : Int) then (if ((l0.length : Int) : Int).toNat ≤ 11728124029610 then (laws_toIntSS.l0 k l0 (List.replicate ((l0.length : Int) : Int).toNat []) 0) else (none)) else (none)) = some r := h
 clear h
 by_cases c2 : 0 ≤ (l0.length : Int)
 ·rw [if_pos c2] at H
  have c2b0 := eq_true c2
  have c2b1 : decide (0 ≤ (l0.length : Int)) = true := decide_eq_true c2
  clear c2
  by_cases c3 : ((l0.length : Int) : Int).toNat ≤ 11728124029610
  ·rw [if_pos c3] at H
   have c3b0 := eq_true c3
   have c3b1 : decide (((l0.length : Int) : Int).toNat ≤ 11728124029610) = true := decide_eq_true c3
   clear c3
   obtain ⟨y155, hy155⟩ : ∃ y_ : List (List Int), y_ = (List.replicate ((l0.length : Int) : Int).toNat []) := ⟨_, rfl⟩
   replace H : (laws_toIntSS.l0 k l0 y155 0) = some r := by first | (rw [hy155]; with_reducible exact H) | (have H2_ := (Option.bind_some _ _).symm.trans H; rw [hy155]; with_reducible exact H2_) | (have H2_ := (Option.bind_some _ _).symm.trans H; with_reducible exact H2_) | with_reducible exact H | (rw [hy155]; exact H) | exact H
   have Ny155 := Aside0.mk hy155
   clear hy155
   have H' := Aside0.mk H
   clear H
   go_enter Try.func28, Try.ntmps28
   go_wp2_with (first | ((with_reducible refine gate_dst (N := 7) rfl ?_); refine Kd.S_make (Kd.slice 3 (Kd.int .i64)) _ 25 rfl (N := 7) rfl 22 _ _ rfl (l0.length : Int) rfl rfl Try.underlying22 (.slice none 0 0) 24 info25 rfl (by decide) (by omega) [] (ok := fun _ => True) (okp := fun _ => True) ⟨_, rfl, Kd.R_nil _ _ _ _ _⟩ (fun _ hk => hk) trivial (of_decide_eq_true (by first | (with_reducible assumption) | assumption)) (Nat.le_trans (Nat.mul_le_mul_right _ (of_decide_eq_true (by first | (with_reducible assumption) | assumption) : (l0.length : Int).toNat ≤ 11728124029610)) (by omega)) (Below.refl _ _) (Nat.le_refl _) ?_; intro v156 w4 ho5 hb hg_ hnew_; clear hg_ hnew_; (first | rw [← Ny155.out] at ho5 | (simp only [Int.reduceToNat] at ho5; rw [← Ny155.out] at ho5)); have n0_ := Aside0.mk (Kd.S_lower ho5 (below_size (bw_ HB.out))); have n1_ := Aside0.mk (below_step (bw_ HB.out) hb); clear HB; have HO157 := n0_; have HB := n1_; clear n0_ n1_; clear hb ho5))
   go_loopg [4] k (fun kq v4 w' => ∃ (x3_1 : List (List Int)) (x4_1 : Int), v4 = .int .i64 x4_1 ∧ Aside0 (laws_toIntSS.l0 kq l0 x3_1 x4_1 = some r) ∧ Aside0 (kq ≤ k) ∧ Aside0 (Kd.S (Kd.slice 3 (Kd.int .i64)) 25 w' w.heap.size (fun _ => True) v156 x3_1) ∧ Aside0 (Below w.heap.size w w'))
   case atStart => exact ⟨(y155), (0), (by first | rfl | (simp; done) | (simp [*]; done) | (simp [wrap64]; done)), H', ⟨Nat.le_refl _⟩, ⟨by (with_reducible repeat (first | apply Kd.S_alloc | apply Kd.S_drewN | apply Kd.S_drew)); exact HO157.out⟩, ⟨bw_ HB.out⟩⟩
   case round =>
    clear H'
    try clear c2
    try clear c2b0
    try clear c2b1
    try clear p2
    try clear c3
    try clear c3b0
    try clear c3b1
    obtain ⟨x3_1, x4_1, rfl, HA, HK1, HO_3, HB⟩ := hrel
    cases gk with
    | zero => exact absurd HA.out (by simp [laws_toIntSS.l0])
    | succ k1 =>
     have H := HA.out
     clear HA
     simp only [laws_toIntSS.l0] at H
     by_cases c6 : x4_1 < (l0.length : Int)
     ·rw [if_pos c6] at H
      have c6b0 : decide (x4_1 < (l0.length : Int)) = true := decide_eq_true c6
      clear c6
      by_cases c7 : 0 ≤ x4_1
      ·rw [if_pos c7] at H
       have c7b0 : decide (0 ≤ x4_1) = true := decide_eq_true c7
       clear c7
       obtain ⟨t159, A80, H⟩ := bE_ H
       have A8 := Aside0.mk A80
       clear A80
       by_cases c9 : x4_1 < (x3_1.length : Int)
       ·rw [if_pos c9] at H
        have c9b0 : decide (x4_1 < (x3_1.length : Int)) = true := decide_eq_true c9
        clear c9
        obtain ⟨y162, hy162⟩ : ∃ y_ : List (List Int), y_ = (x3_1.set (x4_1 : Int).toNat t159) := ⟨_, rfl⟩
        replace H : (laws_toIntSS.l0 k1 l0 y162 (wrap64 (x4_1 + 1))) = some r := by first | (rw [hy162]; with_reducible exact H) | (have H2_ := (Option.bind_some _ _).symm.trans H; rw [hy162]; with_reducible exact H2_) | (have H2_ := (Option.bind_some _ _).symm.trans H; with_reducible exact H2_) | with_reducible exact H | (rw [hy162]; exact H) | exact H
        have Ny162 := Aside0.mk hy162
        clear hy162
        have H' := Aside0.mk H
        clear H
        have p158 : 0 ≤ (x4_1 : Int) := of_decide_eq_true (by first | (with_reducible assumption) | assumption)
        have q158 : x4_1 < (l0.length : Int) := of_decide_eq_true (by first | (with_reducible assumption) | assumption)
        obtain ⟨ad158, A158_0, c158_0, e158, hx158_0, hl158_0, hi158_0⟩ := at_L1 HR0.out x4_1 p158 q158
        cases e158
        (try replace hx158_0 := (HB.out.cell (World.block_lt_of_cell? w _ hx158_0)).trans hx158_0)
        have HR158_0 := Aside0.mk hi158_0
        have HC158_0 := Aside0.mk hl158_0
        clear hi158_0 hl158_0
        replace p158 := eq_true p158
        replace q158 := eq_true q158
        go_wp2_with (first | ((with_reducible refine gate_callee (f := 29) rfl ?_); refine goesL_ (some 20) rfl rfl Try.func29 (by kernel_rfl) rfl #[.slice A158_0 (rd_L1 l0 x4_1).length c158_0] rfl (by (try simp only [List.map_toArray, List.map_cons, List.map_nil]); first | done | rfl | (simp only [List.length_drop, List.length_take]; rfl)) ?_; (with_reducible refine (laws_toIntS.calls k1 _ _ (rd_L1 l0 x4_1) t159 _ ?side1 ?side2 A8.out).mono ?_); (case side1 => repeat (first | exact (Kd.C_below HR158_0.out HB.out) | (with_reducible refine Kd.C_alloc ?_ _) | (with_reducible refine Kd.C_drewN ?_ _) | (with_reducible refine Kd.C_drew ?_))); (case side2 => exact HC158_0.out); rintro e w11 ⟨v160, rfl, ho0, hb⟩; refine ⟨_, rfl, ?_⟩; have n0_ := Aside0.mk (Kd.S_elder' (by (with_reducible repeat (first | apply Kd.S_alloc | apply Kd.S_drewN | apply Kd.S_drew)); exact HO_3.out) (Kd.R_base ho0) hb); have n1_ := Aside0.mk (Kd.R_lower ho0 (below_size (bw_ HB.out))); have n2_ := Aside0.mk (below_step (bw_ HB.out) hb); clear HO_3; clear HB; have HO_3 := n0_; have HO161 := n1_; have HB := n2_; clear n0_ n1_ n2_; (try clear hb); (try clear hb2); (try clear hk); (try clear hi); (try clear ho0); have p10 : 0 ≤ (x4_1 : Int) := of_decide_eq_true (by first | (with_reducible assumption) | assumption); have q10 : (x4_1 : Int) < ((x3_1.length : Int) : Int) := of_decide_eq_true (by first | (with_reducible assumption) | assumption); obtain ⟨go10, co10, eo10, gb10, gl10, cl10, HG10⟩ := Kd.S_form HO_3.out (by omega); (first | cases eo10 | (injection eo10 with ea_ en_ ec_; (first | subst ea_ | (injection ea_ with ea_; subst ea_)); subst ec_; clear en_)); have GB10 := Aside0.mk gb10; have GG10 := Aside0.mk HG10; clear gb10 gl10 HG10; obtain ⟨_, ce10, hcl10, hM10, hcc10, hfr10, _, _⟩ := Kd.S_elem HO_3.out [] (x4_1 : Int) p10 q10; obtain ⟨ve10_0, rfl, ge10_0⟩ := hM10; have hx10_0 := hcc10 0 _ rfl; have hf10_0 := hfr10 0; (try simp only [show ((Kd.slice 3 (Kd.int .i64))).sz = 1 from rfl, Nat.mul_one, Nat.add_zero] at hx10_0); (try simp only [show ((Kd.slice 3 (Kd.int .i64))).sz = 1 from rfl, Nat.mul_one, Nat.add_zero] at hf10_0); clear hcl10 hcc10 hfr10; (try clear hM10); replace p10 := eq_true p10; replace q10 := eq_true q10; have n_ := Aside0.mk (Kd.S_mono (ok' := (fun k_ => some k_ ≠ (v160 : Value).ownBlock)) HO_3.out (fun k_ hk => hk.2)); clear HO_3; have HO_3 := n_; clear n_; have HX12 := Aside0.mk (show Kd.S (Kd.slice 3 (Kd.int .i64)) 25 w11 w.heap.size (fun k_ => ((fun _ => True)) k_ ∧ ¬ ((fun k_ => some k_ = (v160 : Value).ownBlock)) k_) (.slice (some ⟨go10, 0, none⟩) x3_1.length co10) x3_1 from (by (with_reducible repeat (first | apply Kd.S_alloc | apply Kd.S_drewN | apply Kd.S_drew)); exact Kd.S_mono HO_3.out (fun k_ hk => ⟨trivial, fun e_ => hk e_⟩))); obtain ⟨oki12, ce12, hcl12, hM12, hcc12, hfr12, hoki12, hH12⟩ := Kd.S_elem HX12.out [] (x4_1 : Int) (of_decide_eq_true (by first | (with_reducible assumption) | assumption)) (by have h_ : (x4_1 : Int) < ((x3_1.length : Int) : Int) := of_decide_eq_true (by first | (with_reducible assumption) | assumption); first | exact h_ | (have e_ := (Kd.S_reads' HO_3.out).1; omega) | simpa using h_); obtain ⟨ve12_0, rfl, ge12_0⟩ := hM12; have HP12 := Kd.S_seg hH12 (of_decide_eq_true (by first | (with_reducible assumption) | assumption)) (by have h_ : (x4_1 : Int) < ((x3_1.length : Int) : Int) := of_decide_eq_true (by first | (with_reducible assumption) | assumption); first | exact h_ | (have e_ := (Kd.S_reads' HO_3.out).1; omega) | simpa using h_) (seg := [v160]) (j := 0) (show 1 ≤ 1 from by decide) (x' := t159) (Kd.M_row (Kd.R_mono (Kd.R_tight rfl (Kd.R_mono (ok' := fun k_ => ((fun _ => True)) k_ ∧ k_ ≠ go10) (Kd.R_apart' (HO161.out) (Kd.S_typed HO_3.out) (by decide)) (fun k_ hk => ⟨trivial, fun e_ => (hk.2) (by rw [e_]; rfl)⟩))) (fun _ h_ => Or.inr (h_)))) (fun _ hk => hk) (fun k_ hk_ => ((Kd.R_mono (ok' := fun k_ => ((fun _ => True)) k_ ∧ k_ ≠ go10) (Kd.R_apart' (HO161.out) (Kd.S_typed HO_3.out) (by decide)) (fun k_ hk => ⟨trivial, fun e_ => (hk.2) (by rw [e_]; rfl)⟩))).1 k_ hk_.symm); have hx12_0 := hcc12 0 _ rfl; (try simp only [show ((Kd.slice 3 (Kd.int .i64))).sz = 1 from rfl, Nat.mul_one, Nat.add_zero] at hx12_0); have hf12_0 := hfr12 0; (try simp only [show ((Kd.slice 3 (Kd.int .i64))).sz = 1 from rfl, Nat.mul_one, Nat.add_zero] at hf12_0); clear hcl12 hcc12 hfr12 hoki12 hH12; (try clear hM12); (try simp only [show ((Kd.slice 3 (Kd.int .i64))).sz = 1 from rfl, Nat.mul_one, Nat.add_zero] at HP12)) | ((with_reducible refine gate_store (t := 25) (p := 21) rfl ?_); refine store_event (t := 25) (p := 21) (v := ?vo_w13) (w1 := (w11.setCell ⟨go10, (x4_1 : Int).toNat, none⟩ (v160))) ?hg ?ho ?hn ?hr ?_; (case ho => rfl); (case hg => rfl); (case hn => rfl); (case hr => first | (go_simp; done) | (go_simp; rfl) | (obtain ⟨A0_, c0_, rfl⟩ := Kd.R_slice (v := v160) (Aside0.out (by assumption)); go_simp; done) | (obtain ⟨A0_, c0_, rfl⟩ := Kd.R_slice (v := v160) (Aside0.out (by assumption)); go_simp; rfl)); intro w13 hw; have hg : w11.grownBy w13 (some go10) := (by rw [hw]; exact HP12.2); have hp_ : Kd.S (Kd.slice 3 (Kd.int .i64)) 25 w13 w.heap.size (fun _ => True) (.slice (some ⟨go10, 0, none⟩) x3_1.length co10) y162 := (by rw [hw, Ny162.out]; exact HP12.1); clear HP12; have n0_ := Aside0.mk (hp_); have n1_ := Aside0.mk ((by rw [hw]; exact below_set (HB.out) GB10.out : Below w.heap.size w w13)); clear HO_3; clear HB; clear HO161; have HO_3 := n0_; have HB := n1_; clear n0_ n1_; clear hg hw hp_))
        go_roundg k1
        case measure => have := HK1.out; omega
        case rel => exact ⟨(y162), (wrap64 (x4_1 + 1)), (by first | rfl | (simp; done) | (simp [*]; done) | (simp [wrap64]; done)), H', ⟨by have := HK1.out; omega⟩, ⟨by (with_reducible repeat (first | apply Kd.S_alloc | apply Kd.S_drewN | apply Kd.S_drew)); exact HO_3.out⟩, ⟨bw_ HB.out⟩⟩
       ·rw [if_neg c9] at H
        exact absurd H (by simp)
      ·rw [if_neg c7] at H
       exact absurd H (by simp)
     ·rw [if_neg c6] at H
      have c6b0 : decide (x4_1 < (l0.length : Int)) = false := decide_eq_false c6
      clear c6
      obtain rfl := Option.some.inj H
      go_wp2
      go_ret
      exact ⟨_, by first | rfl | (simp [errW_none, errW_some] <;> rfl) | (simp [*, errW_none, errW_some] <;> rfl), by (with_reducible repeat (first | apply Kd.S_alloc | apply Kd.S_drewN | apply Kd.S_drew)); exact HO_3.out, bw_ HB.out⟩
  ·rw [if_neg c3] at H
   exact absurd H (by simp)
 ·rw [if_neg c2] at H
  exact absurd H (by simp)

/-! ### laws_toRules: function 8 -/
def laws_toRules.f (k : Nat) (a0_0 : Int) (l0_1 : List (List Int)) (l0_2 : List (List Int)) : Option (Int × (List (List Int)) × (List (List Int))) := (laws_toIntSS.f k l0_1).bind fun t166 => ((laws_toIntSS.f k l0_2).bind fun t169 => (some (a0_0, t166, t169)))
theorem laws_toRules.mono : ∀ a0 a1 a2 k, LeO (laws_toRules.f k a0 a1 a2) (laws_toRules.f (k + 1) a0 a1 a2) := by
 intro a0 a1 a2 k
 unfold laws_toRules.f
 repeat' first
   | (with_reducible exact laws_toIntSS.mono _ _)
   | (with_reducible exact LeO.refl _)
   | (with_reducible exact LeO.none _)
   | (with_reducible refine LeO.ite ?_ ?_)
   | (with_reducible refine LeO.bind ?_ (fun _ => ?_))
   | exact laws_toIntSS.mono _ _
   | exact LeO.none _
   | refine LeO.ite ?_ ?_
   | refine LeO.bind ?_ (fun _ => ?_)
set_option maxHeartbeats 8000000 in
set_option maxRecDepth 100000 in
theorem laws_toRules.calls (k : Nat) (a0_0 : Int) (A0_1 : Option Addr) (c0_1 : Nat) (l0_1 : List (List Int)) (A0_2 : Option Addr) (c0_2 : Nat) (l0_2 : List (List Int)) (r1 : Int) (r2 : List (List Int)) (r3 : List (List Int)) (w : World) (hr0_1 : Kd.C (Kd.slice 3 (Kd.int .i64)) w A0_1 l0_1.length l0_1) (hc0_1 : l0_1.length ≤ c0_1) (hr0_2 : Kd.C (Kd.slice 3 (Kd.int .i64)) w A0_2 l0_2.length l0_2) (hc0_2 : l0_2.length ≤ c0_2) (h : laws_toRules.f k a0_0 l0_1 l0_2 = some (r1, r2, r3)) :
  Calls Try.prog 8 #[.agg #[.int .i64 a0_0, .slice A0_1 l0_1.length c0_1, .slice A0_2 l0_2.length c0_2]] w fun e w' => ∃ v1_ v2_ : Value, e = .returned (.agg #[.int .i64 r1, v1_, v2_]) ∧ Kd.S (Kd.slice 3 (Kd.int .i64)) 25 w' w.heap.size (fun k_ => some k_ ≠ (v2_ : Value).ownBlock) v1_ r2 ∧ Kd.S (Kd.slice 3 (Kd.int .i64)) 25 w' w.heap.size (fun k_ => some k_ ≠ (v1_ : Value).ownBlock) v2_ r3 ∧ Below w.heap.size w w' := by
 have hu24 := Try.underlying24
 have hu32 := Try.underlying32
 have HR0_1 := Aside0.mk hr0_1
 have HC0_1 := Aside0.mk hc0_1
 clear hr0_1 hc0_1
 have HR0_2 := Aside0.mk hr0_2
 have HC0_2 := Aside0.mk hc0_2
 clear hr0_2 hc0_2
 have HB := Aside0.mk (Below.refl w.heap.size w)
 have H : ((laws_toIntSS.f k l0_1).bind fun t166 => ((laws_toIntSS.f k l0_2).bind fun t169 => (some (a0_0, t166, t169)))) = some (r1, r2, r3) := h
 clear h
 obtain ⟨t166, A20, H⟩ := bE_ H
 have A2 := Aside0.mk A20
 clear A20
 obtain ⟨t169, A30, H⟩ := bE_ H
 have A3 := Aside0.mk A30
 clear A30
 simp only [Option.some.injEq, Prod.mk.injEq] at H
 obtain ⟨rfl, rfl, rfl⟩ := H
 go_enter Try.func8, Try.ntmps8
 go_wp2_with (first | ((with_reducible refine gate_dst (N := 1) rfl ?_); refine bx_ 1 #[.int .i64 a0_0, .slice A0_1 l0_1.length c0_1, .slice A0_2 l0_2.length c0_2] 24 ?_; intro gb163 hg w4 hbox hb; have n0_ := Aside0.mk (below_step (bw_ HB.out) hb); have n1_ := Aside0.mk (hbox); have n2_ := Aside0.mk (gs_ hg (bw_ HB.out)); have n3_ := Aside0.mk (gs_ hg (bw_ HB.out)); clear HB; have HB := n0_; have BK163 := n1_; have GW163 := n2_; have GE163 := n3_; clear n0_ n1_ n2_ n3_; clear hb hbox hg) | ((with_reducible refine gate_dst (N := 2) rfl ?_); refine bx_ 2 #[.int .i64 0, .slice none 0 0, .slice none 0 0] 32 ?_; intro gb164 hg w5 hbox hb; have n0_ := Aside0.mk (blk_below (bk_ BK163.out) hb); have n1_ := Aside0.mk (below_step (bw_ HB.out) hb); have n2_ := Aside0.mk (hbox); have n3_ := Aside0.mk (gs_ hg (bw_ HB.out)); have n4_ := Aside0.mk (gs_ hg (bw_ HB.out)); have n5_ := Aside0.mk (nl_ hg (bk_ BK163.out)); have n6_ := Aside0.mk (ng_ hg (bk_ BK163.out)); clear BK163; clear HB; have BK163 := n0_; have HB := n1_; have BK164 := n2_; have GW164 := n3_; have GE164 := n4_; have NB163_164 := n5_; have NB164_163 := n6_; clear n0_ n1_ n2_ n3_ n4_ n5_ n6_; clear hb hbox hg) | ((with_reducible refine gate_dst (N := 3) rfl ?_); refine bx_ 3 #[.int .i64 0, .slice none 0 0, .slice none 0 0] 32 ?_; intro gb165 hg w6 hbox hb; have n0_ := Aside0.mk (blk_below (bk_ BK163.out) hb); have n1_ := Aside0.mk (blk_below (bk_ BK164.out) hb); have n2_ := Aside0.mk (below_step (bw_ HB.out) hb); have n3_ := Aside0.mk (hbox); have n4_ := Aside0.mk (gs_ hg (bw_ HB.out)); have n5_ := Aside0.mk (gs_ hg (bw_ HB.out)); have n6_ := Aside0.mk (nl_ hg (bk_ BK163.out)); have n7_ := Aside0.mk (ng_ hg (bk_ BK163.out)); have n8_ := Aside0.mk (nl_ hg (bk_ BK164.out)); have n9_ := Aside0.mk (ng_ hg (bk_ BK164.out)); clear BK163; clear BK164; clear HB; have BK163 := n0_; have BK164 := n1_; have HB := n2_; have BK165 := n3_; have GW165 := n4_; have GE165 := n5_; have NB163_165 := n6_; have NB165_163 := n7_; have NB164_165 := n8_; have NB165_164 := n9_; clear n0_ n1_ n2_ n3_ n4_ n5_ n6_ n7_ n8_ n9_; clear hb hbox hg; have hnb7 := NB163_164.out; have hnc7 := NB164_163.out; have hnb8 := NB163_165.out; have hnc8 := NB165_163.out; have hcz9_0 := cz_ BK163.out 0; have hcz9_1 := cz_ BK163.out 1; have hcz9_2 := cz_ BK163.out 2; have hfz9_0 := blk_frozen BK163.out 0; have hfz9_1 := blk_frozen BK163.out 1; have hfz9_2 := blk_frozen BK163.out 2; have hnb10 := NB165_164.out; have hnc10 := NB164_165.out; have hcz11_0 := cz_ BK165.out 0; have hcz11_1 := cz_ BK165.out 1; have hcz11_2 := cz_ BK165.out 2; have hfz11_0 := blk_frozen BK165.out 0; have hfz11_1 := blk_frozen BK165.out 1; have hfz11_2 := blk_frozen BK165.out 2) | ((with_reducible refine gate_callee (f := 28) rfl ?_); refine goesL_ (some 9) rfl rfl Try.func28 (by kernel_rfl) rfl #[.slice A0_1 l0_1.length c0_1] rfl (by (try simp only [List.map_toArray, List.map_cons, List.map_nil]); first | done | rfl | (simp only [List.length_drop, List.length_take]; rfl)) ?_; (with_reducible refine (laws_toIntSS.calls k _ _ l0_1 t166 _ ?side1 ?side2 A2.out).mono ?_); (case side1 => exact Kd.C_below HR0_1.out (bw_ HB.out)); (case side2 => exact HC0_1.out); rintro e w12 ⟨v167, rfl, ho0, hb⟩; refine ⟨_, rfl, ?_⟩; have n0_ := Aside0.mk (Kd.S_lower ho0 (below_size (bw_ HB.out))); have n1_ := Aside0.mk (blk_below (g := gb163) (o := .cells #[.int .i64 a0_0, .slice A0_1 l0_1.length c0_1, .slice A0_2 l0_2.length c0_2] 24 (0, 0)) (by (with_reducible repeat (first | refine blk_drewN ?_ _ | refine blk_drew ?_ | refine blk_alloc ?_ _)); refine blk_far ?_ NB163_165.out _; (with_reducible repeat (first | refine blk_drewN ?_ _ | refine blk_drew ?_ | refine blk_alloc ?_ _)); exact BK163.out) hb); have n2_ := Aside0.mk (blk_below (g := gb164) (o := .cells #[.int .i64 0, .slice none 0 0, .slice none 0 0] 32 (0, 0)) (by (with_reducible repeat (first | refine blk_drewN ?_ _ | refine blk_drew ?_ | refine blk_alloc ?_ _)); refine blk_far ?_ NB164_165.out _; (with_reducible repeat (first | refine blk_drewN ?_ _ | refine blk_drew ?_ | refine blk_alloc ?_ _)); exact BK164.out) hb); have n3_ := Aside0.mk (blk_below (g := gb165) (o := .cells #[.int .i64 a0_0, .slice none 0 0, .slice none 0 0] 32 (0, 0)) (by (with_reducible repeat (first | refine blk_drewN ?_ _ | refine blk_drew ?_ | refine blk_alloc ?_ _)); refine blk_put (cs := #[.int .i64 0, .slice none 0 0, .slice none 0 0]) ?_ 0 _ rfl; (with_reducible repeat (first | refine blk_drewN ?_ _ | refine blk_drew ?_ | refine blk_alloc ?_ _)); exact BK165.out) hb); have n4_ := Aside0.mk (below_step (bw_ HB.out) hb); clear BK163; clear BK164; clear BK165; clear HB; have HO168 := n0_; have BK163 := n1_; have BK164 := n2_; have BK165 := n3_; have HB := n4_; clear n0_ n1_ n2_ n3_ n4_; (try clear hb); (try clear hb2); (try clear hk); (try clear hi); (try clear ho0); obtain ⟨Ao13, co13, eo13⟩ := Kd.S_slice HO168.out; subst eo13; have hcz14_0 := cz_ BK165.out 0; have hcz14_1 := cz_ BK165.out 1; have hcz14_2 := cz_ BK165.out 2; have hfz14_0 := blk_frozen BK165.out 0; have hfz14_1 := blk_frozen BK165.out 1; have hfz14_2 := blk_frozen BK165.out 2; have hcz15_0 := cz_ BK163.out 0; have hcz15_1 := cz_ BK163.out 1; have hcz15_2 := cz_ BK163.out 2; have hfz15_0 := blk_frozen BK163.out 0; have hfz15_1 := blk_frozen BK163.out 1; have hfz15_2 := blk_frozen BK163.out 2) | ((with_reducible refine gate_callee (f := 28) rfl ?_); refine goesL_ (some 13) rfl rfl Try.func28 (by kernel_rfl) rfl #[.slice A0_2 l0_2.length c0_2] rfl (by (try simp only [List.map_toArray, List.map_cons, List.map_nil]); first | done | rfl | (simp only [List.length_drop, List.length_take]; rfl)) ?_; (with_reducible refine (laws_toIntSS.calls k _ _ l0_2 t169 _ ?side1 ?side2 A3.out).mono ?_); (case side1 => exact Kd.C_below HR0_2.out (bw_ HB.out)); (case side2 => exact HC0_2.out); rintro e w16 ⟨v170, rfl, ho0, hb⟩; refine ⟨_, rfl, ?_⟩; have n0_ := Aside0.mk (Kd.S_elder' (by (with_reducible repeat (first | apply Kd.S_alloc | apply Kd.S_drewN | apply Kd.S_drew)); exact (Kd.S_mono (Kd.S_far (p := ⟨gb165, 1, none⟩) (Kd.S_types HO168.out BK165.out (by decide)) (fun _ hk => hk.2) (.slice Ao13 t166.length co13)) (fun _ h_ => h_.1))) (Kd.S_base ho0) hb); have n1_ := Aside0.mk (Kd.S_lower (Kd.S_new' ho0 (Kd.S_lt (by (with_reducible repeat (first | apply Kd.S_alloc | apply Kd.S_drewN | apply Kd.S_drew)); exact (Kd.S_mono (Kd.S_far (p := ⟨gb165, 1, none⟩) (Kd.S_types HO168.out BK165.out (by decide)) (fun _ hk => hk.2) (.slice Ao13 t166.length co13)) (fun _ h_ => h_.1))))) (below_size (bw_ HB.out))); have n2_ := Aside0.mk (blk_below (g := gb163) (o := .cells #[.int .i64 a0_0, .slice A0_1 l0_1.length c0_1, .slice A0_2 l0_2.length c0_2] 24 (0, 0)) (by (with_reducible repeat (first | refine blk_drewN ?_ _ | refine blk_drew ?_ | refine blk_alloc ?_ _)); refine blk_far ?_ NB163_165.out _; (with_reducible repeat (first | refine blk_drewN ?_ _ | refine blk_drew ?_ | refine blk_alloc ?_ _)); exact BK163.out) hb); have n3_ := Aside0.mk (blk_below (g := gb164) (o := .cells #[.int .i64 0, .slice none 0 0, .slice none 0 0] 32 (0, 0)) (by (with_reducible repeat (first | refine blk_drewN ?_ _ | refine blk_drew ?_ | refine blk_alloc ?_ _)); refine blk_far ?_ NB164_165.out _; (with_reducible repeat (first | refine blk_drewN ?_ _ | refine blk_drew ?_ | refine blk_alloc ?_ _)); exact BK164.out) hb); have n4_ := Aside0.mk (blk_below (g := gb165) (o := .cells #[.int .i64 a0_0, .slice Ao13 t166.length co13, .slice none 0 0] 32 (0, 0)) (by (with_reducible repeat (first | refine blk_drewN ?_ _ | refine blk_drew ?_ | refine blk_alloc ?_ _)); refine blk_put (cs := #[.int .i64 a0_0, .slice none 0 0, .slice none 0 0]) ?_ 1 _ rfl; (with_reducible repeat (first | refine blk_drewN ?_ _ | refine blk_drew ?_ | refine blk_alloc ?_ _)); exact BK165.out) hb); have n5_ := Aside0.mk (below_step (bw_ HB.out) hb); clear HO168; clear BK163; clear BK164; clear BK165; clear HB; have HO168 := n0_; have HO171 := n1_; have BK163 := n2_; have BK164 := n3_; have BK165 := n4_; have HB := n5_; clear n0_ n1_ n2_ n3_ n4_ n5_; (try clear hb); (try clear hb2); (try clear hk); (try clear hi); (try clear ho0); obtain ⟨Ao17, co17, eo17⟩ := Kd.S_slice HO171.out; subst eo17; have hcz18_0 := cz_ BK165.out 0; have hcz18_1 := cz_ BK165.out 1; have hcz18_2 := cz_ BK165.out 2; have hfz18_0 := blk_frozen BK165.out 0; have hfz18_1 := blk_frozen BK165.out 1; have hfz18_2 := blk_frozen BK165.out 2; have hcz19_0 := cz_ BK164.out 0; have hcz19_1 := cz_ BK164.out 1; have hcz19_2 := cz_ BK164.out 2; have hfz19_0 := blk_frozen BK164.out 0; have hfz19_1 := blk_frozen BK164.out 1; have hfz19_2 := blk_frozen BK164.out 2))
 refine bodyPost_ret (results_cell_row rfl _ _ gb164 32 #[.int .i64 a0_0, .slice Ao13 t166.length co13, .slice Ao17 t169.length co17] (0, 0) _ rfl (by (with_reducible repeat (first | refine blk_drewN ?_ _ | refine blk_drew ?_ | refine blk_alloc ?_ _)); refine blk_put (cs := #[.int .i64 a0_0, .slice Ao13 t166.length co13, .slice none 0 0]) ?_ 2 _ rfl; (with_reducible repeat (first | refine blk_drewN ?_ _ | refine blk_drew ?_ | refine blk_alloc ?_ _)); refine blk_put (cs := #[.int .i64 a0_0, .slice none 0 0, .slice none 0 0]) ?_ 1 _ rfl; (with_reducible repeat (first | refine blk_drewN ?_ _ | refine blk_drew ?_ | refine blk_alloc ?_ _)); refine blk_put (cs := #[.int .i64 0, .slice none 0 0, .slice none 0 0]) ?_ 0 _ rfl; (with_reducible repeat (first | refine blk_drewN ?_ _ | refine blk_drew ?_ | refine blk_alloc ?_ _)); refine blk_far ?_ NB164_165.out _; (with_reducible repeat (first | refine blk_drewN ?_ _ | refine blk_drew ?_ | refine blk_alloc ?_ _)); exact BK164.out) Try.underlying32 rfl (by kernel_rfl)) rfl ?_
 exact ⟨_, _, by first | rfl | (simp [errW_none, errW_some] <;> rfl) | (simp [*, errW_none, errW_some] <;> rfl), by (with_reducible repeat (first | apply Kd.S_alloc | apply Kd.S_drewN | apply Kd.S_drew)); exact Kd.S_mono (Kd.S_far (p := ⟨gb164, 2, none⟩) (Kd.S_far (p := ⟨gb164, 1, none⟩) (Kd.S_far (p := ⟨gb164, 0, none⟩) (Kd.S_far (p := ⟨gb165, 2, none⟩) (Kd.S_types (Kd.S_types HO168.out BK165.out (by decide)) BK164.out (by decide)) (fun _ hk => hk.1.2) (.slice Ao17 t169.length co17)) (fun _ hk => hk.2) (.int .i64 a0_0)) (fun _ hk => hk.2) (.slice Ao13 t166.length co13)) (fun _ hk => hk.2) (.slice Ao17 t169.length co17)) (fun _ hk => hk.1.1.2), by (with_reducible repeat (first | apply Kd.S_alloc | apply Kd.S_drewN | apply Kd.S_drew)); exact Kd.S_mono (Kd.S_far (p := ⟨gb164, 2, none⟩) (Kd.S_far (p := ⟨gb164, 1, none⟩) (Kd.S_far (p := ⟨gb164, 0, none⟩) (Kd.S_far (p := ⟨gb165, 2, none⟩) (Kd.S_types (Kd.S_types HO171.out BK165.out (by decide)) BK164.out (by decide)) (fun _ hk => hk.1.2) (.slice Ao17 t169.length co17)) (fun _ hk => hk.2) (.int .i64 a0_0)) (fun _ hk => hk.2) (.slice Ao13 t166.length co13)) (fun _ hk => hk.2) (.slice Ao17 t169.length co17)) (fun _ hk => hk.1.1.2), bw_ HB.out⟩
set_option maxHeartbeats 8000000 in
set_option maxRecDepth 100000 in
theorem laws_toRules.callsZ (k : Nat) (a0_0 : Int) (A0_1 : Option Addr) (c0_1 : Nat) (l0_1 : List (List Int)) (A0_2 : Option Addr) (c0_2 : Nat) (l0_2 : List (List Int)) (r1 : Int) (r2 : List (List Int)) (r3 : List (List Int)) (w : World) (hr0_1 : Kd.C (Kd.slice 3 (Kd.int .i64)) w A0_1 l0_1.length l0_1) (hc0_1 : l0_1.length ≤ c0_1) (hr0_2 : Kd.C (Kd.slice 3 (Kd.int .i64)) w A0_2 l0_2.length l0_2) (hc0_2 : l0_2.length ≤ c0_2) (h : laws_toRules.f k a0_0 l0_1 l0_2 = some (r1, r2, r3)) :
    Calls Try.prog 8 #[.agg #[.int .i64 a0_0, .slice A0_1 l0_1.length c0_1, .slice A0_2 l0_2.length c0_2]] w fun e w' => ∃ (v1_ v2_ : Value) (Wa1 Wb1 Wa2 Wb2 : World), e = .returned (.agg #[.int .i64 r1, v1_, v2_]) ∧ Kd.S (Kd.slice 3 (Kd.int .i64)) 25 w' w.heap.size (Zone Wa1 Wb1 (25 :: ((Kd.slice 3 (Kd.int .i64))).E)) v1_ r2 ∧ Kd.S (Kd.slice 3 (Kd.int .i64)) 25 w' w.heap.size (Zone Wa2 Wb2 (25 :: ((Kd.slice 3 (Kd.int .i64))).E)) v2_ r3 ∧ (w.heap.size ≤ Wa1.heap.size ∧ Wa1.heap.size ≤ Wb1.heap.size ∧ Wb1.heap.size ≤ Wa2.heap.size ∧ Wa2.heap.size ≤ Wb2.heap.size ∧ Wb2.heap.size ≤ w'.heap.size) ∧ Below w.heap.size w w' := by
  have HR0_1 := Aside0.mk hr0_1
  have HC0_1 := Aside0.mk hc0_1
  clear hr0_1 hc0_1
  have HR0_2 := Aside0.mk hr0_2
  have HC0_2 := Aside0.mk hc0_2
  clear hr0_2 hc0_2
  have HB := Aside0.mk (Below.refl w.heap.size w)
  unfold laws_toRules.f at h
  have H := h
  clear h
  replace H := bE_ H
  obtain ⟨t4, hA4, H⟩ := H
  have A4 := Aside0.mk hA4
  clear hA4
  replace H := bE_ H
  obtain ⟨t6, hA6, H⟩ := H
  have A6 := Aside0.mk hA6
  clear hA6
  simp only [Option.some.injEq, Prod.mk.injEq] at H
  obtain ⟨rfl, rfl, rfl⟩ := H
  go_enter Try.func8, Try.ntmps8
  go_wp2_with (first | ((with_reducible refine gate_dst (N := 1) rfl ?_); refine bx_ 1 #[.int .i64 a0_0, .slice A0_1 l0_1.length c0_1, .slice A0_2 l0_2.length c0_2] 24 ?_; intro g1 hg w1001 hbox hb; have n0_ := Aside0.mk (below_step HB.out hb); have SZ1 := Aside0.mk (show w.heap.size ≤ w1001.heap.size from (hb).size); clear HB; have HB := n0_; clear n0_; have BK1 := Aside0.mk hbox; have GL1 := Aside0.mk (show w.heap.size ≤ g1 from Nat.le_of_eq hg.symm); have GU1 := Aside0.mk (blk_lt hbox); clear hbox hg hb; have hx1_0 := cz_ BK1.out 0; have hf1_0 : w1001.frozen? ⟨g1, 0, none⟩ = false := blk_frozen BK1.out 0; have hx1_1 := cz_ BK1.out 1; have hf1_1 : w1001.frozen? ⟨g1, 1, none⟩ = false := blk_frozen BK1.out 1; have hx1_2 := cz_ BK1.out 2; have hf1_2 : w1001.frozen? ⟨g1, 2, none⟩ = false := blk_frozen BK1.out 2) | ((with_reducible refine gate_dst (N := 2) rfl ?_); refine bx_ 2 #[.int .i64 0, .slice none 0 0, .slice none 0 0] 32 ?_; intro g2 hg w1002 hbox hb; clear hx1_0 hf1_0 hx1_1 hf1_1 hx1_2 hf1_2; have n0_ := Aside0.mk (below_step HB.out hb); have n1_ := Aside0.mk (blk_below BK1.out hb); have SZ2 := Aside0.mk (show w1001.heap.size ≤ w1002.heap.size from (hb).size); clear HB BK1; have HB := n0_; have BK1 := n1_; clear n0_ n1_; have BK2 := Aside0.mk hbox; have GL2 := Aside0.mk (show w1001.heap.size ≤ g2 from Nat.le_of_eq hg.symm); have GU2 := Aside0.mk (blk_lt hbox); clear hbox hg hb; have hx1_0 := cz_ BK1.out 0; have hf1_0 : w1002.frozen? ⟨g1, 0, none⟩ = false := blk_frozen BK1.out 0; have hx1_1 := cz_ BK1.out 1; have hf1_1 : w1002.frozen? ⟨g1, 1, none⟩ = false := blk_frozen BK1.out 1; have hx1_2 := cz_ BK1.out 2; have hf1_2 : w1002.frozen? ⟨g1, 2, none⟩ = false := blk_frozen BK1.out 2; have hx2_0 := cz_ BK2.out 0; have hf2_0 : w1002.frozen? ⟨g2, 0, none⟩ = false := blk_frozen BK2.out 0; have hx2_1 := cz_ BK2.out 1; have hf2_1 : w1002.frozen? ⟨g2, 1, none⟩ = false := blk_frozen BK2.out 1; have hx2_2 := cz_ BK2.out 2; have hf2_2 : w1002.frozen? ⟨g2, 2, none⟩ = false := blk_frozen BK2.out 2) | ((with_reducible refine gate_dst (N := 3) rfl ?_); refine bx_ 3 #[.int .i64 0, .slice none 0 0, .slice none 0 0] 32 ?_; intro g3 hg w1003 hbox hb; clear hx1_0 hf1_0 hx1_1 hf1_1 hx1_2 hf1_2 hx2_0 hf2_0 hx2_1 hf2_1 hx2_2 hf2_2; have n0_ := Aside0.mk (below_step HB.out hb); have n1_ := Aside0.mk (blk_below BK1.out hb); have n2_ := Aside0.mk (blk_below BK2.out hb); have SZ3 := Aside0.mk (show w1002.heap.size ≤ w1003.heap.size from (hb).size); clear HB BK1 BK2; have HB := n0_; have BK1 := n1_; have BK2 := n2_; clear n0_ n1_ n2_; have BK3 := Aside0.mk hbox; have GL3 := Aside0.mk (show w1002.heap.size ≤ g3 from Nat.le_of_eq hg.symm); have GU3 := Aside0.mk (blk_lt hbox); clear hbox hg hb; have hx1_0 := cz_ BK1.out 0; have hf1_0 : w1003.frozen? ⟨g1, 0, none⟩ = false := blk_frozen BK1.out 0; have hx1_1 := cz_ BK1.out 1; have hf1_1 : w1003.frozen? ⟨g1, 1, none⟩ = false := blk_frozen BK1.out 1; have hx1_2 := cz_ BK1.out 2; have hf1_2 : w1003.frozen? ⟨g1, 2, none⟩ = false := blk_frozen BK1.out 2; have hx2_0 := cz_ BK2.out 0; have hf2_0 : w1003.frozen? ⟨g2, 0, none⟩ = false := blk_frozen BK2.out 0; have hx2_1 := cz_ BK2.out 1; have hf2_1 : w1003.frozen? ⟨g2, 1, none⟩ = false := blk_frozen BK2.out 1; have hx2_2 := cz_ BK2.out 2; have hf2_2 : w1003.frozen? ⟨g2, 2, none⟩ = false := blk_frozen BK2.out 2; have hx3_0 := cz_ BK3.out 0; have hf3_0 : w1003.frozen? ⟨g3, 0, none⟩ = false := blk_frozen BK3.out 0; have hx3_1 := cz_ BK3.out 1; have hf3_1 : w1003.frozen? ⟨g3, 1, none⟩ = false := blk_frozen BK3.out 1; have hx3_2 := cz_ BK3.out 2; have hf3_2 : w1003.frozen? ⟨g3, 2, none⟩ = false := blk_frozen BK3.out 2) | ((with_reducible refine gate_store (t := 3) (p := 6) rfl ?_); refine se_ 3 6 (w1003.setCell ⟨g3, 0, none⟩ (.int .i64 a0_0)) ?_; intro w2003 hw; have hge_ : w.heap.size ≤ g3 := (by have := GL3.out; have := SZ1.out; have := SZ2.out; omega); have hb : Below w.heap.size w w2003 := (by rw [hw]; exact below_set (HB.out) hge_); have hkp : Kept w1003 w2003 (fun k_ => k_ = g3) := (by rw [hw]; exact Kept.setCell (Kept.refl w1003 (fun k_ => k_ = g3)) (.inl rfl) (.int .i64 a0_0)); have hbk : w2003.heap[g3]? = some (.cells #[.int .i64 a0_0, .slice none 0 0, .slice none 0 0] 32 (0, 0)) := (by rw [hw]; exact blk_put (cs' := #[.int .i64 a0_0, .slice none 0 0, .slice none 0 0]) (BK3.out) 0 (.int .i64 a0_0) rfl); clear hx1_0 hf1_0 hx1_1 hf1_1 hx1_2 hf1_2 hx2_0 hf2_0 hx2_1 hf2_1 hx2_2 hf2_2 hx3_0 hf3_0 hx3_1 hf3_1 hx3_2 hf3_2; have n0_ := Aside0.mk (hb); have n1_ := Aside0.mk ((hkp.2 g1 (blk_lt BK1.out) (fun e_ => (by have e2_ : g1 = g3 := e_; have := GL1.out; have := GU1.out; have := GL3.out; have := GU3.out; have := SZ2.out; omega))).trans BK1.out); have n2_ := Aside0.mk ((hkp.2 g2 (blk_lt BK2.out) (fun e_ => (by have e2_ : g2 = g3 := e_; have := GL2.out; have := GU2.out; have := GL3.out; have := GU3.out; omega))).trans BK2.out); have n3_ := Aside0.mk (hbk); have SZ4 := Aside0.mk (show w1003.heap.size ≤ w2003.heap.size from hkp.1); clear HB BK1 BK2 BK3; have HB := n0_; have BK1 := n1_; have BK2 := n2_; have BK3 := n3_; clear n0_ n1_ n2_ n3_; clear hb hkp hbk hw hge_; have hx1_0 := cz_ BK1.out 0; have hf1_0 : w2003.frozen? ⟨g1, 0, none⟩ = false := blk_frozen BK1.out 0; have hx1_1 := cz_ BK1.out 1; have hf1_1 : w2003.frozen? ⟨g1, 1, none⟩ = false := blk_frozen BK1.out 1; have hx1_2 := cz_ BK1.out 2; have hf1_2 : w2003.frozen? ⟨g1, 2, none⟩ = false := blk_frozen BK1.out 2; have hx2_0 := cz_ BK2.out 0; have hf2_0 : w2003.frozen? ⟨g2, 0, none⟩ = false := blk_frozen BK2.out 0; have hx2_1 := cz_ BK2.out 1; have hf2_1 : w2003.frozen? ⟨g2, 1, none⟩ = false := blk_frozen BK2.out 1; have hx2_2 := cz_ BK2.out 2; have hf2_2 : w2003.frozen? ⟨g2, 2, none⟩ = false := blk_frozen BK2.out 2; have hx3_0 := cz_ BK3.out 0; have hf3_0 : w2003.frozen? ⟨g3, 0, none⟩ = false := blk_frozen BK3.out 0; have hx3_1 := cz_ BK3.out 1; have hf3_1 : w2003.frozen? ⟨g3, 1, none⟩ = false := blk_frozen BK3.out 1; have hx3_2 := cz_ BK3.out 2; have hf3_2 : w2003.frozen? ⟨g3, 2, none⟩ = false := blk_frozen BK3.out 2) | (go_at_call 28; (with_reducible refine (laws_toIntSS.calls k _ _ l0_1 t4 _ ?sd4_1 ?sd4_2 A4.out).mono ?_); (case sd4_1 => exact Kd.C_below HR0_1.out HB.out); (case sd4_2 => exact HC0_1.out); rintro e w1004 ⟨v_5, rfl, ho0, hb⟩; have hs_ := below_size HB.out; clear hx1_0 hf1_0 hx1_1 hf1_1 hx1_2 hf1_2 hx2_0 hf2_0 hx2_1 hf2_1 hx2_2 hf2_2 hx3_0 hf3_0 hx3_1 hf3_1 hx3_2 hf3_2; have n0_ := Aside0.mk (below_step HB.out hb); have n1_ := Aside0.mk (blk_below BK1.out hb); have n2_ := Aside0.mk (blk_below BK2.out hb); have n3_ := Aside0.mk (blk_below BK3.out hb); have SZ5 := Aside0.mk (show w2003.heap.size ≤ w1004.heap.size from (hb).size); clear HB BK1 BK2 BK3; have HB := n0_; have BK1 := n1_; have BK2 := n2_; have BK3 := n3_; clear n0_ n1_ n2_ n3_; have HO5 := Aside0.mk (S_zone ho0 hs_); clear ho0; obtain ⟨A_5, c_5, e_5⟩ := Kd.S_slice HO5.out; subst e_5; clear hb hs_; have hx1_0 := cz_ BK1.out 0; have hf1_0 : w1004.frozen? ⟨g1, 0, none⟩ = false := blk_frozen BK1.out 0; have hx1_1 := cz_ BK1.out 1; have hf1_1 : w1004.frozen? ⟨g1, 1, none⟩ = false := blk_frozen BK1.out 1; have hx1_2 := cz_ BK1.out 2; have hf1_2 : w1004.frozen? ⟨g1, 2, none⟩ = false := blk_frozen BK1.out 2; have hx2_0 := cz_ BK2.out 0; have hf2_0 : w1004.frozen? ⟨g2, 0, none⟩ = false := blk_frozen BK2.out 0; have hx2_1 := cz_ BK2.out 1; have hf2_1 : w1004.frozen? ⟨g2, 1, none⟩ = false := blk_frozen BK2.out 1; have hx2_2 := cz_ BK2.out 2; have hf2_2 : w1004.frozen? ⟨g2, 2, none⟩ = false := blk_frozen BK2.out 2; have hx3_0 := cz_ BK3.out 0; have hf3_0 : w1004.frozen? ⟨g3, 0, none⟩ = false := blk_frozen BK3.out 0; have hx3_1 := cz_ BK3.out 1; have hf3_1 : w1004.frozen? ⟨g3, 1, none⟩ = false := blk_frozen BK3.out 1; have hx3_2 := cz_ BK3.out 2; have hf3_2 : w1004.frozen? ⟨g3, 2, none⟩ = false := blk_frozen BK3.out 2) | ((with_reducible refine gate_store (t := 22) (p := 10) rfl ?_); refine se_ 22 10 (w1004.setCell ⟨g3, 1, none⟩ (.slice A_5 t4.length c_5)) ?_; intro w2005 hw; have hge_ : w.heap.size ≤ g3 := (by have := GL3.out; have := SZ1.out; have := SZ2.out; omega); have hb : Below w.heap.size w w2005 := (by rw [hw]; exact below_set (HB.out) hge_); have hkp : Kept w1004 w2005 (fun k_ => k_ = g3) := (by rw [hw]; exact Kept.setCell (Kept.refl w1004 (fun k_ => k_ = g3)) (.inl rfl) (.slice A_5 t4.length c_5)); have hbk : w2005.heap[g3]? = some (.cells #[.int .i64 a0_0, .slice A_5 t4.length c_5, .slice none 0 0] 32 (0, 0)) := (by rw [hw]; exact blk_put (cs' := #[.int .i64 a0_0, .slice A_5 t4.length c_5, .slice none 0 0]) (BK3.out) 1 (.slice A_5 t4.length c_5) rfl); clear hx1_0 hf1_0 hx1_1 hf1_1 hx1_2 hf1_2 hx2_0 hf2_0 hx2_1 hf2_1 hx2_2 hf2_2 hx3_0 hf3_0 hx3_1 hf3_1 hx3_2 hf3_2; have n0_ := Aside0.mk (hb); have n1_ := Aside0.mk (Kd.S_step HO5.out (fun k_ h_ hlt_ => hkp.2 k_ hlt_ (fun e_ => (show False from Zone.notblk h_ e_ (by have := GL3.out; have := GU3.out; have := SZ4.out; first | exact .inl (by omega) | exact .inr (by omega))).elim))); have n2_ := Aside0.mk ((hkp.2 g1 (blk_lt BK1.out) (fun e_ => (by have e2_ : g1 = g3 := e_; have := GL1.out; have := GU1.out; have := GL3.out; have := GU3.out; have := SZ2.out; omega))).trans BK1.out); have n3_ := Aside0.mk ((hkp.2 g2 (blk_lt BK2.out) (fun e_ => (by have e2_ : g2 = g3 := e_; have := GL2.out; have := GU2.out; have := GL3.out; have := GU3.out; omega))).trans BK2.out); have n4_ := Aside0.mk (hbk); have SZ6 := Aside0.mk (show w1004.heap.size ≤ w2005.heap.size from hkp.1); clear HB HO5 BK1 BK2 BK3; have HB := n0_; have HO5 := n1_; have BK1 := n2_; have BK2 := n3_; have BK3 := n4_; clear n0_ n1_ n2_ n3_ n4_; clear hb hkp hbk hw hge_; have hx1_0 := cz_ BK1.out 0; have hf1_0 : w2005.frozen? ⟨g1, 0, none⟩ = false := blk_frozen BK1.out 0; have hx1_1 := cz_ BK1.out 1; have hf1_1 : w2005.frozen? ⟨g1, 1, none⟩ = false := blk_frozen BK1.out 1; have hx1_2 := cz_ BK1.out 2; have hf1_2 : w2005.frozen? ⟨g1, 2, none⟩ = false := blk_frozen BK1.out 2; have hx2_0 := cz_ BK2.out 0; have hf2_0 : w2005.frozen? ⟨g2, 0, none⟩ = false := blk_frozen BK2.out 0; have hx2_1 := cz_ BK2.out 1; have hf2_1 : w2005.frozen? ⟨g2, 1, none⟩ = false := blk_frozen BK2.out 1; have hx2_2 := cz_ BK2.out 2; have hf2_2 : w2005.frozen? ⟨g2, 2, none⟩ = false := blk_frozen BK2.out 2; have hx3_0 := cz_ BK3.out 0; have hf3_0 : w2005.frozen? ⟨g3, 0, none⟩ = false := blk_frozen BK3.out 0; have hx3_1 := cz_ BK3.out 1; have hf3_1 : w2005.frozen? ⟨g3, 1, none⟩ = false := blk_frozen BK3.out 1; have hx3_2 := cz_ BK3.out 2; have hf3_2 : w2005.frozen? ⟨g3, 2, none⟩ = false := blk_frozen BK3.out 2) | (go_at_call 28; (with_reducible refine (laws_toIntSS.calls k _ _ l0_2 t6 _ ?sd6_1 ?sd6_2 A6.out).mono ?_); (case sd6_1 => exact Kd.C_below HR0_2.out HB.out); (case sd6_2 => exact HC0_2.out); rintro e w1006 ⟨v_7, rfl, ho0, hb⟩; have hs_ := below_size HB.out; clear hx1_0 hf1_0 hx1_1 hf1_1 hx1_2 hf1_2 hx2_0 hf2_0 hx2_1 hf2_1 hx2_2 hf2_2 hx3_0 hf3_0 hx3_1 hf3_1 hx3_2 hf3_2; have n0_ := Aside0.mk (below_step HB.out hb); have n1_ := Aside0.mk (Kd.S_below HO5.out hb); have n2_ := Aside0.mk (blk_below BK1.out hb); have n3_ := Aside0.mk (blk_below BK2.out hb); have n4_ := Aside0.mk (blk_below BK3.out hb); have SZ7 := Aside0.mk (show w2005.heap.size ≤ w1006.heap.size from (hb).size); clear HB HO5 BK1 BK2 BK3; have HB := n0_; have HO5 := n1_; have BK1 := n2_; have BK2 := n3_; have BK3 := n4_; clear n0_ n1_ n2_ n3_ n4_; have HO7 := Aside0.mk (S_zone ho0 hs_); clear ho0; obtain ⟨A_7, c_7, e_7⟩ := Kd.S_slice HO7.out; subst e_7; clear hb hs_; have hx1_0 := cz_ BK1.out 0; have hf1_0 : w1006.frozen? ⟨g1, 0, none⟩ = false := blk_frozen BK1.out 0; have hx1_1 := cz_ BK1.out 1; have hf1_1 : w1006.frozen? ⟨g1, 1, none⟩ = false := blk_frozen BK1.out 1; have hx1_2 := cz_ BK1.out 2; have hf1_2 : w1006.frozen? ⟨g1, 2, none⟩ = false := blk_frozen BK1.out 2; have hx2_0 := cz_ BK2.out 0; have hf2_0 : w1006.frozen? ⟨g2, 0, none⟩ = false := blk_frozen BK2.out 0; have hx2_1 := cz_ BK2.out 1; have hf2_1 : w1006.frozen? ⟨g2, 1, none⟩ = false := blk_frozen BK2.out 1; have hx2_2 := cz_ BK2.out 2; have hf2_2 : w1006.frozen? ⟨g2, 2, none⟩ = false := blk_frozen BK2.out 2; have hx3_0 := cz_ BK3.out 0; have hf3_0 : w1006.frozen? ⟨g3, 0, none⟩ = false := blk_frozen BK3.out 0; have hx3_1 := cz_ BK3.out 1; have hf3_1 : w1006.frozen? ⟨g3, 1, none⟩ = false := blk_frozen BK3.out 1; have hx3_2 := cz_ BK3.out 2; have hf3_2 : w1006.frozen? ⟨g3, 2, none⟩ = false := blk_frozen BK3.out 2) | ((with_reducible refine gate_store (t := 22) (p := 14) rfl ?_); refine se_ 22 14 (w1006.setCell ⟨g3, 2, none⟩ (.slice A_7 t6.length c_7)) ?_; intro w2007 hw; have hge_ : w.heap.size ≤ g3 := (by have := GL3.out; have := SZ1.out; have := SZ2.out; omega); have hb : Below w.heap.size w w2007 := (by rw [hw]; exact below_set (HB.out) hge_); have hkp : Kept w1006 w2007 (fun k_ => k_ = g3) := (by rw [hw]; exact Kept.setCell (Kept.refl w1006 (fun k_ => k_ = g3)) (.inl rfl) (.slice A_7 t6.length c_7)); have hbk : w2007.heap[g3]? = some (.cells #[.int .i64 a0_0, .slice A_5 t4.length c_5, .slice A_7 t6.length c_7] 32 (0, 0)) := (by rw [hw]; exact blk_put (cs' := #[.int .i64 a0_0, .slice A_5 t4.length c_5, .slice A_7 t6.length c_7]) (BK3.out) 2 (.slice A_7 t6.length c_7) rfl); clear hx1_0 hf1_0 hx1_1 hf1_1 hx1_2 hf1_2 hx2_0 hf2_0 hx2_1 hf2_1 hx2_2 hf2_2 hx3_0 hf3_0 hx3_1 hf3_1 hx3_2 hf3_2; have n0_ := Aside0.mk (hb); have n1_ := Aside0.mk (Kd.S_step HO5.out (fun k_ h_ hlt_ => hkp.2 k_ hlt_ (fun e_ => (show False from Zone.notblk h_ e_ (by have := GL3.out; have := GU3.out; have := SZ4.out; first | exact .inl (by omega) | exact .inr (by omega))).elim))); have n2_ := Aside0.mk (Kd.S_step HO7.out (fun k_ h_ hlt_ => hkp.2 k_ hlt_ (fun e_ => (show False from Zone.notblk h_ e_ (by have := GL3.out; have := GU3.out; have := SZ4.out; have := SZ5.out; have := SZ6.out; first | exact .inl (by omega) | exact .inr (by omega))).elim))); have n3_ := Aside0.mk ((hkp.2 g1 (blk_lt BK1.out) (fun e_ => (by have e2_ : g1 = g3 := e_; have := GL1.out; have := GU1.out; have := GL3.out; have := GU3.out; have := SZ2.out; omega))).trans BK1.out); have n4_ := Aside0.mk ((hkp.2 g2 (blk_lt BK2.out) (fun e_ => (by have e2_ : g2 = g3 := e_; have := GL2.out; have := GU2.out; have := GL3.out; have := GU3.out; omega))).trans BK2.out); have n5_ := Aside0.mk (hbk); have SZ8 := Aside0.mk (show w1006.heap.size ≤ w2007.heap.size from hkp.1); clear HB HO5 HO7 BK1 BK2 BK3; have HB := n0_; have HO5 := n1_; have HO7 := n2_; have BK1 := n3_; have BK2 := n4_; have BK3 := n5_; clear n0_ n1_ n2_ n3_ n4_ n5_; clear hb hkp hbk hw hge_; have hx1_0 := cz_ BK1.out 0; have hf1_0 : w2007.frozen? ⟨g1, 0, none⟩ = false := blk_frozen BK1.out 0; have hx1_1 := cz_ BK1.out 1; have hf1_1 : w2007.frozen? ⟨g1, 1, none⟩ = false := blk_frozen BK1.out 1; have hx1_2 := cz_ BK1.out 2; have hf1_2 : w2007.frozen? ⟨g1, 2, none⟩ = false := blk_frozen BK1.out 2; have hx2_0 := cz_ BK2.out 0; have hf2_0 : w2007.frozen? ⟨g2, 0, none⟩ = false := blk_frozen BK2.out 0; have hx2_1 := cz_ BK2.out 1; have hf2_1 : w2007.frozen? ⟨g2, 1, none⟩ = false := blk_frozen BK2.out 1; have hx2_2 := cz_ BK2.out 2; have hf2_2 : w2007.frozen? ⟨g2, 2, none⟩ = false := blk_frozen BK2.out 2; have hx3_0 := cz_ BK3.out 0; have hf3_0 : w2007.frozen? ⟨g3, 0, none⟩ = false := blk_frozen BK3.out 0; have hx3_1 := cz_ BK3.out 1; have hf3_1 : w2007.frozen? ⟨g3, 1, none⟩ = false := blk_frozen BK3.out 1; have hx3_2 := cz_ BK3.out 2; have hf3_2 : w2007.frozen? ⟨g3, 2, none⟩ = false := blk_frozen BK3.out 2) | ((with_reducible refine gate_store (t := 32) (p := 2) rfl ?_); refine se_ 32 2 (((w2007.setCell ⟨g2, 0, none⟩ (.int .i64 a0_0)).setCell ⟨g2, 1, none⟩ (.slice A_5 t4.length c_5)).setCell ⟨g2, 2, none⟩ (.slice A_7 t6.length c_7)) ?_; intro w2008 hw; have hge_ : w.heap.size ≤ g2 := (by have := GL2.out; have := SZ1.out; omega); have hb : Below w.heap.size w w2008 := (by rw [hw]; exact below_set (below_set (below_set (HB.out) hge_) hge_) hge_); have hkp : Kept w2007 w2008 (fun k_ => k_ = g2) := (by rw [hw]; exact Kept.setCell (Kept.setCell (Kept.setCell (Kept.refl w2007 (fun k_ => k_ = g2)) (.inl rfl) (.int .i64 a0_0)) (.inl rfl) (.slice A_5 t4.length c_5)) (.inl rfl) (.slice A_7 t6.length c_7)); have hbk : w2008.heap[g2]? = some (.cells #[.int .i64 a0_0, .slice A_5 t4.length c_5, .slice A_7 t6.length c_7] 32 (0, 0)) := (by rw [hw]; exact blk_put (cs' := #[.int .i64 a0_0, .slice A_5 t4.length c_5, .slice A_7 t6.length c_7]) (blk_put (cs' := #[.int .i64 a0_0, .slice A_5 t4.length c_5, .slice none 0 0]) (blk_put (cs' := #[.int .i64 a0_0, .slice none 0 0, .slice none 0 0]) (BK2.out) 0 (.int .i64 a0_0) rfl) 1 (.slice A_5 t4.length c_5) rfl) 2 (.slice A_7 t6.length c_7) rfl); clear hx1_0 hf1_0 hx1_1 hf1_1 hx1_2 hf1_2 hx2_0 hf2_0 hx2_1 hf2_1 hx2_2 hf2_2 hx3_0 hf3_0 hx3_1 hf3_1 hx3_2 hf3_2; have n0_ := Aside0.mk (hb); have n1_ := Aside0.mk (Kd.S_step HO5.out (fun k_ h_ hlt_ => hkp.2 k_ hlt_ (fun e_ => (show False from Zone.notblk h_ e_ (by have := GL2.out; have := GU2.out; have := SZ3.out; have := SZ4.out; first | exact .inl (by omega) | exact .inr (by omega))).elim))); have n2_ := Aside0.mk (Kd.S_step HO7.out (fun k_ h_ hlt_ => hkp.2 k_ hlt_ (fun e_ => (show False from Zone.notblk h_ e_ (by have := GL2.out; have := GU2.out; have := SZ3.out; have := SZ4.out; have := SZ5.out; have := SZ6.out; first | exact .inl (by omega) | exact .inr (by omega))).elim))); have n3_ := Aside0.mk ((hkp.2 g1 (blk_lt BK1.out) (fun e_ => (by have e2_ : g1 = g2 := e_; have := GL1.out; have := GU1.out; have := GL2.out; have := GU2.out; omega))).trans BK1.out); have n4_ := Aside0.mk (hbk); have n5_ := Aside0.mk ((hkp.2 g3 (blk_lt BK3.out) (fun e_ => (by have e2_ : g3 = g2 := e_; have := GL3.out; have := GU3.out; have := GL2.out; have := GU2.out; omega))).trans BK3.out); have SZ9 := Aside0.mk (show w2007.heap.size ≤ w2008.heap.size from hkp.1); clear HB HO5 HO7 BK1 BK2 BK3; have HB := n0_; have HO5 := n1_; have HO7 := n2_; have BK1 := n3_; have BK2 := n4_; have BK3 := n5_; clear n0_ n1_ n2_ n3_ n4_ n5_; clear hb hkp hbk hw hge_; have hx1_0 := cz_ BK1.out 0; have hf1_0 : w2008.frozen? ⟨g1, 0, none⟩ = false := blk_frozen BK1.out 0; have hx1_1 := cz_ BK1.out 1; have hf1_1 : w2008.frozen? ⟨g1, 1, none⟩ = false := blk_frozen BK1.out 1; have hx1_2 := cz_ BK1.out 2; have hf1_2 : w2008.frozen? ⟨g1, 2, none⟩ = false := blk_frozen BK1.out 2; have hx2_0 := cz_ BK2.out 0; have hf2_0 : w2008.frozen? ⟨g2, 0, none⟩ = false := blk_frozen BK2.out 0; have hx2_1 := cz_ BK2.out 1; have hf2_1 : w2008.frozen? ⟨g2, 1, none⟩ = false := blk_frozen BK2.out 1; have hx2_2 := cz_ BK2.out 2; have hf2_2 : w2008.frozen? ⟨g2, 2, none⟩ = false := blk_frozen BK2.out 2; have hx3_0 := cz_ BK3.out 0; have hf3_0 : w2008.frozen? ⟨g3, 0, none⟩ = false := blk_frozen BK3.out 0; have hx3_1 := cz_ BK3.out 1; have hf3_1 : w2008.frozen? ⟨g3, 1, none⟩ = false := blk_frozen BK3.out 1; have hx3_2 := cz_ BK3.out 2; have hf3_2 : w2008.frozen? ⟨g3, 2, none⟩ = false := blk_frozen BK3.out 2))
  refine bodyPost_ret (results_cell_row rfl _ _ g2 32 #[.int .i64 a0_0, .slice A_5 t4.length c_5, .slice A_7 t6.length c_7] (0, 0) _ rfl BK2.out Try.underlying32 rfl (by kernel_rfl)) rfl ?_
  exact ⟨_, _, w2003, w1004, w2005, w1006, rfl, HO5.out, HO7.out, ⟨(by have := SZ1.out; have := SZ2.out; have := SZ3.out; have := SZ4.out; first | exact Nat.le_refl _ | omega), (by have := SZ5.out; first | exact Nat.le_refl _ | omega), (by have := SZ6.out; first | exact Nat.le_refl _ | omega), (by have := SZ7.out; first | exact Nat.le_refl _ | omega), (by have := SZ8.out; have := SZ9.out; first | exact Nat.le_refl _ | omega)⟩, HB.out⟩

/-! ### laws_toField: function 9 -/
def laws_toField.f (k : Nat) (a0_0 : Int) (a0_1 : Int) (l0_2 : List Int) : Option (Int × Int × List Int) := (laws_toIntS.f k l0_2).bind fun t175 => (some (a0_0, a0_1, t175))
theorem laws_toField.mono : ∀ a0 a1 a2 k, LeO (laws_toField.f k a0 a1 a2) (laws_toField.f (k + 1) a0 a1 a2) := by
 intro a0 a1 a2 k
 unfold laws_toField.f
 repeat' first
   | (with_reducible exact laws_toIntS.mono _ _)
   | (with_reducible exact LeO.refl _)
   | (with_reducible exact LeO.none _)
   | (with_reducible refine LeO.ite ?_ ?_)
   | (with_reducible refine LeO.bind ?_ (fun _ => ?_))
   | exact laws_toIntS.mono _ _
   | exact LeO.none _
   | refine LeO.ite ?_ ?_
   | refine LeO.bind ?_ (fun _ => ?_)
set_option maxHeartbeats 8000000 in
set_option maxRecDepth 100000 in
theorem laws_toField.calls (k : Nat) (a0_0 : Int) (a0_1 : Int) (A0_2 : Option Addr) (c0_2 : Nat) (l0_2 : List Int) (r1 : Int) (r2 : Int) (r3 : List Int) (w : World) (hr0_2 : Kd.C (Kd.int .i64) w A0_2 l0_2.length l0_2) (hc0_2 : l0_2.length ≤ c0_2) (h : laws_toField.f k a0_0 a0_1 l0_2 = some (r1, r2, r3)) :
  Calls Try.prog 9 #[.agg #[.int .i64 a0_0, .int .i64 a0_1, .slice A0_2 l0_2.length c0_2]] w fun e w' => ∃ v2_ : Value, e = .returned (.agg #[.int .i64 r1, .int .i64 r2, v2_]) ∧ Kd.R (Kd.int .i64) 3 w' w.heap.size (fun _ => True) v2_ r3 ∧ Below w.heap.size w w' := by
 have hu27 := Try.underlying27
 have hu34 := Try.underlying34
 have HR0_2 := Aside0.mk hr0_2
 have HC0_2 := Aside0.mk hc0_2
 clear hr0_2 hc0_2
 have HB := Aside0.mk (Below.refl w.heap.size w)
 have H : ((laws_toIntS.f k l0_2).bind fun t175 => (some (a0_0, a0_1, t175))) = some (r1, r2, r3) := h
 clear h
 obtain ⟨t175, A20, H⟩ := bE_ H
 have A2 := Aside0.mk A20
 clear A20
 simp only [Option.some.injEq, Prod.mk.injEq] at H
 obtain ⟨rfl, rfl, rfl⟩ := H
 go_enter Try.func9, Try.ntmps9
 go_wp2_with (first | ((with_reducible refine gate_dst (N := 1) rfl ?_); refine bx_ 1 #[.int .i64 a0_0, .int .i64 a0_1, .slice A0_2 l0_2.length c0_2] 27 ?_; intro gb172 hg w3 hbox hb; have n0_ := Aside0.mk (below_step (bw_ HB.out) hb); have n1_ := Aside0.mk (hbox); have n2_ := Aside0.mk (gs_ hg (bw_ HB.out)); have n3_ := Aside0.mk (gs_ hg (bw_ HB.out)); clear HB; have HB := n0_; have BK172 := n1_; have GW172 := n2_; have GE172 := n3_; clear n0_ n1_ n2_ n3_; clear hb hbox hg) | ((with_reducible refine gate_dst (N := 2) rfl ?_); refine bx_ 2 #[.int .i64 0, .int .i64 0, .slice none 0 0] 34 ?_; intro gb173 hg w4 hbox hb; have n0_ := Aside0.mk (blk_below (bk_ BK172.out) hb); have n1_ := Aside0.mk (below_step (bw_ HB.out) hb); have n2_ := Aside0.mk (hbox); have n3_ := Aside0.mk (gs_ hg (bw_ HB.out)); have n4_ := Aside0.mk (gs_ hg (bw_ HB.out)); have n5_ := Aside0.mk (nl_ hg (bk_ BK172.out)); have n6_ := Aside0.mk (ng_ hg (bk_ BK172.out)); clear BK172; clear HB; have BK172 := n0_; have HB := n1_; have BK173 := n2_; have GW173 := n3_; have GE173 := n4_; have NB172_173 := n5_; have NB173_172 := n6_; clear n0_ n1_ n2_ n3_ n4_ n5_ n6_; clear hb hbox hg) | ((with_reducible refine gate_dst (N := 3) rfl ?_); refine bx_ 3 #[.int .i64 0, .int .i64 0, .slice none 0 0] 34 ?_; intro gb174 hg w5 hbox hb; have n0_ := Aside0.mk (blk_below (bk_ BK172.out) hb); have n1_ := Aside0.mk (blk_below (bk_ BK173.out) hb); have n2_ := Aside0.mk (below_step (bw_ HB.out) hb); have n3_ := Aside0.mk (hbox); have n4_ := Aside0.mk (gs_ hg (bw_ HB.out)); have n5_ := Aside0.mk (gs_ hg (bw_ HB.out)); have n6_ := Aside0.mk (nl_ hg (bk_ BK172.out)); have n7_ := Aside0.mk (ng_ hg (bk_ BK172.out)); have n8_ := Aside0.mk (nl_ hg (bk_ BK173.out)); have n9_ := Aside0.mk (ng_ hg (bk_ BK173.out)); clear BK172; clear BK173; clear HB; have BK172 := n0_; have BK173 := n1_; have HB := n2_; have BK174 := n3_; have GW174 := n4_; have GE174 := n5_; have NB172_174 := n6_; have NB174_172 := n7_; have NB173_174 := n8_; have NB174_173 := n9_; clear n0_ n1_ n2_ n3_ n4_ n5_ n6_ n7_ n8_ n9_; clear hb hbox hg; have hnb6 := NB172_173.out; have hnc6 := NB173_172.out; have hnb7 := NB172_174.out; have hnc7 := NB174_172.out; have hcz8_0 := cz_ BK172.out 0; have hcz8_1 := cz_ BK172.out 1; have hcz8_2 := cz_ BK172.out 2; have hfz8_0 := blk_frozen BK172.out 0; have hfz8_1 := blk_frozen BK172.out 1; have hfz8_2 := blk_frozen BK172.out 2; have hnb9 := NB174_173.out; have hnc9 := NB173_174.out; have hcz10_0 := cz_ BK174.out 0; have hcz10_1 := cz_ BK174.out 1; have hcz10_2 := cz_ BK174.out 2; have hfz10_0 := blk_frozen BK174.out 0; have hfz10_1 := blk_frozen BK174.out 1; have hfz10_2 := blk_frozen BK174.out 2) | ((with_reducible refine gate_callee (f := 29) rfl ?_); refine goesL_ (some 12) rfl rfl Try.func29 (by kernel_rfl) rfl #[.slice A0_2 l0_2.length c0_2] rfl (by (try simp only [List.map_toArray, List.map_cons, List.map_nil]); first | done | rfl | (simp only [List.length_drop, List.length_take]; rfl)) ?_; (with_reducible refine (laws_toIntS.calls k _ _ l0_2 t175 _ ?side1 ?side2 A2.out).mono ?_); (case side1 => exact Kd.C_below HR0_2.out (bw_ HB.out)); (case side2 => exact HC0_2.out); rintro e w11 ⟨v176, rfl, ho0, hb⟩; refine ⟨_, rfl, ?_⟩; have n0_ := Aside0.mk (Kd.R_lower ho0 (below_size (bw_ HB.out))); have n1_ := Aside0.mk (blk_below (g := gb172) (o := .cells #[.int .i64 a0_0, .int .i64 a0_1, .slice A0_2 l0_2.length c0_2] 27 (0, 0)) (by (with_reducible repeat (first | refine blk_drewN ?_ _ | refine blk_drew ?_ | refine blk_alloc ?_ _)); refine blk_far ?_ NB172_174.out _; (with_reducible repeat (first | refine blk_drewN ?_ _ | refine blk_drew ?_ | refine blk_alloc ?_ _)); refine blk_far ?_ NB172_174.out _; (with_reducible repeat (first | refine blk_drewN ?_ _ | refine blk_drew ?_ | refine blk_alloc ?_ _)); exact BK172.out) hb); have n2_ := Aside0.mk (blk_below (g := gb173) (o := .cells #[.int .i64 0, .int .i64 0, .slice none 0 0] 34 (0, 0)) (by (with_reducible repeat (first | refine blk_drewN ?_ _ | refine blk_drew ?_ | refine blk_alloc ?_ _)); refine blk_far ?_ NB173_174.out _; (with_reducible repeat (first | refine blk_drewN ?_ _ | refine blk_drew ?_ | refine blk_alloc ?_ _)); refine blk_far ?_ NB173_174.out _; (with_reducible repeat (first | refine blk_drewN ?_ _ | refine blk_drew ?_ | refine blk_alloc ?_ _)); exact BK173.out) hb); have n3_ := Aside0.mk (blk_below (g := gb174) (o := .cells #[.int .i64 a0_0, .int .i64 a0_1, .slice none 0 0] 34 (0, 0)) (by (with_reducible repeat (first | refine blk_drewN ?_ _ | refine blk_drew ?_ | refine blk_alloc ?_ _)); refine blk_put (cs := #[.int .i64 a0_0, .int .i64 0, .slice none 0 0]) ?_ 1 _ rfl; (with_reducible repeat (first | refine blk_drewN ?_ _ | refine blk_drew ?_ | refine blk_alloc ?_ _)); refine blk_put (cs := #[.int .i64 0, .int .i64 0, .slice none 0 0]) ?_ 0 _ rfl; (with_reducible repeat (first | refine blk_drewN ?_ _ | refine blk_drew ?_ | refine blk_alloc ?_ _)); exact BK174.out) hb); have n4_ := Aside0.mk (below_step (bw_ HB.out) hb); clear BK172; clear BK173; clear BK174; clear HB; have HO177 := n0_; have BK172 := n1_; have BK173 := n2_; have BK174 := n3_; have HB := n4_; clear n0_ n1_ n2_ n3_ n4_; (try clear hb); (try clear hb2); (try clear hk); (try clear hi); (try clear ho0); obtain ⟨Ao12, co12, eo12⟩ := Kd.R_slice HO177.out; subst eo12; have hcz13_0 := cz_ BK174.out 0; have hcz13_1 := cz_ BK174.out 1; have hcz13_2 := cz_ BK174.out 2; have hfz13_0 := blk_frozen BK174.out 0; have hfz13_1 := blk_frozen BK174.out 1; have hfz13_2 := blk_frozen BK174.out 2; have hcz14_0 := cz_ BK173.out 0; have hcz14_1 := cz_ BK173.out 1; have hcz14_2 := cz_ BK173.out 2; have hfz14_0 := blk_frozen BK173.out 0; have hfz14_1 := blk_frozen BK173.out 1; have hfz14_2 := blk_frozen BK173.out 2))
 refine bodyPost_ret (results_cell_row rfl _ _ gb173 34 #[.int .i64 a0_0, .int .i64 a0_1, .slice Ao12 t175.length co12] (0, 0) _ rfl (by (with_reducible repeat (first | refine blk_drewN ?_ _ | refine blk_drew ?_ | refine blk_alloc ?_ _)); refine blk_put (cs := #[.int .i64 a0_0, .int .i64 a0_1, .slice none 0 0]) ?_ 2 _ rfl; (with_reducible repeat (first | refine blk_drewN ?_ _ | refine blk_drew ?_ | refine blk_alloc ?_ _)); refine blk_put (cs := #[.int .i64 a0_0, .int .i64 0, .slice none 0 0]) ?_ 1 _ rfl; (with_reducible repeat (first | refine blk_drewN ?_ _ | refine blk_drew ?_ | refine blk_alloc ?_ _)); refine blk_put (cs := #[.int .i64 0, .int .i64 0, .slice none 0 0]) ?_ 0 _ rfl; (with_reducible repeat (first | refine blk_drewN ?_ _ | refine blk_drew ?_ | refine blk_alloc ?_ _)); refine blk_far ?_ NB173_174.out _; (with_reducible repeat (first | refine blk_drewN ?_ _ | refine blk_drew ?_ | refine blk_alloc ?_ _)); exact BK173.out) Try.underlying34 rfl (by kernel_rfl)) rfl ?_
 exact ⟨_, by first | rfl | (simp [errW_none, errW_some] <;> rfl) | (simp [*, errW_none, errW_some] <;> rfl), by (with_reducible repeat (first | apply Kd.R_alloc | apply Kd.R_drewN | apply Kd.R_drew)); exact Kd.R_mono (Kd.R_far (p := ⟨gb173, 2, none⟩) (Kd.R_far (p := ⟨gb173, 1, none⟩) (Kd.R_far (p := ⟨gb173, 0, none⟩) (Kd.R_far (p := ⟨gb174, 2, none⟩) (Kd.R_types (Kd.R_types HO177.out BK174.out (by decide)) BK173.out (by decide)) (fun _ hk => hk.1.2) (.slice Ao12 t175.length co12)) (fun _ hk => hk.2) (.int .i64 a0_0)) (fun _ hk => hk.2) (.int .i64 a0_1)) (fun _ hk => hk.2) (.slice Ao12 t175.length co12)) (fun _ hk => trivial), bw_ HB.out⟩

/-! ### impl_inRange: function 31 -/
def impl_inRange.f (a0 : Int) (a1 : Int) (a2 : Int) : Option (Bool) := if a1 ≤ a0 then (some (decide (a0 ≤ a2))) else (some false)
set_option maxHeartbeats 8000000 in
set_option maxRecDepth 100000 in
theorem impl_inRange.calls (a0 : Int) (a1 : Int) (a2 : Int) (r : Bool) (w : World) (h : impl_inRange.f a0 a1 a2 = some r) :
  Calls Try.prog 31 #[.int .i64 a0, .int .i64 a1, .int .i64 a2] w fun e w' => e = .returned (.bool r) ∧ Drawn0 w w' := by
 have H : (if a1 ≤ a0 then (some (decide (a0 ≤ a2))) else (some false)) = some r := h
 clear h
 by_cases c4 : a1 ≤ a0
 ·rw [if_pos c4] at H
  have c4b0 : decide (a1 ≤ a0) = true := decide_eq_true c4
  clear c4
  obtain rfl := Option.some.inj H
  go_enter Try.func31, Try.ntmps31
  go_wp2
  go_ret
  exact ⟨by first | rfl | (simp; done) | (simp [*]; done), by repeat (first | exact Drawn0.refl _ | apply Drawn0.step)⟩
 ·rw [if_neg c4] at H
  have c4b0 : decide (a1 ≤ a0) = false := decide_eq_false c4
  clear c4
  obtain rfl := Option.some.inj H
  go_enter Try.func31, Try.ntmps31
  go_wp2
  go_ret
  exact ⟨by first | rfl | (simp; done) | (simp [*]; done), by repeat (first | exact Drawn0.refl _ | apply Drawn0.step)⟩

end Go.Proofs.Ytblmejanjhmjdaa.XFnExactMayStand
