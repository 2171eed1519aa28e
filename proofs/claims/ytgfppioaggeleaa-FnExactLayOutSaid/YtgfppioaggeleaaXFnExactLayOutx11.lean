/- What the Go functions that this law comes to compute, each walked; written by a program of this session. -/
import Derived.Test.YtgfppioaggeleaaXShort
import Derived.Test.YtgfppioaggeleaaXMark
import Derived.Test.YtgfppioaggeleaaXFnExactLayOutx0
import Derived.Test.YtgfppioaggeleaaXFnExactLayOutx5
import Derived.Test.YtgfppioaggeleaaXFnExactLayOutx10
namespace Go.Proofs.Ytgfppioaggeleaa.XFnExactLayOut
open Go.RowKit Go.Proofs.YtgfppioaggeleaaW.PrintWords Go.Proofs.YtgfppioaggeleaaW.PrintLast Go.Proofs.YtgfppioaggeleaaW.PrintMore
attribute [local go_sem] str_geq max2_int min2_int max_two min_two max_three min_three max_four min_four   -- for this text's walks alone
set_option linter.unusedVariables false
set_option linter.unusedSimpArgs false

/-! ### impl_share: function 45 -/
mutual
def impl_share.l0 : Nat → List Int → List Int → Int → Int → List Int → Int → Int → Option (List Int)
 | 0, _, _, _, _, _, _, _ => none
 | k + 1, x1, x7, x21, x22, x257000, x261000, x262000 => if x22 < x21 then (if 0 ≤ x22 then (if x22 < (x1.length : Int) then (if x22 < (x257000.length : Int) then (impl_share.l0 k x1 x7 x21 (wrap64 (x22 + 1)) x257000 (wrap64 (x261000 - (rd x1 x22))) (wrap64 (x262000 + (rd x257000 x22)))) else (none)) else (none)) else (none)) else (if x261000 ≤ 0 then (impl_share.j1 k x7 true x257000 x261000 x262000) else (impl_share.j1 k x7 (x262000 == 0) x257000 x261000 x262000))
def impl_share.j1 : Nat → List Int → Bool → List Int → Int → Int → Option (List Int)
 | 0, _, _, _, _, _ => none
 | k + 1, x7, x43, x257000, x261000, x262000 => if x43 = true then (some x7) else (impl_share.l1 k x7 (([] : List Int)) 0 x257000 (x257000.length : Int) 0 x257000 x261000 x262000)
def impl_share.l1 : Nat → List Int → List Int → Int → List Int → Int → Int → List Int → Int → Int → Option (List Int)
 | 0, _, _, _, _, _, _, _, _, _ => none
 | k + 1, x7, x11, x12, x46, x47, x48, x257000, x261000, x262000 => if x48 < x47 then (if 0 ≤ x48 then (if x48 < (x46.length : Int) then (if x48 < (x7.length : Int) then (if x262000 = 0 then (none) else (if x11.length < 17592186044416 then (impl_share.l1 k (x7.set (x48 : Int).toNat (wrap64 ((rd x7 x48) + (wrap64 (Int.tdiv (wrap64 (x261000 * (rd x46 x48))) x262000))))) (x11 ++ [x48]) (wrap64 (x12 + (wrap64 (Int.tdiv (wrap64 (x261000 * (rd x46 x48))) x262000)))) x46 x47 (wrap64 (x48 + 1)) x257000 x261000 x262000) else (none))) else (none)) else (none)) else (none)) else ((SORT.f k x11 x261000 x257000 x262000).bind fun t273 => (if 0 ≤ (wrap64 (x261000 - x12)) then (if (wrap64 (x261000 - x12)) ≤ (x11.length : Int) then ((some (t273.take ((wrap64 (x261000 - x12)) : Int).toNat : List Int)).bind fun y274 => (impl_share.l2 k x7 y274 (y274.length : Int) 0)) else (none)) else (none)))
def impl_share.l2 : Nat → List Int → List Int → Int → Int → Option (List Int)
 | 0, _, _, _, _ => none
 | k + 1, x7, x83, x84, x85 => if x85 < x84 then (if 0 ≤ x85 then (if x85 < (x83.length : Int) then (if 0 ≤ (rd x83 x85) then (if (rd x83 x85) < (x7.length : Int) then (impl_share.l2 k (x7.set ((rd x83 x85) : Int).toNat (wrap64 ((rd x7 (rd x83 x85)) + 1))) x83 x84 (wrap64 (x85 + 1))) else (none)) else (none)) else (none)) else (none)) else (some x7)
end
def impl_share.f (k : Nat) (a0 : Int) (l1 : List Int) (l2 : List Int) : Option (List Int) := (slices_Clone_int_int.f l1).bind fun t257 => (impl_share.l0 k l1 t257 (l1.length : Int) 0 l2 a0 0)
theorem impl_share.mono_l : ∀ k, (∀ y0 y1 y2 y3 y4 y5 y6, LeO (impl_share.l0 k y0 y1 y2 y3 y4 y5 y6) (impl_share.l0 (k + 1) y0 y1 y2 y3 y4 y5 y6)) ∧ (∀ y0 y1 y2 y3 y4, LeO (impl_share.j1 k y0 y1 y2 y3 y4) (impl_share.j1 (k + 1) y0 y1 y2 y3 y4)) ∧ (∀ y0 y1 y2 y3 y4 y5 y6 y7 y8, LeO (impl_share.l1 k y0 y1 y2 y3 y4 y5 y6 y7 y8) (impl_share.l1 (k + 1) y0 y1 y2 y3 y4 y5 y6 y7 y8)) ∧ (∀ y0 y1 y2 y3, LeO (impl_share.l2 k y0 y1 y2 y3) (impl_share.l2 (k + 1) y0 y1 y2 y3))
 | 0 => ⟨fun _ _ _ _ _ _ _ r h => by simp [impl_share.l0] at h, fun _ _ _ _ _ r h => by simp [impl_share.j1] at h, fun _ _ _ _ _ _ _ _ _ r h => by simp [impl_share.l1] at h, fun _ _ _ _ r h => by simp [impl_share.l2] at h⟩
 | k + 1 => by
  obtain ⟨ih0, ih1, ih2, ih3⟩ := impl_share.mono_l k
  refine ⟨?_, ?_, ?_, ?_⟩
  ·intro y0 y1 y2 y3 y4 y5 y6
   unfold impl_share.l0
   repeat' first
   | (with_reducible exact ih0 _ _ _ _ _ _ _)
   | (with_reducible exact ih1 _ _ _ _ _)
   | (with_reducible exact ih2 _ _ _ _ _ _ _ _ _)
   | (with_reducible exact ih3 _ _ _ _)
   | (with_reducible exact SORT.mono _ _ _ _ _)
   | (with_reducible exact LeO.refl _)
   | (with_reducible exact LeO.none _)
   | (with_reducible refine LeO.ite ?_ ?_)
   | (with_reducible refine LeO.bind ?_ (fun _ => ?_))
   | exact ih0 _ _ _ _ _ _ _
   | exact ih1 _ _ _ _ _
   | exact ih2 _ _ _ _ _ _ _ _ _
   | exact ih3 _ _ _ _
   | exact SORT.mono _ _ _ _ _
   | exact LeO.none _
   | refine LeO.ite ?_ ?_
   | refine LeO.bind ?_ (fun _ => ?_)
  ·intro y0 y1 y2 y3 y4
   unfold impl_share.j1
   repeat' first
   | (with_reducible exact ih0 _ _ _ _ _ _ _)
   | (with_reducible exact ih1 _ _ _ _ _)
   | (with_reducible exact ih2 _ _ _ _ _ _ _ _ _)
   | (with_reducible exact ih3 _ _ _ _)
   | (with_reducible exact SORT.mono _ _ _ _ _)
   | (with_reducible exact LeO.refl _)
   | (with_reducible exact LeO.none _)
   | (with_reducible refine LeO.ite ?_ ?_)
   | (with_reducible refine LeO.bind ?_ (fun _ => ?_))
   | exact ih0 _ _ _ _ _ _ _
   | exact ih1 _ _ _ _ _
   | exact ih2 _ _ _ _ _ _ _ _ _
   | exact ih3 _ _ _ _
   | exact SORT.mono _ _ _ _ _
   | exact LeO.none _
   | refine LeO.ite ?_ ?_
   | refine LeO.bind ?_ (fun _ => ?_)
  ·intro y0 y1 y2 y3 y4 y5 y6 y7 y8
   unfold impl_share.l1
   repeat' first
   | (with_reducible exact ih0 _ _ _ _ _ _ _)
   | (with_reducible exact ih1 _ _ _ _ _)
   | (with_reducible exact ih2 _ _ _ _ _ _ _ _ _)
   | (with_reducible exact ih3 _ _ _ _)
   | (with_reducible exact SORT.mono _ _ _ _ _)
   | (with_reducible exact LeO.refl _)
   | (with_reducible exact LeO.none _)
   | (with_reducible refine LeO.ite ?_ ?_)
   | (with_reducible refine LeO.bind ?_ (fun _ => ?_))
   | exact ih0 _ _ _ _ _ _ _
   | exact ih1 _ _ _ _ _
   | exact ih2 _ _ _ _ _ _ _ _ _
   | exact ih3 _ _ _ _
   | exact SORT.mono _ _ _ _ _
   | exact LeO.none _
   | refine LeO.ite ?_ ?_
   | refine LeO.bind ?_ (fun _ => ?_)
  ·intro y0 y1 y2 y3
   unfold impl_share.l2
   repeat' first
   | (with_reducible exact ih0 _ _ _ _ _ _ _)
   | (with_reducible exact ih1 _ _ _ _ _)
   | (with_reducible exact ih2 _ _ _ _ _ _ _ _ _)
   | (with_reducible exact ih3 _ _ _ _)
   | (with_reducible exact SORT.mono _ _ _ _ _)
   | (with_reducible exact LeO.refl _)
   | (with_reducible exact LeO.none _)
   | (with_reducible refine LeO.ite ?_ ?_)
   | (with_reducible refine LeO.bind ?_ (fun _ => ?_))
   | exact ih0 _ _ _ _ _ _ _
   | exact ih1 _ _ _ _ _
   | exact ih2 _ _ _ _ _ _ _ _ _
   | exact ih3 _ _ _ _
   | exact SORT.mono _ _ _ _ _
   | exact LeO.none _
   | refine LeO.ite ?_ ?_
   | refine LeO.bind ?_ (fun _ => ?_)
theorem impl_share.mono : ∀ a0 a1 a2 k, LeO (impl_share.f k a0 a1 a2) (impl_share.f (k + 1) a0 a1 a2) := by
 intro a0 a1 a2 k
 obtain ⟨ih0, ih1, ih2, ih3⟩ := impl_share.mono_l k
 unfold impl_share.f
 repeat' first
   | (with_reducible exact ih0 _ _ _ _ _ _ _)
   | (with_reducible exact ih1 _ _ _ _ _)
   | (with_reducible exact ih2 _ _ _ _ _ _ _ _ _)
   | (with_reducible exact ih3 _ _ _ _)
   | (with_reducible exact SORT.mono _ _ _ _ _)
   | (with_reducible exact LeO.refl _)
   | (with_reducible exact LeO.none _)
   | (with_reducible refine LeO.ite ?_ ?_)
   | (with_reducible refine LeO.bind ?_ (fun _ => ?_))
   | exact ih0 _ _ _ _ _ _ _
   | exact ih1 _ _ _ _ _
   | exact ih2 _ _ _ _ _ _ _ _ _
   | exact ih3 _ _ _ _
   | exact SORT.mono _ _ _ _ _
   | exact LeO.none _
   | refine LeO.ite ?_ ?_
   | refine LeO.bind ?_ (fun _ => ?_)
def impl_share.T14 : Bool × List (List Nat × List Nat) := (true, [([], []), ([], []), ([0, 1], [0, 1]), ([2], [2]), ([], []), ([], []), ([4, 5], [4, 5]), ([], []), ([6, 7], [6, 7]), ([3, 8], [3, 8]), ([0, 1, 0, 1, 2, 3, 4, 5, 6, 7, 8, 9], [0, 1]), ([10, 9, 0, 1, 2, 3, 4, 5, 6, 7, 8, 9], [9, 10])])
def impl_share.B14 : List Nat := [0, 0, 3, 7, 0, 0, 48, 0, 240, 511, 1023, 2047]
theorem impl_share.tab14 : rtab .any (opsOf Try.f45 14) = impl_share.T14 := by kernel_rfl
theorem impl_share.bits14 : waitsOk impl_share.T14.2 impl_share.B14 = true := by kernel_rfl
set_option maxHeartbeats 8000000 in
set_option maxRecDepth 100000 in
theorem impl_share.calls (k : Nat) (a0 : Int) (A1 : Option Addr) (c1 : Nat) (l1 : List Int) (A2 : Option Addr) (c2 : Nat) (l2 : List Int) (r : List Int) (w : World) (hr1 : Kd.C (Kd.int .i64) w A1 l1.length l1) (hc1 : l1.length ≤ c1) (hr2 : Kd.C (Kd.int .i64) w A2 l2.length l2) (hc2 : l2.length ≤ c2) (h : impl_share.f k a0 l1 l2 = some r) :
  Calls Try.prog 45 #[.int .i64 a0, .slice A1 l1.length c1, .slice A2 l2.length c2] w fun e w' => ∃ v0_ : Value, e = .returned (v0_) ∧ Kd.R (Kd.int .i64) 3 w' w.heap.size (fun _ => True) v0_ r ∧ Below w.heap.size w w' := by
 have HR1 := am_ hr1
 have HC1 := am_ hc1
 clear hr1 hc1
 have HR2 := am_ hr2
 have HC2 := am_ hc2
 clear hr2 hc2
 have HB := am_ (Below.refl w.heap.size w)
 have H : ((slices_Clone_int_int.f l1).bind fun t257 => (impl_share.l0 k l1 t257 (l1.length : Int) 0 l2 a0 0)) = some r := h
 clear h
 obtain ⟨t257, A40, H⟩ := bE_ H
 have A4 := am_ A40
 clear A40
 have H' := am_ H
 clear H
 go_enter Try.func45, Try.ntmps45
 go_wp2_with (first | ((with_reducible refine gate_dst (N := 5) rfl ?_); refine bx_ 5 #[.slice A2 l2.length c2] 24 ?_; intro gb256 hg w5 hbox hb; have n0_ := am_ (below_step (bw_ HB.out) hb); have n1_ := am_ (hbox); have n2_ := am_ (gs_ hg (bw_ HB.out)); have n3_ := am_ (gs_ hg (bw_ HB.out)); replace HB := n0_; have BK256 := n1_; have GW256 := n2_; have GE256 := n3_; clear n0_ n1_ n2_ n3_; clear hb hbox hg) | ((with_reducible refine gate_callee (f := 34) rfl ?_); refine goesL_ (some 18) rfl rfl Try.func34 (by kernel_rfl) rfl #[.slice A1 l1.length c1] rfl (by (try simp only [List.map_toArray, List.map_cons, List.map_nil]); first | done | rfl | (simp only [List.length_drop, List.length_take]; rfl)) ?_; (with_reducible refine (slices_Clone_int_int.calls _ _ l1 t257 _ ?side1 ?side2 A4.out).mono ?_); (case side1 => repeat (first | exact (Kd.C_below HR1.out HB.out) | (with_reducible refine Kd.C_alloc ?_ _) | (with_reducible refine Kd.C_drewN ?_ _) | (with_reducible refine Kd.C_drew ?_))); (case side2 => exact HC1.out); rintro e w6 ⟨v258, rfl, ho0, hb⟩; refine ⟨_, rfl, ?_⟩; have n0_ := am_ (Kd.R_lower ho0 (below_size (bw_ HB.out))); have n1_ := am_ (blk_below (bk_ BK256.out) hb); have n2_ := am_ (below_step (bw_ HB.out) hb); have HO259 := n0_; replace BK256 := n1_; replace HB := n2_; clear n0_ n1_ n2_; (try clear hb); (try clear hb2); (try clear hk); (try clear hi); (try clear ho0)) | ((with_reducible refine gate_dst (N := 8) rfl ?_); refine bx_ 8 #[.int .i64 0] 3 ?_; intro gb260 hg w7 hbox hb; have n0_ := am_ (Kd.R_below (Kd.R_elderB (ra_ HO259.out) gb260 (Nat.le_of_eq hg.symm)) hb); have n1_ := am_ (blk_below (bk_ BK256.out) hb); have n2_ := am_ (below_step (bw_ HB.out) hb); have n3_ := am_ (hbox); have n4_ := am_ (gs_ hg (bw_ HB.out)); have n5_ := am_ (gs_ hg (bw_ HB.out)); have n6_ := am_ (nl_ hg (bk_ BK256.out)); have n7_ := am_ (ng_ hg (bk_ BK256.out)); replace HO259 := n0_; replace BK256 := n1_; replace HB := n2_; have BK260 := n3_; have GW260 := n4_; have GE260 := n5_; have NB256_260 := n6_; have NB260_256 := n7_; clear n0_ n1_ n2_ n3_ n4_ n5_ n6_ n7_; clear hb hbox hg) | ((with_reducible refine gate_dst (N := 9) rfl ?_); refine bx_ 9 #[.int .i64 0] 3 ?_; intro gb261 hg w8 hbox hb; have n0_ := am_ (Kd.R_below (Kd.R_elderB (ra_ HO259.out) gb261 (Nat.le_of_eq hg.symm)) hb); have n1_ := am_ (blk_below (bk_ BK256.out) hb); have n2_ := am_ (blk_below (bk_ BK260.out) hb); have n3_ := am_ (below_step (bw_ HB.out) hb); have n4_ := am_ (hbox); have n5_ := am_ (gs_ hg (bw_ HB.out)); have n6_ := am_ (gs_ hg (bw_ HB.out)); have n7_ := am_ (nl_ hg (bk_ BK256.out)); have n8_ := am_ (ng_ hg (bk_ BK256.out)); have n9_ := am_ (nl_ hg (bk_ BK260.out)); have n10_ := am_ (ng_ hg (bk_ BK260.out)); replace HO259 := n0_; replace BK256 := n1_; replace BK260 := n2_; replace HB := n3_; have BK261 := n4_; have GW261 := n5_; have GE261 := n6_; have NB256_261 := n7_; have NB261_256 := n8_; have NB260_261 := n9_; have NB261_260 := n10_; clear n0_ n1_ n2_ n3_ n4_ n5_ n6_ n7_ n8_ n9_ n10_; clear hb hbox hg; have hnb9 := NB260_256.out; have hnc9 := NB256_260.out; have hnb10 := NB260_261.out; have hnc10 := NB261_260.out; have hcz11_0 := cz_ BK260.out 0; have hfz11_0 := blk_frozen BK260.out 0; have hnb12 := NB261_256.out; have hnc12 := NB256_261.out; have hcz13_0 := cz_ BK261.out 0; have hfz13_0 := blk_frozen BK261.out 0))
 go_loopg [22] k (fun kq v22 w' => ∃ (x22_1 : Int) (x261000_1 : Int) (x262000_1 : Int), v22 = .int .i64 x22_1 ∧ Aside0 (impl_share.l0 kq l1 t257 (l1.length : Int) x22_1 l2 x261000_1 x262000_1 = some r) ∧ Aside0 (kq ≤ k) ∧ Aside0 (Kd.R (Kd.int .i64) 3 w' w.heap.size (fun k_ => k_ ≠ gb260 ∧ k_ ≠ gb261) v258 t257) ∧ Aside0 (w'.heap[gb256]? = some (.cells #[(.slice A2 l2.length c2)] 24 (0, 0))) ∧ Aside0 (w'.heap[gb260]? = some (.cells #[.int .i64 x261000_1] 3 (0, 0))) ∧ Aside0 (w'.heap[gb261]? = some (.cells #[.int .i64 x262000_1] 3 (0, 0))) ∧ Aside0 (Below w.heap.size w w'))
 case atStart => exact ⟨(0), (a0), (0), sq_, H', ⟨Nat.le_refl _⟩, ⟨ra_ (Kd.R_mono (Kd.R_far (p := ⟨gb261, 0, none⟩) (Kd.R_far (p := ⟨gb260, 0, none⟩) (Kd.R_mono (Kd.R_mono HO259.out (fun k_ hk => (⟨hk, hk.1.2⟩ : _ ∧ k_ ≠ gb260))) (fun k_ hk => (⟨hk, hk.1.2⟩ : _ ∧ k_ ≠ gb261))) (fun _ hk => hk.1.2) (.int .i64 a0)) (fun _ hk => hk.2) (.int .i64 0)) (fun _ hk => ⟨hk.1.1.1.2, hk.1.1.2⟩))⟩, ⟨by (with_reducible repeat (first | refine blk_drewN ?_ _ | refine blk_drew ?_ | refine blk_alloc ?_ _)); refine blk_far ?_ NB256_261.out _; (with_reducible repeat (first | refine blk_drewN ?_ _ | refine blk_drew ?_ | refine blk_alloc ?_ _)); refine blk_far ?_ NB256_260.out _; (with_reducible repeat (first | refine blk_drewN ?_ _ | refine blk_drew ?_ | refine blk_alloc ?_ _)); exact BK256.out⟩, ⟨by (with_reducible repeat (first | refine blk_drewN ?_ _ | refine blk_drew ?_ | refine blk_alloc ?_ _)); refine blk_far ?_ NB260_261.out _; (with_reducible repeat (first | refine blk_drewN ?_ _ | refine blk_drew ?_ | refine blk_alloc ?_ _)); refine blk_put (cs := #[.int .i64 0]) ?_ 0 _ rfl; (with_reducible repeat (first | refine blk_drewN ?_ _ | refine blk_drew ?_ | refine blk_alloc ?_ _)); exact BK260.out⟩, ⟨by (with_reducible repeat (first | refine blk_drewN ?_ _ | refine blk_drew ?_ | refine blk_alloc ?_ _)); refine blk_put (cs := #[.int .i64 0]) ?_ 0 _ rfl; (with_reducible repeat (first | refine blk_drewN ?_ _ | refine blk_drew ?_ | refine blk_alloc ?_ _)); refine blk_far ?_ NB261_260.out _; (with_reducible repeat (first | refine blk_drewN ?_ _ | refine blk_drew ?_ | refine blk_alloc ?_ _)); exact BK261.out⟩, ⟨bw_ HB.out⟩⟩
 case round =>
  clear H'
  try clear c1
  try clear c2
  try clear hcz11_0
  try clear hcz13_0
  try clear hfz11_0
  try clear hfz13_0
  (try clear HO_7)
  obtain ⟨x22_1, x261000_1, x262000_1, rfl, HA, HK1, HO_7, BK256, BK260, BK261, HB⟩ := hrel
  cases gk with
  | zero => exact absurd HA.out (by simp [impl_share.l0])
  | succ k1 =>
   have H := HA.out
   clear HA
   simp only [impl_share.l0] at H
   by_cases c14 : x22_1 < (l1.length : Int)
   ·rw [if_pos c14] at H
    have c14b0 : decide (x22_1 < (l1.length : Int)) = true := decide_eq_true c14
    clear c14
    obtain ⟨c15, H⟩ := ifn_ H
    have c15b0 : decide (0 ≤ x22_1) = true := decide_eq_true c15
    clear c15
    obtain ⟨c16, H⟩ := ifn_ H
    have c16b0 : decide (x22_1 < (l1.length : Int)) = true := decide_eq_true c16
    clear c16
    obtain ⟨c17, H⟩ := ifn_ H
    have c17b0 : decide (x22_1 < (l2.length : Int)) = true := decide_eq_true c17
    clear c17
    have H' := am_ H
    clear H
    try go_wp2
    have n0_ := am_ (Kd.R_drew HO_7.out)
    have n1_ := am_ (blk_drew BK256.out)
    have n2_ := am_ (blk_drew BK260.out)
    have n3_ := am_ (blk_drew BK261.out)
    have n4_ := am_ (below_drew1 HB.out)
    replace HO_7 := n0_
    replace BK256 := n1_
    replace BK260 := n2_
    replace BK261 := n3_
    replace HB := n4_
    clear n0_ n1_ n2_ n3_ n4_
    have p262 : 0 ≤ (x22_1 : Int) := od_
    have q262 : x22_1 < (l1.length : Int) := od_
    obtain ⟨ad262, e262, hx262_0⟩ := Kd.at_int HR1.out x22_1 p262 q262
    have hw262_0 := hx262_0
    cases e262
    (try replace hx262_0 := hc_ HB.out hx262_0)
    replace p262 := eq_true p262
    replace q262 := eq_true q262
    refine start_ (n := 7) (S := fun w' => w'.cell? ⟨gb260, 0, none⟩ = some (.int .i64 x261000_1) ∧ w'.cell? (ad262.add (x22_1).toNat) = some (.int .i64 (rd l1 x22_1))) (ds := [6]) (Array.replicate 7 false) (by kernel_rfl) rfl rfl ⟨cz_ BK260.out 0, (hc_ HB.out hw262_0)⟩ (fun hHeld => ?_)
    generalize wr.drew = w18 at HO_7 BK256 BK260 BK261 HB hx262_0 hHeld ⊢
    refine pure_ (i := 1) (N := some 26) (v := ?_) (a' := ?_) #[false, true, false, false, false, false, false] rfl rfl (by kernel_rfl) (fun _ _ _ h => h) (Or.inl ⟨by rfl, ?_⟩) ?_ ?_
    rotate_left
    ·intro w'
     go_simp
     with_reducible rfl
    rotate_left
    ·simp only [Act.put, List.setIfInBounds_toArray, List.set_cons_zero, List.set_cons_succ, i64_w, i32_w]
     rfl
    refine pure_ (i := 2) (N := some 27) (v := ?_) (a' := ?_) #[false, true, true, false, false, false, false] rfl rfl (by kernel_rfl) (fun _ _ _ h => h) (Or.inl ⟨by rfl, ?_⟩) ?_ ?_
    rotate_left
    ·intro w'
     go_simp
     with_reducible rfl
    rotate_left
    ·simp only [Act.put, List.setIfInBounds_toArray, List.set_cons_zero, List.set_cons_succ, i64_w, i32_w]
     rfl
    refine pure_ (i := 3) (N := some 28) (v := ?_) (a' := ?_) #[false, true, true, true, false, false, false] rfl rfl (by kernel_rfl) (fun _ _ _ h => h) (Or.inl ⟨by rfl, ?_⟩) ?_ ?_
    rotate_left
    ·intro w'
     go_simp
     with_reducible rfl
    rotate_left
    ·simp only [Act.put, List.setIfInBounds_toArray, List.set_cons_zero, List.set_cons_succ, i64_w, i32_w]
     rfl
    refine take_ (i := 0) (N := some 25) (v := ?_) (a' := ?_) #[true, true, true, true, false, false, false] rfl rfl (by kernel_rfl) (fun _ _ _ h => h) (Or.inl ⟨by rfl, ?_⟩) hHeld ?_ ?_
    rotate_left
    ·rintro w' ⟨s0, s1⟩
     go_simp
     with_reducible rfl
    rotate_left
    ·simp only [Act.put, List.setIfInBounds_toArray, List.set_cons_zero, List.set_cons_succ, i64_w, i32_w]
     rfl
    refine take_ (i := 4) (N := some 29) (v := ?_) (a' := ?_) #[true, true, true, true, true, false, false] rfl rfl (by kernel_rfl) (fun _ _ _ h => h) (Or.inl ⟨by rfl, ?_⟩) hHeld ?_ ?_
    rotate_left
    ·rintro w' ⟨s0, s1⟩
     go_simp
     with_reducible rfl
    rotate_left
    ·simp only [Act.put, List.setIfInBounds_toArray, List.set_cons_zero, List.set_cons_succ, i64_w, i32_w]
     rfl
    refine pure_ (i := 5) (N := some 30) (v := ?_) (a' := ?_) #[true, true, true, true, true, true, false] rfl rfl (by kernel_rfl) (fun _ _ _ h => h) (Or.inl ⟨by rfl, ?_⟩) ?_ ?_
    rotate_left
    ·intro w'
     go_simp
     with_reducible rfl
    rotate_left
    ·simp only [Act.put, List.setIfInBounds_toArray, List.set_cons_zero, List.set_cons_succ, i64_w, i32_w]
     rfl
    refine last_ (i := 6) (N := none) #[true, true, true, true, true, true, true] rfl rfl (by kernel_rfl) (by decide) (fun K hK => ?_)
    have hs19 : w18.cell? ⟨gb260, 0, none⟩ = some (.int .i64 x261000_1) := cz_ BK260.out 0
    have hfs19 := blk_frozen BK260.out 0
    have hns19_0 := NB256_260.out
    have hns19_2 := NB261_260.out
    have hms19_0 := NB260_256.out
    have hms19_2 := NB260_261.out
    refine skip_ (w1 := ?_) (by rfl) rfl ?_ ?_
    rotate_left
    ·go_simp
     rfl
    refine hK.out _ _ ?_
    clear hK K
    refine done_ (by kernel_rfl) ?_
    try go_wp2
    have n0_ : Aside0 (Kd.R (Kd.int .i64) 3 (w18.setCell ⟨gb260, 0, none⟩ (.int .i64 (wrap64 (x261000_1 - (rd l1 x22_1))))) w.heap.size (fun k_ => k_ ≠ gb260 ∧ k_ ≠ gb261) v258 t257) := ⟨ra_ (Kd.R_mono (Kd.R_far (p := ⟨gb260, 0, none⟩) (Kd.R_mono HO_7.out (fun k_ hk => (⟨hk, hk.1⟩ : _ ∧ k_ ≠ gb260))) (fun _ hk => hk.2) (.int .i64 (wrap64 (x261000_1 - (rd l1 x22_1))))) (fun _ hk => ⟨hk.1.1, hk.1.2⟩))⟩
    have n1_ : Aside0 ((w18.setCell ⟨gb260, 0, none⟩ (.int .i64 (wrap64 (x261000_1 - (rd l1 x22_1))))).heap[gb256]? = some (.cells #[.slice A2 l2.length c2] 24 (0, 0))) := ⟨by (with_reducible repeat (first | refine blk_drewN ?_ _ | refine blk_drew ?_ | refine blk_alloc ?_ _)); refine blk_far ?_ NB256_260.out _; (with_reducible repeat (first | refine blk_drewN ?_ _ | refine blk_drew ?_ | refine blk_alloc ?_ _)); exact BK256.out⟩
    have n2_ : Aside0 ((w18.setCell ⟨gb260, 0, none⟩ (.int .i64 (wrap64 (x261000_1 - (rd l1 x22_1))))).heap[gb260]? = some (.cells #[.int .i64 (wrap64 (x261000_1 - (rd l1 x22_1)))] 3 (0, 0))) := ⟨by (with_reducible repeat (first | refine blk_drewN ?_ _ | refine blk_drew ?_ | refine blk_alloc ?_ _)); refine blk_put (cs := #[.int .i64 x261000_1]) ?_ 0 _ rfl; (with_reducible repeat (first | refine blk_drewN ?_ _ | refine blk_drew ?_ | refine blk_alloc ?_ _)); exact BK260.out⟩
    have n3_ : Aside0 ((w18.setCell ⟨gb260, 0, none⟩ (.int .i64 (wrap64 (x261000_1 - (rd l1 x22_1))))).heap[gb261]? = some (.cells #[.int .i64 x262000_1] 3 (0, 0))) := ⟨by (with_reducible repeat (first | refine blk_drewN ?_ _ | refine blk_drew ?_ | refine blk_alloc ?_ _)); refine blk_far ?_ NB261_260.out _; (with_reducible repeat (first | refine blk_drewN ?_ _ | refine blk_drew ?_ | refine blk_alloc ?_ _)); exact BK261.out⟩
    have n4_ : Aside0 (Below w.heap.size w (w18.setCell ⟨gb260, 0, none⟩ (.int .i64 (wrap64 (x261000_1 - (rd l1 x22_1)))))) := ⟨bw_ HB.out⟩
    (try clear HO_7)
    (try clear BK256)
    (try clear BK260)
    (try clear BK261)
    (try clear HB)
    generalize (w18.setCell ⟨gb260, 0, none⟩ (.int .i64 (wrap64 (x261000_1 - (rd l1 x22_1))))) = w20 at n0_ n1_ n2_ n3_ n4_ ⊢
    have HO_7 := n0_
    have BK256 := n1_
    have BK260 := n2_
    have BK261 := n3_
    have HB := n4_
    clear n0_ n1_ n2_ n3_ n4_
    have n0_ := am_ (Kd.R_drew HO_7.out)
    have n1_ := am_ (blk_drew BK256.out)
    have n2_ := am_ (blk_drew BK260.out)
    have n3_ := am_ (blk_drew BK261.out)
    have n4_ := am_ (below_drew1 HB.out)
    replace HO_7 := n0_
    replace BK256 := n1_
    replace BK260 := n2_
    replace BK261 := n3_
    replace HB := n4_
    clear n0_ n1_ n2_ n3_ n4_
    have p263 : 0 ≤ (x22_1 : Int) := od_
    have q263 : x22_1 < (l2.length : Int) := od_
    obtain ⟨ad263, e263, hx263_0⟩ := Kd.at_int HR2.out x22_1 p263 q263
    have hw263_0 := hx263_0
    cases e263
    (try replace hx263_0 := hc_ HB.out hx263_0)
    replace p263 := eq_true p263
    replace q263 := eq_true q263
    refine start_ (n := 7) (S := fun w' => w'.cell? ⟨gb261, 0, none⟩ = some (.int .i64 x262000_1) ∧ w'.cell? ⟨gb256, 0, none⟩ = some (.slice (some ad263) l2.length c2) ∧ w'.cell? (ad263.add (x22_1).toNat) = some (.int .i64 (rd l2 x22_1))) (ds := [6]) (Array.replicate 7 false) (by kernel_rfl) rfl rfl ⟨cz_ BK261.out 0, cz_ BK256.out 0, (hc_ HB.out hw263_0)⟩ (fun hHeld => ?_)
    generalize w20.drew = w21 at HO_7 BK256 BK260 BK261 HB hx263_0 hHeld ⊢
    refine pure_ (i := 2) (N := some 33) (v := ?_) (a' := ?_) #[false, false, true, false, false, false, false] rfl rfl (by kernel_rfl) (fun _ _ _ h => h) (Or.inl ⟨by rfl, ?_⟩) ?_ ?_
    rotate_left
    ·intro w'
     go_simp
     with_reducible rfl
    rotate_left
    ·simp only [Act.put, List.setIfInBounds_toArray, List.set_cons_zero, List.set_cons_succ, i64_w, i32_w]
     rfl
    refine take_ (i := 0) (N := some 31) (v := ?_) (a' := ?_) #[true, false, true, false, false, false, false] rfl rfl (by kernel_rfl) (fun _ _ _ h => h) (Or.inl ⟨by rfl, ?_⟩) hHeld ?_ ?_
    rotate_left
    ·rintro w' ⟨s0, s1, s2⟩
     go_simp
     with_reducible rfl
    rotate_left
    ·simp only [Act.put, List.setIfInBounds_toArray, List.set_cons_zero, List.set_cons_succ, i64_w, i32_w]
     rfl
    refine take_ (i := 1) (N := some 32) (v := ?_) (a' := ?_) #[true, true, true, false, false, false, false] rfl rfl (by kernel_rfl) (fun _ _ _ h => h) (Or.inl ⟨by rfl, ?_⟩) hHeld ?_ ?_
    rotate_left
    ·rintro w' ⟨s0, s1, s2⟩
     go_simp
     with_reducible rfl
    rotate_left
    ·simp only [Act.put, List.setIfInBounds_toArray, List.set_cons_zero, List.set_cons_succ, i64_w, i32_w]
     rfl
    refine pure_ (i := 3) (N := some 34) (v := ?_) (a' := ?_) #[true, true, true, true, false, false, false] rfl rfl (by kernel_rfl) (fun _ _ _ h => h) (Or.inl ⟨by rfl, ?_⟩) ?_ ?_
    rotate_left
    ·intro w'
     go_simp
     with_reducible rfl
    rotate_left
    ·simp only [Act.put, List.setIfInBounds_toArray, List.set_cons_zero, List.set_cons_succ, i64_w, i32_w]
     rfl
    refine take_ (i := 4) (N := some 35) (v := ?_) (a' := ?_) #[true, true, true, true, true, false, false] rfl rfl (by kernel_rfl) (fun _ _ _ h => h) (Or.inl ⟨by rfl, ?_⟩) hHeld ?_ ?_
    rotate_left
    ·rintro w' ⟨s0, s1, s2⟩
     go_simp
     with_reducible rfl
    rotate_left
    ·simp only [Act.put, List.setIfInBounds_toArray, List.set_cons_zero, List.set_cons_succ, i64_w, i32_w]
     rfl
    refine pure_ (i := 5) (N := some 36) (v := ?_) (a' := ?_) #[true, true, true, true, true, true, false] rfl rfl (by kernel_rfl) (fun _ _ _ h => h) (Or.inl ⟨by rfl, ?_⟩) ?_ ?_
    rotate_left
    ·intro w'
     go_simp
     with_reducible rfl
    rotate_left
    ·simp only [Act.put, List.setIfInBounds_toArray, List.set_cons_zero, List.set_cons_succ, i64_w, i32_w]
     rfl
    refine last_ (i := 6) (N := none) #[true, true, true, true, true, true, true] rfl rfl (by kernel_rfl) (by decide) (fun K hK => ?_)
    have hs22 : w21.cell? ⟨gb261, 0, none⟩ = some (.int .i64 x262000_1) := cz_ BK261.out 0
    have hfs22 := blk_frozen BK261.out 0
    have hns22_0 := NB256_261.out
    have hns22_1 := NB260_261.out
    have hms22_0 := NB261_256.out
    have hms22_1 := NB261_260.out
    refine skip_ (w1 := ?_) (by rfl) rfl ?_ ?_
    rotate_left
    ·go_simp
     rfl
    refine hK.out _ _ ?_
    clear hK K
    refine done_ (by kernel_rfl) ?_
    try go_wp2
    go_roundg k1
    case measure => have := HK1.out; omega
    case rel => exact ⟨(wrap64 (x22_1 + 1)), (wrap64 (x261000_1 - (rd l1 x22_1))), (wrap64 (x262000_1 + (rd l2 x22_1))), sq_, H', ⟨by have := HK1.out; omega⟩, ⟨ra_ (Kd.R_mono (Kd.R_far (p := ⟨gb261, 0, none⟩) (Kd.R_mono HO_7.out (fun k_ hk => (⟨hk, hk.2⟩ : _ ∧ k_ ≠ gb261))) (fun _ hk => hk.2) (.int .i64 (wrap64 (x262000_1 + (rd l2 x22_1))))) (fun _ hk => ⟨hk.1.1, hk.1.2⟩))⟩, ⟨by (with_reducible repeat (first | refine blk_drewN ?_ _ | refine blk_drew ?_ | refine blk_alloc ?_ _)); refine blk_far ?_ NB256_261.out _; (with_reducible repeat (first | refine blk_drewN ?_ _ | refine blk_drew ?_ | refine blk_alloc ?_ _)); exact BK256.out⟩, ⟨by (with_reducible repeat (first | refine blk_drewN ?_ _ | refine blk_drew ?_ | refine blk_alloc ?_ _)); refine blk_far ?_ NB260_261.out _; (with_reducible repeat (first | refine blk_drewN ?_ _ | refine blk_drew ?_ | refine blk_alloc ?_ _)); exact BK260.out⟩, ⟨by (with_reducible repeat (first | refine blk_drewN ?_ _ | refine blk_drew ?_ | refine blk_alloc ?_ _)); refine blk_put (cs := #[.int .i64 x262000_1]) ?_ 0 _ rfl; (with_reducible repeat (first | refine blk_drewN ?_ _ | refine blk_drew ?_ | refine blk_alloc ?_ _)); exact BK261.out⟩, ⟨bw_ HB.out⟩⟩
   ·rw [if_neg c14] at H
    have c14b0 : decide (x22_1 < (l1.length : Int)) = false := decide_eq_false c14
    clear c14
    have HC23 := am_ H
    clear H
    go_upto_region 8 with (fail)
    go_cut [43] (fun v43 wc => ∃ (kq : Nat) (x43_22 : Bool), v43 = .bool x43_22 ∧ Aside0 (impl_share.j1 kq t257 x43_22 l2 x261000_1 x262000_1 = some r) ∧ Aside0 (kq ≤ k1) ∧ Aside0 (Kd.R (Kd.int .i64) 3 wc w.heap.size (fun k_ => k_ ≠ gb260 ∧ k_ ≠ gb261) v258 t257) ∧ Aside0 (wc.heap[gb256]? = some (.cells #[(.slice A2 l2.length c2)] 24 (0, 0))) ∧ Aside0 (wc.heap[gb260]? = some (.cells #[.int .i64 x261000_1] 3 (0, 0))) ∧ Aside0 (wc.heap[gb261]? = some (.cells #[.int .i64 x262000_1] 3 (0, 0))) ∧ Aside0 (Below w.heap.size w wc))
    case first =>
     have H := HC23.out
     clear HC23
     by_cases c24 : x261000_1 ≤ 0
     ·rw [if_pos c24] at H
      have c24b0 : decide (x261000_1 ≤ 0) = true := decide_eq_true c24
      clear c24
      (first | rw [c24b0] | (simp only [i64_w, i32_w]; rw [c24b0]) | skip)
      have H' := am_ H
      clear H
      have hnb25 := NB260_256.out
      have hnc25 := NB256_260.out
      have hnb26 := NB260_261.out
      have hnc26 := NB261_260.out
      have hcz27_0 := cz_ BK260.out 0
      have hfz27_0 := blk_frozen BK260.out 0
      go_wp2
      go_meet
      case rel => exact ⟨_, (true), sq_, H', ⟨by have := HK1.out; first | omega | exact Nat.le_refl _⟩, ⟨ra_ HO_7.out⟩, ⟨bk_ BK256.out⟩, ⟨bk_ BK260.out⟩, ⟨bk_ BK261.out⟩, ⟨bw_ HB.out⟩⟩
     ·rw [if_neg c24] at H
      have c24b0 : decide (x261000_1 ≤ 0) = false := decide_eq_false c24
      clear c24
      (first | rw [c24b0] | (simp only [i64_w, i32_w]; rw [c24b0]) | skip)
      have H' := am_ H
      clear H
      have hnb28 := NB260_256.out
      have hnc28 := NB256_260.out
      have hnb29 := NB260_261.out
      have hnc29 := NB261_260.out
      have hcz30_0 := cz_ BK260.out 0
      have hfz30_0 := blk_frozen BK260.out 0
      have hnb31 := NB261_256.out
      have hnc31 := NB256_261.out
      have hcz32_0 := cz_ BK261.out 0
      have hfz32_0 := blk_frozen BK261.out 0
      go_wp2
      go_meet
      case rel => exact ⟨_, ((x262000_1 == 0)), sq_, H', ⟨by have := HK1.out; first | omega | exact Nat.le_refl _⟩, ⟨ra_ HO_7.out⟩, ⟨bk_ BK256.out⟩, ⟨bk_ BK260.out⟩, ⟨bk_ BK261.out⟩, ⟨bw_ HB.out⟩⟩
    case rest =>
     clear HC23
     try clear c1
     try clear c2
     try clear c14
     try clear c14b0
     try clear hcz11_0
     try clear hcz13_0
     try clear hfz11_0
     try clear hfz13_0
     obtain ⟨kq, x43_22, rfl, HA, HJ22, HO_7, BK256, BK260, BK261, HB⟩ := hcut
     cases kq with
     | zero => exact absurd HA.out (by simp [impl_share.j1])
     | succ kj22 =>
      have H := HA.out
      clear HA
      simp only [impl_share.j1] at H
      by_cases c33 : x43_22 = true
      ·subst c33
       replace H := it_ H rfl
       obtain rfl := Option.some.inj H
       go_wp2
       go_ret
       exact ⟨_, by first | rfl | (simp [errW_none, errW_some] <;> rfl) | (simp [*, errW_none, errW_some] <;> rfl), ra_ (Kd.R_mono HO_7.out (fun _ hk => trivial)), bw_ HB.out⟩
      ·replace c33 := Bool.eq_false_iff.mpr c33
       subst c33
       replace H := if_ H Bool.false_ne_true
       obtain ⟨y264, hy264⟩ : ∃ y_ : List Int, y_ = (([] : List Int)) := ⟨_, rfl⟩
       replace H : (impl_share.l1 kj22 t257 y264 0 l2 (l2.length : Int) 0 l2 x261000_1 x262000_1) = some r := by first | (rw [hy264]; with_reducible exact H) | (have H2_ := (Option.bind_some _ _).symm.trans H; rw [hy264]; with_reducible exact H2_) | (have H2_ := (Option.bind_some _ _).symm.trans H; with_reducible exact H2_) | with_reducible exact H | (rw [hy264]; exact H) | exact H
       have Ny264 := am_ hy264
       clear hy264
       have H' := am_ H
       clear H
       go_wp2_with (first | ((with_reducible refine gate_dst (N := 45) rfl ?_); refine Kd.R_lit (Kd.int .i64) _ 3 ?hg (N := 45) ?hd (xs := ([] : List Int)) (inner := []) (ok := fun _ => True) (okp := fun _ => True) ?hr ?hp (fun _ hk => hk) trivial (Below.refl _ _) (Nat.le_refl _) (by simp) ?_; (case hd => rfl); (case hg => rfl); (case hr => first | (go_simp; done) | (go_simp; rfl)); (case hp => exact (Reps.none _ _)); intro v265 w34 ho35 hb hg_ hnew_; clear hg_ hnew_; (first | rw [← Ny264.out] at ho35 | (simp only [Int.reduceToNat] at ho35; rw [← Ny264.out] at ho35)); have n0_ := am_ (Kd.R_elder' (ra_ HO_7.out) (Kd.R_base ho35) hb); have n1_ := am_ (Kd.R_lower (Kd.R_newB (Kd.R_newB (Kd.R_new' ho35 (Kd.R_lt (ra_ HO_7.out))) (bk_ BK260.out)) (bk_ BK261.out)) (below_size (bw_ HB.out))); have n2_ := am_ (blk_below (bk_ BK256.out) hb); have n3_ := am_ (blk_below (bk_ BK260.out) hb); have n4_ := am_ (blk_below (bk_ BK261.out) hb); have n5_ := am_ (below_step (bw_ HB.out) hb); replace HO_7 := n0_; have HO266 := n1_; replace BK256 := n2_; replace BK260 := n3_; replace BK261 := n4_; replace HB := n5_; clear n0_ n1_ n2_ n3_ n4_ n5_; clear hb ho35; have hnb36 := NB256_260.out; have hnc36 := NB260_256.out; have hnb37 := NB256_261.out; have hnc37 := NB261_256.out; have hcz38_0 := cz_ BK256.out 0; have hfz38_0 := blk_frozen BK256.out 0))
       go_loopg [11, 12, 48] kj22 (fun kq v11 v12 v48 w' => ∃ (x7_3 : List Int) (x11_3 : List Int) (x12_3 : Int) (x48_3 : Int), v12 = .int .i64 x12_3 ∧ v48 = .int .i64 x48_3 ∧ Aside0 (impl_share.l1 kq x7_3 x11_3 x12_3 l2 (l2.length : Int) x48_3 l2 x261000_1 x262000_1 = some r) ∧ Aside0 (kq ≤ kj22) ∧ Aside0 (Kd.R (Kd.int .i64) 3 w' w.heap.size (fun k_ => nb k_ v11 ∧ k_ ≠ gb260 ∧ k_ ≠ gb261) v258 x7_3) ∧ Aside0 (Kd.R (Kd.int .i64) 3 w' w.heap.size (fun k_ => nb k_ v258 ∧ k_ ≠ gb260 ∧ k_ ≠ gb261) v11 x11_3) ∧ Aside0 (w'.heap[gb256]? = some (.cells #[(.slice A2 l2.length c2)] 24 (0, 0))) ∧ Aside0 (w'.heap[gb260]? = some (.cells #[.int .i64 x261000_1] 3 (0, 0))) ∧ Aside0 (w'.heap[gb261]? = some (.cells #[.int .i64 x262000_1] 3 (0, 0))) ∧ Aside0 (Below w.heap.size w w'))
       case atStart => exact ⟨(t257), (y264), (0), (0), sq_, sq_, H', ⟨Nat.le_refl _⟩, ⟨ra_ (Kd.R_mono HO_7.out (fun _ hk => ⟨hk.2, ⟨hk.1.1, hk.1.2⟩⟩))⟩, ⟨ra_ (Kd.R_mono HO266.out (fun _ hk => ⟨hk.1.1.2, ⟨hk.1.2, hk.2⟩⟩))⟩, ⟨bk_ BK256.out⟩, ⟨bk_ BK260.out⟩, ⟨bk_ BK261.out⟩, ⟨bw_ HB.out⟩⟩
       case round =>
        clear H'
        try clear c1
        try clear c2
        try clear c14
        try clear c14b0
        try clear c33
        try clear hcz11_0
        try clear hcz13_0
        try clear hcz38_0
        try clear hfz11_0
        try clear hfz13_0
        try clear hfz38_0
        (try clear HO_7)
        (try clear HO_11)
        obtain ⟨x7_3, x11_3, x12_3, x48_3, rfl, rfl, HA, HK3, HO_7, HO_11, BK256, BK260, BK261, HB⟩ := hrel
        cases gk with
        | zero => exact absurd HA.out (by simp [impl_share.l1])
        | succ k3 =>
         have H := HA.out
         clear HA
         simp only [impl_share.l1] at H
         by_cases c39 : x48_3 < (l2.length : Int)
         ·rw [if_pos c39] at H
          have c39b0 : decide (x48_3 < (l2.length : Int)) = true := decide_eq_true c39
          clear c39
          obtain ⟨c40, H⟩ := ifn_ H
          have c40b0 : decide (0 ≤ x48_3) = true := decide_eq_true c40
          clear c40
          obtain ⟨c41, H⟩ := ifn_ H
          have c41b0 : decide (x48_3 < (l2.length : Int)) = true := decide_eq_true c41
          clear c41
          obtain ⟨c42, H⟩ := ifn_ H
          have c42b0 : decide (x48_3 < (x7_3.length : Int)) = true := decide_eq_true c42
          clear c42
          obtain ⟨c43, H⟩ := ifm_ H
          have c43b0 : (x262000_1 == 0) = false := beq_eq_false_iff_ne.mpr c43
          have c43b1 : (x262000_1 != 0) = true := bne_iff_ne.mpr c43
          obtain ⟨y269, hy269⟩ : ∃ y_ : List Int, y_ = (x7_3.set (x48_3 : Int).toNat (wrap64 ((rd x7_3 x48_3) + (wrap64 (Int.tdiv (wrap64 (x261000_1 * (rd l2 x48_3))) x262000_1))))) := ⟨_, rfl⟩
          replace H : (if x11_3.length < 17592186044416 then (impl_share.l1 k3 y269 (x11_3 ++ [x48_3]) (wrap64 (x12_3 + (wrap64 (Int.tdiv (wrap64 (x261000_1 * (rd l2 x48_3))) x262000_1)))) l2 (l2.length : Int) (wrap64 (x48_3 + 1)) l2 x261000_1 x262000_1) else (none)) = some r := by first | (rw [hy269]; with_reducible exact H) | (have H2_ := (Option.bind_some _ _).symm.trans H; rw [hy269]; with_reducible exact H2_) | (have H2_ := (Option.bind_some _ _).symm.trans H; with_reducible exact H2_) | with_reducible exact H | (rw [hy269]; exact H) | exact H
          have Ny269 := am_ hy269
          clear hy269
          obtain ⟨c45, H⟩ := ifn_ H
          have LMc45 := am_ c45
          clear c45
          obtain ⟨y270, hy270⟩ : ∃ y_ : List Int, y_ = (x11_3 ++ [x48_3]) := ⟨_, rfl⟩
          replace H : (impl_share.l1 k3 y269 y270 (wrap64 (x12_3 + (wrap64 (Int.tdiv (wrap64 (x261000_1 * (rd l2 x48_3))) x262000_1)))) l2 (l2.length : Int) (wrap64 (x48_3 + 1)) l2 x261000_1 x262000_1) = some r := by first | (rw [hy270]; with_reducible exact H) | (have H2_ := (Option.bind_some _ _).symm.trans H; rw [hy270]; with_reducible exact H2_) | (have H2_ := (Option.bind_some _ _).symm.trans H; with_reducible exact H2_) | with_reducible exact H | (rw [hy270]; exact H) | exact H
          have Ny270 := am_ hy270
          clear hy270
          have H' := am_ H
          clear H
          have p267 : 0 ≤ (x48_3 : Int) := od_
          have q267 : x48_3 < (l2.length : Int) := od_
          obtain ⟨ad267, e267, hx267_0⟩ := Kd.at_int HR2.out x48_3 p267 q267
          cases e267
          (try replace hx267_0 := hc_ HB.out hx267_0)
          replace p267 := eq_true p267
          replace q267 := eq_true q267
          try go_wp2
          have n0_ := am_ (Kd.R_drew HO_7.out)
          have n1_ := am_ (Kd.R_drew HO_11.out)
          have n2_ := am_ (blk_drew BK256.out)
          have n3_ := am_ (blk_drew BK260.out)
          have n4_ := am_ (blk_drew BK261.out)
          have n5_ := am_ (below_drew1 HB.out)
          replace HO_7 := n0_
          replace HO_11 := n1_
          replace BK256 := n2_
          replace BK260 := n3_
          replace BK261 := n4_
          replace HB := n5_
          clear n0_ n1_ n2_ n3_ n4_ n5_
          obtain ⟨Ao47, co47, eo47⟩ := Kd.R_slice HO_7.out
          (first | subst eo47 | (injection eo47 with f1_ f2_ f3_; have f4_ := f1_.symm; have f5_ := f3_.symm; clear f1_ f2_ f3_; subst f4_; subst f5_))
          have p268 : 0 ≤ (x48_3 : Int) := od_
          have q268 : x48_3 < (x7_3.length : Int) := od_
          obtain ⟨ad268, e268, hx268_0⟩ := Kd.at_int (Kd.R_reads' HO_7.out).2.2 x48_3 p268 q268
          cases e268
          replace p268 := eq_true p268
          replace q268 := eq_true q268
          have p44 : 0 ≤ (x48_3 : Int) := od_
          have q44 : (x48_3 : Int) < ((x7_3.length : Int) : Int) := od_
          obtain ⟨go44, co44, eo44, gb44, gl44, cl44, HG44⟩ := Kd.R_form HO_7.out (by omega)
          (first | cases eo44 | (injection eo44 with ea_ en_ ec_; (first | subst ea_ | (injection ea_ with ea_; subst ea_)); subst ec_; clear en_))
          have GB44 := am_ gb44
          have GG44 := am_ HG44
          clear gb44 gl44 HG44
          (first | simp only [add_plain] at hx268_0 | skip)
          obtain ⟨hx44_0, hf44_0⟩ := Kd.R_celln 0 HO_7.out (x48_3 : Int) p44 q44
          replace p44 := eq_true p44
          replace q44 := eq_true q44
          have HP48 := Kd.R_putn HO_7.out (x48_3 : Int) (wrap64 ((rd x7_3 x48_3) + (wrap64 (Int.tdiv (wrap64 (x261000_1 * (rd l2 x48_3))) x262000_1))))
          rw [← Ny269.out] at HP48
          have HQ48 := am_ HP48
          clear HP48
          refine start_ (n := 12) (S := fun w' => w'.cell? ⟨gb260, 0, none⟩ = some (.int .i64 x261000_1) ∧ w'.cell? ⟨gb261, 0, none⟩ = some (.int .i64 x262000_1) ∧ w'.cell? ⟨go44, (x48_3).toNat, none⟩ = some (.int .i64 (rd x7_3 x48_3))) (ds := [11]) (Array.replicate 12 false) (by kernel_rfl) rfl rfl ⟨cz_ BK260.out 0, cz_ BK261.out 0, hx268_0⟩ (fun hHeld => ?_); refine with_tabW impl_share.tab14 impl_share.bits14 (fun HT_ HW_ => ?_)
          generalize wr.drew = w46 at HO_7 HO_11 BK256 BK260 BK261 HB GG44 HQ48 hf44_0 hx268_0 hx44_0 hHeld ⊢
          refine pS_ 0 53 HT_ ?_
          refine pS_ 1 54 HT_ ?_
          refine pS_ 2 55 HT_ ?_
          refine pS_ 5 58 HT_ ?_
          refine tS_ 3 56 HT_ HW_ hHeld ?_
          refine tS_ 4 57 HT_ HW_ hHeld ?_
          refine pS_ 6 59 HT_ ?_
          refine tS_ 7 60 HT_ HW_ hHeld ?_
          refine pS_ 8 61 HT_ ?_
          refine pS_ 9 62 HT_ ?_
          refine pS_ 10 63 HT_ ?_
          refine last_ (i := 11) (N := none) #[true, true, true, true, true, true, true, true, true, true, true, true] rfl rfl (one_of HT_.out (by kernel_rfl)) (by decide) (fun K hK => ?_)
          refine skip_ (w1 := ?_) (by rfl) rfl ?_ ?_
          rotate_left
          ·go_simp
           rfl
          refine hK.out _ _ ?_
          clear hK K
          refine done_ (done_of HT_.out (by kernel_rfl)) ?_
          have hnb49 := NB260_256.out
          have hnc49 := NB256_260.out
          have hnb50 := NB260_261.out
          have hnc50 := NB261_260.out
          have hgn51 : go44 ≠ gb260 := fun e_ => (Kd.R_away HO_7.out (fun _ hk => hk.2.1)) (by rw [← e_]; rfl)
          have hgm51 : gb260 ≠ go44 := fun e_ => hgn51 e_.symm
          have hcz52_0 := cz_ BK260.out 0
          have hfz52_0 := blk_frozen BK260.out 0
          have hnb53 := NB261_256.out
          have hnc53 := NB256_261.out
          have hgn54 : go44 ≠ gb261 := fun e_ => (Kd.R_away HO_7.out (fun _ hk => hk.2.2)) (by rw [← e_]; rfl)
          have hgm54 : gb261 ≠ go44 := fun e_ => hgn54 e_.symm
          have hcz55_0 := cz_ BK261.out 0
          have hfz55_0 := blk_frozen BK261.out 0
          try go_wp2_with (first | ((with_reducible refine gate_builtin (b := .append) (xs := #[.tmp 71, .tmp 73]) rfl ?_); at_builtin; refine Kd.R_append (Kd.int .i64) (w0 := w) w.heap.size rfl (.tmp 71) (.tmp 73) 24 3 (.int .i64 0) 8 rfl Try.underlying24 info3 rfl (by decide) (by omega) u11 x11_3 x48_3 [.int .i64 x48_3] (fun k_ => nb k_ (.slice (some ⟨go44, 0, none⟩) x7_3.length co47) ∧ k_ ≠ gb260 ∧ k_ ≠ gb261) (fun _ => False) rfl (by first | (go_simp; done) | (go_simp; rfl)) ?aP (fun _ hk => hk.elim) ?aF ?aO ?aB ?aS ?aL ?_; (case aP => exact rfl); (case aB => exact (bw_ HB.out)); (case aF => exact (fun k_ hk => ⟨Kd.fresh' (Kd.R_lt (ra_ HQ48.out)) k_ hk, Kd.freshB (g := gb260) (o := .cells #[.int .i64 x261000_1] 3 (0, 0)) (by (with_reducible repeat (first | refine blk_drewN ?_ _ | refine blk_drew ?_ | refine blk_alloc ?_ _)); refine blk_far ?_ (by have h_ := Kd.R_away HO_7.out (fun _ hk => hk.2.1); intro e_; exact h_ (by rw [e_]; rfl)) _; (with_reducible repeat (first | refine blk_drewN ?_ _ | refine blk_drew ?_ | refine blk_alloc ?_ _)); exact BK260.out) k_ hk, Kd.freshB (g := gb261) (o := .cells #[.int .i64 x262000_1] 3 (0, 0)) (by (with_reducible repeat (first | refine blk_drewN ?_ _ | refine blk_drew ?_ | refine blk_alloc ?_ _)); refine blk_far ?_ (by have h_ := Kd.R_away HO_7.out (fun _ hk => hk.2.2); intro e_; exact h_ (by rw [e_]; rfl)) _; (with_reducible repeat (first | refine blk_drewN ?_ _ | refine blk_drew ?_ | refine blk_alloc ?_ _)); exact BK261.out) k_ hk⟩)); (case aO => exact (ra_ (Kd.R_mono (Kd.R_far (p := ⟨go44, (x48_3 : Int).toNat, none⟩) (Kd.R_mono HO_11.out (fun k_ hk => (⟨hk, fun e_ => hk.1 (by rw [e_]; rfl)⟩ : _ ∧ k_ ≠ go44))) (fun _ hk => hk.2) (.int .i64 (wrap64 ((rd x7_3 x48_3) + (wrap64 (Int.tdiv (wrap64 (x261000_1 * (rd l2 x48_3))) x262000_1)))))) (fun _ hk => ⟨hk.1.1, ⟨hk.1.2.1, hk.1.2.2⟩⟩)))); (case aS => exact (below_size (bw_ HB.out))); (case aL => have := LMc45.out; omega); intro v271 w56 ho hb hg hat; rw [← Ny270.out] at ho; have n0_ := am_ (Kd.R_after (ok := (fun k_ => k_ ≠ gb260 ∧ k_ ≠ gb261)) (ra_ (Kd.R_mono HQ48.out (fun _ hk => ⟨⟨hk.2.1, hk.2.2⟩, hk.1⟩))) hg hat); have n1_ := am_ (blk_grown (g := gb256) (o := .cells #[.slice (some ad267) l2.length c2] 24 (0, 0)) (by (with_reducible repeat (first | refine blk_drewN ?_ _ | refine blk_drew ?_ | refine blk_alloc ?_ _)); refine blk_far ?_ (by have h_ := Kd.R_ne HO_7.out BK256.out (by decide); intro e_; exact h_ (by rw [e_]; rfl)) _; (with_reducible repeat (first | refine blk_drewN ?_ _ | refine blk_drew ?_ | refine blk_alloc ?_ _)); exact BK256.out) hg (Kd.R_ne HO_11.out BK256.out (by decide))); have n2_ := am_ (blk_grown (g := gb260) (o := .cells #[.int .i64 x261000_1] 3 (0, 0)) (by (with_reducible repeat (first | refine blk_drewN ?_ _ | refine blk_drew ?_ | refine blk_alloc ?_ _)); refine blk_far ?_ (by have h_ := Kd.R_away HO_7.out (fun _ hk => hk.2.1); intro e_; exact h_ (by rw [e_]; rfl)) _; (with_reducible repeat (first | refine blk_drewN ?_ _ | refine blk_drew ?_ | refine blk_alloc ?_ _)); exact BK260.out) hg (Kd.R_away HO_11.out (fun _ hk => hk.2.1))); have n3_ := am_ (blk_grown (g := gb261) (o := .cells #[.int .i64 x262000_1] 3 (0, 0)) (by (with_reducible repeat (first | refine blk_drewN ?_ _ | refine blk_drew ?_ | refine blk_alloc ?_ _)); refine blk_far ?_ (by have h_ := Kd.R_away HO_7.out (fun _ hk => hk.2.2); intro e_; exact h_ (by rw [e_]; rfl)) _; (with_reducible repeat (first | refine blk_drewN ?_ _ | refine blk_drew ?_ | refine blk_alloc ?_ _)); exact BK261.out) hg (Kd.R_away HO_11.out (fun _ hk => hk.2.2))); have n4_ := am_ (hb); have n5_ := am_ (ho); clear HO_11; replace HO_7 := n0_; replace BK256 := n1_; replace BK260 := n2_; replace BK261 := n3_; replace HB := n4_; have HO272 := n5_; clear n0_ n1_ n2_ n3_ n4_ n5_; clear ho hb hg hat))
          (try simp only [show (⟨go44, (x48_3 : Int).toNat, none⟩ : Addr) = Addr.add ⟨go44, 0, none⟩ (x48_3 : Int).toNat from by simp [Addr.add]])
          go_roundg k3
          case measure => have := HK1.out; have := HJ22.out; have := HK3.out; omega
          case rel => first | exact ⟨(y269), (y270), (wrap64 (x12_3 + (wrap64 (Int.tdiv (wrap64 (x261000_1 * (rd l2 x48_3))) x262000_1)))), (wrap64 (x48_3 + 1)), sq_, sq_, H', ⟨by have := HK1.out; have := HJ22.out; have := HK3.out; omega⟩, ⟨ra_ (Kd.R_mono HO_7.out (fun _ hk => ⟨hk.2, ⟨hk.1.1, hk.1.2⟩⟩))⟩, ⟨ra_ HO272.out⟩, ⟨bk_ BK256.out⟩, ⟨bk_ BK260.out⟩, ⟨bk_ BK261.out⟩, ⟨bw_ HB.out⟩⟩ | (simp only [(show (⟨go44, (x48_3 : Int).toNat, none⟩ : Addr) = Addr.add ⟨go44, 0, none⟩ (x48_3 : Int).toNat from by simp [Addr.add]).symm]; exact ⟨(y269), (y270), (wrap64 (x12_3 + (wrap64 (Int.tdiv (wrap64 (x261000_1 * (rd l2 x48_3))) x262000_1)))), (wrap64 (x48_3 + 1)), sq_, sq_, H', ⟨by have := HK1.out; have := HJ22.out; have := HK3.out; omega⟩, ⟨ra_ (Kd.R_mono HO_7.out (fun _ hk => ⟨hk.2, ⟨hk.1.1, hk.1.2⟩⟩))⟩, ⟨ra_ HO272.out⟩, ⟨bk_ BK256.out⟩, ⟨bk_ BK260.out⟩, ⟨bk_ BK261.out⟩, ⟨bw_ HB.out⟩⟩)
         ·rw [if_neg c39] at H
          have c39b0 : decide (x48_3 < (l2.length : Int)) = false := decide_eq_false c39
          clear c39
          obtain ⟨t273, A570, H⟩ := bE_ H
          have A57 := am_ A570
          clear A570
          obtain ⟨ji58, hji58⟩ : ∃ j_ : Int, (wrap64 (x261000_1 - x12_3)) = j_ := ⟨_, rfl⟩
          replace H : (if 0 ≤ (ji58) then (if (ji58) ≤ (x11_3.length : Int) then ((some (t273.take ((ji58) : Int).toNat : List Int)).bind fun y274 => (impl_share.l2 k3 x7_3 y274 (y274.length : Int) 0)) else (none)) else (none)) = some r := by first | (rw [hji58] at H; exact H) | (simp only [hji58] at H ⊢; exact H)
          (try rw [hji58] at A57)
          have hji58w : (IntKind.i64.wrap (x261000_1 - x12_3)) = ji58 := (i64_w _).trans hji58
          obtain ⟨c59, H⟩ := ifn_ H
          have c59b0 := eq_true c59
          have c59b1 : decide (0 ≤ (ji58)) = true := decide_eq_true c59
          clear c59
          obtain ⟨c60, H⟩ := ifn_ H
          have c60b0 := eq_true c60
          have c60b1 : decide ((ji58) ≤ (x11_3.length : Int)) = true := decide_eq_true c60
          clear c60
          obtain ⟨y274, hy274⟩ : ∃ y_ : List Int, y_ = (t273.take ((ji58) : Int).toNat) := ⟨_, rfl⟩
          replace H : (impl_share.l2 k3 x7_3 y274 (y274.length : Int) 0) = some r := by first | (rw [hy274]; with_reducible exact H) | (have H2_ := (Option.bind_some _ _).symm.trans H; rw [hy274]; with_reducible exact H2_) | (have H2_ := (Option.bind_some _ _).symm.trans H; with_reducible exact H2_) | with_reducible exact H | (rw [hy274]; exact H) | exact H
          have Ny274 := am_ hy274
          clear hy274
          have H' := am_ H
          clear H
          obtain ⟨Ao61, co61, eo61⟩ := Kd.R_slice HO_11.out
          subst eo61
          go_wp2_with (first | ((with_reducible refine gate_callee (f := 55) rfl ?_); refine goesL_ (some 78) rfl rfl Try.func55 (by kernel_rfl) rfl #[.slice Ao61 x11_3.length co61, .func (.func 56) #[] #[.pointer (some ⟨gb260, 0, none⟩), .pointer (some ⟨gb256, 0, none⟩), .pointer (some ⟨gb261, 0, none⟩)]] rfl (by (try simp only [List.map_toArray, List.map_cons, List.map_nil]); first | done | rfl | (simp only [List.length_drop, List.length_take]; rfl)) ?_; (with_reducible refine (SORT.calls k3 (fun k_ => some k_ = (.slice Ao61 x11_3.length co61 : Value).ownBlock) (.slice Ao61 x11_3.length co61) x11_3 gb260 gb256 gb261 x261000_1 A2 c2 l2 x262000_1 t273 w _ ?side1 ?side2 ?side3 ?side4 ?side5 ?side6 ?side7 A57.out).mono ?_); (case side1 => repeat (first | (with_reducible first | exact HB.out | apply below_alloc | apply pw_below_drewN | apply below_drew1 | refine below_set ?_ GE256.out | refine below_set ?_ GE260.out | refine below_set ?_ GE261.out) | exact HB.out)); (case side2 => exact Kd.R_tight rfl HO_11.out); (case side3 => exact Kd.C_kept_came (Kd.heap_int .i64) HR2.out (bw_ HB.out) (fun k_ hs_ => (fun e_ => Kd.R_base HO_11.out k_ e_.symm) hs_)); (case side4 => exact HC2.out); (case side5 => exact fun W_ hk_ => (blk_cell (blk_kept (bk_ BK260.out) hk_ (fun hs_ => (fun e_ => (Kd.R_away HO_11.out (fun _ hk => hk.2.1)) e_) hs_)) 0).trans rfl); (case side6 => exact fun W_ hk_ => (blk_cell (blk_kept (bk_ BK256.out) hk_ (fun hs_ => (fun e_ => (Kd.R_ne HO_11.out BK256.out (by decide)) e_) hs_)) 0).trans rfl); (case side7 => exact fun W_ hk_ => (blk_cell (blk_kept (bk_ BK261.out) hk_ (fun hs_ => (fun e_ => (Kd.R_away HO_11.out (fun _ hk => hk.2.2)) e_) hs_)) 0).trans rfl); rintro e w62 ⟨rfl, hy0, hb, hkp⟩; refine ⟨_, rfl, ?_⟩; have n0_ := am_ (Kd.R_mono (ok' := fun k_ => nb k_ (.slice Ao61 x11_3.length co61) ∧ k_ ≠ gb260 ∧ k_ ≠ gb261) (Kd.R_keptB (HO_7.out) hkp (fun k_ hk_ hs_ => (hk_.1) hs_)) (fun k_ hk_ => ⟨hk_.1.1, hk_.1.2.1, hk_.1.2.2⟩)); have n1_ := am_ (Kd.R_reok rfl hy0 (fun k_ e_ => HO_11.out.1 k_ e_)); (first | have n2_ := am_ (blk_kept BK256.out hkp (Kd.R_ne HO_11.out BK256.out (by decide))) | have n2_ := am_ (blk_kept (blk_drewN BK256.out _) hkp (Kd.R_ne HO_11.out BK256.out (by decide)))); have n3_ := am_ (blk_kept (bk_ BK260.out) hkp (fun hs_ => (fun e_ => (Kd.R_away HO_11.out (fun _ hk => hk.2.1)) e_) hs_)); have n4_ := am_ (blk_kept (bk_ BK261.out) hkp (fun hs_ => (fun e_ => (Kd.R_away HO_11.out (fun _ hk => hk.2.2)) e_) hs_)); have n5_ := am_ (hb); replace HO_7 := n0_; replace HO_11 := n1_; replace BK256 := n2_; replace BK260 := n3_; replace BK261 := n4_; replace HB := n5_; clear n0_ n1_ n2_ n3_ n4_ n5_; (try clear hb); (try clear hkp); (try clear hy0); have hnb63 := NB260_256.out; have hnc63 := NB256_260.out; have hnb64 := NB260_261.out; have hnc64 := NB261_260.out; have hcz65_0 := cz_ BK260.out 0; have hfz65_0 := blk_frozen BK260.out 0; have hlx66 := (Kd.R_reads' HO_11.out).1; have q66 : ((ji58) : Int) ≤ ((x11_3.length : Int) : Int) := od_; obtain ⟨i066, hi066, _, hsz66, _⟩ := info_parts info3; have hcut66 := cut_to (P := Try.prog) 24 3 .i64 Try.underlying24 hi066 Ao61 x11_3.length co61 (ji58) od_ q66 (Kd.R_reads' HO_11.out).2.1; have hr66 := Kd.R_take (m := ((ji58) : Int).toNat) HO_11.out (by omega); have hy66 : y274.length = ((ji58) : Int).toNat := (by rw [Ny274.out, List.length_take]; omega); rw [← Ny274.out] at hr66; rw [← hy66] at hr66 hcut66; clear hy66 hi066 hsz66 HO_11; have HO276 := am_ hr66; clear hr66; replace q66 := eq_true q66; clear hlx66; have n_ := am_ (Kd.R_mono (ok' := fun k_ => (nb k_ (.slice Ao61 y274.length co61) ∧ (k_ ≠ gb260 ∧ k_ ≠ gb261))) HO_7.out (fun k_ hk => ⟨(fun e_ => hk.1 (e_.trans ((show ∀ A_ : Option Addr, (Value.slice A_ y274.length co61).ownBlock = (Value.slice A_ x11_3.length co61).ownBlock from fun A_ => by cases A_ <;> rfl) Ao61))), ⟨hk.2.1, hk.2.2⟩⟩)); clear HO_7; have HO_7 := n_; clear n_))
          try simp only [Act.put, List.setIfInBounds_toArray, List.set_cons_zero, List.set_cons_succ]
          go_loopg [85] k3 (fun kq v85 w' => ∃ (x7_4 : List Int) (x85_4 : Int), v85 = .int .i64 x85_4 ∧ Aside0 (impl_share.l2 kq x7_4 y274 (y274.length : Int) x85_4 = some r) ∧ Aside0 (kq ≤ k3) ∧ Aside0 (Kd.R (Kd.int .i64) 3 w' w.heap.size (fun k_ => nb k_ (.slice Ao61 y274.length co61) ∧ k_ ≠ gb260 ∧ k_ ≠ gb261) v258 x7_4) ∧ Aside0 (Kd.R (Kd.int .i64) 3 w' w.heap.size (fun k_ => nb k_ v258 ∧ k_ ≠ gb260 ∧ k_ ≠ gb261) (.slice Ao61 y274.length co61) y274) ∧ Aside0 (w'.heap[gb256]? = some (.cells #[(.slice A2 l2.length c2)] 24 (0, 0))) ∧ Aside0 (w'.heap[gb260]? = some (.cells #[.int .i64 x261000_1] 3 (0, 0))) ∧ Aside0 (w'.heap[gb261]? = some (.cells #[.int .i64 x262000_1] 3 (0, 0))) ∧ Aside0 (Below w.heap.size w w'))
          case atStart => exact ⟨(x7_3), (0), sq_, H', ⟨Nat.le_refl _⟩, ⟨ra_ HO_7.out⟩, ⟨ra_ HO276.out⟩, ⟨bk_ BK256.out⟩, ⟨bk_ BK260.out⟩, ⟨bk_ BK261.out⟩, ⟨bw_ HB.out⟩⟩
          case round =>
           clear H'
           try clear c1
           try clear c2
           try clear c14
           try clear c14b0
           try clear c33
           try clear c39
           try clear c39b0
           try clear c59
           try clear c59b0
           try clear c59b1
           try clear c60
           try clear c60b0
           try clear c60b1
           try clear q66
           try clear hcz11_0
           try clear hcz13_0
           try clear hcz38_0
           try clear hcz65_0
           try clear hfz11_0
           try clear hfz13_0
           try clear hfz38_0
           try clear hfz65_0
           try clear q66
           (try clear HO_7)
           (try clear HO_83)
           obtain ⟨x7_4, x85_4, rfl, HA, HK4, HO_7, HO_83, BK256, BK260, BK261, HB⟩ := hrel
           cases gk with
           | zero => exact absurd HA.out (by simp [impl_share.l2])
           | succ k4 =>
            have H := HA.out
            clear HA
            simp only [impl_share.l2] at H
            by_cases c67 : x85_4 < (y274.length : Int)
            ·rw [if_pos c67] at H
             have c67b0 : decide (x85_4 < (y274.length : Int)) = true := decide_eq_true c67
             clear c67
             obtain ⟨c68, H⟩ := ifn_ H
             have c68b0 : decide (0 ≤ x85_4) = true := decide_eq_true c68
             clear c68
             obtain ⟨c69, H⟩ := ifn_ H
             have c69b0 : decide (x85_4 < (y274.length : Int)) = true := decide_eq_true c69
             clear c69
             obtain ⟨c70, H⟩ := ifn_ H
             have c70b0 : decide (0 ≤ (rd y274 x85_4)) = true := decide_eq_true c70
             clear c70
             obtain ⟨c71, H⟩ := ifn_ H
             have c71b0 : decide ((rd y274 x85_4) < (x7_4.length : Int)) = true := decide_eq_true c71
             clear c71
             obtain ⟨y279, hy279⟩ : ∃ y_ : List Int, y_ = (x7_4.set ((rd y274 x85_4) : Int).toNat (wrap64 ((rd x7_4 (rd y274 x85_4)) + 1))) := ⟨_, rfl⟩
             replace H : (impl_share.l2 k4 y279 y274 (y274.length : Int) (wrap64 (x85_4 + 1))) = some r := by first | (rw [hy279]; with_reducible exact H) | (have H2_ := (Option.bind_some _ _).symm.trans H; rw [hy279]; with_reducible exact H2_) | (have H2_ := (Option.bind_some _ _).symm.trans H; with_reducible exact H2_) | with_reducible exact H | (rw [hy279]; exact H) | exact H
             have Ny279 := am_ hy279
             clear hy279
             have H' := am_ H
             clear H
             have p277 : 0 ≤ (x85_4 : Int) := od_
             have q277 : x85_4 < (y274.length : Int) := od_
             obtain ⟨ad277, e277, hx277_0⟩ := Kd.at_int (Kd.R_reads' HO_83.out).2.2 x85_4 p277 q277
             cases e277
             replace p277 := eq_true p277
             replace q277 := eq_true q277
             obtain ⟨Ao73, co73, eo73⟩ := Kd.R_slice HO_7.out
             subst eo73
             have p278 : 0 ≤ ((rd y274 x85_4) : Int) := od_
             have q278 : (rd y274 x85_4) < (x7_4.length : Int) := od_
             obtain ⟨ad278, e278, hx278_0⟩ := Kd.at_int (Kd.R_reads' HO_7.out).2.2 (rd y274 x85_4) p278 q278
             cases e278
             replace p278 := eq_true p278
             replace q278 := eq_true q278
             have p72 : 0 ≤ ((rd y274 x85_4) : Int) := od_
             have q72 : ((rd y274 x85_4) : Int) < ((x7_4.length : Int) : Int) := od_
             obtain ⟨go72, co72, eo72, gb72, gl72, cl72, HG72⟩ := Kd.R_form HO_7.out (by omega)
             (first | cases eo72 | (injection eo72 with ea_ en_ ec_; (first | subst ea_ | (injection ea_ with ea_; subst ea_)); subst ec_; clear en_))
             have GB72 := am_ gb72
             have GG72 := am_ HG72
             clear gb72 gl72 HG72
             (first | simp only [add_plain] at hx278_0 | skip)
             obtain ⟨hx72_0, hf72_0⟩ := Kd.R_celln 0 HO_7.out ((rd y274 x85_4) : Int) p72 q72
             replace p72 := eq_true p72
             replace q72 := eq_true q72
             have HP74 := Kd.R_putg HO_7.out ((rd y274 x85_4) : Int) (wrap64 ((rd x7_4 (rd y274 x85_4)) + 1))
             go_wp2_with (first | ((with_reducible refine gate_store (t := 3) (p := 94) rfl ?_); refine se_ 3 94 (wr.setCell ⟨go72, ((rd y274 x85_4) : Int).toNat, none⟩ (.int .i64 (wrap64 ((rd x7_4 (rd y274 x85_4)) + 1)))) ?_; intro w75 hw; have hg : wr.grownBy w75 (some go72) := (by rw [hw]; exact HP74.2); have hp_ : Kd.R (Kd.int .i64) 3 w75 w.heap.size (fun k_ => nb k_ (.slice (some ad277) y274.length co61) ∧ k_ ≠ gb260 ∧ k_ ≠ gb261) (.slice (some ⟨go72, 0, none⟩) x7_4.length co73) y279 := (by rw [hw, Ny279.out]; exact HP74.1); clear HP74; have n0_ := am_ (hp_); have n1_ := am_ (Kd.R_after (v := (.slice (some ⟨go72, 0, none⟩) x7_4.length co73)) (v1 := (.slice (some ⟨go72, 0, none⟩) x7_4.length co73)) (ok := (fun k_ => k_ ≠ gb260 ∧ k_ ≠ gb261)) (ra_ (Kd.R_mono HO_83.out (fun _ hk => ⟨⟨hk.2.1, hk.2.2⟩, hk.1⟩))) hg (.inl rfl)); have n2_ := am_ (blk_grown (bk_ BK256.out) hg (Kd.R_ne HO_7.out BK256.out (by decide))); have n3_ := am_ (blk_grown (bk_ BK260.out) hg (Kd.R_away HO_7.out (fun _ hk => hk.2.1))); have n4_ := am_ (blk_grown (bk_ BK261.out) hg (Kd.R_away HO_7.out (fun _ hk => hk.2.2))); have n5_ := am_ ((by rw [hw]; exact below_set (HB.out) GB72.out : Below w.heap.size w w75)); replace HO_7 := n0_; replace HO_83 := n1_; replace BK256 := n2_; replace BK260 := n3_; replace BK261 := n4_; replace HB := n5_; clear n0_ n1_ n2_ n3_ n4_ n5_; clear hg hw hp_))
             (try simp only [show (⟨go72, ((rd y274 x85_4) : Int).toNat, none⟩ : Addr) = Addr.add ⟨go72, 0, none⟩ ((rd y274 x85_4) : Int).toNat from by simp [Addr.add]])
             (try simp only [show (⟨go72, (x85_4 : Int).toNat, none⟩ : Addr) = Addr.add ⟨go72, 0, none⟩ (x85_4 : Int).toNat from by simp [Addr.add]])
             go_roundg k4
             case measure => have := HK1.out; have := HJ22.out; have := HK3.out; have := HK4.out; omega
             case rel => first | exact ⟨(y279), (wrap64 (x85_4 + 1)), sq_, H', ⟨by have := HK1.out; have := HJ22.out; have := HK3.out; have := HK4.out; omega⟩, ⟨ra_ HO_7.out⟩, ⟨ra_ (Kd.R_mono HO_83.out (fun _ hk => ⟨hk.2, ⟨hk.1.1, hk.1.2⟩⟩))⟩, ⟨bk_ BK256.out⟩, ⟨bk_ BK260.out⟩, ⟨bk_ BK261.out⟩, ⟨bw_ HB.out⟩⟩ | (simp only [(show (⟨go72, (x85_4 : Int).toNat, none⟩ : Addr) = Addr.add ⟨go72, 0, none⟩ (x85_4 : Int).toNat from by simp [Addr.add]).symm, (show (⟨go72, ((rd y274 x85_4) : Int).toNat, none⟩ : Addr) = Addr.add ⟨go72, 0, none⟩ ((rd y274 x85_4) : Int).toNat from by simp [Addr.add]).symm]; exact ⟨(y279), (wrap64 (x85_4 + 1)), sq_, H', ⟨by have := HK1.out; have := HJ22.out; have := HK3.out; have := HK4.out; omega⟩, ⟨ra_ HO_7.out⟩, ⟨ra_ (Kd.R_mono HO_83.out (fun _ hk => ⟨hk.2, ⟨hk.1.1, hk.1.2⟩⟩))⟩, ⟨bk_ BK256.out⟩, ⟨bk_ BK260.out⟩, ⟨bk_ BK261.out⟩, ⟨bw_ HB.out⟩⟩)
            ·rw [if_neg c67] at H
             have c67b0 : decide (x85_4 < (y274.length : Int)) = false := decide_eq_false c67
             clear c67
             obtain rfl := Option.some.inj H
             go_wp2
             go_ret
             exact ⟨_, by first | rfl | (simp [errW_none, errW_some] <;> rfl) | (simp only [← hji58]; first | rfl | (simp [errW_none, errW_some] <;> rfl)) | (simp [*, errW_none, errW_some] <;> rfl), ra_ (Kd.R_mono HO_7.out (fun _ hk => trivial)), bw_ HB.out⟩
end Go.Proofs.Ytgfppioaggeleaa.XFnExactLayOut
