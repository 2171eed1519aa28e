/- What the Go functions that this law comes to compute, each walked; written by a program of this session. -/
import Derived.Test.YtpfddgchlllkpaaXMark
import Derived.Test.YtpfddgchlllkpaaXFnExactShareRoomx0
import Derived.Test.YtpfddgchlllkpaaXFnExactShareRoomx3
import Derived.Test.YtpfddgchlllkpaaXFnExactShareRoomx7
namespace Go.Proofs.Ytpfddgchlllkpaa.XFnExactShareRoom
open Go.RowKit Go.Proofs.YtpfddgchlllkpaaW.PrintWords Go.Proofs.YtpfddgchlllkpaaW.PrintLast Go.Proofs.YtpfddgchlllkpaaW.PrintMore
attribute [local go_sem] str_geq max2_int min2_int max_two min_two max_three min_three max_four min_four   -- for this text's walks alone
set_option linter.unusedVariables false
set_option linter.unusedSimpArgs false

/-! ### impl_share: function 69 -/
mutual
def impl_share.l0 : Nat → List Int → List Int → Int → Int → List Int → Int → Int → Option (List Int)
 | 0, _, _, _, _, _, _, _ => none
 | k + 1, x1, x7, x21, x22, x191000, x195000, x196000 => if x22 < x21 then (if 0 ≤ x22 then (if x22 < (x1.length : Int) then (if x22 < (x191000.length : Int) then (impl_share.l0 k x1 x7 x21 (wrap64 (x22 + 1)) x191000 (wrap64 (x195000 - (rd x1 x22))) (wrap64 (x196000 + (rd x191000 x22)))) else (none)) else (none)) else (none)) else (if x195000 ≤ 0 then (impl_share.j1 k x7 true x191000 x195000 x196000) else (impl_share.j1 k x7 (x196000 == 0) x191000 x195000 x196000))
def impl_share.j1 : Nat → List Int → Bool → List Int → Int → Int → Option (List Int)
 | 0, _, _, _, _, _ => none
 | k + 1, x7, x43, x191000, x195000, x196000 => if x43 = true then (some x7) else (impl_share.l1 k x7 (([] : List Int)) 0 x191000 (x191000.length : Int) 0 x191000 x195000 x196000)
def impl_share.l1 : Nat → List Int → List Int → Int → List Int → Int → Int → List Int → Int → Int → Option (List Int)
 | 0, _, _, _, _, _, _, _, _, _ => none
 | k + 1, x7, x11, x12, x46, x47, x48, x191000, x195000, x196000 => if x48 < x47 then (if 0 ≤ x48 then (if x48 < (x46.length : Int) then (if x48 < (x7.length : Int) then (if x196000 = 0 then (none) else (if x11.length < 17592186044416 then (impl_share.l1 k (x7.set (x48 : Int).toNat (wrap64 ((rd x7 x48) + (wrap64 (Int.tdiv (wrap64 (x195000 * (rd x46 x48))) x196000))))) (x11 ++ [x48]) (wrap64 (x12 + (wrap64 (Int.tdiv (wrap64 (x195000 * (rd x46 x48))) x196000)))) x46 x47 (wrap64 (x48 + 1)) x191000 x195000 x196000) else (none))) else (none)) else (none)) else (none)) else ((slices_SortStableFunc_int_int_at_impl_share_1.f k x11 x195000 x191000 x196000).bind fun t207 => (if 0 ≤ (wrap64 (x195000 - x12)) then (if (wrap64 (x195000 - x12)) ≤ (x11.length : Int) then ((some (t207.take ((wrap64 (x195000 - x12)) : Int).toNat : List Int)).bind fun y208 => (impl_share.l2 k x7 y208 (y208.length : Int) 0)) else (none)) else (none)))
def impl_share.l2 : Nat → List Int → List Int → Int → Int → Option (List Int)
 | 0, _, _, _, _ => none
 | k + 1, x7, x83, x84, x85 => if x85 < x84 then (if 0 ≤ x85 then (if x85 < (x83.length : Int) then (if 0 ≤ (rd x83 x85) then (if (rd x83 x85) < (x7.length : Int) then (impl_share.l2 k (x7.set ((rd x83 x85) : Int).toNat (wrap64 ((rd x7 (rd x83 x85)) + 1))) x83 x84 (wrap64 (x85 + 1))) else (none)) else (none)) else (none)) else (none)) else (some x7)
end
def impl_share.f (k : Nat) (a0 : Int) (l1 : List Int) (l2 : List Int) : Option (List Int) := (slices_Clone_int_int.f l1).bind fun t191 => (impl_share.l0 k l1 t191 (l1.length : Int) 0 l2 a0 0)
theorem impl_share.mono_l : ∀ k, (∀ y0 y1 y2 y3 y4 y5 y6, LeO (impl_share.l0 k y0 y1 y2 y3 y4 y5 y6) (impl_share.l0 (k + 1) y0 y1 y2 y3 y4 y5 y6)) ∧ (∀ y0 y1 y2 y3 y4, LeO (impl_share.j1 k y0 y1 y2 y3 y4) (impl_share.j1 (k + 1) y0 y1 y2 y3 y4)) ∧ (∀ y0 y1 y2 y3 y4 y5 y6 y7 y8, LeO (impl_share.l1 k y0 y1 y2 y3 y4 y5 y6 y7 y8) (impl_share.l1 (k + 1) y0 y1 y2 y3 y4 y5 y6 y7 y8)) ∧ (∀ y0 y1 y2 y3, LeO (impl_share.l2 k y0 y1 y2 y3) (impl_share.l2 (k + 1) y0 y1 y2 y3))
 | 0 => ⟨fun _ _ _ _ _ _ _ r h => by simp [impl_share.l0] at h, fun _ _ _ _ _ r h => by simp [impl_share.j1] at h, fun _ _ _ _ _ _ _ _ _ r h => by simp [impl_share.l1] at h, fun _ _ _ _ r h => by simp [impl_share.l2] at h⟩
 | k + 1 => by
  obtain ⟨ih0, ih1, ih2, ih3⟩ := impl_share.mono_l k
  refine ⟨?_, ?_, ?_, ?_⟩
  ·intro y0 y1 y2 y3 y4 y5 y6
   unfold impl_share.l0
   repeat' first
   | (with_reducible exact ih0 _ _ _ _ _ _ _)
   | (with_reducible exact ih1 _ _ _ _ _)
   | (with_reducible exact ih2 _ _ _ _ _ _ _ _ _)
   | (with_reducible exact ih3 _ _ _ _)
   | (with_reducible exact slices_SortStableFunc_int_int_at_impl_share_1.mono _ _ _ _ _)
   | (with_reducible exact LeO.refl _)
   | (with_reducible exact LeO.none _)
   | (with_reducible refine LeO.ite ?_ ?_)
   | (with_reducible refine LeO.bind ?_ (fun _ => ?_))
   | exact ih0 _ _ _ _ _ _ _
   | exact ih1 _ _ _ _ _
   | exact ih2 _ _ _ _ _ _ _ _ _
   | exact ih3 _ _ _ _
   | exact slices_SortStableFunc_int_int_at_impl_share_1.mono _ _ _ _ _
   | exact LeO.none _
   | refine LeO.ite ?_ ?_
   | refine LeO.bind ?_ (fun _ => ?_)
  ·intro y0 y1 y2 y3 y4
   unfold impl_share.j1
   repeat' first
   | (with_reducible exact ih0 _ _ _ _ _ _ _)
   | (with_reducible exact ih1 _ _ _ _ _)
   | (with_reducible exact ih2 _ _ _ _ _ _ _ _ _)
   | (with_reducible exact ih3 _ _ _ _)
   | (with_reducible exact slices_SortStableFunc_int_int_at_impl_share_1.mono _ _ _ _ _)
   | (with_reducible exact LeO.refl _)
   | (with_reducible exact LeO.none _)
   | (with_reducible refine LeO.ite ?_ ?_)
   | (with_reducible refine LeO.bind ?_ (fun _ => ?_))
   | exact ih0 _ _ _ _ _ _ _
   | exact ih1 _ _ _ _ _
   | exact ih2 _ _ _ _ _ _ _ _ _
   | exact ih3 _ _ _ _
   | exact slices_SortStableFunc_int_int_at_impl_share_1.mono _ _ _ _ _
   | exact LeO.none _
   | refine LeO.ite ?_ ?_
   | refine LeO.bind ?_ (fun _ => ?_)
  ·intro y0 y1 y2 y3 y4 y5 y6 y7 y8
   unfold impl_share.l1
   repeat' first
   | (with_reducible exact ih0 _ _ _ _ _ _ _)
   | (with_reducible exact ih1 _ _ _ _ _)
   | (with_reducible exact ih2 _ _ _ _ _ _ _ _ _)
   | (with_reducible exact ih3 _ _ _ _)
   | (with_reducible exact slices_SortStableFunc_int_int_at_impl_share_1.mono _ _ _ _ _)
   | (with_reducible exact LeO.refl _)
   | (with_reducible exact LeO.none _)
   | (with_reducible refine LeO.ite ?_ ?_)
   | (with_reducible refine LeO.bind ?_ (fun _ => ?_))
   | exact ih0 _ _ _ _ _ _ _
   | exact ih1 _ _ _ _ _
   | exact ih2 _ _ _ _ _ _ _ _ _
   | exact ih3 _ _ _ _
   | exact slices_SortStableFunc_int_int_at_impl_share_1.mono _ _ _ _ _
   | exact LeO.none _
   | refine LeO.ite ?_ ?_
   | refine LeO.bind ?_ (fun _ => ?_)
  ·intro y0 y1 y2 y3
   unfold impl_share.l2
   repeat' first
   | (with_reducible exact ih0 _ _ _ _ _ _ _)
   | (with_reducible exact ih1 _ _ _ _ _)
   | (with_reducible exact ih2 _ _ _ _ _ _ _ _ _)
   | (with_reducible exact ih3 _ _ _ _)
   | (with_reducible exact slices_SortStableFunc_int_int_at_impl_share_1.mono _ _ _ _ _)
   | (with_reducible exact LeO.refl _)
   | (with_reducible exact LeO.none _)
   | (with_reducible refine LeO.ite ?_ ?_)
   | (with_reducible refine LeO.bind ?_ (fun _ => ?_))
   | exact ih0 _ _ _ _ _ _ _
   | exact ih1 _ _ _ _ _
   | exact ih2 _ _ _ _ _ _ _ _ _
   | exact ih3 _ _ _ _
   | exact slices_SortStableFunc_int_int_at_impl_share_1.mono _ _ _ _ _
   | exact LeO.none _
   | refine LeO.ite ?_ ?_
   | refine LeO.bind ?_ (fun _ => ?_)
theorem impl_share.mono : ∀ a0 a1 a2 k, LeO (impl_share.f k a0 a1 a2) (impl_share.f (k + 1) a0 a1 a2) := by
 intro a0 a1 a2 k
 obtain ⟨ih0, ih1, ih2, ih3⟩ := impl_share.mono_l k
 unfold impl_share.f
 repeat' first
   | (with_reducible exact ih0 _ _ _ _ _ _ _)
   | (with_reducible exact ih1 _ _ _ _ _)
   | (with_reducible exact ih2 _ _ _ _ _ _ _ _ _)
   | (with_reducible exact ih3 _ _ _ _)
   | (with_reducible exact slices_SortStableFunc_int_int_at_impl_share_1.mono _ _ _ _ _)
   | (with_reducible exact LeO.refl _)
   | (with_reducible exact LeO.none _)
   | (with_reducible refine LeO.ite ?_ ?_)
   | (with_reducible refine LeO.bind ?_ (fun _ => ?_))
   | exact ih0 _ _ _ _ _ _ _
   | exact ih1 _ _ _ _ _
   | exact ih2 _ _ _ _ _ _ _ _ _
   | exact ih3 _ _ _ _
   | exact slices_SortStableFunc_int_int_at_impl_share_1.mono _ _ _ _ _
   | exact LeO.none _
   | refine LeO.ite ?_ ?_
   | refine LeO.bind ?_ (fun _ => ?_)
def impl_share.T14 : Bool × List (List Nat × List Nat) := (true, [([], []), ([], []), ([0, 1], [0, 1]), ([2], [2]), ([], []), ([], []), ([4, 5], [4, 5]), ([], []), ([6, 7], [6, 7]), ([3, 8], [3, 8]), ([0, 1, 0, 1, 2, 3, 4, 5, 6, 7, 8, 9], [0, 1]), ([10, 9, 0, 1, 2, 3, 4, 5, 6, 7, 8, 9], [9, 10])])
def impl_share.B14 : List Nat := [0, 0, 3, 7, 0, 0, 48, 0, 240, 511, 1023, 2047]
theorem impl_share.tab14 : rtab .any (opsOf Try.f69 14) = impl_share.T14 := by kernel_rfl
theorem impl_share.bits14 : waitsOk impl_share.T14.2 impl_share.B14 = true := by kernel_rfl
set_option maxHeartbeats 8000000 in
set_option maxRecDepth 100000 in
theorem impl_share.calls (k : Nat) (a0 : Int) (A1 : Option Addr) (c1 : Nat) (l1 : List Int) (A2 : Option Addr) (c2 : Nat) (l2 : List Int) (r : List Int) (w : World) (hr1 : Kd.C (Kd.int .i64) w A1 l1.length l1) (hc1 : l1.length ≤ c1) (hr2 : Kd.C (Kd.int .i64) w A2 l2.length l2) (hc2 : l2.length ≤ c2) (h : impl_share.f k a0 l1 l2 = some r) :
  Calls Try.prog 69 #[.int .i64 a0, .slice A1 l1.length c1, .slice A2 l2.length c2] w fun e w' => ∃ v0_ : Value, e = .returned (v0_) ∧ Kd.R (Kd.int .i64) 3 w' w.heap.size (fun _ => True) v0_ r ∧ Below w.heap.size w w' := by
 have HR1 := Aside0.mk hr1
 have HC1 := Aside0.mk hc1
 clear hr1 hc1
 have HR2 := Aside0.mk hr2
 have HC2 := Aside0.mk hc2
 clear hr2 hc2
 have HB := Aside0.mk (Below.refl w.heap.size w)
 have H : ((slices_Clone_int_int.f l1).bind fun t191 => (impl_share.l0 k l1 t191 (l1.length : Int) 0 l2 a0 0)) = some r := h
 clear h
 obtain ⟨t191, A40, H⟩ := bE_ H
 have A4 := Aside0.mk A40
 clear A40
 have H' := Aside0.mk H
 clear H
 go_enter Try.func69, Try.ntmps69
 go_wp2_with (first | ((with_reducible refine gate_dst (N := 5) rfl ?_); refine bx_ 5 #[.slice A2 l2.length c2] 42 ?_; intro gb190 hg w5 hbox hb; have n0_ := Aside0.mk (below_step (bw_ HB.out) hb); have n1_ := Aside0.mk (hbox); have n2_ := Aside0.mk (gs_ hg (bw_ HB.out)); have n3_ := Aside0.mk (gs_ hg (bw_ HB.out)); clear HB; have HB := n0_; have BK190 := n1_; have GW190 := n2_; have GE190 := n3_; clear n0_ n1_ n2_ n3_; clear hb hbox hg) | ((with_reducible refine gate_callee (f := 94) rfl ?_); refine goesL_ (some 18) rfl rfl Try.func94 (by kernel_rfl) rfl #[.slice A1 l1.length c1] rfl (by (try simp only [List.map_toArray, List.map_cons, List.map_nil]); first | done | rfl | (simp only [List.length_drop, List.length_take]; rfl)) ?_; (with_reducible refine (slices_Clone_int_int.calls _ _ l1 t191 _ ?side1 ?side2 A4.out).mono ?_); (case side1 => repeat (first | exact (Kd.C_below HR1.out HB.out) | (with_reducible refine Kd.C_alloc ?_ _) | (with_reducible refine Kd.C_drewN ?_ _) | (with_reducible refine Kd.C_drew ?_))); (case side2 => exact HC1.out); rintro e w6 ⟨v192, rfl, ho0, hb⟩; refine ⟨_, rfl, ?_⟩; have n0_ := Aside0.mk (Kd.R_lower ho0 (below_size (bw_ HB.out))); have n1_ := Aside0.mk (blk_below (bk_ BK190.out) hb); have n2_ := Aside0.mk (below_step (bw_ HB.out) hb); clear BK190; clear HB; have HO193 := n0_; have BK190 := n1_; have HB := n2_; clear n0_ n1_ n2_; (try clear hb); (try clear hb2); (try clear hk); (try clear hi); (try clear ho0)) | ((with_reducible refine gate_dst (N := 8) rfl ?_); refine bx_ 8 #[.int .i64 0] 3 ?_; intro gb194 hg w7 hbox hb; have n0_ := Aside0.mk (Kd.R_below (Kd.R_elderB (by (with_reducible repeat (first | apply Kd.R_alloc | apply Kd.R_drewN | apply Kd.R_drew)); exact HO193.out) gb194 (Nat.le_of_eq hg.symm)) hb); have n1_ := Aside0.mk (blk_below (bk_ BK190.out) hb); have n2_ := Aside0.mk (below_step (bw_ HB.out) hb); have n3_ := Aside0.mk (hbox); have n4_ := Aside0.mk (gs_ hg (bw_ HB.out)); have n5_ := Aside0.mk (gs_ hg (bw_ HB.out)); have n6_ := Aside0.mk (nl_ hg (bk_ BK190.out)); have n7_ := Aside0.mk (ng_ hg (bk_ BK190.out)); clear HO193; clear BK190; clear HB; have HO193 := n0_; have BK190 := n1_; have HB := n2_; have BK194 := n3_; have GW194 := n4_; have GE194 := n5_; have NB190_194 := n6_; have NB194_190 := n7_; clear n0_ n1_ n2_ n3_ n4_ n5_ n6_ n7_; clear hb hbox hg) | ((with_reducible refine gate_dst (N := 9) rfl ?_); refine bx_ 9 #[.int .i64 0] 3 ?_; intro gb195 hg w8 hbox hb; have n0_ := Aside0.mk (Kd.R_below (Kd.R_elderB (by (with_reducible repeat (first | apply Kd.R_alloc | apply Kd.R_drewN | apply Kd.R_drew)); exact HO193.out) gb195 (Nat.le_of_eq hg.symm)) hb); have n1_ := Aside0.mk (blk_below (bk_ BK190.out) hb); have n2_ := Aside0.mk (blk_below (bk_ BK194.out) hb); have n3_ := Aside0.mk (below_step (bw_ HB.out) hb); have n4_ := Aside0.mk (hbox); have n5_ := Aside0.mk (gs_ hg (bw_ HB.out)); have n6_ := Aside0.mk (gs_ hg (bw_ HB.out)); have n7_ := Aside0.mk (nl_ hg (bk_ BK190.out)); have n8_ := Aside0.mk (ng_ hg (bk_ BK190.out)); have n9_ := Aside0.mk (nl_ hg (bk_ BK194.out)); have n10_ := Aside0.mk (ng_ hg (bk_ BK194.out)); clear HO193; clear BK190; clear BK194; clear HB; have HO193 := n0_; have BK190 := n1_; have BK194 := n2_; have HB := n3_; have BK195 := n4_; have GW195 := n5_; have GE195 := n6_; have NB190_195 := n7_; have NB195_190 := n8_; have NB194_195 := n9_; have NB195_194 := n10_; clear n0_ n1_ n2_ n3_ n4_ n5_ n6_ n7_ n8_ n9_ n10_; clear hb hbox hg; have hnb9 := NB194_190.out; have hnc9 := NB190_194.out; have hnb10 := NB194_195.out; have hnc10 := NB195_194.out; have hcz11_0 := cz_ BK194.out 0; have hfz11_0 := blk_frozen BK194.out 0; have hnb12 := NB195_190.out; have hnc12 := NB190_195.out; have hcz13_0 := cz_ BK195.out 0; have hfz13_0 := blk_frozen BK195.out 0))
 go_loopg [22] k (fun kq v22 w' => ∃ (x22_1 : Int) (x195000_1 : Int) (x196000_1 : Int), v22 = .int .i64 x22_1 ∧ Aside0 (impl_share.l0 kq l1 t191 (l1.length : Int) x22_1 l2 x195000_1 x196000_1 = some r) ∧ Aside0 (kq ≤ k) ∧ Aside0 (Kd.R (Kd.int .i64) 3 w' w.heap.size (fun k_ => k_ ≠ gb194 ∧ k_ ≠ gb195) v192 t191) ∧ Aside0 (w'.heap[gb190]? = some (.cells #[(.slice A2 l2.length c2)] 42 (0, 0))) ∧ Aside0 (w'.heap[gb194]? = some (.cells #[.int .i64 x195000_1] 3 (0, 0))) ∧ Aside0 (w'.heap[gb195]? = some (.cells #[.int .i64 x196000_1] 3 (0, 0))) ∧ Aside0 (Below w.heap.size w w'))
 case atStart => exact ⟨(0), (a0), (0), (by first | rfl | (simp; done) | (simp [*]; done) | (simp [wrap64]; done)), H', ⟨Nat.le_refl _⟩, ⟨by (with_reducible repeat (first | apply Kd.R_alloc | apply Kd.R_drewN | apply Kd.R_drew)); exact Kd.R_mono (Kd.R_far (p := ⟨gb195, 0, none⟩) (Kd.R_far (p := ⟨gb194, 0, none⟩) (Kd.R_mono (Kd.R_mono HO193.out (fun k_ hk => (⟨hk, hk.1.2⟩ : _ ∧ k_ ≠ gb194))) (fun k_ hk => (⟨hk, hk.1.2⟩ : _ ∧ k_ ≠ gb195))) (fun _ hk => hk.1.2) (.int .i64 a0)) (fun _ hk => hk.2) (.int .i64 0)) (fun _ hk => ⟨hk.1.1.1.2, hk.1.1.2⟩)⟩, ⟨by (with_reducible repeat (first | refine blk_drewN ?_ _ | refine blk_drew ?_ | refine blk_alloc ?_ _)); refine blk_far ?_ NB190_195.out _; (with_reducible repeat (first | refine blk_drewN ?_ _ | refine blk_drew ?_ | refine blk_alloc ?_ _)); refine blk_far ?_ NB190_194.out _; (with_reducible repeat (first | refine blk_drewN ?_ _ | refine blk_drew ?_ | refine blk_alloc ?_ _)); exact BK190.out⟩, ⟨by (with_reducible repeat (first | refine blk_drewN ?_ _ | refine blk_drew ?_ | refine blk_alloc ?_ _)); refine blk_far ?_ NB194_195.out _; (with_reducible repeat (first | refine blk_drewN ?_ _ | refine blk_drew ?_ | refine blk_alloc ?_ _)); refine blk_put (cs := #[.int .i64 0]) ?_ 0 _ rfl; (with_reducible repeat (first | refine blk_drewN ?_ _ | refine blk_drew ?_ | refine blk_alloc ?_ _)); exact BK194.out⟩, ⟨by (with_reducible repeat (first | refine blk_drewN ?_ _ | refine blk_drew ?_ | refine blk_alloc ?_ _)); refine blk_put (cs := #[.int .i64 0]) ?_ 0 _ rfl; (with_reducible repeat (first | refine blk_drewN ?_ _ | refine blk_drew ?_ | refine blk_alloc ?_ _)); refine blk_far ?_ NB195_194.out _; (with_reducible repeat (first | refine blk_drewN ?_ _ | refine blk_drew ?_ | refine blk_alloc ?_ _)); exact BK195.out⟩, ⟨bw_ HB.out⟩⟩
 case round =>
  clear H'
  try clear c1
  try clear c2
  try clear p2
  try clear c6
  try clear c9
  try clear c10
  try clear c12
  try clear hcz11_0
  try clear hcz13_0
  try clear hfz11_0
  try clear hfz13_0
  (try clear HO_7)
  obtain ⟨x22_1, x195000_1, x196000_1, rfl, HA, HK1, HO_7, BK190, BK194, BK195, HB⟩ := hrel
  cases gk with
  | zero => exact absurd HA.out (by simp [impl_share.l0])
  | succ k1 =>
   have H := HA.out
   clear HA
   simp only [impl_share.l0] at H
   by_cases c14 : x22_1 < (l1.length : Int)
   ·rw [if_pos c14] at H
    have c14b0 : decide (x22_1 < (l1.length : Int)) = true := decide_eq_true c14
    clear c14
    by_cases c15 : 0 ≤ x22_1
    ·rw [if_pos c15] at H
     have c15b0 : decide (0 ≤ x22_1) = true := decide_eq_true c15
     clear c15
     by_cases c16 : x22_1 < (l1.length : Int)
     ·rw [if_pos c16] at H
      have c16b0 : decide (x22_1 < (l1.length : Int)) = true := decide_eq_true c16
      clear c16
      by_cases c17 : x22_1 < (l2.length : Int)
      ·rw [if_pos c17] at H
       have c17b0 : decide (x22_1 < (l2.length : Int)) = true := decide_eq_true c17
       clear c17
       have H' := Aside0.mk H
       clear H
       try go_wp2
       have n0_ := Aside0.mk (Kd.R_drew HO_7.out)
       have n1_ := Aside0.mk (blk_drew BK190.out)
       have n2_ := Aside0.mk (blk_drew BK194.out)
       have n3_ := Aside0.mk (blk_drew BK195.out)
       have n4_ := Aside0.mk (below_drew1 HB.out)
       clear HO_7
       clear BK190
       clear BK194
       clear BK195
       clear HB
       have HO_7 := n0_
       have BK190 := n1_
       have BK194 := n2_
       have BK195 := n3_
       have HB := n4_
       clear n0_ n1_ n2_ n3_ n4_
       have p196 : 0 ≤ (x22_1 : Int) := of_decide_eq_true (by first | (with_reducible assumption) | assumption)
       have q196 : x22_1 < (l1.length : Int) := of_decide_eq_true (by first | (with_reducible assumption) | assumption)
       obtain ⟨ad196, e196, hx196_0⟩ := Kd.at_int HR1.out x22_1 p196 q196
       have hw196_0 := hx196_0
       cases e196
       (try replace hx196_0 := (HB.out.cell (World.block_lt_of_cell? w _ hx196_0)).trans hx196_0)
       replace p196 := eq_true p196
       replace q196 := eq_true q196
       refine start_ (n := 7) (S := fun w' => w'.cell? ⟨gb194, 0, none⟩ = some (.int .i64 x195000_1) ∧ w'.cell? (ad196.add (x22_1).toNat) = some (.int .i64 (rd l1 x22_1))) (ds := [6]) (Array.replicate 7 false) (by kernel_rfl) rfl rfl ⟨cz_ BK194.out 0, ((HB.out.cell (World.block_lt_of_cell? w _ hw196_0)).trans hw196_0)⟩ (fun hHeld => ?_)
       generalize wr.drew = w18 at HO_7 BK190 BK194 BK195 HB hx196_0 hHeld ⊢
       refine pure_ (i := 1) (N := some 26) (v := ?_) (a' := ?_) #[false, true, false, false, false, false, false] rfl rfl (by kernel_rfl) (fun _ _ _ h => h) (Or.inl ⟨by rfl, ?_⟩) ?_ ?_
       rotate_left
       ·intro w'
        go_simp
        with_reducible rfl
       rotate_left
       ·simp only [Act.put, List.setIfInBounds_toArray, List.set_cons_zero, List.set_cons_succ, i64_w, i32_w]
        rfl
       refine pure_ (i := 2) (N := some 27) (v := ?_) (a' := ?_) #[false, true, true, false, false, false, false] rfl rfl (by kernel_rfl) (fun _ _ _ h => h) (Or.inl ⟨by rfl, ?_⟩) ?_ ?_
       rotate_left
       ·intro w'
        go_simp
        with_reducible rfl
       rotate_left
       ·simp only [Act.put, List.setIfInBounds_toArray, List.set_cons_zero, List.set_cons_succ, i64_w, i32_w]
        rfl
       refine pure_ (i := 3) (N := some 28) (v := ?_) (a' := ?_) #[false, true, true, true, false, false, false] rfl rfl (by kernel_rfl) (fun _ _ _ h => h) (Or.inl ⟨by rfl, ?_⟩) ?_ ?_
       rotate_left
       ·intro w'
        go_simp
        with_reducible rfl
       rotate_left
       ·simp only [Act.put, List.setIfInBounds_toArray, List.set_cons_zero, List.set_cons_succ, i64_w, i32_w]
        rfl
       refine take_ (i := 0) (N := some 25) (v := ?_) (a' := ?_) #[true, true, true, true, false, false, false] rfl rfl (by kernel_rfl) (fun _ _ _ h => h) (Or.inl ⟨by rfl, ?_⟩) hHeld ?_ ?_
       rotate_left
       ·rintro w' ⟨s0, s1⟩
        go_simp
        with_reducible rfl
       rotate_left
       ·simp only [Act.put, List.setIfInBounds_toArray, List.set_cons_zero, List.set_cons_succ, i64_w, i32_w]
        rfl
       refine take_ (i := 4) (N := some 29) (v := ?_) (a' := ?_) #[true, true, true, true, true, false, false] rfl rfl (by kernel_rfl) (fun _ _ _ h => h) (Or.inl ⟨by rfl, ?_⟩) hHeld ?_ ?_
       rotate_left
       ·rintro w' ⟨s0, s1⟩
        go_simp
        with_reducible rfl
       rotate_left
       ·simp only [Act.put, List.setIfInBounds_toArray, List.set_cons_zero, List.set_cons_succ, i64_w, i32_w]
        rfl
       refine pure_ (i := 5) (N := some 30) (v := ?_) (a' := ?_) #[true, true, true, true, true, true, false] rfl rfl (by kernel_rfl) (fun _ _ _ h => h) (Or.inl ⟨by rfl, ?_⟩) ?_ ?_
       rotate_left
       ·intro w'
        go_simp
        with_reducible rfl
       rotate_left
       ·simp only [Act.put, List.setIfInBounds_toArray, List.set_cons_zero, List.set_cons_succ, i64_w, i32_w]
        rfl
       refine last_ (i := 6) (N := none) #[true, true, true, true, true, true, true] rfl rfl (by kernel_rfl) (by decide) (fun K hK => ?_)
       have hs19 : w18.cell? ⟨gb194, 0, none⟩ = some (.int .i64 x195000_1) := cz_ BK194.out 0
       have hfs19 := blk_frozen BK194.out 0
       have hns19_0 := NB190_194.out
       have hns19_2 := NB195_194.out
       have hms19_0 := NB194_190.out
       have hms19_2 := NB194_195.out
       refine skip_ (w1 := ?_) (by rfl) rfl ?_ ?_
       rotate_left
       ·go_simp
        rfl
       refine hK.out _ _ ?_
       clear hK K
       refine done_ (by kernel_rfl) ?_
       try go_wp2
       have n0_ : Aside0 (Kd.R (Kd.int .i64) 3 (w18.setCell ⟨gb194, 0, none⟩ (.int .i64 (wrap64 (x195000_1 - (rd l1 x22_1))))) w.heap.size (fun k_ => k_ ≠ gb194 ∧ k_ ≠ gb195) v192 t191) := ⟨by (with_reducible repeat (first | apply Kd.R_alloc | apply Kd.R_drewN | apply Kd.R_drew)); exact Kd.R_mono (Kd.R_far (p := ⟨gb194, 0, none⟩) (Kd.R_mono HO_7.out (fun k_ hk => (⟨hk, hk.1⟩ : _ ∧ k_ ≠ gb194))) (fun _ hk => hk.2) (.int .i64 (wrap64 (x195000_1 - (rd l1 x22_1))))) (fun _ hk => ⟨hk.1.1, hk.1.2⟩)⟩
       have n1_ : Aside0 ((w18.setCell ⟨gb194, 0, none⟩ (.int .i64 (wrap64 (x195000_1 - (rd l1 x22_1))))).heap[gb190]? = some (.cells #[.slice A2 l2.length c2] 42 (0, 0))) := ⟨by (with_reducible repeat (first | refine blk_drewN ?_ _ | refine blk_drew ?_ | refine blk_alloc ?_ _)); refine blk_far ?_ NB190_194.out _; (with_reducible repeat (first | refine blk_drewN ?_ _ | refine blk_drew ?_ | refine blk_alloc ?_ _)); exact BK190.out⟩
       have n2_ : Aside0 ((w18.setCell ⟨gb194, 0, none⟩ (.int .i64 (wrap64 (x195000_1 - (rd l1 x22_1))))).heap[gb194]? = some (.cells #[.int .i64 (wrap64 (x195000_1 - (rd l1 x22_1)))] 3 (0, 0))) := ⟨by (with_reducible repeat (first | refine blk_drewN ?_ _ | refine blk_drew ?_ | refine blk_alloc ?_ _)); refine blk_put (cs := #[.int .i64 x195000_1]) ?_ 0 _ rfl; (with_reducible repeat (first | refine blk_drewN ?_ _ | refine blk_drew ?_ | refine blk_alloc ?_ _)); exact BK194.out⟩
       have n3_ : Aside0 ((w18.setCell ⟨gb194, 0, none⟩ (.int .i64 (wrap64 (x195000_1 - (rd l1 x22_1))))).heap[gb195]? = some (.cells #[.int .i64 x196000_1] 3 (0, 0))) := ⟨by (with_reducible repeat (first | refine blk_drewN ?_ _ | refine blk_drew ?_ | refine blk_alloc ?_ _)); refine blk_far ?_ NB195_194.out _; (with_reducible repeat (first | refine blk_drewN ?_ _ | refine blk_drew ?_ | refine blk_alloc ?_ _)); exact BK195.out⟩
       have n4_ : Aside0 (Below w.heap.size w (w18.setCell ⟨gb194, 0, none⟩ (.int .i64 (wrap64 (x195000_1 - (rd l1 x22_1)))))) := ⟨bw_ HB.out⟩
       (try clear HO_7)
       (try clear BK190)
       (try clear BK194)
       (try clear BK195)
       (try clear HB)
       generalize (w18.setCell ⟨gb194, 0, none⟩ (.int .i64 (wrap64 (x195000_1 - (rd l1 x22_1))))) = w20 at n0_ n1_ n2_ n3_ n4_ ⊢
       have HO_7 := n0_
       have BK190 := n1_
       have BK194 := n2_
       have BK195 := n3_
       have HB := n4_
       clear n0_ n1_ n2_ n3_ n4_
       have n0_ := Aside0.mk (Kd.R_drew HO_7.out)
       have n1_ := Aside0.mk (blk_drew BK190.out)
       have n2_ := Aside0.mk (blk_drew BK194.out)
       have n3_ := Aside0.mk (blk_drew BK195.out)
       have n4_ := Aside0.mk (below_drew1 HB.out)
       clear HO_7
       clear BK190
       clear BK194
       clear BK195
       clear HB
       have HO_7 := n0_
       have BK190 := n1_
       have BK194 := n2_
       have BK195 := n3_
       have HB := n4_
       clear n0_ n1_ n2_ n3_ n4_
       have p197 : 0 ≤ (x22_1 : Int) := of_decide_eq_true (by first | (with_reducible assumption) | assumption)
       have q197 : x22_1 < (l2.length : Int) := of_decide_eq_true (by first | (with_reducible assumption) | assumption)
       obtain ⟨ad197, e197, hx197_0⟩ := Kd.at_int HR2.out x22_1 p197 q197
       have hw197_0 := hx197_0
       cases e197
       (try replace hx197_0 := (HB.out.cell (World.block_lt_of_cell? w _ hx197_0)).trans hx197_0)
       replace p197 := eq_true p197
       replace q197 := eq_true q197
       refine start_ (n := 7) (S := fun w' => w'.cell? ⟨gb195, 0, none⟩ = some (.int .i64 x196000_1) ∧ w'.cell? ⟨gb190, 0, none⟩ = some (.slice (some ad197) l2.length c2) ∧ w'.cell? (ad197.add (x22_1).toNat) = some (.int .i64 (rd l2 x22_1))) (ds := [6]) (Array.replicate 7 false) (by kernel_rfl) rfl rfl ⟨cz_ BK195.out 0, cz_ BK190.out 0, ((HB.out.cell (World.block_lt_of_cell? w _ hw197_0)).trans hw197_0)⟩ (fun hHeld => ?_)
       generalize w20.drew = w21 at HO_7 BK190 BK194 BK195 HB hx197_0 hHeld ⊢
       refine pure_ (i := 2) (N := some 33) (v := ?_) (a' := ?_) #[false, false, true, false, false, false, false] rfl rfl (by kernel_rfl) (fun _ _ _ h => h) (Or.inl ⟨by rfl, ?_⟩) ?_ ?_
       rotate_left
       ·intro w'
        go_simp
        with_reducible rfl
       rotate_left
       ·simp only [Act.put, List.setIfInBounds_toArray, List.set_cons_zero, List.set_cons_succ, i64_w, i32_w]
        rfl
       refine take_ (i := 0) (N := some 31) (v := ?_) (a' := ?_) #[true, false, true, false, false, false, false] rfl rfl (by kernel_rfl) (fun _ _ _ h => h) (Or.inl ⟨by rfl, ?_⟩) hHeld ?_ ?_
       rotate_left
       ·rintro w' ⟨s0, s1, s2⟩
        go_simp
        with_reducible rfl
       rotate_left
       ·simp only [Act.put, List.setIfInBounds_toArray, List.set_cons_zero, List.set_cons_succ, i64_w, i32_w]
        rfl
       refine take_ (i := 1) (N := some 32) (v := ?_) (a' := ?_) #[true, true, true, false, false, false, false] rfl rfl (by kernel_rfl) (fun _ _ _ h => h) (Or.inl ⟨by rfl, ?_⟩) hHeld ?_ ?_
       rotate_left
       ·rintro w' ⟨s0, s1, s2⟩
        go_simp
        with_reducible rfl
       rotate_left
       ·simp only [Act.put, List.setIfInBounds_toArray, List.set_cons_zero, List.set_cons_succ, i64_w, i32_w]
        rfl
       refine pure_ (i := 3) (N := some 34) (v := ?_) (a' := ?_) #[true, true, true, true, false, false, false] rfl rfl (by kernel_rfl) (fun _ _ _ h => h) (Or.inl ⟨by rfl, ?_⟩) ?_ ?_
       rotate_left
       ·intro w'
        go_simp
        with_reducible rfl
       rotate_left
       ·simp only [Act.put, List.setIfInBounds_toArray, List.set_cons_zero, List.set_cons_succ, i64_w, i32_w]
        rfl
       refine take_ (i := 4) (N := some 35) (v := ?_) (a' := ?_) #[true, true, true, true, true, false, false] rfl rfl (by kernel_rfl) (fun _ _ _ h => h) (Or.inl ⟨by rfl, ?_⟩) hHeld ?_ ?_
       rotate_left
       ·rintro w' ⟨s0, s1, s2⟩
        go_simp
        with_reducible rfl
       rotate_left
       ·simp only [Act.put, List.setIfInBounds_toArray, List.set_cons_zero, List.set_cons_succ, i64_w, i32_w]
        rfl
       refine pure_ (i := 5) (N := some 36) (v := ?_) (a' := ?_) #[true, true, true, true, true, true, false] rfl rfl (by kernel_rfl) (fun _ _ _ h => h) (Or.inl ⟨by rfl, ?_⟩) ?_ ?_
       rotate_left
       ·intro w'
        go_simp
        with_reducible rfl
       rotate_left
       ·simp only [Act.put, List.setIfInBounds_toArray, List.set_cons_zero, List.set_cons_succ, i64_w, i32_w]
        rfl
       refine last_ (i := 6) (N := none) #[true, true, true, true, true, true, true] rfl rfl (by kernel_rfl) (by decide) (fun K hK => ?_)
       have hs22 : w21.cell? ⟨gb195, 0, none⟩ = some (.int .i64 x196000_1) := cz_ BK195.out 0
       have hfs22 := blk_frozen BK195.out 0
       have hns22_0 := NB190_195.out
       have hns22_1 := NB194_195.out
       have hms22_0 := NB195_190.out
       have hms22_1 := NB195_194.out
       refine skip_ (w1 := ?_) (by rfl) rfl ?_ ?_
       rotate_left
       ·go_simp
        rfl
       refine hK.out _ _ ?_
       clear hK K
       refine done_ (by kernel_rfl) ?_
       try go_wp2
       go_roundg k1
       case measure => have := HK1.out; omega
       case rel => exact ⟨(wrap64 (x22_1 + 1)), (wrap64 (x195000_1 - (rd l1 x22_1))), (wrap64 (x196000_1 + (rd l2 x22_1))), (by first | rfl | (simp; done) | (simp [*]; done) | (simp [wrap64]; done)), H', ⟨by have := HK1.out; omega⟩, ⟨by (with_reducible repeat (first | apply Kd.R_alloc | apply Kd.R_drewN | apply Kd.R_drew)); exact Kd.R_mono (Kd.R_far (p := ⟨gb195, 0, none⟩) (Kd.R_mono HO_7.out (fun k_ hk => (⟨hk, hk.2⟩ : _ ∧ k_ ≠ gb195))) (fun _ hk => hk.2) (.int .i64 (wrap64 (x196000_1 + (rd l2 x22_1))))) (fun _ hk => ⟨hk.1.1, hk.1.2⟩)⟩, ⟨by (with_reducible repeat (first | refine blk_drewN ?_ _ | refine blk_drew ?_ | refine blk_alloc ?_ _)); refine blk_far ?_ NB190_195.out _; (with_reducible repeat (first | refine blk_drewN ?_ _ | refine blk_drew ?_ | refine blk_alloc ?_ _)); exact BK190.out⟩, ⟨by (with_reducible repeat (first | refine blk_drewN ?_ _ | refine blk_drew ?_ | refine blk_alloc ?_ _)); refine blk_far ?_ NB194_195.out _; (with_reducible repeat (first | refine blk_drewN ?_ _ | refine blk_drew ?_ | refine blk_alloc ?_ _)); exact BK194.out⟩, ⟨by (with_reducible repeat (first | refine blk_drewN ?_ _ | refine blk_drew ?_ | refine blk_alloc ?_ _)); refine blk_put (cs := #[.int .i64 x196000_1]) ?_ 0 _ rfl; (with_reducible repeat (first | refine blk_drewN ?_ _ | refine blk_drew ?_ | refine blk_alloc ?_ _)); exact BK195.out⟩, ⟨bw_ HB.out⟩⟩
      ·rw [if_neg c17] at H
       exact absurd H (by simp)
     ·rw [if_neg c16] at H
      exact absurd H (by simp)
    ·rw [if_neg c15] at H
     exact absurd H (by simp)
   ·rw [if_neg c14] at H
    have c14b0 : decide (x22_1 < (l1.length : Int)) = false := decide_eq_false c14
    clear c14
    have HC23 := Aside0.mk H
    clear H
    go_upto_region 8 with (fail)
    go_cut [43] (fun v43 wc => ∃ (kq : Nat) (x43_22 : Bool), v43 = .bool x43_22 ∧ Aside0 (impl_share.j1 kq t191 x43_22 l2 x195000_1 x196000_1 = some r) ∧ Aside0 (kq ≤ k1) ∧ Aside0 (Kd.R (Kd.int .i64) 3 wc w.heap.size (fun k_ => k_ ≠ gb194 ∧ k_ ≠ gb195) v192 t191) ∧ Aside0 (wc.heap[gb190]? = some (.cells #[(.slice A2 l2.length c2)] 42 (0, 0))) ∧ Aside0 (wc.heap[gb194]? = some (.cells #[.int .i64 x195000_1] 3 (0, 0))) ∧ Aside0 (wc.heap[gb195]? = some (.cells #[.int .i64 x196000_1] 3 (0, 0))) ∧ Aside0 (Below w.heap.size w wc))
    case first =>
     have H := HC23.out
     clear HC23
     by_cases c24 : x195000_1 ≤ 0
     ·rw [if_pos c24] at H
      have c24b0 : decide (x195000_1 ≤ 0) = true := decide_eq_true c24
      clear c24
      (first | rw [c24b0] | (simp only [i64_w, i32_w]; rw [c24b0]) | skip)
      have H' := Aside0.mk H
      clear H
      have hnb25 := NB194_190.out
      have hnc25 := NB190_194.out
      have hnb26 := NB194_195.out
      have hnc26 := NB195_194.out
      have hcz27_0 := cz_ BK194.out 0
      have hfz27_0 := blk_frozen BK194.out 0
      go_wp2
      go_meet
      case rel => exact ⟨_, (true), (by first | rfl | (simp; done) | (simp [*]; done) | (simp [wrap64]; done)), H', ⟨by have := HK1.out; first | omega | exact Nat.le_refl _⟩, ⟨by (with_reducible repeat (first | apply Kd.R_alloc | apply Kd.R_drewN | apply Kd.R_drew)); exact HO_7.out⟩, ⟨by (with_reducible repeat (first | refine blk_drewN ?_ _ | refine blk_drew ?_ | refine blk_alloc ?_ _)); exact BK190.out⟩, ⟨by (with_reducible repeat (first | refine blk_drewN ?_ _ | refine blk_drew ?_ | refine blk_alloc ?_ _)); exact BK194.out⟩, ⟨by (with_reducible repeat (first | refine blk_drewN ?_ _ | refine blk_drew ?_ | refine blk_alloc ?_ _)); exact BK195.out⟩, ⟨bw_ HB.out⟩⟩
     ·rw [if_neg c24] at H
      have c24b0 : decide (x195000_1 ≤ 0) = false := decide_eq_false c24
      clear c24
      (first | rw [c24b0] | (simp only [i64_w, i32_w]; rw [c24b0]) | skip)
      have H' := Aside0.mk H
      clear H
      have hnb28 := NB194_190.out
      have hnc28 := NB190_194.out
      have hnb29 := NB194_195.out
      have hnc29 := NB195_194.out
      have hcz30_0 := cz_ BK194.out 0
      have hfz30_0 := blk_frozen BK194.out 0
      have hnb31 := NB195_190.out
      have hnc31 := NB190_195.out
      have hcz32_0 := cz_ BK195.out 0
      have hfz32_0 := blk_frozen BK195.out 0
      go_wp2
      go_meet
      case rel => exact ⟨_, ((x196000_1 == 0)), (by first | rfl | (simp; done) | (simp [*]; done) | (simp [wrap64]; done)), H', ⟨by have := HK1.out; first | omega | exact Nat.le_refl _⟩, ⟨by (with_reducible repeat (first | apply Kd.R_alloc | apply Kd.R_drewN | apply Kd.R_drew)); exact HO_7.out⟩, ⟨by (with_reducible repeat (first | refine blk_drewN ?_ _ | refine blk_drew ?_ | refine blk_alloc ?_ _)); exact BK190.out⟩, ⟨by (with_reducible repeat (first | refine blk_drewN ?_ _ | refine blk_drew ?_ | refine blk_alloc ?_ _)); exact BK194.out⟩, ⟨by (with_reducible repeat (first | refine blk_drewN ?_ _ | refine blk_drew ?_ | refine blk_alloc ?_ _)); exact BK195.out⟩, ⟨bw_ HB.out⟩⟩
    case rest =>
     clear HC23
     try clear c1
     try clear p1
     try clear q1
     try clear hx1
     try clear c2
     try clear p2
     try clear c3
     try clear c6
     try clear p6
     try clear c9
     try clear c10
     try clear c12
     try clear c14
     try clear c14b0
     try clear c15
     try clear c15b0
     try clear c16
     try clear c16b0
     try clear c17
     try clear c17b0
     try clear p19
     try clear q19
     try clear hx19
     try clear c24
     try clear c24b0
     try clear c25
     try clear c26
     try clear c28
     try clear c29
     try clear c31
     try clear hcz11_0
     try clear hcz13_0
     try clear hcz27_0
     try clear hcz30_0
     try clear hcz32_0
     try clear hfz11_0
     try clear hfz13_0
     try clear hfz27_0
     try clear hfz30_0
     try clear hfz32_0
     try clear hx196_0
     try clear hx197_0
     try clear p196
     try clear p197
     try clear p2
     try clear q196
     try clear q197
     obtain ⟨kq, x43_22, rfl, HA, HJ22, HO_7, BK190, BK194, BK195, HB⟩ := hcut
     cases kq with
     | zero => exact absurd HA.out (by simp [impl_share.j1])
     | succ kj22 =>
      have H := HA.out
      clear HA
      simp only [impl_share.j1] at H
      by_cases c33 : x43_22 = true
      ·subst c33
       replace H := it_ H rfl
       obtain rfl := Option.some.inj H
       go_wp2
       go_ret
       exact ⟨_, by first | rfl | (simp [errW_none, errW_some] <;> rfl) | (simp [*, errW_none, errW_some] <;> rfl), by (with_reducible repeat (first | apply Kd.R_alloc | apply Kd.R_drewN | apply Kd.R_drew)); exact Kd.R_mono HO_7.out (fun _ hk => trivial), bw_ HB.out⟩
      ·replace c33 := Bool.eq_false_iff.mpr c33
       subst c33
       replace H := if_ H Bool.false_ne_true
       obtain ⟨y198, hy198⟩ : ∃ y_ : List Int, y_ = (([] : List Int)) := ⟨_, rfl⟩
       replace H : (impl_share.l1 kj22 t191 y198 0 l2 (l2.length : Int) 0 l2 x195000_1 x196000_1) = some r := by first | (rw [hy198]; with_reducible exact H) | (have H2_ := (Option.bind_some _ _).symm.trans H; rw [hy198]; with_reducible exact H2_) | (have H2_ := (Option.bind_some _ _).symm.trans H; with_reducible exact H2_) | with_reducible exact H | (rw [hy198]; exact H) | exact H
       have Ny198 := Aside0.mk hy198
       clear hy198
       have H' := Aside0.mk H
       clear H
       go_wp2_with (first | ((with_reducible refine gate_dst (N := 45) rfl ?_); refine Kd.R_lit (Kd.int .i64) _ 3 ?hg (N := 45) ?hd (xs := ([] : List Int)) (inner := []) (ok := fun _ => True) (okp := fun _ => True) ?hr ?hp (fun _ hk => hk) trivial (Below.refl _ _) (Nat.le_refl _) (by simp) ?_; (case hd => rfl); (case hg => rfl); (case hr => first | (go_simp; done) | (go_simp; rfl)); (case hp => exact (Reps.none _ _)); intro v199 w34 ho35 hb hg_ hnew_; clear hg_ hnew_; (first | rw [← Ny198.out] at ho35 | (simp only [Int.reduceToNat] at ho35; rw [← Ny198.out] at ho35)); have n0_ := Aside0.mk (Kd.R_elder' (by (with_reducible repeat (first | apply Kd.R_alloc | apply Kd.R_drewN | apply Kd.R_drew)); exact HO_7.out) (Kd.R_base ho35) hb); have n1_ := Aside0.mk (Kd.R_lower (Kd.R_newB (Kd.R_newB (Kd.R_new' ho35 (Kd.R_lt (by (with_reducible repeat (first | apply Kd.R_alloc | apply Kd.R_drewN | apply Kd.R_drew)); exact HO_7.out))) (bk_ BK194.out)) (bk_ BK195.out)) (below_size (bw_ HB.out))); have n2_ := Aside0.mk (blk_below (bk_ BK190.out) hb); have n3_ := Aside0.mk (blk_below (bk_ BK194.out) hb); have n4_ := Aside0.mk (blk_below (bk_ BK195.out) hb); have n5_ := Aside0.mk (below_step (bw_ HB.out) hb); clear HO_7; clear BK190; clear BK194; clear BK195; clear HB; have HO_7 := n0_; have HO200 := n1_; have BK190 := n2_; have BK194 := n3_; have BK195 := n4_; have HB := n5_; clear n0_ n1_ n2_ n3_ n4_ n5_; clear hb ho35; have hnb36 := NB190_194.out; have hnc36 := NB194_190.out; have hnb37 := NB190_195.out; have hnc37 := NB195_190.out; have hcz38_0 := cz_ BK190.out 0; have hfz38_0 := blk_frozen BK190.out 0))
       go_loopg [11, 12, 48] kj22 (fun kq v11 v12 v48 w' => ∃ (x7_3 : List Int) (x11_3 : List Int) (x12_3 : Int) (x48_3 : Int), v12 = .int .i64 x12_3 ∧ v48 = .int .i64 x48_3 ∧ Aside0 (impl_share.l1 kq x7_3 x11_3 x12_3 l2 (l2.length : Int) x48_3 l2 x195000_1 x196000_1 = some r) ∧ Aside0 (kq ≤ kj22) ∧ Aside0 (Kd.R (Kd.int .i64) 3 w' w.heap.size (fun k_ => some k_ ≠ (v11 : Value).ownBlock ∧ k_ ≠ gb194 ∧ k_ ≠ gb195) v192 x7_3) ∧ Aside0 (Kd.R (Kd.int .i64) 3 w' w.heap.size (fun k_ => some k_ ≠ (v192 : Value).ownBlock ∧ k_ ≠ gb194 ∧ k_ ≠ gb195) v11 x11_3) ∧ Aside0 (w'.heap[gb190]? = some (.cells #[(.slice A2 l2.length c2)] 42 (0, 0))) ∧ Aside0 (w'.heap[gb194]? = some (.cells #[.int .i64 x195000_1] 3 (0, 0))) ∧ Aside0 (w'.heap[gb195]? = some (.cells #[.int .i64 x196000_1] 3 (0, 0))) ∧ Aside0 (Below w.heap.size w w'))
       case atStart => exact ⟨(t191), (y198), (0), (0), (by first | rfl | (simp; done) | (simp [*]; done) | (simp [wrap64]; done)), (by first | rfl | (simp; done) | (simp [*]; done) | (simp [wrap64]; done)), H', ⟨Nat.le_refl _⟩, ⟨by (with_reducible repeat (first | apply Kd.R_alloc | apply Kd.R_drewN | apply Kd.R_drew)); exact Kd.R_mono HO_7.out (fun _ hk => ⟨hk.2, ⟨hk.1.1, hk.1.2⟩⟩)⟩, ⟨by (with_reducible repeat (first | apply Kd.R_alloc | apply Kd.R_drewN | apply Kd.R_drew)); exact Kd.R_mono HO200.out (fun _ hk => ⟨hk.1.1.2, ⟨hk.1.2, hk.2⟩⟩)⟩, ⟨by (with_reducible repeat (first | refine blk_drewN ?_ _ | refine blk_drew ?_ | refine blk_alloc ?_ _)); exact BK190.out⟩, ⟨by (with_reducible repeat (first | refine blk_drewN ?_ _ | refine blk_drew ?_ | refine blk_alloc ?_ _)); exact BK194.out⟩, ⟨by (with_reducible repeat (first | refine blk_drewN ?_ _ | refine blk_drew ?_ | refine blk_alloc ?_ _)); exact BK195.out⟩, ⟨bw_ HB.out⟩⟩
       case round =>
        clear H'
        try clear c1
        try clear p1
        try clear q1
        try clear hx1
        try clear c2
        try clear p2
        try clear c3
        try clear c6
        try clear p6
        try clear c9
        try clear c10
        try clear c12
        try clear c14
        try clear c14b0
        try clear c15
        try clear c15b0
        try clear c16
        try clear c16b0
        try clear c17
        try clear c17b0
        try clear p19
        try clear q19
        try clear hx19
        try clear c24
        try clear c24b0
        try clear c25
        try clear c26
        try clear c28
        try clear c29
        try clear c31
        try clear c33
        try clear c36
        try clear c37
        try clear hcz11_0
        try clear hcz13_0
        try clear hcz27_0
        try clear hcz30_0
        try clear hcz32_0
        try clear hcz38_0
        try clear hfz11_0
        try clear hfz13_0
        try clear hfz27_0
        try clear hfz30_0
        try clear hfz32_0
        try clear hfz38_0
        try clear hx196_0
        try clear hx197_0
        try clear p1
        try clear p19
        try clear p196
        try clear p197
        try clear p2
        try clear p6
        try clear q1
        try clear q19
        try clear q196
        try clear q197
        (try clear HO_7)
        (try clear HO_11)
        obtain ⟨x7_3, x11_3, x12_3, x48_3, rfl, rfl, HA, HK3, HO_7, HO_11, BK190, BK194, BK195, HB⟩ := hrel
        cases gk with
        | zero => exact absurd HA.out (by simp [impl_share.l1])
        | succ k3 =>
         have H := HA.out
         clear HA
         simp only [impl_share.l1] at H
         by_cases c39 : x48_3 < (l2.length : Int)
         ·rw [if_pos c39] at H
          have c39b0 : decide (x48_3 < (l2.length : Int)) = true := decide_eq_true c39
          clear c39
          by_cases c40 : 0 ≤ x48_3
          ·rw [if_pos c40] at H
           have c40b0 : decide (0 ≤ x48_3) = true := decide_eq_true c40
           clear c40
           by_cases c41 : x48_3 < (l2.length : Int)
           ·rw [if_pos c41] at H
            have c41b0 : decide (x48_3 < (l2.length : Int)) = true := decide_eq_true c41
            clear c41
            by_cases c42 : x48_3 < (x7_3.length : Int)
            ·rw [if_pos c42] at H
             have c42b0 : decide (x48_3 < (x7_3.length : Int)) = true := decide_eq_true c42
             clear c42
             by_cases c43 : x196000_1 = 0
             ·rw [if_pos c43] at H
              exact absurd H (by simp)
             ·rw [if_neg c43] at H
              have c43b0 : (x196000_1 == 0) = false := beq_eq_false_iff_ne.mpr c43
              have c43b1 : (x196000_1 != 0) = true := bne_iff_ne.mpr c43
              obtain ⟨y203, hy203⟩ : ∃ y_ : List Int, y_ = (x7_3.set (x48_3 : Int).toNat (wrap64 ((rd x7_3 x48_3) + (wrap64 (Int.tdiv (wrap64 (x195000_1 * (rd l2 x48_3))) x196000_1))))) := ⟨_, rfl⟩
              replace H : (if x11_3.length < 17592186044416 then (impl_share.l1 k3 y203 (x11_3 ++ [x48_3]) (wrap64 (x12_3 + (wrap64 (Int.tdiv (wrap64 (x195000_1 * (rd l2 x48_3))) x196000_1)))) l2 (l2.length : Int) (wrap64 (x48_3 + 1)) l2 x195000_1 x196000_1) else (none)) = some r := by first | (rw [hy203]; with_reducible exact H) | (have H2_ := (Option.bind_some _ _).symm.trans H; rw [hy203]; with_reducible exact H2_) | (have H2_ := (Option.bind_some _ _).symm.trans H; with_reducible exact H2_) | with_reducible exact H | (rw [hy203]; exact H) | exact H
              have Ny203 := Aside0.mk hy203
              clear hy203
              by_cases c45 : x11_3.length < 17592186044416
              ·rw [if_pos c45] at H
               have LMc45 := Aside0.mk c45
               clear c45
               obtain ⟨y204, hy204⟩ : ∃ y_ : List Int, y_ = (x11_3 ++ [x48_3]) := ⟨_, rfl⟩
               replace H : (impl_share.l1 k3 y203 y204 (wrap64 (x12_3 + (wrap64 (Int.tdiv (wrap64 (x195000_1 * (rd l2 x48_3))) x196000_1)))) l2 (l2.length : Int) (wrap64 (x48_3 + 1)) l2 x195000_1 x196000_1) = some r := by first | (rw [hy204]; with_reducible exact H) | (have H2_ := (Option.bind_some _ _).symm.trans H; rw [hy204]; with_reducible exact H2_) | (have H2_ := (Option.bind_some _ _).symm.trans H; with_reducible exact H2_) | with_reducible exact H | (rw [hy204]; exact H) | exact H
               have Ny204 := Aside0.mk hy204
               clear hy204
               have H' := Aside0.mk H
               clear H
               have p201 : 0 ≤ (x48_3 : Int) := of_decide_eq_true (by first | (with_reducible assumption) | assumption)
               have q201 : x48_3 < (l2.length : Int) := of_decide_eq_true (by first | (with_reducible assumption) | assumption)
               obtain ⟨ad201, e201, hx201_0⟩ := Kd.at_int HR2.out x48_3 p201 q201
               cases e201
               (try replace hx201_0 := (HB.out.cell (World.block_lt_of_cell? w _ hx201_0)).trans hx201_0)
               replace p201 := eq_true p201
               replace q201 := eq_true q201
               try go_wp2
               have n0_ := Aside0.mk (Kd.R_drew HO_7.out)
               have n1_ := Aside0.mk (Kd.R_drew HO_11.out)
               have n2_ := Aside0.mk (blk_drew BK190.out)
               have n3_ := Aside0.mk (blk_drew BK194.out)
               have n4_ := Aside0.mk (blk_drew BK195.out)
               have n5_ := Aside0.mk (below_drew1 HB.out)
               clear HO_7
               clear HO_11
               clear BK190
               clear BK194
               clear BK195
               clear HB
               have HO_7 := n0_
               have HO_11 := n1_
               have BK190 := n2_
               have BK194 := n3_
               have BK195 := n4_
               have HB := n5_
               clear n0_ n1_ n2_ n3_ n4_ n5_
               obtain ⟨Ao47, co47, eo47⟩ := Kd.R_slice HO_7.out
               (first | subst eo47 | (injection eo47 with f1_ f2_ f3_; have f4_ := f1_.symm; have f5_ := f3_.symm; clear f1_ f2_ f3_; subst f4_; subst f5_))
               have p202 : 0 ≤ (x48_3 : Int) := of_decide_eq_true (by first | (with_reducible assumption) | assumption)
               have q202 : x48_3 < (x7_3.length : Int) := of_decide_eq_true (by first | (with_reducible assumption) | assumption)
               obtain ⟨ad202, e202, hx202_0⟩ := Kd.at_int (Kd.R_reads' HO_7.out).2.2 x48_3 p202 q202
               cases e202
               replace p202 := eq_true p202
               replace q202 := eq_true q202
               have p44 : 0 ≤ (x48_3 : Int) := of_decide_eq_true (by first | (with_reducible assumption) | assumption)
               have q44 : (x48_3 : Int) < ((x7_3.length : Int) : Int) := of_decide_eq_true (by first | (with_reducible assumption) | assumption)
               obtain ⟨go44, co44, eo44, gb44, gl44, cl44, HG44⟩ := Kd.R_form HO_7.out (by omega)
               (first | cases eo44 | (injection eo44 with ea_ en_ ec_; (first | subst ea_ | (injection ea_ with ea_; subst ea_)); subst ec_; clear en_))
               have GB44 := Aside0.mk gb44
               have GG44 := Aside0.mk HG44
               clear gb44 gl44 HG44
               (first | simp only [add_plain] at hx202_0 | skip)
               obtain ⟨hx44_0, hf44_0⟩ := Kd.R_celln 0 HO_7.out (x48_3 : Int) p44 q44
               replace p44 := eq_true p44
               replace q44 := eq_true q44
               have HP48 := Kd.R_putn HO_7.out (x48_3 : Int) (wrap64 ((rd x7_3 x48_3) + (wrap64 (Int.tdiv (wrap64 (x195000_1 * (rd l2 x48_3))) x196000_1))))
               rw [← Ny203.out] at HP48
               have HQ48 := Aside0.mk HP48
               clear HP48
               refine start_ (n := 12) (S := fun w' => w'.cell? ⟨gb194, 0, none⟩ = some (.int .i64 x195000_1) ∧ w'.cell? ⟨gb195, 0, none⟩ = some (.int .i64 x196000_1) ∧ w'.cell? ⟨go44, (x48_3).toNat, none⟩ = some (.int .i64 (rd x7_3 x48_3))) (ds := [11]) (Array.replicate 12 false) (by kernel_rfl) rfl rfl ⟨cz_ BK194.out 0, cz_ BK195.out 0, hx202_0⟩ (fun hHeld => ?_); refine with_tabW impl_share.tab14 impl_share.bits14 (fun HT_ HW_ => ?_)
               generalize wr.drew = w46 at HO_7 HO_11 BK190 BK194 BK195 HB GG44 HQ48 hf44_0 hx202_0 hx44_0 hHeld ⊢
               refine pS_ 0 53 HT_ ?_
               refine pS_ 1 54 HT_ ?_
               refine pS_ 2 55 HT_ ?_
               refine pS_ 5 58 HT_ ?_
               refine tS_ 3 56 HT_ HW_ hHeld ?_
               refine tS_ 4 57 HT_ HW_ hHeld ?_
               refine pS_ 6 59 HT_ ?_
               refine tS_ 7 60 HT_ HW_ hHeld ?_
               refine pS_ 8 61 HT_ ?_
               refine pS_ 9 62 HT_ ?_
               refine pS_ 10 63 HT_ ?_
               refine last_ (i := 11) (N := none) #[true, true, true, true, true, true, true, true, true, true, true, true] rfl rfl (one_of HT_.out (by kernel_rfl)) (by decide) (fun K hK => ?_)
               refine skip_ (w1 := ?_) (by rfl) rfl ?_ ?_
               rotate_left
               ·go_simp
                rfl
               refine hK.out _ _ ?_
               clear hK K
               refine done_ (done_of HT_.out (by kernel_rfl)) ?_
               have hnb49 := NB194_190.out
               have hnc49 := NB190_194.out
               have hnb50 := NB194_195.out
               have hnc50 := NB195_194.out
               have hgn51 : go44 ≠ gb194 := fun e_ => (Kd.R_away HO_7.out (fun _ hk => hk.2.1)) (by rw [← e_]; rfl)
               have hgm51 : gb194 ≠ go44 := fun e_ => hgn51 e_.symm
               have hcz52_0 := cz_ BK194.out 0
               have hfz52_0 := blk_frozen BK194.out 0
               have hnb53 := NB195_190.out
               have hnc53 := NB190_195.out
               have hgn54 : go44 ≠ gb195 := fun e_ => (Kd.R_away HO_7.out (fun _ hk => hk.2.2)) (by rw [← e_]; rfl)
               have hgm54 : gb195 ≠ go44 := fun e_ => hgn54 e_.symm
               have hcz55_0 := cz_ BK195.out 0
               have hfz55_0 := blk_frozen BK195.out 0
               try go_wp2_with (first | ((with_reducible refine gate_builtin (b := .append) (xs := #[.tmp 71, .tmp 73]) rfl ?_); at_builtin; refine Kd.R_append (Kd.int .i64) (w0 := w) w.heap.size rfl (.tmp 71) (.tmp 73) 42 3 (.int .i64 0) 8 rfl Try.underlying42 info3 rfl (by decide) (by omega) u11 x11_3 x48_3 [.int .i64 x48_3] (fun k_ => some k_ ≠ (.slice (some ⟨go44, 0, none⟩) x7_3.length co47 : Value).ownBlock ∧ k_ ≠ gb194 ∧ k_ ≠ gb195) (fun _ => False) rfl (by first | (go_simp; done) | (go_simp; rfl)) ?aP (fun _ hk => hk.elim) ?aF ?aO ?aB ?aS ?aL ?_; (case aP => exact rfl); (case aB => exact (by repeat (first | (with_reducible first | exact HB.out | apply below_alloc | apply pw_below_drewN | apply below_drew1 | refine below_set ?_ GB44.out | refine below_set ?_ GE190.out | refine below_set ?_ GE194.out | refine below_set ?_ GE195.out) | exact HB.out))); (case aF => exact (fun k_ hk => ⟨Kd.fresh' (Kd.R_lt (by (with_reducible repeat (first | apply Kd.R_alloc | apply Kd.R_drewN | apply Kd.R_drew)); exact HQ48.out)) k_ hk, Kd.freshB (g := gb194) (o := .cells #[.int .i64 x195000_1] 3 (0, 0)) (by (with_reducible repeat (first | refine blk_drewN ?_ _ | refine blk_drew ?_ | refine blk_alloc ?_ _)); refine blk_far ?_ (by have h_ := Kd.R_away HO_7.out (fun _ hk => hk.2.1); intro e_; exact h_ (by rw [e_]; rfl)) _; (with_reducible repeat (first | refine blk_drewN ?_ _ | refine blk_drew ?_ | refine blk_alloc ?_ _)); exact BK194.out) k_ hk, Kd.freshB (g := gb195) (o := .cells #[.int .i64 x196000_1] 3 (0, 0)) (by (with_reducible repeat (first | refine blk_drewN ?_ _ | refine blk_drew ?_ | refine blk_alloc ?_ _)); refine blk_far ?_ (by have h_ := Kd.R_away HO_7.out (fun _ hk => hk.2.2); intro e_; exact h_ (by rw [e_]; rfl)) _; (with_reducible repeat (first | refine blk_drewN ?_ _ | refine blk_drew ?_ | refine blk_alloc ?_ _)); exact BK195.out) k_ hk⟩)); (case aO => exact (by (with_reducible repeat (first | apply Kd.R_alloc | apply Kd.R_drewN | apply Kd.R_drew)); exact Kd.R_mono (Kd.R_far (p := ⟨go44, (x48_3 : Int).toNat, none⟩) (Kd.R_mono HO_11.out (fun k_ hk => (⟨hk, fun e_ => hk.1 (by rw [e_]; rfl)⟩ : _ ∧ k_ ≠ go44))) (fun _ hk => hk.2) (.int .i64 (wrap64 ((rd x7_3 x48_3) + (wrap64 (Int.tdiv (wrap64 (x195000_1 * (rd l2 x48_3))) x196000_1)))))) (fun _ hk => ⟨hk.1.1, ⟨hk.1.2.1, hk.1.2.2⟩⟩))); (case aS => exact (below_size (by repeat (first | (with_reducible first | exact HB.out | apply below_alloc | apply pw_below_drewN | apply below_drew1 | refine below_set ?_ GB44.out | refine below_set ?_ GE190.out | refine below_set ?_ GE194.out | refine below_set ?_ GE195.out) | exact HB.out)))); (case aL => have := LMc45.out; omega); intro v205 w56 ho hb hg hat; rw [← Ny204.out] at ho; have n0_ := Aside0.mk (Kd.R_after (ok := (fun k_ => k_ ≠ gb194 ∧ k_ ≠ gb195)) (by (with_reducible repeat (first | apply Kd.R_alloc | apply Kd.R_drewN | apply Kd.R_drew)); exact Kd.R_mono HQ48.out (fun _ hk => ⟨⟨hk.2.1, hk.2.2⟩, hk.1⟩)) hg hat); have n1_ := Aside0.mk (blk_grown (g := gb190) (o := .cells #[.slice (some ad201) l2.length c2] 42 (0, 0)) (by (with_reducible repeat (first | refine blk_drewN ?_ _ | refine blk_drew ?_ | refine blk_alloc ?_ _)); refine blk_far ?_ (by have h_ := Kd.R_ne HO_7.out BK190.out (by decide); intro e_; exact h_ (by rw [e_]; rfl)) _; (with_reducible repeat (first | refine blk_drewN ?_ _ | refine blk_drew ?_ | refine blk_alloc ?_ _)); exact BK190.out) hg (Kd.R_ne HO_11.out BK190.out (by decide))); have n2_ := Aside0.mk (blk_grown (g := gb194) (o := .cells #[.int .i64 x195000_1] 3 (0, 0)) (by (with_reducible repeat (first | refine blk_drewN ?_ _ | refine blk_drew ?_ | refine blk_alloc ?_ _)); refine blk_far ?_ (by have h_ := Kd.R_away HO_7.out (fun _ hk => hk.2.1); intro e_; exact h_ (by rw [e_]; rfl)) _; (with_reducible repeat (first | refine blk_drewN ?_ _ | refine blk_drew ?_ | refine blk_alloc ?_ _)); exact BK194.out) hg (Kd.R_away HO_11.out (fun _ hk => hk.2.1))); have n3_ := Aside0.mk (blk_grown (g := gb195) (o := .cells #[.int .i64 x196000_1] 3 (0, 0)) (by (with_reducible repeat (first | refine blk_drewN ?_ _ | refine blk_drew ?_ | refine blk_alloc ?_ _)); refine blk_far ?_ (by have h_ := Kd.R_away HO_7.out (fun _ hk => hk.2.2); intro e_; exact h_ (by rw [e_]; rfl)) _; (with_reducible repeat (first | refine blk_drewN ?_ _ | refine blk_drew ?_ | refine blk_alloc ?_ _)); exact BK195.out) hg (Kd.R_away HO_11.out (fun _ hk => hk.2.2))); have n4_ := Aside0.mk (hb); have n5_ := Aside0.mk (ho); clear HO_7; clear BK190; clear BK194; clear BK195; clear HB; clear HO_11; have HO_7 := n0_; have BK190 := n1_; have BK194 := n2_; have BK195 := n3_; have HB := n4_; have HO206 := n5_; clear n0_ n1_ n2_ n3_ n4_ n5_; clear ho hb hg hat))
               (try simp only [show (⟨go44, (x48_3 : Int).toNat, none⟩ : Addr) = Addr.add ⟨go44, 0, none⟩ (x48_3 : Int).toNat from by simp [Addr.add]])
               go_roundg k3
               case measure => have := HK1.out; have := HJ22.out; have := HK3.out; omega
               case rel => first | exact ⟨(y203), (y204), (wrap64 (x12_3 + (wrap64 (Int.tdiv (wrap64 (x195000_1 * (rd l2 x48_3))) x196000_1)))), (wrap64 (x48_3 + 1)), (by first | rfl | (simp; done) | (simp [*]; done) | (simp [wrap64]; done)), (by first | rfl | (simp; done) | (simp [*]; done) | (simp [wrap64]; done)), H', ⟨by have := HK1.out; have := HJ22.out; have := HK3.out; omega⟩, ⟨by (with_reducible repeat (first | apply Kd.R_alloc | apply Kd.R_drewN | apply Kd.R_drew)); exact Kd.R_mono HO_7.out (fun _ hk => ⟨hk.2, ⟨hk.1.1, hk.1.2⟩⟩)⟩, ⟨by (with_reducible repeat (first | apply Kd.R_alloc | apply Kd.R_drewN | apply Kd.R_drew)); exact HO206.out⟩, ⟨by (with_reducible repeat (first | refine blk_drewN ?_ _ | refine blk_drew ?_ | refine blk_alloc ?_ _)); exact BK190.out⟩, ⟨by (with_reducible repeat (first | refine blk_drewN ?_ _ | refine blk_drew ?_ | refine blk_alloc ?_ _)); exact BK194.out⟩, ⟨by (with_reducible repeat (first | refine blk_drewN ?_ _ | refine blk_drew ?_ | refine blk_alloc ?_ _)); exact BK195.out⟩, ⟨bw_ HB.out⟩⟩ | (simp only [(show (⟨go44, (x48_3 : Int).toNat, none⟩ : Addr) = Addr.add ⟨go44, 0, none⟩ (x48_3 : Int).toNat from by simp [Addr.add]).symm]; exact ⟨(y203), (y204), (wrap64 (x12_3 + (wrap64 (Int.tdiv (wrap64 (x195000_1 * (rd l2 x48_3))) x196000_1)))), (wrap64 (x48_3 + 1)), (by first | rfl | (simp; done) | (simp [*]; done) | (simp [wrap64]; done)), (by first | rfl | (simp; done) | (simp [*]; done) | (simp [wrap64]; done)), H', ⟨by have := HK1.out; have := HJ22.out; have := HK3.out; omega⟩, ⟨by (with_reducible repeat (first | apply Kd.R_alloc | apply Kd.R_drewN | apply Kd.R_drew)); exact Kd.R_mono HO_7.out (fun _ hk => ⟨hk.2, ⟨hk.1.1, hk.1.2⟩⟩)⟩, ⟨by (with_reducible repeat (first | apply Kd.R_alloc | apply Kd.R_drewN | apply Kd.R_drew)); exact HO206.out⟩, ⟨by (with_reducible repeat (first | refine blk_drewN ?_ _ | refine blk_drew ?_ | refine blk_alloc ?_ _)); exact BK190.out⟩, ⟨by (with_reducible repeat (first | refine blk_drewN ?_ _ | refine blk_drew ?_ | refine blk_alloc ?_ _)); exact BK194.out⟩, ⟨by (with_reducible repeat (first | refine blk_drewN ?_ _ | refine blk_drew ?_ | refine blk_alloc ?_ _)); exact BK195.out⟩, ⟨bw_ HB.out⟩⟩)
              ·rw [if_neg c45] at H
               exact absurd H (by simp)
            ·rw [if_neg c42] at H
             exact absurd H (by simp)
           ·rw [if_neg c41] at H
            exact absurd H (by simp)
          ·rw [if_neg c40] at H
           exact absurd H (by simp)
         ·rw [if_neg c39] at H
          have c39b0 : decide (x48_3 < (l2.length : Int)) = false := decide_eq_false c39
          clear c39
          obtain ⟨t207, A570, H⟩ := bE_ H
          have A57 := Aside0.mk A570
          clear A570
          obtain ⟨ji58, hji58⟩ : ∃ j_ : Int, (wrap64 (x195000_1 - x12_3)) = j_ := ⟨_, rfl⟩
          replace H : (if 0 ≤ (ji58) then (if (ji58) ≤ (x11_3.length : Int) then ((some (t207.take ((ji58) : Int).toNat : List Int)).bind fun y208 => (impl_share.l2 k3 x7_3 y208 (y208.length : Int) 0)) else (none)) else (none)) = some r := by first | (rw [hji58] at H; exact H) | (simp only [hji58] at H ⊢; exact H)
          (try rw [hji58] at A57)
          have hji58w : (IntKind.i64.wrap (x195000_1 - x12_3)) = ji58 := (i64_w _).trans hji58
          by_cases c59 : 0 ≤ (ji58)
          ·rw [if_pos c59] at H
           have c59b0 := eq_true c59
           have c59b1 : decide (0 ≤ (ji58)) = true := decide_eq_true c59
           clear c59
           by_cases c60 : (ji58) ≤ (x11_3.length : Int)
           ·rw [if_pos c60] at H
            have c60b0 := eq_true c60
            have c60b1 : decide ((ji58) ≤ (x11_3.length : Int)) = true := decide_eq_true c60
            clear c60
            obtain ⟨y208, hy208⟩ : ∃ y_ : List Int, y_ = (t207.take ((ji58) : Int).toNat) := ⟨_, rfl⟩
            replace H : (impl_share.l2 k3 x7_3 y208 (y208.length : Int) 0) = some r := by first | (rw [hy208]; with_reducible exact H) | (have H2_ := (Option.bind_some _ _).symm.trans H; rw [hy208]; with_reducible exact H2_) | (have H2_ := (Option.bind_some _ _).symm.trans H; with_reducible exact H2_) | with_reducible exact H | (rw [hy208]; exact H) | exact H
            have Ny208 := Aside0.mk hy208
            clear hy208
            have H' := Aside0.mk H
            clear H
            obtain ⟨Ao61, co61, eo61⟩ := Kd.R_slice HO_11.out
            subst eo61
            go_wp2_with (first | ((with_reducible refine gate_callee (f := 95) rfl ?_); refine goesL_ (some 78) rfl rfl Try.func95 (by kernel_rfl) rfl #[.slice Ao61 x11_3.length co61, .func (.func 96) #[] #[.pointer (some ⟨gb194, 0, none⟩), .pointer (some ⟨gb190, 0, none⟩), .pointer (some ⟨gb195, 0, none⟩)]] rfl (by (try simp only [List.map_toArray, List.map_cons, List.map_nil]); first | done | rfl | (simp only [List.length_drop, List.length_take]; rfl)) ?_; (with_reducible refine (slices_SortStableFunc_int_int_at_impl_share_1.calls k3 (fun k_ => some k_ = (.slice Ao61 x11_3.length co61 : Value).ownBlock) (.slice Ao61 x11_3.length co61) x11_3 gb194 gb190 gb195 x195000_1 A2 c2 l2 x196000_1 t207 w _ ?side1 ?side2 ?side3 ?side4 ?side5 ?side6 ?side7 A57.out).mono ?_); (case side1 => repeat (first | (with_reducible first | exact HB.out | apply below_alloc | apply pw_below_drewN | apply below_drew1 | refine below_set ?_ GE190.out | refine below_set ?_ GE194.out | refine below_set ?_ GE195.out) | exact HB.out)); (case side2 => exact Kd.R_tight rfl HO_11.out); (case side3 => exact Kd.C_kept_came (Kd.heap_int .i64) HR2.out (bw_ HB.out) (fun k_ hs_ => (fun e_ => Kd.R_base HO_11.out k_ e_.symm) hs_)); (case side4 => exact HC2.out); (case side5 => exact fun W_ hk_ => (blk_cell (blk_kept (bk_ BK194.out) hk_ (fun hs_ => (fun e_ => (Kd.R_away HO_11.out (fun _ hk => hk.2.1)) e_) hs_)) 0).trans rfl); (case side6 => exact fun W_ hk_ => (blk_cell (blk_kept (bk_ BK190.out) hk_ (fun hs_ => (fun e_ => (Kd.R_ne HO_11.out BK190.out (by decide)) e_) hs_)) 0).trans rfl); (case side7 => exact fun W_ hk_ => (blk_cell (blk_kept (bk_ BK195.out) hk_ (fun hs_ => (fun e_ => (Kd.R_away HO_11.out (fun _ hk => hk.2.2)) e_) hs_)) 0).trans rfl); rintro e w62 ⟨rfl, hy0, hb, hkp⟩; refine ⟨_, rfl, ?_⟩; have n0_ := Aside0.mk (Kd.R_mono (ok' := fun k_ => some k_ ≠ (.slice Ao61 x11_3.length co61 : Value).ownBlock ∧ k_ ≠ gb194 ∧ k_ ≠ gb195) (Kd.R_keptB (HO_7.out) hkp (fun k_ hk_ hs_ => (hk_.1) hs_)) (fun k_ hk_ => ⟨hk_.1.1, hk_.1.2.1, hk_.1.2.2⟩)); have n1_ := Aside0.mk (Kd.R_reok rfl hy0 (fun k_ e_ => HO_11.out.1 k_ e_)); (first | have n2_ := Aside0.mk (blk_kept BK190.out hkp (Kd.R_ne HO_11.out BK190.out (by decide))) | have n2_ := Aside0.mk (blk_kept (blk_drewN BK190.out _) hkp (Kd.R_ne HO_11.out BK190.out (by decide)))); have n3_ := Aside0.mk (blk_kept (bk_ BK194.out) hkp (fun hs_ => (fun e_ => (Kd.R_away HO_11.out (fun _ hk => hk.2.1)) e_) hs_)); have n4_ := Aside0.mk (blk_kept (bk_ BK195.out) hkp (fun hs_ => (fun e_ => (Kd.R_away HO_11.out (fun _ hk => hk.2.2)) e_) hs_)); have n5_ := Aside0.mk (hb); clear HO_7; clear HO_11; clear BK190; clear BK194; clear BK195; clear HB; have HO_7 := n0_; have HO_11 := n1_; have BK190 := n2_; have BK194 := n3_; have BK195 := n4_; have HB := n5_; clear n0_ n1_ n2_ n3_ n4_ n5_; (try clear hb); (try clear hkp); (try clear hy0); have hnb63 := NB194_190.out; have hnc63 := NB190_194.out; have hnb64 := NB194_195.out; have hnc64 := NB195_194.out; have hcz65_0 := cz_ BK194.out 0; have hfz65_0 := blk_frozen BK194.out 0; have hlx66 := (Kd.R_reads' HO_11.out).1; have q66 : ((ji58) : Int) ≤ ((x11_3.length : Int) : Int) := of_decide_eq_true (by first | (with_reducible assumption) | assumption); obtain ⟨i066, hi066, _, hsz66, _⟩ := info_parts info3; have hcut66 := cut_to (P := Try.prog) 42 3 .i64 Try.underlying42 hi066 Ao61 x11_3.length co61 (ji58) (of_decide_eq_true (by first | (with_reducible assumption) | assumption)) q66 (Kd.R_reads' HO_11.out).2.1; have hr66 := Kd.R_take (m := ((ji58) : Int).toNat) HO_11.out (by omega); have hy66 : y208.length = ((ji58) : Int).toNat := (by rw [Ny208.out, List.length_take]; omega); rw [← Ny208.out] at hr66; rw [← hy66] at hr66 hcut66; clear hy66 hi066 hsz66 HO_11; have HO210 := Aside0.mk hr66; clear hr66; replace q66 := eq_true q66; clear hlx66; have n_ := Aside0.mk (Kd.R_mono (ok' := fun k_ => (some k_ ≠ (.slice Ao61 y208.length co61 : Value).ownBlock ∧ (k_ ≠ gb194 ∧ k_ ≠ gb195))) HO_7.out (fun k_ hk => ⟨(fun e_ => hk.1 (e_.trans ((show ∀ A_ : Option Addr, (Value.slice A_ y208.length co61).ownBlock = (Value.slice A_ x11_3.length co61).ownBlock from fun A_ => by cases A_ <;> rfl) Ao61))), ⟨hk.2.1, hk.2.2⟩⟩)); clear HO_7; have HO_7 := n_; clear n_))
            try simp only [Act.put, List.setIfInBounds_toArray, List.set_cons_zero, List.set_cons_succ]
            go_loopg [85] k3 (fun kq v85 w' => ∃ (x7_4 : List Int) (x85_4 : Int), v85 = .int .i64 x85_4 ∧ Aside0 (impl_share.l2 kq x7_4 y208 (y208.length : Int) x85_4 = some r) ∧ Aside0 (kq ≤ k3) ∧ Aside0 (Kd.R (Kd.int .i64) 3 w' w.heap.size (fun k_ => some k_ ≠ ((.slice Ao61 y208.length co61) : Value).ownBlock ∧ k_ ≠ gb194 ∧ k_ ≠ gb195) v192 x7_4) ∧ Aside0 (Kd.R (Kd.int .i64) 3 w' w.heap.size (fun k_ => some k_ ≠ (v192 : Value).ownBlock ∧ k_ ≠ gb194 ∧ k_ ≠ gb195) (.slice Ao61 y208.length co61) y208) ∧ Aside0 (w'.heap[gb190]? = some (.cells #[(.slice A2 l2.length c2)] 42 (0, 0))) ∧ Aside0 (w'.heap[gb194]? = some (.cells #[.int .i64 x195000_1] 3 (0, 0))) ∧ Aside0 (w'.heap[gb195]? = some (.cells #[.int .i64 x196000_1] 3 (0, 0))) ∧ Aside0 (Below w.heap.size w w'))
            case atStart => exact ⟨(x7_3), (0), (by first | rfl | (simp; done) | (simp [*]; done) | (simp [wrap64]; done)), H', ⟨Nat.le_refl _⟩, ⟨by (with_reducible repeat (first | apply Kd.R_alloc | apply Kd.R_drewN | apply Kd.R_drew)); exact HO_7.out⟩, ⟨by (with_reducible repeat (first | apply Kd.R_alloc | apply Kd.R_drewN | apply Kd.R_drew)); exact HO210.out⟩, ⟨by (with_reducible repeat (first | refine blk_drewN ?_ _ | refine blk_drew ?_ | refine blk_alloc ?_ _)); exact BK190.out⟩, ⟨by (with_reducible repeat (first | refine blk_drewN ?_ _ | refine blk_drew ?_ | refine blk_alloc ?_ _)); exact BK194.out⟩, ⟨by (with_reducible repeat (first | refine blk_drewN ?_ _ | refine blk_drew ?_ | refine blk_alloc ?_ _)); exact BK195.out⟩, ⟨bw_ HB.out⟩⟩
            case round =>
             clear H'
             try clear c1
             try clear p1
             try clear q1
             try clear hx1
             try clear c2
             try clear p2
             try clear q2
             try clear hx2
             try clear c3
             try clear c4
             try clear p4
             try clear q4
             try clear hx4
             try clear hf4
             try clear c5
             try clear c6
             try clear p6
             try clear q6
             try clear c8
             try clear c9
             try clear c10
             try clear c12
             try clear c14
             try clear c14b0
             try clear c15
             try clear c15b0
             try clear c16
             try clear c16b0
             try clear c17
             try clear c17b0
             try clear p19
             try clear q19
             try clear hx19
             try clear p20
             try clear q20
             try clear hx20
             try clear c24
             try clear c24b0
             try clear c25
             try clear c26
             try clear c28
             try clear c29
             try clear c31
             try clear c33
             try clear c36
             try clear c37
             try clear c39
             try clear c39b0
             try clear c40
             try clear c40b0
             try clear c41
             try clear c41b0
             try clear c42
             try clear c42b0
             try clear c43
             try clear c43b0
             try clear c43b1
             try clear p44
             try clear q44
             try clear hx44
             try clear hf44
             try clear c45
             try clear c49
             try clear c50
             try clear c53
             try clear c59
             try clear c59b0
             try clear c59b1
             try clear c60
             try clear c60b0
             try clear c60b1
             try clear c63
             try clear c64
             try clear p64
             try clear q66
             try clear hcz11_0
             try clear hcz13_0
             try clear hcz27_0
             try clear hcz30_0
             try clear hcz32_0
             try clear hcz38_0
             try clear hcz52_0
             try clear hcz55_0
             try clear hcz65_0
             try clear hfz11_0
             try clear hfz13_0
             try clear hfz27_0
             try clear hfz30_0
             try clear hfz32_0
             try clear hfz38_0
             try clear hfz52_0
             try clear hfz55_0
             try clear hfz65_0
             try clear hx196_0
             try clear hx197_0
             try clear hx201_0
             try clear hx202_0
             try clear hx44_0
             try clear p1
             try clear p19
             try clear p196
             try clear p197
             try clear p2
             try clear p201
             try clear p202
             try clear p44
             try clear p6
             try clear q1
             try clear q19
             try clear q196
             try clear q197
             try clear q201
             try clear q202
             try clear q44
             try clear q66
             (try clear HO_7)
             (try clear HO_83)
             obtain ⟨x7_4, x85_4, rfl, HA, HK4, HO_7, HO_83, BK190, BK194, BK195, HB⟩ := hrel
             cases gk with
             | zero => exact absurd HA.out (by simp [impl_share.l2])
             | succ k4 =>
              have H := HA.out
              clear HA
              simp only [impl_share.l2] at H
              by_cases c67 : x85_4 < (y208.length : Int)
              ·rw [if_pos c67] at H
               have c67b0 : decide (x85_4 < (y208.length : Int)) = true := decide_eq_true c67
               clear c67
               by_cases c68 : 0 ≤ x85_4
               ·rw [if_pos c68] at H
                have c68b0 : decide (0 ≤ x85_4) = true := decide_eq_true c68
                clear c68
                by_cases c69 : x85_4 < (y208.length : Int)
                ·rw [if_pos c69] at H
                 have c69b0 : decide (x85_4 < (y208.length : Int)) = true := decide_eq_true c69
                 clear c69
                 by_cases c70 : 0 ≤ (rd y208 x85_4)
                 ·rw [if_pos c70] at H
                  have c70b0 : decide (0 ≤ (rd y208 x85_4)) = true := decide_eq_true c70
                  clear c70
                  by_cases c71 : (rd y208 x85_4) < (x7_4.length : Int)
                  ·rw [if_pos c71] at H
                   have c71b0 : decide ((rd y208 x85_4) < (x7_4.length : Int)) = true := decide_eq_true c71
                   clear c71
                   obtain ⟨y213, hy213⟩ : ∃ y_ : List Int, y_ = (x7_4.set ((rd y208 x85_4) : Int).toNat (wrap64 ((rd x7_4 (rd y208 x85_4)) + 1))) := ⟨_, rfl⟩
                   replace H : (impl_share.l2 k4 y213 y208 (y208.length : Int) (wrap64 (x85_4 + 1))) = some r := by first | (rw [hy213]; with_reducible exact H) | (have H2_ := (Option.bind_some _ _).symm.trans H; rw [hy213]; with_reducible exact H2_) | (have H2_ := (Option.bind_some _ _).symm.trans H; with_reducible exact H2_) | with_reducible exact H | (rw [hy213]; exact H) | exact H
                   have Ny213 := Aside0.mk hy213
                   clear hy213
                   have H' := Aside0.mk H
                   clear H
                   have p211 : 0 ≤ (x85_4 : Int) := of_decide_eq_true (by first | (with_reducible assumption) | assumption)
                   have q211 : x85_4 < (y208.length : Int) := of_decide_eq_true (by first | (with_reducible assumption) | assumption)
                   obtain ⟨ad211, e211, hx211_0⟩ := Kd.at_int (Kd.R_reads' HO_83.out).2.2 x85_4 p211 q211
                   cases e211
                   replace p211 := eq_true p211
                   replace q211 := eq_true q211
                   obtain ⟨Ao73, co73, eo73⟩ := Kd.R_slice HO_7.out
                   subst eo73
                   have p212 : 0 ≤ ((rd y208 x85_4) : Int) := of_decide_eq_true (by first | (with_reducible assumption) | assumption)
                   have q212 : (rd y208 x85_4) < (x7_4.length : Int) := of_decide_eq_true (by first | (with_reducible assumption) | assumption)
                   obtain ⟨ad212, e212, hx212_0⟩ := Kd.at_int (Kd.R_reads' HO_7.out).2.2 (rd y208 x85_4) p212 q212
                   cases e212
                   replace p212 := eq_true p212
                   replace q212 := eq_true q212
                   have p72 : 0 ≤ ((rd y208 x85_4) : Int) := of_decide_eq_true (by first | (with_reducible assumption) | assumption)
                   have q72 : ((rd y208 x85_4) : Int) < ((x7_4.length : Int) : Int) := of_decide_eq_true (by first | (with_reducible assumption) | assumption)
                   obtain ⟨go72, co72, eo72, gb72, gl72, cl72, HG72⟩ := Kd.R_form HO_7.out (by omega)
                   (first | cases eo72 | (injection eo72 with ea_ en_ ec_; (first | subst ea_ | (injection ea_ with ea_; subst ea_)); subst ec_; clear en_))
                   have GB72 := Aside0.mk gb72
                   have GG72 := Aside0.mk HG72
                   clear gb72 gl72 HG72
                   (first | simp only [add_plain] at hx212_0 | skip)
                   obtain ⟨hx72_0, hf72_0⟩ := Kd.R_celln 0 HO_7.out ((rd y208 x85_4) : Int) p72 q72
                   replace p72 := eq_true p72
                   replace q72 := eq_true q72
                   have HP74 := Kd.R_putg HO_7.out ((rd y208 x85_4) : Int) (wrap64 ((rd x7_4 (rd y208 x85_4)) + 1))
                   go_wp2_with (first | ((with_reducible refine gate_store (t := 3) (p := 94) rfl ?_); refine se_ 3 94 (wr.setCell ⟨go72, ((rd y208 x85_4) : Int).toNat, none⟩ (.int .i64 (wrap64 ((rd x7_4 (rd y208 x85_4)) + 1)))) ?_; intro w75 hw; have hg : wr.grownBy w75 (some go72) := (by rw [hw]; exact HP74.2); have hp_ : Kd.R (Kd.int .i64) 3 w75 w.heap.size (fun k_ => some k_ ≠ (.slice (some ad211) y208.length co61 : Value).ownBlock ∧ k_ ≠ gb194 ∧ k_ ≠ gb195) (.slice (some ⟨go72, 0, none⟩) x7_4.length co73) y213 := (by rw [hw, Ny213.out]; exact HP74.1); clear HP74; have n0_ := Aside0.mk (hp_); have n1_ := Aside0.mk (Kd.R_after (v := (.slice (some ⟨go72, 0, none⟩) x7_4.length co73)) (v1 := (.slice (some ⟨go72, 0, none⟩) x7_4.length co73)) (ok := (fun k_ => k_ ≠ gb194 ∧ k_ ≠ gb195)) (by (with_reducible repeat (first | apply Kd.R_alloc | apply Kd.R_drewN | apply Kd.R_drew)); exact Kd.R_mono HO_83.out (fun _ hk => ⟨⟨hk.2.1, hk.2.2⟩, hk.1⟩)) hg (.inl rfl)); have n2_ := Aside0.mk (blk_grown (bk_ BK190.out) hg (Kd.R_ne HO_7.out BK190.out (by decide))); have n3_ := Aside0.mk (blk_grown (bk_ BK194.out) hg (Kd.R_away HO_7.out (fun _ hk => hk.2.1))); have n4_ := Aside0.mk (blk_grown (bk_ BK195.out) hg (Kd.R_away HO_7.out (fun _ hk => hk.2.2))); have n5_ := Aside0.mk ((by rw [hw]; exact below_set (HB.out) GB72.out : Below w.heap.size w w75)); clear HO_7; clear HO_83; clear BK190; clear BK194; clear BK195; clear HB; have HO_7 := n0_; have HO_83 := n1_; have BK190 := n2_; have BK194 := n3_; have BK195 := n4_; have HB := n5_; clear n0_ n1_ n2_ n3_ n4_ n5_; clear hg hw hp_))
                   (try simp only [show (⟨go72, ((rd y208 x85_4) : Int).toNat, none⟩ : Addr) = Addr.add ⟨go72, 0, none⟩ ((rd y208 x85_4) : Int).toNat from by simp [Addr.add]])
                   (try simp only [show (⟨go72, (x85_4 : Int).toNat, none⟩ : Addr) = Addr.add ⟨go72, 0, none⟩ (x85_4 : Int).toNat from by simp [Addr.add]])
                   go_roundg k4
                   case measure => have := HK1.out; have := HJ22.out; have := HK3.out; have := HK4.out; omega
                   case rel => first | exact ⟨(y213), (wrap64 (x85_4 + 1)), (by first | rfl | (simp; done) | (simp [*]; done) | (simp [wrap64]; done)), H', ⟨by have := HK1.out; have := HJ22.out; have := HK3.out; have := HK4.out; omega⟩, ⟨by (with_reducible repeat (first | apply Kd.R_alloc | apply Kd.R_drewN | apply Kd.R_drew)); exact HO_7.out⟩, ⟨by (with_reducible repeat (first | apply Kd.R_alloc | apply Kd.R_drewN | apply Kd.R_drew)); exact Kd.R_mono HO_83.out (fun _ hk => ⟨hk.2, ⟨hk.1.1, hk.1.2⟩⟩)⟩, ⟨by (with_reducible repeat (first | refine blk_drewN ?_ _ | refine blk_drew ?_ | refine blk_alloc ?_ _)); exact BK190.out⟩, ⟨by (with_reducible repeat (first | refine blk_drewN ?_ _ | refine blk_drew ?_ | refine blk_alloc ?_ _)); exact BK194.out⟩, ⟨by (with_reducible repeat (first | refine blk_drewN ?_ _ | refine blk_drew ?_ | refine blk_alloc ?_ _)); exact BK195.out⟩, ⟨bw_ HB.out⟩⟩ | (simp only [(show (⟨go72, (x85_4 : Int).toNat, none⟩ : Addr) = Addr.add ⟨go72, 0, none⟩ (x85_4 : Int).toNat from by simp [Addr.add]).symm, (show (⟨go72, ((rd y208 x85_4) : Int).toNat, none⟩ : Addr) = Addr.add ⟨go72, 0, none⟩ ((rd y208 x85_4) : Int).toNat from by simp [Addr.add]).symm]; exact ⟨(y213), (wrap64 (x85_4 + 1)), (by first | rfl | (simp; done) | (simp [*]; done) | (simp [wrap64]; done)), H', ⟨by have := HK1.out; have := HJ22.out; have := HK3.out; have := HK4.out; omega⟩, ⟨by (with_reducible repeat (first | apply Kd.R_alloc | apply Kd.R_drewN | apply Kd.R_drew)); exact HO_7.out⟩, ⟨by (with_reducible repeat (first | apply Kd.R_alloc | apply Kd.R_drewN | apply Kd.R_drew)); exact Kd.R_mono HO_83.out (fun _ hk => ⟨hk.2, ⟨hk.1.1, hk.1.2⟩⟩)⟩, ⟨by (with_reducible repeat (first | refine blk_drewN ?_ _ | refine blk_drew ?_ | refine blk_alloc ?_ _)); exact BK190.out⟩, ⟨by (with_reducible repeat (first | refine blk_drewN ?_ _ | refine blk_drew ?_ | refine blk_alloc ?_ _)); exact BK194.out⟩, ⟨by (with_reducible repeat (first | refine blk_drewN ?_ _ | refine blk_drew ?_ | refine blk_alloc ?_ _)); exact BK195.out⟩, ⟨bw_ HB.out⟩⟩)
                  ·rw [if_neg c71] at H
                   exact absurd H (by simp)
                 ·rw [if_neg c70] at H
                  exact absurd H (by simp)
                ·rw [if_neg c69] at H
                 exact absurd H (by simp)
               ·rw [if_neg c68] at H
                exact absurd H (by simp)
              ·rw [if_neg c67] at H
               have c67b0 : decide (x85_4 < (y208.length : Int)) = false := decide_eq_false c67
               clear c67
               obtain rfl := Option.some.inj H
               go_wp2
               go_ret
               exact ⟨_, by first | rfl | (simp [errW_none, errW_some] <;> rfl) | (simp only [← hji58]; first | rfl | (simp [errW_none, errW_some] <;> rfl)) | (simp [*, errW_none, errW_some] <;> rfl), by (with_reducible repeat (first | apply Kd.R_alloc | apply Kd.R_drewN | apply Kd.R_drew)); exact Kd.R_mono HO_7.out (fun _ hk => trivial), bw_ HB.out⟩
           ·rw [if_neg c60] at H
            exact absurd H (by simp)
          ·rw [if_neg c59] at H
           exact absurd H (by simp)

end Go.Proofs.Ytpfddgchlllkpaa.XFnExactShareRoom
