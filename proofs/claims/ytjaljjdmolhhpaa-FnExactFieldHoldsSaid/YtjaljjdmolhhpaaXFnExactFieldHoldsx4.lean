import Derived.Test.YtjaljjdmolhhpaaXFnExactFieldHoldsx0
import Derived.Test.YtjaljjdmolhhpaaXFnExactFieldHoldsx3
namespace Go.Proofs.Ytjaljjdmolhhpaa.XFnExactFieldHolds
open Go.RowKit Go.Proofs.YtjaljjdmolhhpaaW.PrintWords Go.Proofs.YtjaljjdmolhhpaaW.PrintLast Go.Proofs.YtjaljjdmolhhpaaW.PrintMore
attribute [local go_sem] str_geq max2_int min2_int max_two min_two max_three min_three max_four min_four   -- for this text's walks alone
set_option linter.unusedVariables false
set_option linter.unusedSimpArgs false
mutual
def spec_l14Fits.j0 : Nat → Int → Int → Int → Int → Int → List (List Int) → List (List Int) → Int → Int → List Int → Option (Bool)
 | 0, _, _, _, _, _, _, _, _, _, _ => none
 | k + 1, x2, x3, x9, x10, x145000, x145001, x145002, x146000, x146001, x146002 => if x9 < (wrap64 (x146000 - 1)) then (if 0 ≤ (wrap64 (x2 + 1)) then (if (wrap64 (x2 + 1)) < (x146002.length : Int) then (if (rd x146002 (wrap64 (x2 + 1))) ≥ 0 then (if 0 ≤ x3 then (if x3 < (x145001.length : Int) then ((spec_l14In.f k (rd_L1 x145001 x3) (rd x146002 (wrap64 (x2 + 1)))).bind fun t151 => (if t151 = true then (spec_l14Fits.j1 k x2 x3 x10 x145000 x145001 x145002 x146000 x146001 x146002) else (some false))) else (none)) else (none)) else (spec_l14Fits.j1 k x2 x3 x10 x145000 x145001 x145002 x146000 x146001 x146002)) else (none)) else (none)) else (spec_l14Fits.j1 k x2 x3 x10 x145000 x145001 x145002 x146000 x146001 x146002)
def spec_l14Fits.j1 : Nat → Int → Int → Int → Int → List (List Int) → List (List Int) → Int → Int → List Int → Option (Bool)
 | 0, _, _, _, _, _, _, _, _, _ => none
 | k + 1, x2, x3, x10, x145000, x145001, x145002, x146000, x146001, x146002 => if x10 > 0 then (if 0 ≤ (wrap64 (x2 - x146000)) then (if (wrap64 (x2 - x146000)) < (x146002.length : Int) then (if (rd x146002 (wrap64 (x2 - x146000))) ≥ 0 then (if 0 ≤ (rd x146002 (wrap64 (x2 - x146000))) then (if (rd x146002 (wrap64 (x2 - x146000))) < (x145002.length : Int) then ((spec_l14In.f k (rd_L1 x145002 (rd x146002 (wrap64 (x2 - x146000)))) x3).bind fun t154 => (if t154 = true then (spec_l14Fits.j2 k x2 x3 x10 x145000 x145001 x145002 x146000 x146001 x146002) else (some false))) else (none)) else (none)) else (spec_l14Fits.j2 k x2 x3 x10 x145000 x145001 x145002 x146000 x146001 x146002)) else (none)) else (none)) else (spec_l14Fits.j2 k x2 x3 x10 x145000 x145001 x145002 x146000 x146001 x146002)
def spec_l14Fits.j2 : Nat → Int → Int → Int → Int → List (List Int) → List (List Int) → Int → Int → List Int → Option (Bool)
 | 0, _, _, _, _, _, _, _, _, _ => none
 | k + 1, x2, x3, x10, x145000, x145001, x145002, x146000, x146001, x146002 => if x10 < (wrap64 (x146001 - 1)) then (if 0 ≤ (wrap64 (x2 + x146000)) then (if (wrap64 (x2 + x146000)) < (x146002.length : Int) then (if (rd x146002 (wrap64 (x2 + x146000))) ≥ 0 then (if 0 ≤ x3 then (if x3 < (x145002.length : Int) then ((spec_l14In.f k (rd_L1 x145002 x3) (rd x146002 (wrap64 (x2 + x146000)))).bind fun t157 => (if t157 = true then (some true) else (some false))) else (none)) else (none)) else (some true)) else (none)) else (none)) else (some true)
end
def spec_l14Fits.f (k : Nat) (a0_0 : Int) (l0_1 : List (List Int)) (l0_2 : List (List Int)) (a1_0 : Int) (a1_1 : Int) (l1_2 : List Int) (a2 : Int) (a3 : Int) : Option (Bool) := if a1_0 = 0 then (none) else (if (Int.tmod a2 a1_0) > 0 then (if 0 ≤ (wrap64 (a2 - 1)) then (if (wrap64 (a2 - 1)) < (l1_2.length : Int) then (if (rd l1_2 (wrap64 (a2 - 1))) ≥ 0 then (if 0 ≤ (rd l1_2 (wrap64 (a2 - 1))) then (if (rd l1_2 (wrap64 (a2 - 1))) < (l0_1.length : Int) then ((spec_l14In.f k (rd_L1 l0_1 (rd l1_2 (wrap64 (a2 - 1)))) a3).bind fun t148 => (if t148 = true then (spec_l14Fits.j0 k a2 a3 (Int.tmod a2 a1_0) (wrap64 (Int.tdiv a2 a1_0)) a0_0 l0_1 l0_2 a1_0 a1_1 l1_2) else (some false))) else (none)) else (none)) else (spec_l14Fits.j0 k a2 a3 (Int.tmod a2 a1_0) (wrap64 (Int.tdiv a2 a1_0)) a0_0 l0_1 l0_2 a1_0 a1_1 l1_2)) else (none)) else (none)) else (spec_l14Fits.j0 k a2 a3 (Int.tmod a2 a1_0) (wrap64 (Int.tdiv a2 a1_0)) a0_0 l0_1 l0_2 a1_0 a1_1 l1_2))
theorem spec_l14Fits.mono_l : ∀ k, (∀ y0 y1 y2 y3 y4 y5 y6 y7 y8 y9, LeO (spec_l14Fits.j0 k y0 y1 y2 y3 y4 y5 y6 y7 y8 y9) (spec_l14Fits.j0 (k + 1) y0 y1 y2 y3 y4 y5 y6 y7 y8 y9)) ∧ (∀ y0 y1 y2 y3 y4 y5 y6 y7 y8, LeO (spec_l14Fits.j1 k y0 y1 y2 y3 y4 y5 y6 y7 y8) (spec_l14Fits.j1 (k + 1) y0 y1 y2 y3 y4 y5 y6 y7 y8)) ∧ (∀ y0 y1 y2 y3 y4 y5 y6 y7 y8, LeO (spec_l14Fits.j2 k y0 y1 y2 y3 y4 y5 y6 y7 y8) (spec_l14Fits.j2 (k + 1) y0 y1 y2 y3 y4 y5 y6 y7 y8))
 | 0 => ⟨fun _ _ _ _ _ _ _ _ _ _ r h => by simp [spec_l14Fits.j0] at h, fun _ _ _ _ _ _ _ _ _ r h => by simp [spec_l14Fits.j1] at h, fun _ _ _ _ _ _ _ _ _ r h => by simp [spec_l14Fits.j2] at h⟩
 | k + 1 => by
  obtain ⟨ih0, ih1, ih2⟩ := spec_l14Fits.mono_l k
  refine ⟨?_, ?_, ?_⟩
  ·intro y0 y1 y2 y3 y4 y5 y6 y7 y8 y9
   unfold spec_l14Fits.j0
   repeat' first
   | (with_reducible exact ih0 _ _ _ _ _ _ _ _ _ _)
   | (with_reducible exact ih1 _ _ _ _ _ _ _ _ _)
   | (with_reducible exact ih2 _ _ _ _ _ _ _ _ _)
   | (with_reducible exact spec_l14In.mono _ _ _)
   | (with_reducible exact LeO.refl _)
   | (with_reducible exact LeO.none _)
   | (with_reducible refine LeO.ite ?_ ?_)
   | (with_reducible refine LeO.bind ?_ (fun _ => ?_))
   | exact ih0 _ _ _ _ _ _ _ _ _ _
   | exact ih1 _ _ _ _ _ _ _ _ _
   | exact ih2 _ _ _ _ _ _ _ _ _
   | exact spec_l14In.mono _ _ _
   | exact LeO.none _
   | refine LeO.ite ?_ ?_
   | refine LeO.bind ?_ (fun _ => ?_)
  ·intro y0 y1 y2 y3 y4 y5 y6 y7 y8
   unfold spec_l14Fits.j1
   repeat' first
   | (with_reducible exact ih0 _ _ _ _ _ _ _ _ _ _)
   | (with_reducible exact ih1 _ _ _ _ _ _ _ _ _)
   | (with_reducible exact ih2 _ _ _ _ _ _ _ _ _)
   | (with_reducible exact spec_l14In.mono _ _ _)
   | (with_reducible exact LeO.refl _)
   | (with_reducible exact LeO.none _)
   | (with_reducible refine LeO.ite ?_ ?_)
   | (with_reducible refine LeO.bind ?_ (fun _ => ?_))
   | exact ih0 _ _ _ _ _ _ _ _ _ _
   | exact ih1 _ _ _ _ _ _ _ _ _
   | exact ih2 _ _ _ _ _ _ _ _ _
   | exact spec_l14In.mono _ _ _
   | exact LeO.none _
   | refine LeO.ite ?_ ?_
   | refine LeO.bind ?_ (fun _ => ?_)
  ·intro y0 y1 y2 y3 y4 y5 y6 y7 y8
   unfold spec_l14Fits.j2
   repeat' first
   | (with_reducible exact ih0 _ _ _ _ _ _ _ _ _ _)
   | (with_reducible exact ih1 _ _ _ _ _ _ _ _ _)
   | (with_reducible exact ih2 _ _ _ _ _ _ _ _ _)
   | (with_reducible exact spec_l14In.mono _ _ _)
   | (with_reducible exact LeO.refl _)
   | (with_reducible exact LeO.none _)
   | (with_reducible refine LeO.ite ?_ ?_)
   | (with_reducible refine LeO.bind ?_ (fun _ => ?_))
   | exact ih0 _ _ _ _ _ _ _ _ _ _
   | exact ih1 _ _ _ _ _ _ _ _ _
   | exact ih2 _ _ _ _ _ _ _ _ _
   | exact spec_l14In.mono _ _ _
   | exact LeO.none _
   | refine LeO.ite ?_ ?_
   | refine LeO.bind ?_ (fun _ => ?_)
theorem spec_l14Fits.mono : ∀ a0 a1 a2 a3 a4 a5 a6 a7 k, LeO (spec_l14Fits.f k a0 a1 a2 a3 a4 a5 a6 a7) (spec_l14Fits.f (k + 1) a0 a1 a2 a3 a4 a5 a6 a7) := by
 intro a0 a1 a2 a3 a4 a5 a6 a7 k
 obtain ⟨ih0, ih1, ih2⟩ := spec_l14Fits.mono_l k
 unfold spec_l14Fits.f
 repeat' first
   | (with_reducible exact ih0 _ _ _ _ _ _ _ _ _ _)
   | (with_reducible exact ih1 _ _ _ _ _ _ _ _ _)
   | (with_reducible exact ih2 _ _ _ _ _ _ _ _ _)
   | (with_reducible exact spec_l14In.mono _ _ _)
   | (with_reducible exact LeO.refl _)
   | (with_reducible exact LeO.none _)
   | (with_reducible refine LeO.ite ?_ ?_)
   | (with_reducible refine LeO.bind ?_ (fun _ => ?_))
   | exact ih0 _ _ _ _ _ _ _ _ _ _
   | exact ih1 _ _ _ _ _ _ _ _ _
   | exact ih2 _ _ _ _ _ _ _ _ _
   | exact spec_l14In.mono _ _ _
   | exact LeO.none _
   | refine LeO.ite ?_ ?_
   | refine LeO.bind ?_ (fun _ => ?_)
set_option maxHeartbeats 8000000 in
set_option maxRecDepth 100000 in
theorem spec_l14Fits.calls (k : Nat) (a0_0 : Int) (A0_1 : Option Addr) (c0_1 : Nat) (l0_1 : List (List Int)) (A0_2 : Option Addr) (c0_2 : Nat) (l0_2 : List (List Int)) (a1_0 : Int) (a1_1 : Int) (A1_2 : Option Addr) (c1_2 : Nat) (l1_2 : List Int) (a2 : Int) (a3 : Int) (r : Bool) (w : World) (hr0_1 : Kd.C (Kd.slice 3 (Kd.int .i64)) w A0_1 l0_1.length l0_1) (hc0_1 : l0_1.length ≤ c0_1) (hr0_2 : Kd.C (Kd.slice 3 (Kd.int .i64)) w A0_2 l0_2.length l0_2) (hc0_2 : l0_2.length ≤ c0_2) (hr1_2 : Kd.C (Kd.int .i64) w A1_2 l1_2.length l1_2) (hc1_2 : l1_2.length ≤ c1_2) (h : spec_l14Fits.f k a0_0 l0_1 l0_2 a1_0 a1_1 l1_2 a2 a3 = some r) :
  Calls Try.prog 208 #[.agg #[.int .i64 a0_0, .slice A0_1 l0_1.length c0_1, .slice A0_2 l0_2.length c0_2], .agg #[.int .i64 a1_0, .int .i64 a1_1, .slice A1_2 l1_2.length c1_2], .int .i64 a2, .int .i64 a3] w fun e w' => e = .returned (.bool r) ∧ Below w.heap.size w w' := by
 have hu118 := Try.underlying118
 have hu26 := Try.underlying26
 have HR0_1 := Aside0.mk hr0_1
 have HC0_1 := Aside0.mk hc0_1
 clear hr0_1 hc0_1
 have HR0_2 := Aside0.mk hr0_2
 have HC0_2 := Aside0.mk hc0_2
 clear hr0_2 hc0_2
 have HR1_2 := Aside0.mk hr1_2
 have HC1_2 := Aside0.mk hc1_2
 clear hr1_2 hc1_2
 have HB := Aside0.mk (Below.refl w.heap.size w)
 have H : (if a1_0 = 0 then (none) else (if (Int.tmod a2 a1_0) > 0 then (if 0 ≤ (wrap64 (a2 - 1)) then (if (wrap64 (a2 - 1)) < (l1_2.length : Int) then (if (rd l1_2 (wrap64 (a2 - 1))) ≥ 0 then (if 0 ≤ (rd l1_2 (wrap64 (a2 - 1))) then (if (rd l1_2 (wrap64 (a2 - 1))) < (l0_1.length : Int) then ((spec_l14In.f k (rd_L1 l0_1 (rd l1_2 (wrap64 (a2 - 1)))) a3).bind fun t148 => (if t148 = true then (spec_l14Fits.j0 k a2 a3 (Int.tmod a2 a1_0) (wrap64 (Int.tdiv a2 a1_0)) a0_0 l0_1 l0_2 a1_0 a1_1 l1_2) else (some false))) else (none)) else (none)) else (spec_l14Fits.j0 k a2 a3 (Int.tmod a2 a1_0) (wrap64 (Int.tdiv a2 a1_0)) a0_0 l0_1 l0_2 a1_0 a1_1 l1_2)) else (none)) else (none)) else (spec_l14Fits.j0 k a2 a3 (Int.tmod a2 a1_0) (wrap64 (Int.tdiv a2 a1_0)) a0_0 l0_1 l0_2 a1_0 a1_1 l1_2))) = some r := h
 clear h
 by_cases c5 : a1_0 = 0
 ·rw [if_pos c5] at H
  exact absurd H (by simp)
 ·rw [if_neg c5] at H
  have c5b0 : (a1_0 == 0) = false := beq_eq_false_iff_ne.mpr c5
  have c5b1 : (a1_0 != 0) = true := bne_iff_ne.mpr c5
  have HC6 := Aside0.mk H
  clear H
  go_enter Try.func208, Try.ntmps208
  go_upto_if 24 with (first | ((with_reducible refine gate_dst (N := 4) rfl ?_); refine box_event ?hg (N := 4) ?hd (cs := #[.int .i64 a0_0, .slice A0_1 l0_1.length c0_1, .slice A0_2 l0_2.length c0_2]) (t := 118) ?hr ?_; (case hd => rfl); (case hg => rfl); (case hr => first | (go_simp; done) | (go_simp; rfl)); intro gb144 hg w7 hbox hb; have n0_ := Aside0.mk (below_step (by repeat (first | (with_reducible first | exact HB.out | apply below_alloc | apply pw_below_drewN | apply below_drew1) | exact HB.out)) hb); have n1_ := Aside0.mk (hbox); have n2_ := Aside0.mk ((by rw [hg]; exact (below_size (by repeat (first | (with_reducible first | exact HB.out | apply below_alloc | apply pw_below_drewN | apply below_drew1) | exact HB.out))) : w.heap.size ≤ gb144)); have n3_ := Aside0.mk ((by rw [hg]; exact (below_size (by repeat (first | (with_reducible first | exact HB.out | apply below_alloc | apply pw_below_drewN | apply below_drew1) | exact HB.out))) : w.heap.size ≤ gb144)); clear HB; have HB := n0_; have BK144 := n1_; have GW144 := n2_; have GE144 := n3_; clear n0_ n1_ n2_ n3_; clear hb hbox hg) | ((with_reducible refine gate_dst (N := 5) rfl ?_); refine box_event ?hg (N := 5) ?hd (cs := #[.int .i64 a1_0, .int .i64 a1_1, .slice A1_2 l1_2.length c1_2]) (t := 26) ?hr ?_; (case hd => rfl); (case hg => rfl); (case hr => first | (go_simp; done) | (go_simp; rfl)); intro gb145 hg w8 hbox hb; have n0_ := Aside0.mk (blk_below (g := gb144) (o := .cells #[.int .i64 a0_0, .slice A0_1 l0_1.length c0_1, .slice A0_2 l0_2.length c0_2] 118 (0, 0)) (by (with_reducible repeat (first | apply blk_drewN | apply blk_drew | apply blk_alloc)); exact BK144.out) hb); have n1_ := Aside0.mk (below_step (by repeat (first | (with_reducible first | exact HB.out | apply below_alloc | apply pw_below_drewN | apply below_drew1 | refine below_set ?_ GE144.out) | exact HB.out)) hb); have n2_ := Aside0.mk (hbox); have n3_ := Aside0.mk ((by rw [hg]; exact (below_size (by repeat (first | (with_reducible first | exact HB.out | apply below_alloc | apply pw_below_drewN | apply below_drew1 | refine below_set ?_ GE144.out) | exact HB.out))) : w.heap.size ≤ gb145)); have n4_ := Aside0.mk ((by rw [hg]; exact (below_size (by repeat (first | (with_reducible first | exact HB.out | apply below_alloc | apply pw_below_drewN | apply below_drew1 | refine below_set ?_ GE144.out) | exact HB.out))) : w.heap.size ≤ gb145)); have n5_ := Aside0.mk ((by rw [hg]; exact Nat.ne_of_lt (blk_lt (g := gb144) (o := .cells #[.int .i64 a0_0, .slice A0_1 l0_1.length c0_1, .slice A0_2 l0_2.length c0_2] 118 (0, 0)) (by (with_reducible repeat (first | apply blk_drewN | apply blk_drew | apply blk_alloc)); exact BK144.out)) : gb144 ≠ gb145)); have n6_ := Aside0.mk ((by rw [hg]; exact Nat.ne_of_gt (blk_lt (g := gb144) (o := .cells #[.int .i64 a0_0, .slice A0_1 l0_1.length c0_1, .slice A0_2 l0_2.length c0_2] 118 (0, 0)) (by (with_reducible repeat (first | apply blk_drewN | apply blk_drew | apply blk_alloc)); exact BK144.out)) : gb145 ≠ gb144)); clear BK144; clear HB; have BK144 := n0_; have HB := n1_; have BK145 := n2_; have GW145 := n3_; have GE145 := n4_; have NB144_145 := n5_; have NB145_144 := n6_; clear n0_ n1_ n2_ n3_ n4_ n5_ n6_; clear hb hbox hg; have hnb9 := NB145_144.out; have hnc9 := NB144_145.out; have hcz10_0 : w8.cell? ⟨gb145, 0, none⟩ = some (.int .i64 a1_0) := (blk_cell BK145.out 0).trans rfl; have hcz10_1 : w8.cell? ⟨gb145, 1, none⟩ = some (.int .i64 a1_1) := (blk_cell BK145.out 1).trans rfl; have hcz10_2 : w8.cell? ⟨gb145, 2, none⟩ = some (.slice A1_2 l1_2.length c1_2) := (blk_cell BK145.out 2).trans rfl; have hfz10_0 := blk_frozen BK145.out 0; have hfz10_1 := blk_frozen BK145.out 1; have hfz10_2 := blk_frozen BK145.out 2))
  (try simp only [Act.put, List.setIfInBounds_toArray, List.set_cons_zero, List.set_cons_succ])
  go_cut [] (fun wc => ∃ (kq : Nat), Aside0 (spec_l14Fits.j0 kq a2 a3 (Int.tmod a2 a1_0) (wrap64 (Int.tdiv a2 a1_0)) a0_0 l0_1 l0_2 a1_0 a1_1 l1_2 = some r) ∧ Aside0 (kq ≤ k) ∧ Aside0 (wc.heap[gb144]? = some (.cells #[.int .i64 a0_0, (.slice A0_1 l0_1.length c0_1), (.slice A0_2 l0_2.length c0_2)] 118 (0, 0))) ∧ Aside0 (wc.heap[gb145]? = some (.cells #[.int .i64 a1_0, .int .i64 a1_1, (.slice A1_2 l1_2.length c1_2)] 26 (0, 0))) ∧ Aside0 (Below w.heap.size w wc))
  case first =>
   have H := HC6.out
   clear HC6
   by_cases c11 : (Int.tmod a2 a1_0) > 0
   ·rw [if_pos c11] at H
    have c11b0 : decide (0 < (Int.tmod a2 a1_0)) = true := decide_eq_true c11
    clear c11
    (first | rw [c11b0] | (simp only [i64_w, i32_w]; rw [c11b0]) | skip)
    obtain ⟨ji12, hji12⟩ : ∃ j_ : Int, (wrap64 (a2 - 1)) = j_ := ⟨_, rfl⟩
    replace H : (if 0 ≤ (ji12) then (if (ji12) < (l1_2.length : Int) then (if (rd l1_2 (ji12)) ≥ 0 then (if 0 ≤ (rd l1_2 (ji12)) then (if (rd l1_2 (ji12)) < (l0_1.length : Int) then ((spec_l14In.f k (rd_L1 l0_1 (rd l1_2 (ji12))) a3).bind fun t148 => (if t148 = true then (spec_l14Fits.j0 k a2 a3 (Int.tmod a2 a1_0) (wrap64 (Int.tdiv a2 a1_0)) a0_0 l0_1 l0_2 a1_0 a1_1 l1_2) else (some false))) else (none)) else (none)) else (spec_l14Fits.j0 k a2 a3 (Int.tmod a2 a1_0) (wrap64 (Int.tdiv a2 a1_0)) a0_0 l0_1 l0_2 a1_0 a1_1 l1_2)) else (none)) else (none)) = some r := by first | (rw [hji12] at H; exact H) | (simp only [hji12] at H ⊢; exact H)
    have hji12w : (IntKind.i64.wrap (a2 - 1)) = ji12 := (i64_w _).trans hji12
    by_cases c13 : 0 ≤ (ji12)
    ·rw [if_pos c13] at H
     have c13b0 : decide (0 ≤ (ji12)) = true := decide_eq_true c13
     clear c13
     by_cases c14 : (ji12) < (l1_2.length : Int)
     ·rw [if_pos c14] at H
      have c14b0 : decide ((ji12) < (l1_2.length : Int)) = true := decide_eq_true c14
      clear c14
      by_cases c15 : (rd l1_2 (ji12)) ≥ 0
      ·rw [if_pos c15] at H
       have c15b0 : decide (0 ≤ (rd l1_2 (ji12))) = true := decide_eq_true c15
       clear c15
       by_cases c16 : 0 ≤ (rd l1_2 (ji12))
       ·rw [if_pos c16] at H
        have c16b0 : decide (0 ≤ (rd l1_2 (ji12))) = true := decide_eq_true c16
        clear c16
        by_cases c17 : (rd l1_2 (ji12)) < (l0_1.length : Int)
        ·rw [if_pos c17] at H
         have c17b0 : decide ((rd l1_2 (ji12)) < (l0_1.length : Int)) = true := decide_eq_true c17
         clear c17
         replace H := Option.bind_eq_some_iff.mp H
         obtain ⟨t148, A180, H⟩ := H
         replace H : (if t148 = true then (spec_l14Fits.j0 k a2 a3 (Int.tmod a2 a1_0) (wrap64 (Int.tdiv a2 a1_0)) a0_0 l0_1 l0_2 a1_0 a1_1 l1_2) else (some false)) = some r := H
         have A18 := Aside0.mk A180
         clear A180
         by_cases c19 : t148 = true
         ·subst c19
          have H1 : (spec_l14Fits.j0 k a2 a3 (Int.tmod a2 a1_0) (wrap64 (Int.tdiv a2 a1_0)) a0_0 l0_1 l0_2 a1_0 a1_1 l1_2) = some r := by rw [if_pos rfl] at H; exact H
          clear H
          have H := H1
          clear H1
          have H' := Aside0.mk H
          clear H
          have hnb20 := NB145_144.out
          have hnc20 := NB144_145.out
          have hcz21_0 : w8.cell? ⟨gb145, 0, none⟩ = some (.int .i64 a1_0) := (blk_cell BK145.out 0).trans rfl
          have hcz21_1 : w8.cell? ⟨gb145, 1, none⟩ = some (.int .i64 a1_1) := (blk_cell BK145.out 1).trans rfl
          have hcz21_2 : w8.cell? ⟨gb145, 2, none⟩ = some (.slice A1_2 l1_2.length c1_2) := (blk_cell BK145.out 2).trans rfl
          have hfz21_0 := blk_frozen BK145.out 0
          have hfz21_1 := blk_frozen BK145.out 1
          have hfz21_2 := blk_frozen BK145.out 2
          have p146 : 0 ≤ ((ji12) : Int) := of_decide_eq_true (by first | (with_reducible assumption) | assumption)
          have q146 : (ji12) < (l1_2.length : Int) := of_decide_eq_true (by first | (with_reducible assumption) | assumption)
          obtain ⟨ad146, e146, hx146_0⟩ := Kd.at_int HR1_2.out (ji12) p146 q146
          cases e146
          (try replace hx146_0 := (HB.out.cell (World.block_lt_of_cell? w _ hx146_0)).trans hx146_0)
          replace p146 := eq_true p146
          replace q146 := eq_true q146
          have hcz22_0 : w8.cell? ⟨gb144, 0, none⟩ = some (.int .i64 a0_0) := (blk_cell BK144.out 0).trans rfl
          have hcz22_1 : w8.cell? ⟨gb144, 1, none⟩ = some (.slice A0_1 l0_1.length c0_1) := (blk_cell BK144.out 1).trans rfl
          have hcz22_2 : w8.cell? ⟨gb144, 2, none⟩ = some (.slice A0_2 l0_2.length c0_2) := (blk_cell BK144.out 2).trans rfl
          have hfz22_0 := blk_frozen BK144.out 0
          have hfz22_1 := blk_frozen BK144.out 1
          have hfz22_2 := blk_frozen BK144.out 2
          have p147 : 0 ≤ ((rd l1_2 (ji12)) : Int) := of_decide_eq_true (by first | (with_reducible assumption) | assumption)
          have q147 : (rd l1_2 (ji12)) < (l0_1.length : Int) := of_decide_eq_true (by first | (with_reducible assumption) | assumption)
          obtain ⟨ad147, A147_0, c147_0, e147, hx147_0, hl147_0, hi147_0⟩ := at_L1 HR0_1.out (rd l1_2 (ji12)) p147 q147
          cases e147
          (try replace hx147_0 := (HB.out.cell (World.block_lt_of_cell? w _ hx147_0)).trans hx147_0)
          have HR147_0 := Aside0.mk hi147_0
          have HC147_0 := Aside0.mk hl147_0
          clear hi147_0 hl147_0
          replace p147 := eq_true p147
          replace q147 := eq_true q147
          go_wp2_with (first | (go_at_call 222; (with_reducible refine (spec_l14In.calls k _ _ (rd_L1 l0_1 (rd l1_2 (ji12))) a3 true _ ?side1 ?side2 A18.out).mono ?_); (case side1 => repeat (first | exact (Kd.C_below HR147_0.out HB.out) | (with_reducible refine Kd.C_alloc ?_ _) | (with_reducible refine Kd.C_drewN ?_ _) | (with_reducible refine Kd.C_drew ?_))); (case side2 => exact HC147_0.out); rintro e w' ⟨rfl, ⟨nd, rfl⟩⟩))
          go_meet
          case rel => exact ⟨_, H', ⟨by first | omega | exact Nat.le_refl _⟩, ⟨by (with_reducible repeat (first | apply blk_drewN | apply blk_drew | apply blk_alloc)); exact BK144.out⟩, ⟨by (with_reducible repeat (first | apply blk_drewN | apply blk_drew | apply blk_alloc)); exact BK145.out⟩, ⟨by repeat (first | (with_reducible first | exact HB.out | apply below_alloc | apply pw_below_drewN | apply below_drew1 | refine below_set ?_ GE144.out | refine below_set ?_ GE145.out) | exact HB.out)⟩⟩
         ·replace c19 := Bool.eq_false_iff.mpr c19
          subst c19
          have H1 : (some false) = some r := by rw [if_neg (show ¬ (false = true) by decide)] at H; exact H
          clear H
          have H := H1
          clear H1
          obtain rfl := Option.some.inj H
          have hnb23 := NB145_144.out
          have hnc23 := NB144_145.out
          have hcz24_0 : w8.cell? ⟨gb145, 0, none⟩ = some (.int .i64 a1_0) := (blk_cell BK145.out 0).trans rfl
          have hcz24_1 : w8.cell? ⟨gb145, 1, none⟩ = some (.int .i64 a1_1) := (blk_cell BK145.out 1).trans rfl
          have hcz24_2 : w8.cell? ⟨gb145, 2, none⟩ = some (.slice A1_2 l1_2.length c1_2) := (blk_cell BK145.out 2).trans rfl
          have hfz24_0 := blk_frozen BK145.out 0
          have hfz24_1 := blk_frozen BK145.out 1
          have hfz24_2 := blk_frozen BK145.out 2
          have p146 : 0 ≤ ((ji12) : Int) := of_decide_eq_true (by first | (with_reducible assumption) | assumption)
          have q146 : (ji12) < (l1_2.length : Int) := of_decide_eq_true (by first | (with_reducible assumption) | assumption)
          obtain ⟨ad146, e146, hx146_0⟩ := Kd.at_int HR1_2.out (ji12) p146 q146
          cases e146
          (try replace hx146_0 := (HB.out.cell (World.block_lt_of_cell? w _ hx146_0)).trans hx146_0)
          replace p146 := eq_true p146
          replace q146 := eq_true q146
          have hcz25_0 : w8.cell? ⟨gb144, 0, none⟩ = some (.int .i64 a0_0) := (blk_cell BK144.out 0).trans rfl
          have hcz25_1 : w8.cell? ⟨gb144, 1, none⟩ = some (.slice A0_1 l0_1.length c0_1) := (blk_cell BK144.out 1).trans rfl
          have hcz25_2 : w8.cell? ⟨gb144, 2, none⟩ = some (.slice A0_2 l0_2.length c0_2) := (blk_cell BK144.out 2).trans rfl
          have hfz25_0 := blk_frozen BK144.out 0
          have hfz25_1 := blk_frozen BK144.out 1
          have hfz25_2 := blk_frozen BK144.out 2
          have p147 : 0 ≤ ((rd l1_2 (ji12)) : Int) := of_decide_eq_true (by first | (with_reducible assumption) | assumption)
          have q147 : (rd l1_2 (ji12)) < (l0_1.length : Int) := of_decide_eq_true (by first | (with_reducible assumption) | assumption)
          obtain ⟨ad147, A147_0, c147_0, e147, hx147_0, hl147_0, hi147_0⟩ := at_L1 HR0_1.out (rd l1_2 (ji12)) p147 q147
          cases e147
          (try replace hx147_0 := (HB.out.cell (World.block_lt_of_cell? w _ hx147_0)).trans hx147_0)
          have HR147_0 := Aside0.mk hi147_0
          have HC147_0 := Aside0.mk hl147_0
          clear hi147_0 hl147_0
          replace p147 := eq_true p147
          replace q147 := eq_true q147
          go_wp2_with (first | (go_at_call 222; (with_reducible refine (spec_l14In.calls k _ _ (rd_L1 l0_1 (rd l1_2 (ji12))) a3 false _ ?side1 ?side2 A18.out).mono ?_); (case side1 => repeat (first | exact (Kd.C_below HR147_0.out HB.out) | (with_reducible refine Kd.C_alloc ?_ _) | (with_reducible refine Kd.C_drewN ?_ _) | (with_reducible refine Kd.C_drew ?_))); (case side2 => exact HC147_0.out); rintro e w' ⟨rfl, ⟨nd, rfl⟩⟩))
          go_ret
          exact ⟨by first | rfl | (simp [errW_none, errW_some] <;> rfl) | (simp only [← hji12]; first | rfl | (simp [errW_none, errW_some] <;> rfl)) | (simp [*, errW_none, errW_some] <;> rfl), by repeat (first | (with_reducible first | exact HB.out | apply below_alloc | apply pw_below_drewN | apply below_drew1 | refine below_set ?_ GE144.out | refine below_set ?_ GE145.out) | exact HB.out)⟩
        ·rw [if_neg c17] at H
         exact absurd H (by simp)
       ·rw [if_neg c16] at H
        exact absurd H (by simp)
      ·rw [if_neg c15] at H
       have c15b0 : decide (0 ≤ (rd l1_2 (ji12))) = false := decide_eq_false c15
       clear c15
       have H' := Aside0.mk H
       clear H
       have hnb26 := NB145_144.out
       have hnc26 := NB144_145.out
       have hcz27_0 : w8.cell? ⟨gb145, 0, none⟩ = some (.int .i64 a1_0) := (blk_cell BK145.out 0).trans rfl
       have hcz27_1 : w8.cell? ⟨gb145, 1, none⟩ = some (.int .i64 a1_1) := (blk_cell BK145.out 1).trans rfl
       have hcz27_2 : w8.cell? ⟨gb145, 2, none⟩ = some (.slice A1_2 l1_2.length c1_2) := (blk_cell BK145.out 2).trans rfl
       have hfz27_0 := blk_frozen BK145.out 0
       have hfz27_1 := blk_frozen BK145.out 1
       have hfz27_2 := blk_frozen BK145.out 2
       have p146 : 0 ≤ ((ji12) : Int) := of_decide_eq_true (by first | (with_reducible assumption) | assumption)
       have q146 : (ji12) < (l1_2.length : Int) := of_decide_eq_true (by first | (with_reducible assumption) | assumption)
       obtain ⟨ad146, e146, hx146_0⟩ := Kd.at_int HR1_2.out (ji12) p146 q146
       cases e146
       (try replace hx146_0 := (HB.out.cell (World.block_lt_of_cell? w _ hx146_0)).trans hx146_0)
       replace p146 := eq_true p146
       replace q146 := eq_true q146
       go_wp2
       go_meet
       case rel => exact ⟨_, H', ⟨by first | omega | exact Nat.le_refl _⟩, ⟨by (with_reducible repeat (first | apply blk_drewN | apply blk_drew | apply blk_alloc)); exact BK144.out⟩, ⟨by (with_reducible repeat (first | apply blk_drewN | apply blk_drew | apply blk_alloc)); exact BK145.out⟩, ⟨by repeat (first | (with_reducible first | exact HB.out | apply below_alloc | apply pw_below_drewN | apply below_drew1 | refine below_set ?_ GE144.out | refine below_set ?_ GE145.out) | exact HB.out)⟩⟩
     ·rw [if_neg c14] at H
      exact absurd H (by simp)
    ·rw [if_neg c13] at H
     exact absurd H (by simp)
   ·rw [if_neg c11] at H
    have c11b0 : decide (0 < (Int.tmod a2 a1_0)) = false := decide_eq_false c11
    clear c11
    (first | rw [c11b0] | (simp only [i64_w, i32_w]; rw [c11b0]) | skip)
    have H' := Aside0.mk H
    clear H
    go_wp2
    go_meet
    case rel => exact ⟨_, H', ⟨by first | omega | exact Nat.le_refl _⟩, ⟨by (with_reducible repeat (first | apply blk_drewN | apply blk_drew | apply blk_alloc)); exact BK144.out⟩, ⟨by (with_reducible repeat (first | apply blk_drewN | apply blk_drew | apply blk_alloc)); exact BK145.out⟩, ⟨by repeat (first | (with_reducible first | exact HB.out | apply below_alloc | apply pw_below_drewN | apply below_drew1 | refine below_set ?_ GE144.out | refine below_set ?_ GE145.out) | exact HB.out)⟩⟩
  case rest =>
   clear HC6
   try clear c1
   try clear p1
   try clear q1
   try clear hx1
   try clear c2
   try clear p2
   try clear c5
   try clear c5b0
   try clear c5b1
   try clear p6
   try clear c9
   try clear c11
   try clear c11b0
   try clear c13
   try clear c13b0
   try clear c14
   try clear c14b0
   try clear p14
   try clear q14
   try clear hx14
   try clear c15
   try clear c15b0
   try clear c16
   try clear c16b0
   try clear c17
   try clear c17b0
   try clear c19
   try clear c20
   try clear c23
   try clear c26
   try clear hcz10_0
   try clear hcz10_1
   try clear hcz10_2
   try clear hcz21_0
   try clear hcz21_1
   try clear hcz21_2
   try clear hcz22_0
   try clear hcz22_1
   try clear hcz22_2
   try clear hcz24_0
   try clear hcz24_1
   try clear hcz24_2
   try clear hcz25_0
   try clear hcz25_1
   try clear hcz25_2
   try clear hcz27_0
   try clear hcz27_1
   try clear hcz27_2
   try clear hfz10_0
   try clear hfz10_1
   try clear hfz10_2
   try clear hfz21_0
   try clear hfz21_1
   try clear hfz21_2
   try clear hfz22_0
   try clear hfz22_1
   try clear hfz22_2
   try clear hfz24_0
   try clear hfz24_1
   try clear hfz24_2
   try clear hfz25_0
   try clear hfz25_1
   try clear hfz25_2
   try clear hfz27_0
   try clear hfz27_1
   try clear hfz27_2
   try clear hx146_0
   try clear hx147_0
   try clear p146
   try clear p147
   try clear q146
   try clear q147
   obtain ⟨kq, HA, HJ5, BK144, BK145, HB⟩ := hcut
   cases kq with
   | zero => exact absurd HA.out (by simp [spec_l14Fits.j0])
   | succ kj5 =>
    have H := HA.out
    clear HA
    simp only [spec_l14Fits.j0] at H
    have HC28 := Aside0.mk H
    clear H
    have hnb29 := NB145_144.out
    have hnc29 := NB144_145.out
    have hcz30_0 : wc.cell? ⟨gb145, 0, none⟩ = some (.int .i64 a1_0) := (blk_cell BK145.out 0).trans rfl
    have hcz30_1 : wc.cell? ⟨gb145, 1, none⟩ = some (.int .i64 a1_1) := (blk_cell BK145.out 1).trans rfl
    have hcz30_2 : wc.cell? ⟨gb145, 2, none⟩ = some (.slice A1_2 l1_2.length c1_2) := (blk_cell BK145.out 2).trans rfl
    have hfz30_0 := blk_frozen BK145.out 0
    have hfz30_1 := blk_frozen BK145.out 1
    have hfz30_2 := blk_frozen BK145.out 2
    go_upto_if 47 with (fail)
    go_cut [] (fun wc => ∃ (kq : Nat), Aside0 (spec_l14Fits.j1 kq a2 a3 (wrap64 (Int.tdiv a2 a1_0)) a0_0 l0_1 l0_2 a1_0 a1_1 l1_2 = some r) ∧ Aside0 (kq ≤ kj5) ∧ Aside0 (wc.heap[gb144]? = some (.cells #[.int .i64 a0_0, (.slice A0_1 l0_1.length c0_1), (.slice A0_2 l0_2.length c0_2)] 118 (0, 0))) ∧ Aside0 (wc.heap[gb145]? = some (.cells #[.int .i64 a1_0, .int .i64 a1_1, (.slice A1_2 l1_2.length c1_2)] 26 (0, 0))) ∧ Aside0 (Below w.heap.size w wc))
    case first =>
     have H := HC28.out
     clear HC28
     by_cases c31 : (Int.tmod a2 a1_0) < (wrap64 (a1_0 - 1))
     ·rw [if_pos c31] at H
      have c31b0 : decide ((Int.tmod a2 a1_0) < (wrap64 (a1_0 - 1))) = true := decide_eq_true c31
      clear c31
      (first | rw [c31b0] | (simp only [i64_w, i32_w]; rw [c31b0]) | skip)
      obtain ⟨ji32, hji32⟩ : ∃ j_ : Int, (wrap64 (a2 + 1)) = j_ := ⟨_, rfl⟩
      replace H : (if 0 ≤ (ji32) then (if (ji32) < (l1_2.length : Int) then (if (rd l1_2 (ji32)) ≥ 0 then (if 0 ≤ a3 then (if a3 < (l0_1.length : Int) then ((spec_l14In.f kj5 (rd_L1 l0_1 a3) (rd l1_2 (ji32))).bind fun t151 => (if t151 = true then (spec_l14Fits.j1 kj5 a2 a3 (wrap64 (Int.tdiv a2 a1_0)) a0_0 l0_1 l0_2 a1_0 a1_1 l1_2) else (some false))) else (none)) else (none)) else (spec_l14Fits.j1 kj5 a2 a3 (wrap64 (Int.tdiv a2 a1_0)) a0_0 l0_1 l0_2 a1_0 a1_1 l1_2)) else (none)) else (none)) = some r := by first | (rw [hji32] at H; exact H) | (simp only [hji32] at H ⊢; exact H)
      have hji32w : (IntKind.i64.wrap (a2 + 1)) = ji32 := (i64_w _).trans hji32
      by_cases c33 : 0 ≤ (ji32)
      ·rw [if_pos c33] at H
       have c33b0 : decide (0 ≤ (ji32)) = true := decide_eq_true c33
       clear c33
       by_cases c34 : (ji32) < (l1_2.length : Int)
       ·rw [if_pos c34] at H
        have c34b0 : decide ((ji32) < (l1_2.length : Int)) = true := decide_eq_true c34
        clear c34
        by_cases c35 : (rd l1_2 (ji32)) ≥ 0
        ·rw [if_pos c35] at H
         have c35b0 : decide (0 ≤ (rd l1_2 (ji32))) = true := decide_eq_true c35
         clear c35
         by_cases c36 : 0 ≤ a3
         ·rw [if_pos c36] at H
          have c36b0 : decide (0 ≤ a3) = true := decide_eq_true c36
          clear c36
          by_cases c37 : a3 < (l0_1.length : Int)
          ·rw [if_pos c37] at H
           have c37b0 : decide (a3 < (l0_1.length : Int)) = true := decide_eq_true c37
           clear c37
           replace H := Option.bind_eq_some_iff.mp H
           obtain ⟨t151, A380, H⟩ := H
           replace H : (if t151 = true then (spec_l14Fits.j1 kj5 a2 a3 (wrap64 (Int.tdiv a2 a1_0)) a0_0 l0_1 l0_2 a1_0 a1_1 l1_2) else (some false)) = some r := H
           have A38 := Aside0.mk A380
           clear A380
           by_cases c39 : t151 = true
           ·subst c39
            have H1 : (spec_l14Fits.j1 kj5 a2 a3 (wrap64 (Int.tdiv a2 a1_0)) a0_0 l0_1 l0_2 a1_0 a1_1 l1_2) = some r := by rw [if_pos rfl] at H; exact H
            clear H
            have H := H1
            clear H1
            have H' := Aside0.mk H
            clear H
            have hnb40 := NB145_144.out
            have hnc40 := NB144_145.out
            have hcz41_0 : wc.cell? ⟨gb145, 0, none⟩ = some (.int .i64 a1_0) := (blk_cell BK145.out 0).trans rfl
            have hcz41_1 : wc.cell? ⟨gb145, 1, none⟩ = some (.int .i64 a1_1) := (blk_cell BK145.out 1).trans rfl
            have hcz41_2 : wc.cell? ⟨gb145, 2, none⟩ = some (.slice A1_2 l1_2.length c1_2) := (blk_cell BK145.out 2).trans rfl
            have hfz41_0 := blk_frozen BK145.out 0
            have hfz41_1 := blk_frozen BK145.out 1
            have hfz41_2 := blk_frozen BK145.out 2
            have p149 : 0 ≤ ((ji32) : Int) := of_decide_eq_true (by first | (with_reducible assumption) | assumption)
            have q149 : (ji32) < (l1_2.length : Int) := of_decide_eq_true (by first | (with_reducible assumption) | assumption)
            obtain ⟨ad149, e149, hx149_0⟩ := Kd.at_int HR1_2.out (ji32) p149 q149
            cases e149
            (try replace hx149_0 := (HB.out.cell (World.block_lt_of_cell? w _ hx149_0)).trans hx149_0)
            replace p149 := eq_true p149
            replace q149 := eq_true q149
            have hcz42_0 : wc.cell? ⟨gb144, 0, none⟩ = some (.int .i64 a0_0) := (blk_cell BK144.out 0).trans rfl
            have hcz42_1 : wc.cell? ⟨gb144, 1, none⟩ = some (.slice A0_1 l0_1.length c0_1) := (blk_cell BK144.out 1).trans rfl
            have hcz42_2 : wc.cell? ⟨gb144, 2, none⟩ = some (.slice A0_2 l0_2.length c0_2) := (blk_cell BK144.out 2).trans rfl
            have hfz42_0 := blk_frozen BK144.out 0
            have hfz42_1 := blk_frozen BK144.out 1
            have hfz42_2 := blk_frozen BK144.out 2
            have p150 : 0 ≤ (a3 : Int) := of_decide_eq_true (by first | (with_reducible assumption) | assumption)
            have q150 : a3 < (l0_1.length : Int) := of_decide_eq_true (by first | (with_reducible assumption) | assumption)
            obtain ⟨ad150, A150_0, c150_0, e150, hx150_0, hl150_0, hi150_0⟩ := at_L1 HR0_1.out a3 p150 q150
            cases e150
            (try replace hx150_0 := (HB.out.cell (World.block_lt_of_cell? w _ hx150_0)).trans hx150_0)
            have HR150_0 := Aside0.mk hi150_0
            have HC150_0 := Aside0.mk hl150_0
            clear hi150_0 hl150_0
            replace p150 := eq_true p150
            replace q150 := eq_true q150
            go_wp2_with (first | (go_at_call 222; (with_reducible refine (spec_l14In.calls kj5 _ _ (rd_L1 l0_1 a3) (rd l1_2 (ji32)) true _ ?side1 ?side2 A38.out).mono ?_); (case side1 => repeat (first | exact (Kd.C_below HR150_0.out HB.out) | (with_reducible refine Kd.C_alloc ?_ _) | (with_reducible refine Kd.C_drewN ?_ _) | (with_reducible refine Kd.C_drew ?_))); (case side2 => exact HC150_0.out); rintro e w' ⟨rfl, ⟨nd, rfl⟩⟩))
            go_meet
            case rel => exact ⟨_, H', ⟨by have := HJ5.out; first | omega | exact Nat.le_refl _⟩, ⟨by (with_reducible repeat (first | apply blk_drewN | apply blk_drew | apply blk_alloc)); exact BK144.out⟩, ⟨by (with_reducible repeat (first | apply blk_drewN | apply blk_drew | apply blk_alloc)); exact BK145.out⟩, ⟨by repeat (first | (with_reducible first | exact HB.out | apply below_alloc | apply pw_below_drewN | apply below_drew1 | refine below_set ?_ GE144.out | refine below_set ?_ GE145.out) | exact HB.out)⟩⟩
           ·replace c39 := Bool.eq_false_iff.mpr c39
            subst c39
            have H1 : (some false) = some r := by rw [if_neg (show ¬ (false = true) by decide)] at H; exact H
            clear H
            have H := H1
            clear H1
            obtain rfl := Option.some.inj H
            have hnb43 := NB145_144.out
            have hnc43 := NB144_145.out
            have hcz44_0 : wc.cell? ⟨gb145, 0, none⟩ = some (.int .i64 a1_0) := (blk_cell BK145.out 0).trans rfl
            have hcz44_1 : wc.cell? ⟨gb145, 1, none⟩ = some (.int .i64 a1_1) := (blk_cell BK145.out 1).trans rfl
            have hcz44_2 : wc.cell? ⟨gb145, 2, none⟩ = some (.slice A1_2 l1_2.length c1_2) := (blk_cell BK145.out 2).trans rfl
            have hfz44_0 := blk_frozen BK145.out 0
            have hfz44_1 := blk_frozen BK145.out 1
            have hfz44_2 := blk_frozen BK145.out 2
            have p149 : 0 ≤ ((ji32) : Int) := of_decide_eq_true (by first | (with_reducible assumption) | assumption)
            have q149 : (ji32) < (l1_2.length : Int) := of_decide_eq_true (by first | (with_reducible assumption) | assumption)
            obtain ⟨ad149, e149, hx149_0⟩ := Kd.at_int HR1_2.out (ji32) p149 q149
            cases e149
            (try replace hx149_0 := (HB.out.cell (World.block_lt_of_cell? w _ hx149_0)).trans hx149_0)
            replace p149 := eq_true p149
            replace q149 := eq_true q149
            have hcz45_0 : wc.cell? ⟨gb144, 0, none⟩ = some (.int .i64 a0_0) := (blk_cell BK144.out 0).trans rfl
            have hcz45_1 : wc.cell? ⟨gb144, 1, none⟩ = some (.slice A0_1 l0_1.length c0_1) := (blk_cell BK144.out 1).trans rfl
            have hcz45_2 : wc.cell? ⟨gb144, 2, none⟩ = some (.slice A0_2 l0_2.length c0_2) := (blk_cell BK144.out 2).trans rfl
            have hfz45_0 := blk_frozen BK144.out 0
            have hfz45_1 := blk_frozen BK144.out 1
            have hfz45_2 := blk_frozen BK144.out 2
            have p150 : 0 ≤ (a3 : Int) := of_decide_eq_true (by first | (with_reducible assumption) | assumption)
            have q150 : a3 < (l0_1.length : Int) := of_decide_eq_true (by first | (with_reducible assumption) | assumption)
            obtain ⟨ad150, A150_0, c150_0, e150, hx150_0, hl150_0, hi150_0⟩ := at_L1 HR0_1.out a3 p150 q150
            cases e150
            (try replace hx150_0 := (HB.out.cell (World.block_lt_of_cell? w _ hx150_0)).trans hx150_0)
            have HR150_0 := Aside0.mk hi150_0
            have HC150_0 := Aside0.mk hl150_0
            clear hi150_0 hl150_0
            replace p150 := eq_true p150
            replace q150 := eq_true q150
            go_wp2_with (first | (go_at_call 222; (with_reducible refine (spec_l14In.calls kj5 _ _ (rd_L1 l0_1 a3) (rd l1_2 (ji32)) false _ ?side1 ?side2 A38.out).mono ?_); (case side1 => repeat (first | exact (Kd.C_below HR150_0.out HB.out) | (with_reducible refine Kd.C_alloc ?_ _) | (with_reducible refine Kd.C_drewN ?_ _) | (with_reducible refine Kd.C_drew ?_))); (case side2 => exact HC150_0.out); rintro e w' ⟨rfl, ⟨nd, rfl⟩⟩))
            go_ret
            exact ⟨by first | rfl | (simp [errW_none, errW_some] <;> rfl) | (simp only [← hji32]; first | rfl | (simp [errW_none, errW_some] <;> rfl)) | (simp [*, errW_none, errW_some] <;> rfl), by repeat (first | (with_reducible first | exact HB.out | apply below_alloc | apply pw_below_drewN | apply below_drew1 | refine below_set ?_ GE144.out | refine below_set ?_ GE145.out) | exact HB.out)⟩
          ·rw [if_neg c37] at H
           exact absurd H (by simp)
         ·rw [if_neg c36] at H
          exact absurd H (by simp)
        ·rw [if_neg c35] at H
         have c35b0 : decide (0 ≤ (rd l1_2 (ji32))) = false := decide_eq_false c35
         clear c35
         have H' := Aside0.mk H
         clear H
         have hnb46 := NB145_144.out
         have hnc46 := NB144_145.out
         have hcz47_0 : wc.cell? ⟨gb145, 0, none⟩ = some (.int .i64 a1_0) := (blk_cell BK145.out 0).trans rfl
         have hcz47_1 : wc.cell? ⟨gb145, 1, none⟩ = some (.int .i64 a1_1) := (blk_cell BK145.out 1).trans rfl
         have hcz47_2 : wc.cell? ⟨gb145, 2, none⟩ = some (.slice A1_2 l1_2.length c1_2) := (blk_cell BK145.out 2).trans rfl
         have hfz47_0 := blk_frozen BK145.out 0
         have hfz47_1 := blk_frozen BK145.out 1
         have hfz47_2 := blk_frozen BK145.out 2
         have p149 : 0 ≤ ((ji32) : Int) := of_decide_eq_true (by first | (with_reducible assumption) | assumption)
         have q149 : (ji32) < (l1_2.length : Int) := of_decide_eq_true (by first | (with_reducible assumption) | assumption)
         obtain ⟨ad149, e149, hx149_0⟩ := Kd.at_int HR1_2.out (ji32) p149 q149
         cases e149
         (try replace hx149_0 := (HB.out.cell (World.block_lt_of_cell? w _ hx149_0)).trans hx149_0)
         replace p149 := eq_true p149
         replace q149 := eq_true q149
         go_wp2
         go_meet
         case rel => exact ⟨_, H', ⟨by have := HJ5.out; first | omega | exact Nat.le_refl _⟩, ⟨by (with_reducible repeat (first | apply blk_drewN | apply blk_drew | apply blk_alloc)); exact BK144.out⟩, ⟨by (with_reducible repeat (first | apply blk_drewN | apply blk_drew | apply blk_alloc)); exact BK145.out⟩, ⟨by repeat (first | (with_reducible first | exact HB.out | apply below_alloc | apply pw_below_drewN | apply below_drew1 | refine below_set ?_ GE144.out | refine below_set ?_ GE145.out) | exact HB.out)⟩⟩
       ·rw [if_neg c34] at H
        exact absurd H (by simp)
      ·rw [if_neg c33] at H
       exact absurd H (by simp)
     ·rw [if_neg c31] at H
      have c31b0 : decide ((Int.tmod a2 a1_0) < (wrap64 (a1_0 - 1))) = false := decide_eq_false c31
      clear c31
      (first | rw [c31b0] | (simp only [i64_w, i32_w]; rw [c31b0]) | skip)
      have H' := Aside0.mk H
      clear H
      go_wp2
      go_meet
      case rel => exact ⟨_, H', ⟨by have := HJ5.out; first | omega | exact Nat.le_refl _⟩, ⟨by (with_reducible repeat (first | apply blk_drewN | apply blk_drew | apply blk_alloc)); exact BK144.out⟩, ⟨by (with_reducible repeat (first | apply blk_drewN | apply blk_drew | apply blk_alloc)); exact BK145.out⟩, ⟨by repeat (first | (with_reducible first | exact HB.out | apply below_alloc | apply pw_below_drewN | apply below_drew1 | refine below_set ?_ GE144.out | refine below_set ?_ GE145.out) | exact HB.out)⟩⟩
    case rest =>
     clear HC28
     try clear c1
     try clear p1
     try clear q1
     try clear hx1
     try clear c2
     try clear p2
     try clear c3
     try clear c4
     try clear c5
     try clear c5b0
     try clear c5b1
     try clear p6
     try clear c9
     try clear c11
     try clear c11b0
     try clear c13
     try clear c13b0
     try clear c14
     try clear c14b0
     try clear p14
     try clear q14
     try clear hx14
     try clear c15
     try clear c15b0
     try clear p15
     try clear q15
     try clear hx15
     try clear c16
     try clear c16b0
     try clear c17
     try clear c17b0
     try clear c19
     try clear c20
     try clear c23
     try clear c26
     try clear c29
     try clear c31
     try clear c31b0
     try clear c33
     try clear c33b0
     try clear c34
     try clear c34b0
     try clear c35
     try clear c35b0
     try clear c36
     try clear c36b0
     try clear c37
     try clear c37b0
     try clear c39
     try clear c40
     try clear c43
     try clear c46
     try clear hcz10_0
     try clear hcz10_1
     try clear hcz10_2
     try clear hcz21_0
     try clear hcz21_1
     try clear hcz21_2
     try clear hcz22_0
     try clear hcz22_1
     try clear hcz22_2
     try clear hcz24_0
     try clear hcz24_1
     try clear hcz24_2
     try clear hcz25_0
     try clear hcz25_1
     try clear hcz25_2
     try clear hcz27_0
     try clear hcz27_1
     try clear hcz27_2
     try clear hcz30_0
     try clear hcz30_1
     try clear hcz30_2
     try clear hcz41_0
     try clear hcz41_1
     try clear hcz41_2
     try clear hcz42_0
     try clear hcz42_1
     try clear hcz42_2
     try clear hcz44_0
     try clear hcz44_1
     try clear hcz44_2
     try clear hcz45_0
     try clear hcz45_1
     try clear hcz45_2
     try clear hcz47_0
     try clear hcz47_1
     try clear hcz47_2
     try clear hfz10_0
     try clear hfz10_1
     try clear hfz10_2
     try clear hfz21_0
     try clear hfz21_1
     try clear hfz21_2
     try clear hfz22_0
     try clear hfz22_1
     try clear hfz22_2
     try clear hfz24_0
     try clear hfz24_1
     try clear hfz24_2
     try clear hfz25_0
     try clear hfz25_1
     try clear hfz25_2
     try clear hfz27_0
     try clear hfz27_1
     try clear hfz27_2
     try clear hfz30_0
     try clear hfz30_1
     try clear hfz30_2
     try clear hfz41_0
     try clear hfz41_1
     try clear hfz41_2
     try clear hfz42_0
     try clear hfz42_1
     try clear hfz42_2
     try clear hfz44_0
     try clear hfz44_1
     try clear hfz44_2
     try clear hfz45_0
     try clear hfz45_1
     try clear hfz45_2
     try clear hfz47_0
     try clear hfz47_1
     try clear hfz47_2
     try clear hx146_0
     try clear hx147_0
     try clear hx149_0
     try clear hx150_0
     try clear p1
     try clear p14
     try clear p146
     try clear p147
     try clear p149
     try clear p150
     try clear p2
     try clear p6
     try clear q1
     try clear q14
     try clear q146
     try clear q147
     try clear q149
     try clear q150
     obtain ⟨kq, HA, HJ27, BK144, BK145, HB⟩ := hcut
     cases kq with
     | zero => exact absurd HA.out (by simp [spec_l14Fits.j1])
     | succ kj27 =>
      have H := HA.out
      clear HA
      simp only [spec_l14Fits.j1] at H
      have HC48 := Aside0.mk H
      clear H
      go_upto_if 67 with (fail)
      go_cut [] (fun wc => ∃ (kq : Nat), Aside0 (spec_l14Fits.j2 kq a2 a3 (wrap64 (Int.tdiv a2 a1_0)) a0_0 l0_1 l0_2 a1_0 a1_1 l1_2 = some r) ∧ Aside0 (kq ≤ kj27) ∧ Aside0 (wc.heap[gb144]? = some (.cells #[.int .i64 a0_0, (.slice A0_1 l0_1.length c0_1), (.slice A0_2 l0_2.length c0_2)] 118 (0, 0))) ∧ Aside0 (wc.heap[gb145]? = some (.cells #[.int .i64 a1_0, .int .i64 a1_1, (.slice A1_2 l1_2.length c1_2)] 26 (0, 0))) ∧ Aside0 (Below w.heap.size w wc))
      case first =>
       have H := HC48.out
       clear HC48
       by_cases c49 : (wrap64 (Int.tdiv a2 a1_0)) > 0
       ·rw [if_pos c49] at H
        have c49b0 : decide (0 < (wrap64 (Int.tdiv a2 a1_0))) = true := decide_eq_true c49
        clear c49
        (first | rw [c49b0] | (simp only [i64_w, i32_w]; rw [c49b0]) | skip)
        obtain ⟨ji50, hji50⟩ : ∃ j_ : Int, (wrap64 (a2 - a1_0)) = j_ := ⟨_, rfl⟩
        replace H : (if 0 ≤ (ji50) then (if (ji50) < (l1_2.length : Int) then (if (rd l1_2 (ji50)) ≥ 0 then (if 0 ≤ (rd l1_2 (ji50)) then (if (rd l1_2 (ji50)) < (l0_2.length : Int) then ((spec_l14In.f kj27 (rd_L1 l0_2 (rd l1_2 (ji50))) a3).bind fun t154 => (if t154 = true then (spec_l14Fits.j2 kj27 a2 a3 (wrap64 (Int.tdiv a2 a1_0)) a0_0 l0_1 l0_2 a1_0 a1_1 l1_2) else (some false))) else (none)) else (none)) else (spec_l14Fits.j2 kj27 a2 a3 (wrap64 (Int.tdiv a2 a1_0)) a0_0 l0_1 l0_2 a1_0 a1_1 l1_2)) else (none)) else (none)) = some r := by first | (rw [hji50] at H; exact H) | (simp only [hji50] at H ⊢; exact H)
        have hji50w : (IntKind.i64.wrap (a2 - a1_0)) = ji50 := (i64_w _).trans hji50
        by_cases c51 : 0 ≤ (ji50)
        ·rw [if_pos c51] at H
         have c51b0 : decide (0 ≤ (ji50)) = true := decide_eq_true c51
         clear c51
         by_cases c52 : (ji50) < (l1_2.length : Int)
         ·rw [if_pos c52] at H
          have c52b0 : decide ((ji50) < (l1_2.length : Int)) = true := decide_eq_true c52
          clear c52
          by_cases c53 : (rd l1_2 (ji50)) ≥ 0
          ·rw [if_pos c53] at H
           have c53b0 : decide (0 ≤ (rd l1_2 (ji50))) = true := decide_eq_true c53
           clear c53
           by_cases c54 : 0 ≤ (rd l1_2 (ji50))
           ·rw [if_pos c54] at H
            have c54b0 : decide (0 ≤ (rd l1_2 (ji50))) = true := decide_eq_true c54
            clear c54
            by_cases c55 : (rd l1_2 (ji50)) < (l0_2.length : Int)
            ·rw [if_pos c55] at H
             have c55b0 : decide ((rd l1_2 (ji50)) < (l0_2.length : Int)) = true := decide_eq_true c55
             clear c55
             replace H := Option.bind_eq_some_iff.mp H
             obtain ⟨t154, A560, H⟩ := H
             replace H : (if t154 = true then (spec_l14Fits.j2 kj27 a2 a3 (wrap64 (Int.tdiv a2 a1_0)) a0_0 l0_1 l0_2 a1_0 a1_1 l1_2) else (some false)) = some r := H
             have A56 := Aside0.mk A560
             clear A560
             by_cases c57 : t154 = true
             ·subst c57
              have H1 : (spec_l14Fits.j2 kj27 a2 a3 (wrap64 (Int.tdiv a2 a1_0)) a0_0 l0_1 l0_2 a1_0 a1_1 l1_2) = some r := by rw [if_pos rfl] at H; exact H
              clear H
              have H := H1
              clear H1
              have H' := Aside0.mk H
              clear H
              have hnb58 := NB145_144.out
              have hnc58 := NB144_145.out
              have hcz59_0 : wc.cell? ⟨gb145, 0, none⟩ = some (.int .i64 a1_0) := (blk_cell BK145.out 0).trans rfl
              have hcz59_1 : wc.cell? ⟨gb145, 1, none⟩ = some (.int .i64 a1_1) := (blk_cell BK145.out 1).trans rfl
              have hcz59_2 : wc.cell? ⟨gb145, 2, none⟩ = some (.slice A1_2 l1_2.length c1_2) := (blk_cell BK145.out 2).trans rfl
              have hfz59_0 := blk_frozen BK145.out 0
              have hfz59_1 := blk_frozen BK145.out 1
              have hfz59_2 := blk_frozen BK145.out 2
              have p152 : 0 ≤ ((ji50) : Int) := of_decide_eq_true (by first | (with_reducible assumption) | assumption)
              have q152 : (ji50) < (l1_2.length : Int) := of_decide_eq_true (by first | (with_reducible assumption) | assumption)
              obtain ⟨ad152, e152, hx152_0⟩ := Kd.at_int HR1_2.out (ji50) p152 q152
              cases e152
              (try replace hx152_0 := (HB.out.cell (World.block_lt_of_cell? w _ hx152_0)).trans hx152_0)
              replace p152 := eq_true p152
              replace q152 := eq_true q152
              have hcz60_0 : wc.cell? ⟨gb144, 0, none⟩ = some (.int .i64 a0_0) := (blk_cell BK144.out 0).trans rfl
              have hcz60_1 : wc.cell? ⟨gb144, 1, none⟩ = some (.slice A0_1 l0_1.length c0_1) := (blk_cell BK144.out 1).trans rfl
              have hcz60_2 : wc.cell? ⟨gb144, 2, none⟩ = some (.slice A0_2 l0_2.length c0_2) := (blk_cell BK144.out 2).trans rfl
              have hfz60_0 := blk_frozen BK144.out 0
              have hfz60_1 := blk_frozen BK144.out 1
              have hfz60_2 := blk_frozen BK144.out 2
              have p153 : 0 ≤ ((rd l1_2 (ji50)) : Int) := of_decide_eq_true (by first | (with_reducible assumption) | assumption)
              have q153 : (rd l1_2 (ji50)) < (l0_2.length : Int) := of_decide_eq_true (by first | (with_reducible assumption) | assumption)
              obtain ⟨ad153, A153_0, c153_0, e153, hx153_0, hl153_0, hi153_0⟩ := at_L1 HR0_2.out (rd l1_2 (ji50)) p153 q153
              cases e153
              (try replace hx153_0 := (HB.out.cell (World.block_lt_of_cell? w _ hx153_0)).trans hx153_0)
              have HR153_0 := Aside0.mk hi153_0
              have HC153_0 := Aside0.mk hl153_0
              clear hi153_0 hl153_0
              replace p153 := eq_true p153
              replace q153 := eq_true q153
              go_wp2_with (first | (go_at_call 222; (with_reducible refine (spec_l14In.calls kj27 _ _ (rd_L1 l0_2 (rd l1_2 (ji50))) a3 true _ ?side1 ?side2 A56.out).mono ?_); (case side1 => repeat (first | exact (Kd.C_below HR153_0.out HB.out) | (with_reducible refine Kd.C_alloc ?_ _) | (with_reducible refine Kd.C_drewN ?_ _) | (with_reducible refine Kd.C_drew ?_))); (case side2 => exact HC153_0.out); rintro e w' ⟨rfl, ⟨nd, rfl⟩⟩))
              go_meet
              case rel => exact ⟨_, H', ⟨by have := HJ5.out; have := HJ27.out; first | omega | exact Nat.le_refl _⟩, ⟨by (with_reducible repeat (first | apply blk_drewN | apply blk_drew | apply blk_alloc)); exact BK144.out⟩, ⟨by (with_reducible repeat (first | apply blk_drewN | apply blk_drew | apply blk_alloc)); exact BK145.out⟩, ⟨by repeat (first | (with_reducible first | exact HB.out | apply below_alloc | apply pw_below_drewN | apply below_drew1 | refine below_set ?_ GE144.out | refine below_set ?_ GE145.out) | exact HB.out)⟩⟩
             ·replace c57 := Bool.eq_false_iff.mpr c57
              subst c57
              have H1 : (some false) = some r := by rw [if_neg (show ¬ (false = true) by decide)] at H; exact H
              clear H
              have H := H1
              clear H1
              obtain rfl := Option.some.inj H
              have hnb61 := NB145_144.out
              have hnc61 := NB144_145.out
              have hcz62_0 : wc.cell? ⟨gb145, 0, none⟩ = some (.int .i64 a1_0) := (blk_cell BK145.out 0).trans rfl
              have hcz62_1 : wc.cell? ⟨gb145, 1, none⟩ = some (.int .i64 a1_1) := (blk_cell BK145.out 1).trans rfl
              have hcz62_2 : wc.cell? ⟨gb145, 2, none⟩ = some (.slice A1_2 l1_2.length c1_2) := (blk_cell BK145.out 2).trans rfl
              have hfz62_0 := blk_frozen BK145.out 0
              have hfz62_1 := blk_frozen BK145.out 1
              have hfz62_2 := blk_frozen BK145.out 2
              have p152 : 0 ≤ ((ji50) : Int) := of_decide_eq_true (by first | (with_reducible assumption) | assumption)
              have q152 : (ji50) < (l1_2.length : Int) := of_decide_eq_true (by first | (with_reducible assumption) | assumption)
              obtain ⟨ad152, e152, hx152_0⟩ := Kd.at_int HR1_2.out (ji50) p152 q152
              cases e152
              (try replace hx152_0 := (HB.out.cell (World.block_lt_of_cell? w _ hx152_0)).trans hx152_0)
              replace p152 := eq_true p152
              replace q152 := eq_true q152
              have hcz63_0 : wc.cell? ⟨gb144, 0, none⟩ = some (.int .i64 a0_0) := (blk_cell BK144.out 0).trans rfl
              have hcz63_1 : wc.cell? ⟨gb144, 1, none⟩ = some (.slice A0_1 l0_1.length c0_1) := (blk_cell BK144.out 1).trans rfl
              have hcz63_2 : wc.cell? ⟨gb144, 2, none⟩ = some (.slice A0_2 l0_2.length c0_2) := (blk_cell BK144.out 2).trans rfl
              have hfz63_0 := blk_frozen BK144.out 0
              have hfz63_1 := blk_frozen BK144.out 1
              have hfz63_2 := blk_frozen BK144.out 2
              have p153 : 0 ≤ ((rd l1_2 (ji50)) : Int) := of_decide_eq_true (by first | (with_reducible assumption) | assumption)
              have q153 : (rd l1_2 (ji50)) < (l0_2.length : Int) := of_decide_eq_true (by first | (with_reducible assumption) | assumption)
              obtain ⟨ad153, A153_0, c153_0, e153, hx153_0, hl153_0, hi153_0⟩ := at_L1 HR0_2.out (rd l1_2 (ji50)) p153 q153
              cases e153
              (try replace hx153_0 := (HB.out.cell (World.block_lt_of_cell? w _ hx153_0)).trans hx153_0)
              have HR153_0 := Aside0.mk hi153_0
              have HC153_0 := Aside0.mk hl153_0
              clear hi153_0 hl153_0
              replace p153 := eq_true p153
              replace q153 := eq_true q153
              go_wp2_with (first | (go_at_call 222; (with_reducible refine (spec_l14In.calls kj27 _ _ (rd_L1 l0_2 (rd l1_2 (ji50))) a3 false _ ?side1 ?side2 A56.out).mono ?_); (case side1 => repeat (first | exact (Kd.C_below HR153_0.out HB.out) | (with_reducible refine Kd.C_alloc ?_ _) | (with_reducible refine Kd.C_drewN ?_ _) | (with_reducible refine Kd.C_drew ?_))); (case side2 => exact HC153_0.out); rintro e w' ⟨rfl, ⟨nd, rfl⟩⟩))
              go_ret
              exact ⟨by first | rfl | (simp [errW_none, errW_some] <;> rfl) | (simp only [← hji50]; first | rfl | (simp [errW_none, errW_some] <;> rfl)) | (simp [*, errW_none, errW_some] <;> rfl), by repeat (first | (with_reducible first | exact HB.out | apply below_alloc | apply pw_below_drewN | apply below_drew1 | refine below_set ?_ GE144.out | refine below_set ?_ GE145.out) | exact HB.out)⟩
            ·rw [if_neg c55] at H
             exact absurd H (by simp)
           ·rw [if_neg c54] at H
            exact absurd H (by simp)
          ·rw [if_neg c53] at H
           have c53b0 : decide (0 ≤ (rd l1_2 (ji50))) = false := decide_eq_false c53
           clear c53
           have H' := Aside0.mk H
           clear H
           have hnb64 := NB145_144.out
           have hnc64 := NB144_145.out
           have hcz65_0 : wc.cell? ⟨gb145, 0, none⟩ = some (.int .i64 a1_0) := (blk_cell BK145.out 0).trans rfl
           have hcz65_1 : wc.cell? ⟨gb145, 1, none⟩ = some (.int .i64 a1_1) := (blk_cell BK145.out 1).trans rfl
           have hcz65_2 : wc.cell? ⟨gb145, 2, none⟩ = some (.slice A1_2 l1_2.length c1_2) := (blk_cell BK145.out 2).trans rfl
           have hfz65_0 := blk_frozen BK145.out 0
           have hfz65_1 := blk_frozen BK145.out 1
           have hfz65_2 := blk_frozen BK145.out 2
           have p152 : 0 ≤ ((ji50) : Int) := of_decide_eq_true (by first | (with_reducible assumption) | assumption)
           have q152 : (ji50) < (l1_2.length : Int) := of_decide_eq_true (by first | (with_reducible assumption) | assumption)
           obtain ⟨ad152, e152, hx152_0⟩ := Kd.at_int HR1_2.out (ji50) p152 q152
           cases e152
           (try replace hx152_0 := (HB.out.cell (World.block_lt_of_cell? w _ hx152_0)).trans hx152_0)
           replace p152 := eq_true p152
           replace q152 := eq_true q152
           go_wp2
           go_meet
           case rel => exact ⟨_, H', ⟨by have := HJ5.out; have := HJ27.out; first | omega | exact Nat.le_refl _⟩, ⟨by (with_reducible repeat (first | apply blk_drewN | apply blk_drew | apply blk_alloc)); exact BK144.out⟩, ⟨by (with_reducible repeat (first | apply blk_drewN | apply blk_drew | apply blk_alloc)); exact BK145.out⟩, ⟨by repeat (first | (with_reducible first | exact HB.out | apply below_alloc | apply pw_below_drewN | apply below_drew1 | refine below_set ?_ GE144.out | refine below_set ?_ GE145.out) | exact HB.out)⟩⟩
         ·rw [if_neg c52] at H
          exact absurd H (by simp)
        ·rw [if_neg c51] at H
         exact absurd H (by simp)
       ·rw [if_neg c49] at H
        have c49b0 : decide (0 < (wrap64 (Int.tdiv a2 a1_0))) = false := decide_eq_false c49
        clear c49
        (first | rw [c49b0] | (simp only [i64_w, i32_w]; rw [c49b0]) | skip)
        have H' := Aside0.mk H
        clear H
        go_wp2
        go_meet
        case rel => exact ⟨_, H', ⟨by have := HJ5.out; have := HJ27.out; first | omega | exact Nat.le_refl _⟩, ⟨by (with_reducible repeat (first | apply blk_drewN | apply blk_drew | apply blk_alloc)); exact BK144.out⟩, ⟨by (with_reducible repeat (first | apply blk_drewN | apply blk_drew | apply blk_alloc)); exact BK145.out⟩, ⟨by repeat (first | (with_reducible first | exact HB.out | apply below_alloc | apply pw_below_drewN | apply below_drew1 | refine below_set ?_ GE144.out | refine below_set ?_ GE145.out) | exact HB.out)⟩⟩
      case rest =>
       clear HC48
       try clear c1
       try clear p1
       try clear q1
       try clear hx1
       try clear c2
       try clear p2
       try clear c3
       try clear c4
       try clear c5
       try clear c5b0
       try clear c5b1
       try clear c6
       try clear p6
       try clear c9
       try clear c11
       try clear c11b0
       try clear c13
       try clear c13b0
       try clear c14
       try clear c14b0
       try clear p14
       try clear q14
       try clear hx14
       try clear c15
       try clear c15b0
       try clear p15
       try clear q15
       try clear hx15
       try clear c16
       try clear c16b0
       try clear c17
       try clear c17b0
       try clear c19
       try clear c20
       try clear c23
       try clear c26
       try clear c29
       try clear c31
       try clear c31b0
       try clear c33
       try clear c33b0
       try clear c34
       try clear c34b0
       try clear c35
       try clear c35b0
       try clear c36
       try clear c36b0
       try clear c37
       try clear c37b0
       try clear c39
       try clear c40
       try clear c43
       try clear c46
       try clear c49
       try clear c49b0
       try clear c51
       try clear c51b0
       try clear c52
       try clear c52b0
       try clear c53
       try clear c53b0
       try clear c54
       try clear c54b0
       try clear c55
       try clear c55b0
       try clear c57
       try clear c58
       try clear c61
       try clear c64
       try clear p64
       try clear hcz10_0
       try clear hcz10_1
       try clear hcz10_2
       try clear hcz21_0
       try clear hcz21_1
       try clear hcz21_2
       try clear hcz22_0
       try clear hcz22_1
       try clear hcz22_2
       try clear hcz24_0
       try clear hcz24_1
       try clear hcz24_2
       try clear hcz25_0
       try clear hcz25_1
       try clear hcz25_2
       try clear hcz27_0
       try clear hcz27_1
       try clear hcz27_2
       try clear hcz30_0
       try clear hcz30_1
       try clear hcz30_2
       try clear hcz41_0
       try clear hcz41_1
       try clear hcz41_2
       try clear hcz42_0
       try clear hcz42_1
       try clear hcz42_2
       try clear hcz44_0
       try clear hcz44_1
       try clear hcz44_2
       try clear hcz45_0
       try clear hcz45_1
       try clear hcz45_2
       try clear hcz47_0
       try clear hcz47_1
       try clear hcz47_2
       try clear hcz59_0
       try clear hcz59_1
       try clear hcz59_2
       try clear hcz60_0
       try clear hcz60_1
       try clear hcz60_2
       try clear hcz62_0
       try clear hcz62_1
       try clear hcz62_2
       try clear hcz63_0
       try clear hcz63_1
       try clear hcz63_2
       try clear hcz65_0
       try clear hcz65_1
       try clear hcz65_2
       try clear hfz10_0
       try clear hfz10_1
       try clear hfz10_2
       try clear hfz21_0
       try clear hfz21_1
       try clear hfz21_2
       try clear hfz22_0
       try clear hfz22_1
       try clear hfz22_2
       try clear hfz24_0
       try clear hfz24_1
       try clear hfz24_2
       try clear hfz25_0
       try clear hfz25_1
       try clear hfz25_2
       try clear hfz27_0
       try clear hfz27_1
       try clear hfz27_2
       try clear hfz30_0
       try clear hfz30_1
       try clear hfz30_2
       try clear hfz41_0
       try clear hfz41_1
       try clear hfz41_2
       try clear hfz42_0
       try clear hfz42_1
       try clear hfz42_2
       try clear hfz44_0
       try clear hfz44_1
       try clear hfz44_2
       try clear hfz45_0
       try clear hfz45_1
       try clear hfz45_2
       try clear hfz47_0
       try clear hfz47_1
       try clear hfz47_2
       try clear hfz59_0
       try clear hfz59_1
       try clear hfz59_2
       try clear hfz60_0
       try clear hfz60_1
       try clear hfz60_2
       try clear hfz62_0
       try clear hfz62_1
       try clear hfz62_2
       try clear hfz63_0
       try clear hfz63_1
       try clear hfz63_2
       try clear hfz65_0
       try clear hfz65_1
       try clear hfz65_2
       try clear hx146_0
       try clear hx147_0
       try clear hx149_0
       try clear hx150_0
       try clear hx152_0
       try clear hx153_0
       try clear p1
       try clear p14
       try clear p146
       try clear p147
       try clear p149
       try clear p15
       try clear p150
       try clear p152
       try clear p153
       try clear p2
       try clear p6
       try clear q1
       try clear q14
       try clear q146
       try clear q147
       try clear q149
       try clear q15
       try clear q150
       try clear q152
       try clear q153
       obtain ⟨kq, HA, HJ47, BK144, BK145, HB⟩ := hcut
       cases kq with
       | zero => exact absurd HA.out (by simp [spec_l14Fits.j2])
       | succ kj47 =>
        have H := HA.out
        clear HA
        simp only [spec_l14Fits.j2] at H
        by_cases c66 : (wrap64 (Int.tdiv a2 a1_0)) < (wrap64 (a1_1 - 1))
        ·rw [if_pos c66] at H
         have c66b0 : decide ((wrap64 (Int.tdiv a2 a1_0)) < (wrap64 (a1_1 - 1))) = true := decide_eq_true c66
         clear c66
         obtain ⟨ji67, hji67⟩ : ∃ j_ : Int, (wrap64 (a2 + a1_0)) = j_ := ⟨_, rfl⟩
         replace H : (if 0 ≤ (ji67) then (if (ji67) < (l1_2.length : Int) then (if (rd l1_2 (ji67)) ≥ 0 then (if 0 ≤ a3 then (if a3 < (l0_2.length : Int) then ((spec_l14In.f kj47 (rd_L1 l0_2 a3) (rd l1_2 (ji67))).bind fun t157 => (if t157 = true then (some true) else (some false))) else (none)) else (none)) else (some true)) else (none)) else (none)) = some r := by first | (rw [hji67] at H; exact H) | (simp only [hji67] at H ⊢; exact H)
         have hji67w : (IntKind.i64.wrap (a2 + a1_0)) = ji67 := (i64_w _).trans hji67
         by_cases c68 : 0 ≤ (ji67)
         ·rw [if_pos c68] at H
          have c68b0 : decide (0 ≤ (ji67)) = true := decide_eq_true c68
          clear c68
          by_cases c69 : (ji67) < (l1_2.length : Int)
          ·rw [if_pos c69] at H
           have c69b0 : decide ((ji67) < (l1_2.length : Int)) = true := decide_eq_true c69
           clear c69
           by_cases c70 : (rd l1_2 (ji67)) ≥ 0
           ·rw [if_pos c70] at H
            have c70b0 : decide (0 ≤ (rd l1_2 (ji67))) = true := decide_eq_true c70
            clear c70
            by_cases c71 : 0 ≤ a3
            ·rw [if_pos c71] at H
             have c71b0 : decide (0 ≤ a3) = true := decide_eq_true c71
             clear c71
             by_cases c72 : a3 < (l0_2.length : Int)
             ·rw [if_pos c72] at H
              have c72b0 : decide (a3 < (l0_2.length : Int)) = true := decide_eq_true c72
              clear c72
              replace H := Option.bind_eq_some_iff.mp H
              obtain ⟨t157, A730, H⟩ := H
              replace H : (if t157 = true then (some true) else (some false)) = some r := H
              have A73 := Aside0.mk A730
              clear A730
              by_cases c74 : t157 = true
              ·subst c74
               have H1 : (some true) = some r := by rw [if_pos rfl] at H; exact H
               clear H
               have H := H1
               clear H1
               obtain rfl := Option.some.inj H
               have hnb75 := NB145_144.out
               have hnc75 := NB144_145.out
               have hcz76_0 : wc.cell? ⟨gb145, 0, none⟩ = some (.int .i64 a1_0) := (blk_cell BK145.out 0).trans rfl
               have hcz76_1 : wc.cell? ⟨gb145, 1, none⟩ = some (.int .i64 a1_1) := (blk_cell BK145.out 1).trans rfl
               have hcz76_2 : wc.cell? ⟨gb145, 2, none⟩ = some (.slice A1_2 l1_2.length c1_2) := (blk_cell BK145.out 2).trans rfl
               have hfz76_0 := blk_frozen BK145.out 0
               have hfz76_1 := blk_frozen BK145.out 1
               have hfz76_2 := blk_frozen BK145.out 2
               have p155 : 0 ≤ ((ji67) : Int) := of_decide_eq_true (by first | (with_reducible assumption) | assumption)
               have q155 : (ji67) < (l1_2.length : Int) := of_decide_eq_true (by first | (with_reducible assumption) | assumption)
               obtain ⟨ad155, e155, hx155_0⟩ := Kd.at_int HR1_2.out (ji67) p155 q155
               cases e155
               (try replace hx155_0 := (HB.out.cell (World.block_lt_of_cell? w _ hx155_0)).trans hx155_0)
               replace p155 := eq_true p155
               replace q155 := eq_true q155
               have hcz77_0 : wc.cell? ⟨gb144, 0, none⟩ = some (.int .i64 a0_0) := (blk_cell BK144.out 0).trans rfl
               have hcz77_1 : wc.cell? ⟨gb144, 1, none⟩ = some (.slice A0_1 l0_1.length c0_1) := (blk_cell BK144.out 1).trans rfl
               have hcz77_2 : wc.cell? ⟨gb144, 2, none⟩ = some (.slice A0_2 l0_2.length c0_2) := (blk_cell BK144.out 2).trans rfl
               have hfz77_0 := blk_frozen BK144.out 0
               have hfz77_1 := blk_frozen BK144.out 1
               have hfz77_2 := blk_frozen BK144.out 2
               have p156 : 0 ≤ (a3 : Int) := of_decide_eq_true (by first | (with_reducible assumption) | assumption)
               have q156 : a3 < (l0_2.length : Int) := of_decide_eq_true (by first | (with_reducible assumption) | assumption)
               obtain ⟨ad156, A156_0, c156_0, e156, hx156_0, hl156_0, hi156_0⟩ := at_L1 HR0_2.out a3 p156 q156
               cases e156
               (try replace hx156_0 := (HB.out.cell (World.block_lt_of_cell? w _ hx156_0)).trans hx156_0)
               have HR156_0 := Aside0.mk hi156_0
               have HC156_0 := Aside0.mk hl156_0
               clear hi156_0 hl156_0
               replace p156 := eq_true p156
               replace q156 := eq_true q156
               go_wp2_with (first | (go_at_call 222; (with_reducible refine (spec_l14In.calls kj47 _ _ (rd_L1 l0_2 a3) (rd l1_2 (ji67)) true _ ?side1 ?side2 A73.out).mono ?_); (case side1 => repeat (first | exact (Kd.C_below HR156_0.out HB.out) | (with_reducible refine Kd.C_alloc ?_ _) | (with_reducible refine Kd.C_drewN ?_ _) | (with_reducible refine Kd.C_drew ?_))); (case side2 => exact HC156_0.out); rintro e w' ⟨rfl, ⟨nd, rfl⟩⟩))
               go_ret
               exact ⟨by first | rfl | (simp [errW_none, errW_some] <;> rfl) | (simp only [← hji67]; first | rfl | (simp [errW_none, errW_some] <;> rfl)) | (simp [*, errW_none, errW_some] <;> rfl), by repeat (first | (with_reducible first | exact HB.out | apply below_alloc | apply pw_below_drewN | apply below_drew1 | refine below_set ?_ GE144.out | refine below_set ?_ GE145.out) | exact HB.out)⟩
              ·replace c74 := Bool.eq_false_iff.mpr c74
               subst c74
               have H1 : (some false) = some r := by rw [if_neg (show ¬ (false = true) by decide)] at H; exact H
               clear H
               have H := H1
               clear H1
               obtain rfl := Option.some.inj H
               have hnb78 := NB145_144.out
               have hnc78 := NB144_145.out
               have hcz79_0 : wc.cell? ⟨gb145, 0, none⟩ = some (.int .i64 a1_0) := (blk_cell BK145.out 0).trans rfl
               have hcz79_1 : wc.cell? ⟨gb145, 1, none⟩ = some (.int .i64 a1_1) := (blk_cell BK145.out 1).trans rfl
               have hcz79_2 : wc.cell? ⟨gb145, 2, none⟩ = some (.slice A1_2 l1_2.length c1_2) := (blk_cell BK145.out 2).trans rfl
               have hfz79_0 := blk_frozen BK145.out 0
               have hfz79_1 := blk_frozen BK145.out 1
               have hfz79_2 := blk_frozen BK145.out 2
               have p155 : 0 ≤ ((ji67) : Int) := of_decide_eq_true (by first | (with_reducible assumption) | assumption)
               have q155 : (ji67) < (l1_2.length : Int) := of_decide_eq_true (by first | (with_reducible assumption) | assumption)
               obtain ⟨ad155, e155, hx155_0⟩ := Kd.at_int HR1_2.out (ji67) p155 q155
               cases e155
               (try replace hx155_0 := (HB.out.cell (World.block_lt_of_cell? w _ hx155_0)).trans hx155_0)
               replace p155 := eq_true p155
               replace q155 := eq_true q155
               have hcz80_0 : wc.cell? ⟨gb144, 0, none⟩ = some (.int .i64 a0_0) := (blk_cell BK144.out 0).trans rfl
               have hcz80_1 : wc.cell? ⟨gb144, 1, none⟩ = some (.slice A0_1 l0_1.length c0_1) := (blk_cell BK144.out 1).trans rfl
               have hcz80_2 : wc.cell? ⟨gb144, 2, none⟩ = some (.slice A0_2 l0_2.length c0_2) := (blk_cell BK144.out 2).trans rfl
               have hfz80_0 := blk_frozen BK144.out 0
               have hfz80_1 := blk_frozen BK144.out 1
               have hfz80_2 := blk_frozen BK144.out 2
               have p156 : 0 ≤ (a3 : Int) := of_decide_eq_true (by first | (with_reducible assumption) | assumption)
               have q156 : a3 < (l0_2.length : Int) := of_decide_eq_true (by first | (with_reducible assumption) | assumption)
               obtain ⟨ad156, A156_0, c156_0, e156, hx156_0, hl156_0, hi156_0⟩ := at_L1 HR0_2.out a3 p156 q156
               cases e156
               (try replace hx156_0 := (HB.out.cell (World.block_lt_of_cell? w _ hx156_0)).trans hx156_0)
               have HR156_0 := Aside0.mk hi156_0
               have HC156_0 := Aside0.mk hl156_0
               clear hi156_0 hl156_0
               replace p156 := eq_true p156
               replace q156 := eq_true q156
               go_wp2_with (first | (go_at_call 222; (with_reducible refine (spec_l14In.calls kj47 _ _ (rd_L1 l0_2 a3) (rd l1_2 (ji67)) false _ ?side1 ?side2 A73.out).mono ?_); (case side1 => repeat (first | exact (Kd.C_below HR156_0.out HB.out) | (with_reducible refine Kd.C_alloc ?_ _) | (with_reducible refine Kd.C_drewN ?_ _) | (with_reducible refine Kd.C_drew ?_))); (case side2 => exact HC156_0.out); rintro e w' ⟨rfl, ⟨nd, rfl⟩⟩))
               go_ret
               exact ⟨by first | rfl | (simp [errW_none, errW_some] <;> rfl) | (simp only [← hji67]; first | rfl | (simp [errW_none, errW_some] <;> rfl)) | (simp [*, errW_none, errW_some] <;> rfl), by repeat (first | (with_reducible first | exact HB.out | apply below_alloc | apply pw_below_drewN | apply below_drew1 | refine below_set ?_ GE144.out | refine below_set ?_ GE145.out) | exact HB.out)⟩
             ·rw [if_neg c72] at H
              exact absurd H (by simp)
            ·rw [if_neg c71] at H
             exact absurd H (by simp)
           ·rw [if_neg c70] at H
            have c70b0 : decide (0 ≤ (rd l1_2 (ji67))) = false := decide_eq_false c70
            clear c70
            obtain rfl := Option.some.inj H
            have hnb81 := NB145_144.out
            have hnc81 := NB144_145.out
            have hcz82_0 : wc.cell? ⟨gb145, 0, none⟩ = some (.int .i64 a1_0) := (blk_cell BK145.out 0).trans rfl
            have hcz82_1 : wc.cell? ⟨gb145, 1, none⟩ = some (.int .i64 a1_1) := (blk_cell BK145.out 1).trans rfl
            have hcz82_2 : wc.cell? ⟨gb145, 2, none⟩ = some (.slice A1_2 l1_2.length c1_2) := (blk_cell BK145.out 2).trans rfl
            have hfz82_0 := blk_frozen BK145.out 0
            have hfz82_1 := blk_frozen BK145.out 1
            have hfz82_2 := blk_frozen BK145.out 2
            have p155 : 0 ≤ ((ji67) : Int) := of_decide_eq_true (by first | (with_reducible assumption) | assumption)
            have q155 : (ji67) < (l1_2.length : Int) := of_decide_eq_true (by first | (with_reducible assumption) | assumption)
            obtain ⟨ad155, e155, hx155_0⟩ := Kd.at_int HR1_2.out (ji67) p155 q155
            cases e155
            (try replace hx155_0 := (HB.out.cell (World.block_lt_of_cell? w _ hx155_0)).trans hx155_0)
            replace p155 := eq_true p155
            replace q155 := eq_true q155
            go_wp2
            go_ret
            exact ⟨by first | rfl | (simp [errW_none, errW_some] <;> rfl) | (simp only [← hji67]; first | rfl | (simp [errW_none, errW_some] <;> rfl)) | (simp [*, errW_none, errW_some] <;> rfl), by repeat (first | (with_reducible first | exact HB.out | apply below_alloc | apply pw_below_drewN | apply below_drew1 | refine below_set ?_ GE144.out | refine below_set ?_ GE145.out) | exact HB.out)⟩
          ·rw [if_neg c69] at H
           exact absurd H (by simp)
         ·rw [if_neg c68] at H
          exact absurd H (by simp)
        ·rw [if_neg c66] at H
         have c66b0 : decide ((wrap64 (Int.tdiv a2 a1_0)) < (wrap64 (a1_1 - 1))) = false := decide_eq_false c66
         clear c66
         obtain rfl := Option.some.inj H
         have hnb83 := NB145_144.out
         have hnc83 := NB144_145.out
         have hcz84_0 : wc.cell? ⟨gb145, 0, none⟩ = some (.int .i64 a1_0) := (blk_cell BK145.out 0).trans rfl
         have hcz84_1 : wc.cell? ⟨gb145, 1, none⟩ = some (.int .i64 a1_1) := (blk_cell BK145.out 1).trans rfl
         have hcz84_2 : wc.cell? ⟨gb145, 2, none⟩ = some (.slice A1_2 l1_2.length c1_2) := (blk_cell BK145.out 2).trans rfl
         have hfz84_0 := blk_frozen BK145.out 0
         have hfz84_1 := blk_frozen BK145.out 1
         have hfz84_2 := blk_frozen BK145.out 2
         go_wp2
         go_ret
         exact ⟨by first | rfl | (simp [errW_none, errW_some] <;> rfl) | (simp [*, errW_none, errW_some] <;> rfl), by repeat (first | (with_reducible first | exact HB.out | apply below_alloc | apply pw_below_drewN | apply below_drew1 | refine below_set ?_ GE144.out | refine below_set ?_ GE145.out) | exact HB.out)⟩
end Go.Proofs.Ytjaljjdmolhhpaa.XFnExactFieldHolds
