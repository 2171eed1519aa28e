/- What the Go functions that this law comes to compute, each walked; written by a program of this session. -/
import Derived.Test.YtblmejanjhmjdaaXMark
import Derived.Test.YtblmejanjhmjdaaXFnExactFillFieldx0
import Derived.Test.YtblmejanjhmjdaaXFnExactFillFieldx4
namespace Go.Proofs.Ytblmejanjhmjdaa.XFnExactFillField
open Go.RowKit Go.Proofs.YtblmejanjhmjdaaW.PrintWords Go.Proofs.YtblmejanjhmjdaaW.PrintLast Go.Proofs.YtblmejanjhmjdaaW.PrintMore
attribute [local go_sem] str_geq max2_int min2_int max_two min_two max_three min_three max_four min_four   -- for this text's walks alone
set_option linter.unusedVariables false
set_option linter.unusedSimpArgs false

/-! ### spec_l14Fits: function 27 -/
mutual
def spec_l14Fits.j0 : Nat → Int → Int → Int → Int → Int → List (List Int) → List (List Int) → Int → Int → List Int → Option (Bool)
 | 0, _, _, _, _, _, _, _, _, _, _ => none
 | k + 1, x2, x3, x9, x10, x173000, x173001, x173002, x174000, x174001, x174002 => if x9 < (wrap64 (x174000 - 1)) then (if 0 ≤ (wrap64 (x2 + 1)) then (if (wrap64 (x2 + 1)) < (x174002.length : Int) then (if (rd x174002 (wrap64 (x2 + 1))) ≥ 0 then (if 0 ≤ x3 then (if x3 < (x173001.length : Int) then ((spec_l14In.f k (rd_L1 x173001 x3) (rd x174002 (wrap64 (x2 + 1)))).bind fun t179 => (if t179 = true then (spec_l14Fits.j1 k x2 x3 x10 x173000 x173001 x173002 x174000 x174001 x174002) else (some false))) else (none)) else (none)) else (spec_l14Fits.j1 k x2 x3 x10 x173000 x173001 x173002 x174000 x174001 x174002)) else (none)) else (none)) else (spec_l14Fits.j1 k x2 x3 x10 x173000 x173001 x173002 x174000 x174001 x174002)
def spec_l14Fits.j1 : Nat → Int → Int → Int → Int → List (List Int) → List (List Int) → Int → Int → List Int → Option (Bool)
 | 0, _, _, _, _, _, _, _, _, _ => none
 | k + 1, x2, x3, x10, x173000, x173001, x173002, x174000, x174001, x174002 => if x10 > 0 then (if 0 ≤ (wrap64 (x2 - x174000)) then (if (wrap64 (x2 - x174000)) < (x174002.length : Int) then (if (rd x174002 (wrap64 (x2 - x174000))) ≥ 0 then (if 0 ≤ (rd x174002 (wrap64 (x2 - x174000))) then (if (rd x174002 (wrap64 (x2 - x174000))) < (x173002.length : Int) then ((spec_l14In.f k (rd_L1 x173002 (rd x174002 (wrap64 (x2 - x174000)))) x3).bind fun t182 => (if t182 = true then (spec_l14Fits.j2 k x2 x3 x10 x173000 x173001 x173002 x174000 x174001 x174002) else (some false))) else (none)) else (none)) else (spec_l14Fits.j2 k x2 x3 x10 x173000 x173001 x173002 x174000 x174001 x174002)) else (none)) else (none)) else (spec_l14Fits.j2 k x2 x3 x10 x173000 x173001 x173002 x174000 x174001 x174002)
def spec_l14Fits.j2 : Nat → Int → Int → Int → Int → List (List Int) → List (List Int) → Int → Int → List Int → Option (Bool)
 | 0, _, _, _, _, _, _, _, _, _ => none
 | k + 1, x2, x3, x10, x173000, x173001, x173002, x174000, x174001, x174002 => if x10 < (wrap64 (x174001 - 1)) then (if 0 ≤ (wrap64 (x2 + x174000)) then (if (wrap64 (x2 + x174000)) < (x174002.length : Int) then (if (rd x174002 (wrap64 (x2 + x174000))) ≥ 0 then (if 0 ≤ x3 then (if x3 < (x173002.length : Int) then ((spec_l14In.f k (rd_L1 x173002 x3) (rd x174002 (wrap64 (x2 + x174000)))).bind fun t185 => (if t185 = true then (some true) else (some false))) else (none)) else (none)) else (some true)) else (none)) else (none)) else (some true)
end
def spec_l14Fits.f (k : Nat) (a0_0 : Int) (l0_1 : List (List Int)) (l0_2 : List (List Int)) (a1_0 : Int) (a1_1 : Int) (l1_2 : List Int) (a2 : Int) (a3 : Int) : Option (Bool) := if a1_0 = 0 then (none) else (if (Int.tmod a2 a1_0) > 0 then (if 0 ≤ (wrap64 (a2 - 1)) then (if (wrap64 (a2 - 1)) < (l1_2.length : Int) then (if (rd l1_2 (wrap64 (a2 - 1))) ≥ 0 then (if 0 ≤ (rd l1_2 (wrap64 (a2 - 1))) then (if (rd l1_2 (wrap64 (a2 - 1))) < (l0_1.length : Int) then ((spec_l14In.f k (rd_L1 l0_1 (rd l1_2 (wrap64 (a2 - 1)))) a3).bind fun t176 => (if t176 = true then (spec_l14Fits.j0 k a2 a3 (Int.tmod a2 a1_0) (wrap64 (Int.tdiv a2 a1_0)) a0_0 l0_1 l0_2 a1_0 a1_1 l1_2) else (some false))) else (none)) else (none)) else (spec_l14Fits.j0 k a2 a3 (Int.tmod a2 a1_0) (wrap64 (Int.tdiv a2 a1_0)) a0_0 l0_1 l0_2 a1_0 a1_1 l1_2)) else (none)) else (none)) else (spec_l14Fits.j0 k a2 a3 (Int.tmod a2 a1_0) (wrap64 (Int.tdiv a2 a1_0)) a0_0 l0_1 l0_2 a1_0 a1_1 l1_2))
theorem spec_l14Fits.mono_l : ∀ k, (∀ y0 y1 y2 y3 y4 y5 y6 y7 y8 y9, LeO (spec_l14Fits.j0 k y0 y1 y2 y3 y4 y5 y6 y7 y8 y9) (spec_l14Fits.j0 (k + 1) y0 y1 y2 y3 y4 y5 y6 y7 y8 y9)) ∧ (∀ y0 y1 y2 y3 y4 y5 y6 y7 y8, LeO (spec_l14Fits.j1 k y0 y1 y2 y3 y4 y5 y6 y7 y8) (spec_l14Fits.j1 (k + 1) y0 y1 y2 y3 y4 y5 y6 y7 y8)) ∧ (∀ y0 y1 y2 y3 y4 y5 y6 y7 y8, LeO (spec_l14Fits.j2 k y0 y1 y2 y3 y4 y5 y6 y7 y8) (spec_l14Fits.j2 (k + 1) y0 y1 y2 y3 y4 y5 y6 y7 y8))
 | 0 => ⟨fun _ _ _ _ _ _ _ _ _ _ r h => by simp [spec_l14Fits.j0] at h, fun _ _ _ _ _ _ _ _ _ r h => by simp [spec_l14Fits.j1] at h, fun _ _ _ _ _ _ _ _ _ r h => by simp [spec_l14Fits.j2] at h⟩
 | k + 1 => by
  obtain ⟨ih0, ih1, ih2⟩ := spec_l14Fits.mono_l k
  refine ⟨?_, ?_, ?_⟩
  ·intro y0 y1 y2 y3 y4 y5 y6 y7 y8 y9
   unfold spec_l14Fits.j0
   repeat' first
   | (with_reducible exact ih0 _ _ _ _ _ _ _ _ _ _)
   | (with_reducible exact ih1 _ _ _ _ _ _ _ _ _)
   | (with_reducible exact ih2 _ _ _ _ _ _ _ _ _)
   | (with_reducible exact spec_l14In.mono _ _ _)
   | (with_reducible exact LeO.refl _)
   | (with_reducible exact LeO.none _)
   | (with_reducible refine LeO.ite ?_ ?_)
   | (with_reducible refine LeO.bind ?_ (fun _ => ?_))
   | exact ih0 _ _ _ _ _ _ _ _ _ _
   | exact ih1 _ _ _ _ _ _ _ _ _
   | exact ih2 _ _ _ _ _ _ _ _ _
   | exact spec_l14In.mono _ _ _
   | exact LeO.none _
   | refine LeO.ite ?_ ?_
   | refine LeO.bind ?_ (fun _ => ?_)
  ·intro y0 y1 y2 y3 y4 y5 y6 y7 y8
   unfold spec_l14Fits.j1
   repeat' first
   | (with_reducible exact ih0 _ _ _ _ _ _ _ _ _ _)
   | (with_reducible exact ih1 _ _ _ _ _ _ _ _ _)
   | (with_reducible exact ih2 _ _ _ _ _ _ _ _ _)
   | (with_reducible exact spec_l14In.mono _ _ _)
   | (with_reducible exact LeO.refl _)
   | (with_reducible exact LeO.none _)
   | (with_reducible refine LeO.ite ?_ ?_)
   | (with_reducible refine LeO.bind ?_ (fun _ => ?_))
   | exact ih0 _ _ _ _ _ _ _ _ _ _
   | exact ih1 _ _ _ _ _ _ _ _ _
   | exact ih2 _ _ _ _ _ _ _ _ _
   | exact spec_l14In.mono _ _ _
   | exact LeO.none _
   | refine LeO.ite ?_ ?_
   | refine LeO.bind ?_ (fun _ => ?_)
  ·intro y0 y1 y2 y3 y4 y5 y6 y7 y8
   unfold spec_l14Fits.j2
   repeat' first
   | (with_reducible exact ih0 _ _ _ _ _ _ _ _ _ _)
   | (with_reducible exact ih1 _ _ _ _ _ _ _ _ _)
   | (with_reducible exact ih2 _ _ _ _ _ _ _ _ _)
   | (with_reducible exact spec_l14In.mono _ _ _)
   | (with_reducible exact LeO.refl _)
   | (with_reducible exact LeO.none _)
   | (with_reducible refine LeO.ite ?_ ?_)
   | (with_reducible refine LeO.bind ?_ (fun _ => ?_))
   | exact ih0 _ _ _ _ _ _ _ _ _ _
   | exact ih1 _ _ _ _ _ _ _ _ _
   | exact ih2 _ _ _ _ _ _ _ _ _
   | exact spec_l14In.mono _ _ _
   | exact LeO.none _
   | refine LeO.ite ?_ ?_
   | refine LeO.bind ?_ (fun _ => ?_)
theorem spec_l14Fits.mono : ∀ a0 a1 a2 a3 a4 a5 a6 a7 k, LeO (spec_l14Fits.f k a0 a1 a2 a3 a4 a5 a6 a7) (spec_l14Fits.f (k + 1) a0 a1 a2 a3 a4 a5 a6 a7) := by
 intro a0 a1 a2 a3 a4 a5 a6 a7 k
 obtain ⟨ih0, ih1, ih2⟩ := spec_l14Fits.mono_l k
 unfold spec_l14Fits.f
 repeat' first
   | (with_reducible exact ih0 _ _ _ _ _ _ _ _ _ _)
   | (with_reducible exact ih1 _ _ _ _ _ _ _ _ _)
   | (with_reducible exact ih2 _ _ _ _ _ _ _ _ _)
   | (with_reducible exact spec_l14In.mono _ _ _)
   | (with_reducible exact LeO.refl _)
   | (with_reducible exact LeO.none _)
   | (with_reducible refine LeO.ite ?_ ?_)
   | (with_reducible refine LeO.bind ?_ (fun _ => ?_))
   | exact ih0 _ _ _ _ _ _ _ _ _ _
   | exact ih1 _ _ _ _ _ _ _ _ _
   | exact ih2 _ _ _ _ _ _ _ _ _
   | exact spec_l14In.mono _ _ _
   | exact LeO.none _
   | refine LeO.ite ?_ ?_
   | refine LeO.bind ?_ (fun _ => ?_)
set_option maxHeartbeats 8000000 in
set_option maxRecDepth 100000 in
theorem spec_l14Fits.calls (k : Nat) (a0_0 : Int) (A0_1 : Option Addr) (c0_1 : Nat) (l0_1 : List (List Int)) (A0_2 : Option Addr) (c0_2 : Nat) (l0_2 : List (List Int)) (a1_0 : Int) (a1_1 : Int) (A1_2 : Option Addr) (c1_2 : Nat) (l1_2 : List Int) (a2 : Int) (a3 : Int) (r : Bool) (w : World) (hr0_1 : Kd.C (Kd.slice 3 (Kd.int .i64)) w A0_1 l0_1.length l0_1) (hc0_1 : l0_1.length ≤ c0_1) (hr0_2 : Kd.C (Kd.slice 3 (Kd.int .i64)) w A0_2 l0_2.length l0_2) (hc0_2 : l0_2.length ≤ c0_2) (hr1_2 : Kd.C (Kd.int .i64) w A1_2 l1_2.length l1_2) (hc1_2 : l1_2.length ≤ c1_2) (h : spec_l14Fits.f k a0_0 l0_1 l0_2 a1_0 a1_1 l1_2 a2 a3 = some r) :
  Calls Try.prog 27 #[.agg #[.int .i64 a0_0, .slice A0_1 l0_1.length c0_1, .slice A0_2 l0_2.length c0_2], .agg #[.int .i64 a1_0, .int .i64 a1_1, .slice A1_2 l1_2.length c1_2], .int .i64 a2, .int .i64 a3] w fun e w' => e = .returned (.bool r) ∧ Below w.heap.size w w' := by
 have hu32 := Try.underlying32
 have hu34 := Try.underlying34
 have HR0_1 := Aside0.mk hr0_1
 have HC0_1 := Aside0.mk hc0_1
 clear hr0_1 hc0_1
 have HR0_2 := Aside0.mk hr0_2
 have HC0_2 := Aside0.mk hc0_2
 clear hr0_2 hc0_2
 have HR1_2 := Aside0.mk hr1_2
 have HC1_2 := Aside0.mk hc1_2
 clear hr1_2 hc1_2
 have HB := Aside0.mk (Below.refl w.heap.size w)
 have H : (if a1_0 = 0 then (none) else (if (Int.tmod a2 a1_0) > 0 then (if 0 ≤ (wrap64 (a2 - 1)) then (if (wrap64 (a2 - 1)) < (l1_2.length : Int) then (if (rd l1_2 (wrap64 (a2 - 1))) ≥ 0 then (if 0 ≤ (rd l1_2 (wrap64 (a2 - 1))) then (if (rd l1_2 (wrap64 (a2 - 1))) < (l0_1.length : Int) then ((spec_l14In.f k (rd_L1 l0_1 (rd l1_2 (wrap64 (a2 - 1)))) a3).bind fun t176 => (if t176 = true then (spec_l14Fits.j0 k a2 a3 (Int.tmod a2 a1_0) (wrap64 (Int.tdiv a2 a1_0)) a0_0 l0_1 l0_2 a1_0 a1_1 l1_2) else (some false))) else (none)) else (none)) else (spec_l14Fits.j0 k a2 a3 (Int.tmod a2 a1_0) (wrap64 (Int.tdiv a2 a1_0)) a0_0 l0_1 l0_2 a1_0 a1_1 l1_2)) else (none)) else (none)) else (spec_l14Fits.j0 k a2 a3 (Int.tmod a2 a1_0) (wrap64 (Int.tdiv a2 a1_0)) a0_0 l0_1 l0_2 a1_0 a1_1 l1_2))) = some r := h
 clear h
 by_cases c5 : a1_0 = 0
 ·rw [if_pos c5] at H
  exact absurd H (by simp)
 ·rw [if_neg c5] at H
  have c5b0 : (a1_0 == 0) = false := beq_eq_false_iff_ne.mpr c5
  have c5b1 : (a1_0 != 0) = true := bne_iff_ne.mpr c5
  have HC6 := Aside0.mk H
  clear H
  go_enter Try.func27, Try.ntmps27
  go_upto_if 24 with (first | ((with_reducible refine gate_dst (N := 4) rfl ?_); refine bx_ 4 #[.int .i64 a0_0, .slice A0_1 l0_1.length c0_1, .slice A0_2 l0_2.length c0_2] 32 ?_; intro gb172 hg w7 hbox hb; have n0_ := Aside0.mk (below_step (bw_ HB.out) hb); have n1_ := Aside0.mk (hbox); have n2_ := Aside0.mk (gs_ hg (bw_ HB.out)); have n3_ := Aside0.mk (gs_ hg (bw_ HB.out)); clear HB; have HB := n0_; have BK172 := n1_; have GW172 := n2_; have GE172 := n3_; clear n0_ n1_ n2_ n3_; clear hb hbox hg) | ((with_reducible refine gate_dst (N := 5) rfl ?_); refine bx_ 5 #[.int .i64 a1_0, .int .i64 a1_1, .slice A1_2 l1_2.length c1_2] 34 ?_; intro gb173 hg w8 hbox hb; have n0_ := Aside0.mk (blk_below (bk_ BK172.out) hb); have n1_ := Aside0.mk (below_step (bw_ HB.out) hb); have n2_ := Aside0.mk (hbox); have n3_ := Aside0.mk (gs_ hg (bw_ HB.out)); have n4_ := Aside0.mk (gs_ hg (bw_ HB.out)); have n5_ := Aside0.mk (nl_ hg (bk_ BK172.out)); have n6_ := Aside0.mk (ng_ hg (bk_ BK172.out)); clear BK172; clear HB; have BK172 := n0_; have HB := n1_; have BK173 := n2_; have GW173 := n3_; have GE173 := n4_; have NB172_173 := n5_; have NB173_172 := n6_; clear n0_ n1_ n2_ n3_ n4_ n5_ n6_; clear hb hbox hg; have hnb9 := NB173_172.out; have hnc9 := NB172_173.out; have hcz10_0 := cz_ BK173.out 0; have hcz10_1 := cz_ BK173.out 1; have hcz10_2 := cz_ BK173.out 2; have hfz10_0 := blk_frozen BK173.out 0; have hfz10_1 := blk_frozen BK173.out 1; have hfz10_2 := blk_frozen BK173.out 2))
  (try simp only [Act.put, List.setIfInBounds_toArray, List.set_cons_zero, List.set_cons_succ])
  go_cut [] (fun wc => ∃ (kq : Nat), Aside0 (spec_l14Fits.j0 kq a2 a3 (Int.tmod a2 a1_0) (wrap64 (Int.tdiv a2 a1_0)) a0_0 l0_1 l0_2 a1_0 a1_1 l1_2 = some r) ∧ Aside0 (kq ≤ k) ∧ Aside0 (wc.heap[gb172]? = some (.cells #[.int .i64 a0_0, (.slice A0_1 l0_1.length c0_1), (.slice A0_2 l0_2.length c0_2)] 32 (0, 0))) ∧ Aside0 (wc.heap[gb173]? = some (.cells #[.int .i64 a1_0, .int .i64 a1_1, (.slice A1_2 l1_2.length c1_2)] 34 (0, 0))) ∧ Aside0 (Below w.heap.size w wc))
  case first =>
   have H := HC6.out
   clear HC6
   by_cases c11 : (Int.tmod a2 a1_0) > 0
   ·rw [if_pos c11] at H
    have c11b0 : decide (0 < (Int.tmod a2 a1_0)) = true := decide_eq_true c11
    clear c11
    (first | rw [c11b0] | (simp only [i64_w, i32_w]; rw [c11b0]) | skip)
    obtain ⟨ji12, hji12⟩ : ∃ j_ : Int, (wrap64 (a2 - 1)) = j_ := ⟨_, rfl⟩
    replace H : (if 0 ≤ (ji12) then (if (ji12) < (l1_2.length : Int) then (if (rd l1_2 (ji12)) ≥ 0 then (if 0 ≤ (rd l1_2 (ji12)) then (if (rd l1_2 (ji12)) < (l0_1.length : Int) then ((spec_l14In.f k (rd_L1 l0_1 (rd l1_2 (ji12))) a3).bind fun t176 => (if t176 = true then (spec_l14Fits.j0 k a2 a3 (Int.tmod a2 a1_0) (wrap64 (Int.tdiv a2 a1_0)) a0_0 l0_1 l0_2 a1_0 a1_1 l1_2) else (some false))) else (none)) else (none)) else (spec_l14Fits.j0 k a2 a3 (Int.tmod a2 a1_0) (wrap64 (Int.tdiv a2 a1_0)) a0_0 l0_1 l0_2 a1_0 a1_1 l1_2)) else (none)) else (none)) = some r := by first | (rw [hji12] at H; exact H) | (simp only [hji12] at H ⊢; exact H)
    have hji12w : (IntKind.i64.wrap (a2 - 1)) = ji12 := (i64_w _).trans hji12
    by_cases c13 : 0 ≤ (ji12)
    ·rw [if_pos c13] at H
     have c13b0 : decide (0 ≤ (ji12)) = true := decide_eq_true c13
     clear c13
     by_cases c14 : (ji12) < (l1_2.length : Int)
     ·rw [if_pos c14] at H
      have c14b0 : decide ((ji12) < (l1_2.length : Int)) = true := decide_eq_true c14
      clear c14
      by_cases c15 : (rd l1_2 (ji12)) ≥ 0
      ·rw [if_pos c15] at H
       have c15b0 : decide (0 ≤ (rd l1_2 (ji12))) = true := decide_eq_true c15
       clear c15
       by_cases c16 : 0 ≤ (rd l1_2 (ji12))
       ·rw [if_pos c16] at H
        have c16b0 : decide (0 ≤ (rd l1_2 (ji12))) = true := decide_eq_true c16
        clear c16
        by_cases c17 : (rd l1_2 (ji12)) < (l0_1.length : Int)
        ·rw [if_pos c17] at H
         have c17b0 : decide ((rd l1_2 (ji12)) < (l0_1.length : Int)) = true := decide_eq_true c17
         clear c17
         obtain ⟨t176, A180, H⟩ := bE_ H
         have A18 := Aside0.mk A180
         clear A180
         by_cases c19 : t176 = true
         ·subst c19
          replace H := it_ H rfl
          have H' := Aside0.mk H
          clear H
          have hnb20 := NB173_172.out
          have hnc20 := NB172_173.out
          have hcz21_0 := cz_ BK173.out 0
          have hcz21_1 := cz_ BK173.out 1
          have hcz21_2 := cz_ BK173.out 2
          have hfz21_0 := blk_frozen BK173.out 0
          have hfz21_1 := blk_frozen BK173.out 1
          have hfz21_2 := blk_frozen BK173.out 2
          have p174 : 0 ≤ ((ji12) : Int) := of_decide_eq_true (by first | (with_reducible assumption) | assumption)
          have q174 : (ji12) < (l1_2.length : Int) := of_decide_eq_true (by first | (with_reducible assumption) | assumption)
          obtain ⟨ad174, e174, hx174_0⟩ := Kd.at_int HR1_2.out (ji12) p174 q174
          cases e174
          (try replace hx174_0 := (HB.out.cell (World.block_lt_of_cell? w _ hx174_0)).trans hx174_0)
          replace p174 := eq_true p174
          replace q174 := eq_true q174
          have hcz22_0 := cz_ BK172.out 0
          have hcz22_1 := cz_ BK172.out 1
          have hcz22_2 := cz_ BK172.out 2
          have hfz22_0 := blk_frozen BK172.out 0
          have hfz22_1 := blk_frozen BK172.out 1
          have hfz22_2 := blk_frozen BK172.out 2
          have p175 : 0 ≤ ((rd l1_2 (ji12)) : Int) := of_decide_eq_true (by first | (with_reducible assumption) | assumption)
          have q175 : (rd l1_2 (ji12)) < (l0_1.length : Int) := of_decide_eq_true (by first | (with_reducible assumption) | assumption)
          obtain ⟨ad175, A175_0, c175_0, e175, hx175_0, hl175_0, hi175_0⟩ := at_L1 HR0_1.out (rd l1_2 (ji12)) p175 q175
          cases e175
          (try replace hx175_0 := (HB.out.cell (World.block_lt_of_cell? w _ hx175_0)).trans hx175_0)
          have HR175_0 := Aside0.mk hi175_0
          have HC175_0 := Aside0.mk hl175_0
          clear hi175_0 hl175_0
          replace p175 := eq_true p175
          replace q175 := eq_true q175
          go_wp2_with (first | (go_at_call 42; (with_reducible refine (spec_l14In.calls k _ _ (rd_L1 l0_1 (rd l1_2 (ji12))) a3 true _ ?side1 ?side2 A18.out).mono ?_); (case side1 => repeat (first | exact (Kd.C_below HR175_0.out HB.out) | (with_reducible refine Kd.C_alloc ?_ _) | (with_reducible refine Kd.C_drewN ?_ _) | (with_reducible refine Kd.C_drew ?_))); (case side2 => exact HC175_0.out); rintro e w' ⟨rfl, ⟨nd, rfl⟩⟩))
          go_meet
          case rel => exact ⟨_, H', ⟨by first | omega | exact Nat.le_refl _⟩, ⟨by (with_reducible repeat (first | refine blk_drewN ?_ _ | refine blk_drew ?_ | refine blk_alloc ?_ _)); exact BK172.out⟩, ⟨by (with_reducible repeat (first | refine blk_drewN ?_ _ | refine blk_drew ?_ | refine blk_alloc ?_ _)); exact BK173.out⟩, ⟨bw_ HB.out⟩⟩
         ·replace c19 := Bool.eq_false_iff.mpr c19
          subst c19
          replace H := if_ H Bool.false_ne_true
          obtain rfl := Option.some.inj H
          have hnb23 := NB173_172.out
          have hnc23 := NB172_173.out
          have hcz24_0 := cz_ BK173.out 0
          have hcz24_1 := cz_ BK173.out 1
          have hcz24_2 := cz_ BK173.out 2
          have hfz24_0 := blk_frozen BK173.out 0
          have hfz24_1 := blk_frozen BK173.out 1
          have hfz24_2 := blk_frozen BK173.out 2
          have p174 : 0 ≤ ((ji12) : Int) := of_decide_eq_true (by first | (with_reducible assumption) | assumption)
          have q174 : (ji12) < (l1_2.length : Int) := of_decide_eq_true (by first | (with_reducible assumption) | assumption)
          obtain ⟨ad174, e174, hx174_0⟩ := Kd.at_int HR1_2.out (ji12) p174 q174
          cases e174
          (try replace hx174_0 := (HB.out.cell (World.block_lt_of_cell? w _ hx174_0)).trans hx174_0)
          replace p174 := eq_true p174
          replace q174 := eq_true q174
          have hcz25_0 := cz_ BK172.out 0
          have hcz25_1 := cz_ BK172.out 1
          have hcz25_2 := cz_ BK172.out 2
          have hfz25_0 := blk_frozen BK172.out 0
          have hfz25_1 := blk_frozen BK172.out 1
          have hfz25_2 := blk_frozen BK172.out 2
          have p175 : 0 ≤ ((rd l1_2 (ji12)) : Int) := of_decide_eq_true (by first | (with_reducible assumption) | assumption)
          have q175 : (rd l1_2 (ji12)) < (l0_1.length : Int) := of_decide_eq_true (by first | (with_reducible assumption) | assumption)
          obtain ⟨ad175, A175_0, c175_0, e175, hx175_0, hl175_0, hi175_0⟩ := at_L1 HR0_1.out (rd l1_2 (ji12)) p175 q175
          cases e175
          (try replace hx175_0 := (HB.out.cell (World.block_lt_of_cell? w _ hx175_0)).trans hx175_0)
          have HR175_0 := Aside0.mk hi175_0
          have HC175_0 := Aside0.mk hl175_0
          clear hi175_0 hl175_0
          replace p175 := eq_true p175
          replace q175 := eq_true q175
          go_wp2_with (first | (go_at_call 42; (with_reducible refine (spec_l14In.calls k _ _ (rd_L1 l0_1 (rd l1_2 (ji12))) a3 false _ ?side1 ?side2 A18.out).mono ?_); (case side1 => repeat (first | exact (Kd.C_below HR175_0.out HB.out) | (with_reducible refine Kd.C_alloc ?_ _) | (with_reducible refine Kd.C_drewN ?_ _) | (with_reducible refine Kd.C_drew ?_))); (case side2 => exact HC175_0.out); rintro e w' ⟨rfl, ⟨nd, rfl⟩⟩))
          go_ret
          exact ⟨by first | rfl | (simp [errW_none, errW_some] <;> rfl) | (simp only [← hji12]; first | rfl | (simp [errW_none, errW_some] <;> rfl)) | (simp [*, errW_none, errW_some] <;> rfl), bw_ HB.out⟩
        ·rw [if_neg c17] at H
         exact absurd H (by simp)
       ·rw [if_neg c16] at H
        exact absurd H (by simp)
      ·rw [if_neg c15] at H
       have c15b0 : decide (0 ≤ (rd l1_2 (ji12))) = false := decide_eq_false c15
       clear c15
       have H' := Aside0.mk H
       clear H
       have hnb26 := NB173_172.out
       have hnc26 := NB172_173.out
       have hcz27_0 := cz_ BK173.out 0
       have hcz27_1 := cz_ BK173.out 1
       have hcz27_2 := cz_ BK173.out 2
       have hfz27_0 := blk_frozen BK173.out 0
       have hfz27_1 := blk_frozen BK173.out 1
       have hfz27_2 := blk_frozen BK173.out 2
       have p174 : 0 ≤ ((ji12) : Int) := of_decide_eq_true (by first | (with_reducible assumption) | assumption)
       have q174 : (ji12) < (l1_2.length : Int) := of_decide_eq_true (by first | (with_reducible assumption) | assumption)
       obtain ⟨ad174, e174, hx174_0⟩ := Kd.at_int HR1_2.out (ji12) p174 q174
       cases e174
       (try replace hx174_0 := (HB.out.cell (World.block_lt_of_cell? w _ hx174_0)).trans hx174_0)
       replace p174 := eq_true p174
       replace q174 := eq_true q174
       go_wp2
       go_meet
       case rel => exact ⟨_, H', ⟨by first | omega | exact Nat.le_refl _⟩, ⟨by (with_reducible repeat (first | refine blk_drewN ?_ _ | refine blk_drew ?_ | refine blk_alloc ?_ _)); exact BK172.out⟩, ⟨by (with_reducible repeat (first | refine blk_drewN ?_ _ | refine blk_drew ?_ | refine blk_alloc ?_ _)); exact BK173.out⟩, ⟨bw_ HB.out⟩⟩
     ·rw [if_neg c14] at H
      exact absurd H (by simp)
    ·rw [if_neg c13] at H
     exact absurd H (by simp)
   ·rw [if_neg c11] at H
    have c11b0 : decide (0 < (Int.tmod a2 a1_0)) = false := decide_eq_false c11
    clear c11
    (first | rw [c11b0] | (simp only [i64_w, i32_w]; rw [c11b0]) | skip)
    have H' := Aside0.mk H
    clear H
    go_wp2
    go_meet
    case rel => exact ⟨_, H', ⟨by first | omega | exact Nat.le_refl _⟩, ⟨by (with_reducible repeat (first | refine blk_drewN ?_ _ | refine blk_drew ?_ | refine blk_alloc ?_ _)); exact BK172.out⟩, ⟨by (with_reducible repeat (first | refine blk_drewN ?_ _ | refine blk_drew ?_ | refine blk_alloc ?_ _)); exact BK173.out⟩, ⟨bw_ HB.out⟩⟩
  case rest =>
   clear HC6
   try clear c1
   try clear p1
   try clear q1
   try clear hx1
   try clear c2
   try clear p2
   try clear c5
   try clear c5b0
   try clear c5b1
   try clear p6
   try clear c9
   try clear c11
   try clear c11b0
   try clear c13
   try clear c13b0
   try clear c14
   try clear c14b0
   try clear c15
   try clear c15b0
   try clear c16
   try clear c16b0
   try clear c17
   try clear c17b0
   try clear p17
   try clear q17
   try clear hx17
   try clear c19
   try clear c20
   try clear c23
   try clear c26
   try clear c27
   try clear hcz10_0
   try clear hcz10_1
   try clear hcz10_2
   try clear hcz21_0
   try clear hcz21_1
   try clear hcz21_2
   try clear hcz22_0
   try clear hcz22_1
   try clear hcz22_2
   try clear hcz24_0
   try clear hcz24_1
   try clear hcz24_2
   try clear hcz25_0
   try clear hcz25_1
   try clear hcz25_2
   try clear hcz27_0
   try clear hcz27_1
   try clear hcz27_2
   try clear hfz10_0
   try clear hfz10_1
   try clear hfz10_2
   try clear hfz21_0
   try clear hfz21_1
   try clear hfz21_2
   try clear hfz22_0
   try clear hfz22_1
   try clear hfz22_2
   try clear hfz24_0
   try clear hfz24_1
   try clear hfz24_2
   try clear hfz25_0
   try clear hfz25_1
   try clear hfz25_2
   try clear hfz27_0
   try clear hfz27_1
   try clear hfz27_2
   try clear hx174_0
   try clear hx175_0
   try clear p174
   try clear p175
   try clear q174
   try clear q175
   obtain ⟨kq, HA, HJ5, BK172, BK173, HB⟩ := hcut
   cases kq with
   | zero => exact absurd HA.out (by simp [spec_l14Fits.j0])
   | succ kj5 =>
    have H := HA.out
    clear HA
    simp only [spec_l14Fits.j0] at H
    have HC28 := Aside0.mk H
    clear H
    have hnb29 := NB173_172.out
    have hnc29 := NB172_173.out
    have hcz30_0 := cz_ BK173.out 0
    have hcz30_1 := cz_ BK173.out 1
    have hcz30_2 := cz_ BK173.out 2
    have hfz30_0 := blk_frozen BK173.out 0
    have hfz30_1 := blk_frozen BK173.out 1
    have hfz30_2 := blk_frozen BK173.out 2
    go_upto_if 47 with (fail)
    go_cut [] (fun wc => ∃ (kq : Nat), Aside0 (spec_l14Fits.j1 kq a2 a3 (wrap64 (Int.tdiv a2 a1_0)) a0_0 l0_1 l0_2 a1_0 a1_1 l1_2 = some r) ∧ Aside0 (kq ≤ kj5) ∧ Aside0 (wc.heap[gb172]? = some (.cells #[.int .i64 a0_0, (.slice A0_1 l0_1.length c0_1), (.slice A0_2 l0_2.length c0_2)] 32 (0, 0))) ∧ Aside0 (wc.heap[gb173]? = some (.cells #[.int .i64 a1_0, .int .i64 a1_1, (.slice A1_2 l1_2.length c1_2)] 34 (0, 0))) ∧ Aside0 (Below w.heap.size w wc))
    case first =>
     have H := HC28.out
     clear HC28
     by_cases c31 : (Int.tmod a2 a1_0) < (wrap64 (a1_0 - 1))
     ·rw [if_pos c31] at H
      have c31b0 : decide ((Int.tmod a2 a1_0) < (wrap64 (a1_0 - 1))) = true := decide_eq_true c31
      clear c31
      (first | rw [c31b0] | (simp only [i64_w, i32_w]; rw [c31b0]) | skip)
      obtain ⟨ji32, hji32⟩ : ∃ j_ : Int, (wrap64 (a2 + 1)) = j_ := ⟨_, rfl⟩
      replace H : (if 0 ≤ (ji32) then (if (ji32) < (l1_2.length : Int) then (if (rd l1_2 (ji32)) ≥ 0 then (if 0 ≤ a3 then (if a3 < (l0_1.length : Int) then ((spec_l14In.f kj5 (rd_L1 l0_1 a3) (rd l1_2 (ji32))).bind fun t179 => (if t179 = true then (spec_l14Fits.j1 kj5 a2 a3 (wrap64 (Int.tdiv a2 a1_0)) a0_0 l0_1 l0_2 a1_0 a1_1 l1_2) else (some false))) else (none)) else (none)) else (spec_l14Fits.j1 kj5 a2 a3 (wrap64 (Int.tdiv a2 a1_0)) a0_0 l0_1 l0_2 a1_0 a1_1 l1_2)) else (none)) else (none)) = some r := by first | (rw [hji32] at H; exact H) | (simp only [hji32] at H ⊢; exact H)
      have hji32w : (IntKind.i64.wrap (a2 + 1)) = ji32 := (i64_w _).trans hji32
      by_cases c33 : 0 ≤ (ji32)
      ·rw [if_pos c33] at H
       have c33b0 : decide (0 ≤ (ji32)) = true := decide_eq_true c33
       clear c33
       by_cases c34 : (ji32) < (l1_2.length : Int)
       ·rw [if_pos c34] at H
        have c34b0 : decide ((ji32) < (l1_2.length : Int)) = true := decide_eq_true c34
        clear c34
        by_cases c35 : (rd l1_2 (ji32)) ≥ 0
        ·rw [if_pos c35] at H
         have c35b0 : decide (0 ≤ (rd l1_2 (ji32))) = true := decide_eq_true c35
         clear c35
         by_cases c36 : 0 ≤ a3
         ·rw [if_pos c36] at H
          have c36b0 : decide (0 ≤ a3) = true := decide_eq_true c36
          clear c36
          by_cases c37 : a3 < (l0_1.length : Int)
          ·rw [if_pos c37] at H
           have c37b0 : decide (a3 < (l0_1.length : Int)) = true := decide_eq_true c37
           clear c37
           obtain ⟨t179, A380, H⟩ := bE_ H
           have A38 := Aside0.mk A380
           clear A380
           by_cases c39 : t179 = true
           ·subst c39
            replace H := it_ H rfl
            have H' := Aside0.mk H
            clear H
            have hnb40 := NB173_172.out
            have hnc40 := NB172_173.out
            have hcz41_0 := cz_ BK173.out 0
            have hcz41_1 := cz_ BK173.out 1
            have hcz41_2 := cz_ BK173.out 2
            have hfz41_0 := blk_frozen BK173.out 0
            have hfz41_1 := blk_frozen BK173.out 1
            have hfz41_2 := blk_frozen BK173.out 2
            have p177 : 0 ≤ ((ji32) : Int) := of_decide_eq_true (by first | (with_reducible assumption) | assumption)
            have q177 : (ji32) < (l1_2.length : Int) := of_decide_eq_true (by first | (with_reducible assumption) | assumption)
            obtain ⟨ad177, e177, hx177_0⟩ := Kd.at_int HR1_2.out (ji32) p177 q177
            cases e177
            (try replace hx177_0 := (HB.out.cell (World.block_lt_of_cell? w _ hx177_0)).trans hx177_0)
            replace p177 := eq_true p177
            replace q177 := eq_true q177
            have hcz42_0 := cz_ BK172.out 0
            have hcz42_1 := cz_ BK172.out 1
            have hcz42_2 := cz_ BK172.out 2
            have hfz42_0 := blk_frozen BK172.out 0
            have hfz42_1 := blk_frozen BK172.out 1
            have hfz42_2 := blk_frozen BK172.out 2
            have p178 : 0 ≤ (a3 : Int) := of_decide_eq_true (by first | (with_reducible assumption) | assumption)
            have q178 : a3 < (l0_1.length : Int) := of_decide_eq_true (by first | (with_reducible assumption) | assumption)
            obtain ⟨ad178, A178_0, c178_0, e178, hx178_0, hl178_0, hi178_0⟩ := at_L1 HR0_1.out a3 p178 q178
            cases e178
            (try replace hx178_0 := (HB.out.cell (World.block_lt_of_cell? w _ hx178_0)).trans hx178_0)
            have HR178_0 := Aside0.mk hi178_0
            have HC178_0 := Aside0.mk hl178_0
            clear hi178_0 hl178_0
            replace p178 := eq_true p178
            replace q178 := eq_true q178
            go_wp2_with (first | (go_at_call 42; (with_reducible refine (spec_l14In.calls kj5 _ _ (rd_L1 l0_1 a3) (rd l1_2 (ji32)) true _ ?side1 ?side2 A38.out).mono ?_); (case side1 => repeat (first | exact (Kd.C_below HR178_0.out HB.out) | (with_reducible refine Kd.C_alloc ?_ _) | (with_reducible refine Kd.C_drewN ?_ _) | (with_reducible refine Kd.C_drew ?_))); (case side2 => exact HC178_0.out); rintro e w' ⟨rfl, ⟨nd, rfl⟩⟩))
            go_meet
            case rel => exact ⟨_, H', ⟨by have := HJ5.out; first | omega | exact Nat.le_refl _⟩, ⟨by (with_reducible repeat (first | refine blk_drewN ?_ _ | refine blk_drew ?_ | refine blk_alloc ?_ _)); exact BK172.out⟩, ⟨by (with_reducible repeat (first | refine blk_drewN ?_ _ | refine blk_drew ?_ | refine blk_alloc ?_ _)); exact BK173.out⟩, ⟨bw_ HB.out⟩⟩
           ·replace c39 := Bool.eq_false_iff.mpr c39
            subst c39
            replace H := if_ H Bool.false_ne_true
            obtain rfl := Option.some.inj H
            have hnb43 := NB173_172.out
            have hnc43 := NB172_173.out
            have hcz44_0 := cz_ BK173.out 0
            have hcz44_1 := cz_ BK173.out 1
            have hcz44_2 := cz_ BK173.out 2
            have hfz44_0 := blk_frozen BK173.out 0
            have hfz44_1 := blk_frozen BK173.out 1
            have hfz44_2 := blk_frozen BK173.out 2
            have p177 : 0 ≤ ((ji32) : Int) := of_decide_eq_true (by first | (with_reducible assumption) | assumption)
            have q177 : (ji32) < (l1_2.length : Int) := of_decide_eq_true (by first | (with_reducible assumption) | assumption)
            obtain ⟨ad177, e177, hx177_0⟩ := Kd.at_int HR1_2.out (ji32) p177 q177
            cases e177
            (try replace hx177_0 := (HB.out.cell (World.block_lt_of_cell? w _ hx177_0)).trans hx177_0)
            replace p177 := eq_true p177
            replace q177 := eq_true q177
            have hcz45_0 := cz_ BK172.out 0
            have hcz45_1 := cz_ BK172.out 1
            have hcz45_2 := cz_ BK172.out 2
            have hfz45_0 := blk_frozen BK172.out 0
            have hfz45_1 := blk_frozen BK172.out 1
            have hfz45_2 := blk_frozen BK172.out 2
            have p178 : 0 ≤ (a3 : Int) := of_decide_eq_true (by first | (with_reducible assumption) | assumption)
            have q178 : a3 < (l0_1.length : Int) := of_decide_eq_true (by first | (with_reducible assumption) | assumption)
            obtain ⟨ad178, A178_0, c178_0, e178, hx178_0, hl178_0, hi178_0⟩ := at_L1 HR0_1.out a3 p178 q178
            cases e178
            (try replace hx178_0 := (HB.out.cell (World.block_lt_of_cell? w _ hx178_0)).trans hx178_0)
            have HR178_0 := Aside0.mk hi178_0
            have HC178_0 := Aside0.mk hl178_0
            clear hi178_0 hl178_0
            replace p178 := eq_true p178
            replace q178 := eq_true q178
            go_wp2_with (first | (go_at_call 42; (with_reducible refine (spec_l14In.calls kj5 _ _ (rd_L1 l0_1 a3) (rd l1_2 (ji32)) false _ ?side1 ?side2 A38.out).mono ?_); (case side1 => repeat (first | exact (Kd.C_below HR178_0.out HB.out) | (with_reducible refine Kd.C_alloc ?_ _) | (with_reducible refine Kd.C_drewN ?_ _) | (with_reducible refine Kd.C_drew ?_))); (case side2 => exact HC178_0.out); rintro e w' ⟨rfl, ⟨nd, rfl⟩⟩))
            go_ret
            exact ⟨by first | rfl | (simp [errW_none, errW_some] <;> rfl) | (simp only [← hji32]; first | rfl | (simp [errW_none, errW_some] <;> rfl)) | (simp [*, errW_none, errW_some] <;> rfl), bw_ HB.out⟩
          ·rw [if_neg c37] at H
           exact absurd H (by simp)
         ·rw [if_neg c36] at H
          exact absurd H (by simp)
        ·rw [if_neg c35] at H
         have c35b0 : decide (0 ≤ (rd l1_2 (ji32))) = false := decide_eq_false c35
         clear c35
         have H' := Aside0.mk H
         clear H
         have hnb46 := NB173_172.out
         have hnc46 := NB172_173.out
         have hcz47_0 := cz_ BK173.out 0
         have hcz47_1 := cz_ BK173.out 1
         have hcz47_2 := cz_ BK173.out 2
         have hfz47_0 := blk_frozen BK173.out 0
         have hfz47_1 := blk_frozen BK173.out 1
         have hfz47_2 := blk_frozen BK173.out 2
         have p177 : 0 ≤ ((ji32) : Int) := of_decide_eq_true (by first | (with_reducible assumption) | assumption)
         have q177 : (ji32) < (l1_2.length : Int) := of_decide_eq_true (by first | (with_reducible assumption) | assumption)
         obtain ⟨ad177, e177, hx177_0⟩ := Kd.at_int HR1_2.out (ji32) p177 q177
         cases e177
         (try replace hx177_0 := (HB.out.cell (World.block_lt_of_cell? w _ hx177_0)).trans hx177_0)
         replace p177 := eq_true p177
         replace q177 := eq_true q177
         go_wp2
         go_meet
         case rel => exact ⟨_, H', ⟨by have := HJ5.out; first | omega | exact Nat.le_refl _⟩, ⟨by (with_reducible repeat (first | refine blk_drewN ?_ _ | refine blk_drew ?_ | refine blk_alloc ?_ _)); exact BK172.out⟩, ⟨by (with_reducible repeat (first | refine blk_drewN ?_ _ | refine blk_drew ?_ | refine blk_alloc ?_ _)); exact BK173.out⟩, ⟨bw_ HB.out⟩⟩
       ·rw [if_neg c34] at H
        exact absurd H (by simp)
      ·rw [if_neg c33] at H
       exact absurd H (by simp)
     ·rw [if_neg c31] at H
      have c31b0 : decide ((Int.tmod a2 a1_0) < (wrap64 (a1_0 - 1))) = false := decide_eq_false c31
      clear c31
      (first | rw [c31b0] | (simp only [i64_w, i32_w]; rw [c31b0]) | skip)
      have H' := Aside0.mk H
      clear H
      go_wp2
      go_meet
      case rel => exact ⟨_, H', ⟨by have := HJ5.out; first | omega | exact Nat.le_refl _⟩, ⟨by (with_reducible repeat (first | refine blk_drewN ?_ _ | refine blk_drew ?_ | refine blk_alloc ?_ _)); exact BK172.out⟩, ⟨by (with_reducible repeat (first | refine blk_drewN ?_ _ | refine blk_drew ?_ | refine blk_alloc ?_ _)); exact BK173.out⟩, ⟨bw_ HB.out⟩⟩
    case rest =>
     clear HC28
     try clear c1
     try clear p1
     try clear q1
     try clear hx1
     try clear c2
     try clear p2
     try clear c3
     try clear c4
     try clear c5
     try clear c5b0
     try clear c5b1
     try clear p6
     try clear c9
     try clear c11
     try clear c11b0
     try clear c13
     try clear c13b0
     try clear c14
     try clear c14b0
     try clear c15
     try clear c15b0
     try clear c16
     try clear c16b0
     try clear c17
     try clear c17b0
     try clear p17
     try clear q17
     try clear hx17
     try clear c19
     try clear c20
     try clear c23
     try clear c26
     try clear c27
     try clear c29
     try clear c31
     try clear c31b0
     try clear c33
     try clear c33b0
     try clear c34
     try clear c34b0
     try clear c35
     try clear c35b0
     try clear c36
     try clear c36b0
     try clear c37
     try clear c37b0
     try clear c39
     try clear c40
     try clear c43
     try clear c46
     try clear hcz10_0
     try clear hcz10_1
     try clear hcz10_2
     try clear hcz21_0
     try clear hcz21_1
     try clear hcz21_2
     try clear hcz22_0
     try clear hcz22_1
     try clear hcz22_2
     try clear hcz24_0
     try clear hcz24_1
     try clear hcz24_2
     try clear hcz25_0
     try clear hcz25_1
     try clear hcz25_2
     try clear hcz27_0
     try clear hcz27_1
     try clear hcz27_2
     try clear hcz30_0
     try clear hcz30_1
     try clear hcz30_2
     try clear hcz41_0
     try clear hcz41_1
     try clear hcz41_2
     try clear hcz42_0
     try clear hcz42_1
     try clear hcz42_2
     try clear hcz44_0
     try clear hcz44_1
     try clear hcz44_2
     try clear hcz45_0
     try clear hcz45_1
     try clear hcz45_2
     try clear hcz47_0
     try clear hcz47_1
     try clear hcz47_2
     try clear hfz10_0
     try clear hfz10_1
     try clear hfz10_2
     try clear hfz21_0
     try clear hfz21_1
     try clear hfz21_2
     try clear hfz22_0
     try clear hfz22_1
     try clear hfz22_2
     try clear hfz24_0
     try clear hfz24_1
     try clear hfz24_2
     try clear hfz25_0
     try clear hfz25_1
     try clear hfz25_2
     try clear hfz27_0
     try clear hfz27_1
     try clear hfz27_2
     try clear hfz30_0
     try clear hfz30_1
     try clear hfz30_2
     try clear hfz41_0
     try clear hfz41_1
     try clear hfz41_2
     try clear hfz42_0
     try clear hfz42_1
     try clear hfz42_2
     try clear hfz44_0
     try clear hfz44_1
     try clear hfz44_2
     try clear hfz45_0
     try clear hfz45_1
     try clear hfz45_2
     try clear hfz47_0
     try clear hfz47_1
     try clear hfz47_2
     try clear hx174_0
     try clear hx175_0
     try clear hx177_0
     try clear hx178_0
     try clear p1
     try clear p17
     try clear p174
     try clear p175
     try clear p177
     try clear p178
     try clear p2
     try clear p6
     try clear q1
     try clear q17
     try clear q174
     try clear q175
     try clear q177
     try clear q178
     obtain ⟨kq, HA, HJ27, BK172, BK173, HB⟩ := hcut
     cases kq with
     | zero => exact absurd HA.out (by simp [spec_l14Fits.j1])
     | succ kj27 =>
      have H := HA.out
      clear HA
      simp only [spec_l14Fits.j1] at H
      have HC48 := Aside0.mk H
      clear H
      go_upto_if 67 with (fail)
      go_cut [] (fun wc => ∃ (kq : Nat), Aside0 (spec_l14Fits.j2 kq a2 a3 (wrap64 (Int.tdiv a2 a1_0)) a0_0 l0_1 l0_2 a1_0 a1_1 l1_2 = some r) ∧ Aside0 (kq ≤ kj27) ∧ Aside0 (wc.heap[gb172]? = some (.cells #[.int .i64 a0_0, (.slice A0_1 l0_1.length c0_1), (.slice A0_2 l0_2.length c0_2)] 32 (0, 0))) ∧ Aside0 (wc.heap[gb173]? = some (.cells #[.int .i64 a1_0, .int .i64 a1_1, (.slice A1_2 l1_2.length c1_2)] 34 (0, 0))) ∧ Aside0 (Below w.heap.size w wc))
      case first =>
       have H := HC48.out
       clear HC48
       by_cases c49 : (wrap64 (Int.tdiv a2 a1_0)) > 0
       ·rw [if_pos c49] at H
        have c49b0 : decide (0 < (wrap64 (Int.tdiv a2 a1_0))) = true := decide_eq_true c49
        clear c49
        (first | rw [c49b0] | (simp only [i64_w, i32_w]; rw [c49b0]) | skip)
        obtain ⟨ji50, hji50⟩ : ∃ j_ : Int, (wrap64 (a2 - a1_0)) = j_ := ⟨_, rfl⟩
        replace H : (if 0 ≤ (ji50) then (if (ji50) < (l1_2.length : Int) then (if (rd l1_2 (ji50)) ≥ 0 then (if 0 ≤ (rd l1_2 (ji50)) then (if (rd l1_2 (ji50)) < (l0_2.length : Int) then ((spec_l14In.f kj27 (rd_L1 l0_2 (rd l1_2 (ji50))) a3).bind fun t182 => (if t182 = true then (spec_l14Fits.j2 kj27 a2 a3 (wrap64 (Int.tdiv a2 a1_0)) a0_0 l0_1 l0_2 a1_0 a1_1 l1_2) else (some false))) else (none)) else (none)) else (spec_l14Fits.j2 kj27 a2 a3 (wrap64 (Int.tdiv a2 a1_0)) a0_0 l0_1 l0_2 a1_0 a1_1 l1_2)) else (none)) else (none)) = some r := by first | (rw [hji50] at H; exact H) | (simp only [hji50] at H ⊢; exact H)
        have hji50w : (IntKind.i64.wrap (a2 - a1_0)) = ji50 := (i64_w _).trans hji50
        by_cases c51 : 0 ≤ (ji50)
        ·rw [if_pos c51] at H
         have c51b0 : decide (0 ≤ (ji50)) = true := decide_eq_true c51
         clear c51
         by_cases c52 : (ji50) < (l1_2.length : Int)
         ·rw [if_pos c52] at H
          have c52b0 : decide ((ji50) < (l1_2.length : Int)) = true := decide_eq_true c52
          clear c52
          by_cases c53 : (rd l1_2 (ji50)) ≥ 0
          ·rw [if_pos c53] at H
           have c53b0 : decide (0 ≤ (rd l1_2 (ji50))) = true := decide_eq_true c53
           clear c53
           by_cases c54 : 0 ≤ (rd l1_2 (ji50))
           ·rw [if_pos c54] at H
            have c54b0 : decide (0 ≤ (rd l1_2 (ji50))) = true := decide_eq_true c54
            clear c54
            by_cases c55 : (rd l1_2 (ji50)) < (l0_2.length : Int)
            ·rw [if_pos c55] at H
             have c55b0 : decide ((rd l1_2 (ji50)) < (l0_2.length : Int)) = true := decide_eq_true c55
             clear c55
             obtain ⟨t182, A560, H⟩ := bE_ H
             have A56 := Aside0.mk A560
             clear A560
             by_cases c57 : t182 = true
             ·subst c57
              replace H := it_ H rfl
              have H' := Aside0.mk H
              clear H
              have hnb58 := NB173_172.out
              have hnc58 := NB172_173.out
              have hcz59_0 := cz_ BK173.out 0
              have hcz59_1 := cz_ BK173.out 1
              have hcz59_2 := cz_ BK173.out 2
              have hfz59_0 := blk_frozen BK173.out 0
              have hfz59_1 := blk_frozen BK173.out 1
              have hfz59_2 := blk_frozen BK173.out 2
              have p180 : 0 ≤ ((ji50) : Int) := of_decide_eq_true (by first | (with_reducible assumption) | assumption)
              have q180 : (ji50) < (l1_2.length : Int) := of_decide_eq_true (by first | (with_reducible assumption) | assumption)
              obtain ⟨ad180, e180, hx180_0⟩ := Kd.at_int HR1_2.out (ji50) p180 q180
              cases e180
              (try replace hx180_0 := (HB.out.cell (World.block_lt_of_cell? w _ hx180_0)).trans hx180_0)
              replace p180 := eq_true p180
              replace q180 := eq_true q180
              have hcz60_0 := cz_ BK172.out 0
              have hcz60_1 := cz_ BK172.out 1
              have hcz60_2 := cz_ BK172.out 2
              have hfz60_0 := blk_frozen BK172.out 0
              have hfz60_1 := blk_frozen BK172.out 1
              have hfz60_2 := blk_frozen BK172.out 2
              have p181 : 0 ≤ ((rd l1_2 (ji50)) : Int) := of_decide_eq_true (by first | (with_reducible assumption) | assumption)
              have q181 : (rd l1_2 (ji50)) < (l0_2.length : Int) := of_decide_eq_true (by first | (with_reducible assumption) | assumption)
              obtain ⟨ad181, A181_0, c181_0, e181, hx181_0, hl181_0, hi181_0⟩ := at_L1 HR0_2.out (rd l1_2 (ji50)) p181 q181
              cases e181
              (try replace hx181_0 := (HB.out.cell (World.block_lt_of_cell? w _ hx181_0)).trans hx181_0)
              have HR181_0 := Aside0.mk hi181_0
              have HC181_0 := Aside0.mk hl181_0
              clear hi181_0 hl181_0
              replace p181 := eq_true p181
              replace q181 := eq_true q181
              go_wp2_with (first | (go_at_call 42; (with_reducible refine (spec_l14In.calls kj27 _ _ (rd_L1 l0_2 (rd l1_2 (ji50))) a3 true _ ?side1 ?side2 A56.out).mono ?_); (case side1 => repeat (first | exact (Kd.C_below HR181_0.out HB.out) | (with_reducible refine Kd.C_alloc ?_ _) | (with_reducible refine Kd.C_drewN ?_ _) | (with_reducible refine Kd.C_drew ?_))); (case side2 => exact HC181_0.out); rintro e w' ⟨rfl, ⟨nd, rfl⟩⟩))
              go_meet
              case rel => exact ⟨_, H', ⟨by have := HJ5.out; have := HJ27.out; first | omega | exact Nat.le_refl _⟩, ⟨by (with_reducible repeat (first | refine blk_drewN ?_ _ | refine blk_drew ?_ | refine blk_alloc ?_ _)); exact BK172.out⟩, ⟨by (with_reducible repeat (first | refine blk_drewN ?_ _ | refine blk_drew ?_ | refine blk_alloc ?_ _)); exact BK173.out⟩, ⟨bw_ HB.out⟩⟩
             ·replace c57 := Bool.eq_false_iff.mpr c57
              subst c57
              replace H := if_ H Bool.false_ne_true
              obtain rfl := Option.some.inj H
              have hnb61 := NB173_172.out
              have hnc61 := NB172_173.out
              have hcz62_0 := cz_ BK173.out 0
              have hcz62_1 := cz_ BK173.out 1
              have hcz62_2 := cz_ BK173.out 2
              have hfz62_0 := blk_frozen BK173.out 0
              have hfz62_1 := blk_frozen BK173.out 1
              have hfz62_2 := blk_frozen BK173.out 2
              have p180 : 0 ≤ ((ji50) : Int) := of_decide_eq_true (by first | (with_reducible assumption) | assumption)
              have q180 : (ji50) < (l1_2.length : Int) := of_decide_eq_true (by first | (with_reducible assumption) | assumption)
              obtain ⟨ad180, e180, hx180_0⟩ := Kd.at_int HR1_2.out (ji50) p180 q180
              cases e180
              (try replace hx180_0 := (HB.out.cell (World.block_lt_of_cell? w _ hx180_0)).trans hx180_0)
              replace p180 := eq_true p180
              replace q180 := eq_true q180
              have hcz63_0 := cz_ BK172.out 0
              have hcz63_1 := cz_ BK172.out 1
              have hcz63_2 := cz_ BK172.out 2
              have hfz63_0 := blk_frozen BK172.out 0
              have hfz63_1 := blk_frozen BK172.out 1
              have hfz63_2 := blk_frozen BK172.out 2
              have p181 : 0 ≤ ((rd l1_2 (ji50)) : Int) := of_decide_eq_true (by first | (with_reducible assumption) | assumption)
              have q181 : (rd l1_2 (ji50)) < (l0_2.length : Int) := of_decide_eq_true (by first | (with_reducible assumption) | assumption)
              obtain ⟨ad181, A181_0, c181_0, e181, hx181_0, hl181_0, hi181_0⟩ := at_L1 HR0_2.out (rd l1_2 (ji50)) p181 q181
              cases e181
              (try replace hx181_0 := (HB.out.cell (World.block_lt_of_cell? w _ hx181_0)).trans hx181_0)
              have HR181_0 := Aside0.mk hi181_0
              have HC181_0 := Aside0.mk hl181_0
              clear hi181_0 hl181_0
              replace p181 := eq_true p181
              replace q181 := eq_true q181
              go_wp2_with (first | (go_at_call 42; (with_reducible refine (spec_l14In.calls kj27 _ _ (rd_L1 l0_2 (rd l1_2 (ji50))) a3 false _ ?side1 ?side2 A56.out).mono ?_); (case side1 => repeat (first | exact (Kd.C_below HR181_0.out HB.out) | (with_reducible refine Kd.C_alloc ?_ _) | (with_reducible refine Kd.C_drewN ?_ _) | (with_reducible refine Kd.C_drew ?_))); (case side2 => exact HC181_0.out); rintro e w' ⟨rfl, ⟨nd, rfl⟩⟩))
              go_ret
              exact ⟨by first | rfl | (simp [errW_none, errW_some] <;> rfl) | (simp only [← hji50]; first | rfl | (simp [errW_none, errW_some] <;> rfl)) | (simp [*, errW_none, errW_some] <;> rfl), bw_ HB.out⟩
            ·rw [if_neg c55] at H
             exact absurd H (by simp)
           ·rw [if_neg c54] at H
            exact absurd H (by simp)
          ·rw [if_neg c53] at H
           have c53b0 : decide (0 ≤ (rd l1_2 (ji50))) = false := decide_eq_false c53
           clear c53
           have H' := Aside0.mk H
           clear H
           have hnb64 := NB173_172.out
           have hnc64 := NB172_173.out
           have hcz65_0 := cz_ BK173.out 0
           have hcz65_1 := cz_ BK173.out 1
           have hcz65_2 := cz_ BK173.out 2
           have hfz65_0 := blk_frozen BK173.out 0
           have hfz65_1 := blk_frozen BK173.out 1
           have hfz65_2 := blk_frozen BK173.out 2
           have p180 : 0 ≤ ((ji50) : Int) := of_decide_eq_true (by first | (with_reducible assumption) | assumption)
           have q180 : (ji50) < (l1_2.length : Int) := of_decide_eq_true (by first | (with_reducible assumption) | assumption)
           obtain ⟨ad180, e180, hx180_0⟩ := Kd.at_int HR1_2.out (ji50) p180 q180
           cases e180
           (try replace hx180_0 := (HB.out.cell (World.block_lt_of_cell? w _ hx180_0)).trans hx180_0)
           replace p180 := eq_true p180
           replace q180 := eq_true q180
           go_wp2
           go_meet
           case rel => exact ⟨_, H', ⟨by have := HJ5.out; have := HJ27.out; first | omega | exact Nat.le_refl _⟩, ⟨by (with_reducible repeat (first | refine blk_drewN ?_ _ | refine blk_drew ?_ | refine blk_alloc ?_ _)); exact BK172.out⟩, ⟨by (with_reducible repeat (first | refine blk_drewN ?_ _ | refine blk_drew ?_ | refine blk_alloc ?_ _)); exact BK173.out⟩, ⟨bw_ HB.out⟩⟩
         ·rw [if_neg c52] at H
          exact absurd H (by simp)
        ·rw [if_neg c51] at H
         exact absurd H (by simp)
       ·rw [if_neg c49] at H
        have c49b0 : decide (0 < (wrap64 (Int.tdiv a2 a1_0))) = false := decide_eq_false c49
        clear c49
        (first | rw [c49b0] | (simp only [i64_w, i32_w]; rw [c49b0]) | skip)
        have H' := Aside0.mk H
        clear H
        go_wp2
        go_meet
        case rel => exact ⟨_, H', ⟨by have := HJ5.out; have := HJ27.out; first | omega | exact Nat.le_refl _⟩, ⟨by (with_reducible repeat (first | refine blk_drewN ?_ _ | refine blk_drew ?_ | refine blk_alloc ?_ _)); exact BK172.out⟩, ⟨by (with_reducible repeat (first | refine blk_drewN ?_ _ | refine blk_drew ?_ | refine blk_alloc ?_ _)); exact BK173.out⟩, ⟨bw_ HB.out⟩⟩
      case rest =>
       clear HC48
       try clear c1
       try clear p1
       try clear q1
       try clear hx1
       try clear c2
       try clear p2
       try clear c3
       try clear c4
       try clear c5
       try clear c5b0
       try clear c5b1
       try clear c6
       try clear p6
       try clear c9
       try clear c11
       try clear c11b0
       try clear c13
       try clear c13b0
       try clear c14
       try clear c14b0
       try clear c15
       try clear c15b0
       try clear c16
       try clear c16b0
       try clear c17
       try clear c17b0
       try clear p17
       try clear q17
       try clear hx17
       try clear c18
       try clear p18
       try clear q18
       try clear hx18
       try clear c19
       try clear c20
       try clear c23
       try clear c26
       try clear c27
       try clear c29
       try clear c31
       try clear c31b0
       try clear c33
       try clear c33b0
       try clear c34
       try clear c34b0
       try clear c35
       try clear c35b0
       try clear c36
       try clear c36b0
       try clear c37
       try clear c37b0
       try clear c39
       try clear c40
       try clear c43
       try clear c46
       try clear c49
       try clear c49b0
       try clear c51
       try clear c51b0
       try clear c52
       try clear c52b0
       try clear c53
       try clear c53b0
       try clear c54
       try clear c54b0
       try clear c55
       try clear c55b0
       try clear c57
       try clear c58
       try clear c61
       try clear c64
       try clear p64
       try clear hcz10_0
       try clear hcz10_1
       try clear hcz10_2
       try clear hcz21_0
       try clear hcz21_1
       try clear hcz21_2
       try clear hcz22_0
       try clear hcz22_1
       try clear hcz22_2
       try clear hcz24_0
       try clear hcz24_1
       try clear hcz24_2
       try clear hcz25_0
       try clear hcz25_1
       try clear hcz25_2
       try clear hcz27_0
       try clear hcz27_1
       try clear hcz27_2
       try clear hcz30_0
       try clear hcz30_1
       try clear hcz30_2
       try clear hcz41_0
       try clear hcz41_1
       try clear hcz41_2
       try clear hcz42_0
       try clear hcz42_1
       try clear hcz42_2
       try clear hcz44_0
       try clear hcz44_1
       try clear hcz44_2
       try clear hcz45_0
       try clear hcz45_1
       try clear hcz45_2
       try clear hcz47_0
       try clear hcz47_1
       try clear hcz47_2
       try clear hcz59_0
       try clear hcz59_1
       try clear hcz59_2
       try clear hcz60_0
       try clear hcz60_1
       try clear hcz60_2
       try clear hcz62_0
       try clear hcz62_1
       try clear hcz62_2
       try clear hcz63_0
       try clear hcz63_1
       try clear hcz63_2
       try clear hcz65_0
       try clear hcz65_1
       try clear hcz65_2
       try clear hfz10_0
       try clear hfz10_1
       try clear hfz10_2
       try clear hfz21_0
       try clear hfz21_1
       try clear hfz21_2
       try clear hfz22_0
       try clear hfz22_1
       try clear hfz22_2
       try clear hfz24_0
       try clear hfz24_1
       try clear hfz24_2
       try clear hfz25_0
       try clear hfz25_1
       try clear hfz25_2
       try clear hfz27_0
       try clear hfz27_1
       try clear hfz27_2
       try clear hfz30_0
       try clear hfz30_1
       try clear hfz30_2
       try clear hfz41_0
       try clear hfz41_1
       try clear hfz41_2
       try clear hfz42_0
       try clear hfz42_1
       try clear hfz42_2
       try clear hfz44_0
       try clear hfz44_1
       try clear hfz44_2
       try clear hfz45_0
       try clear hfz45_1
       try clear hfz45_2
       try clear hfz47_0
       try clear hfz47_1
       try clear hfz47_2
       try clear hfz59_0
       try clear hfz59_1
       try clear hfz59_2
       try clear hfz60_0
       try clear hfz60_1
       try clear hfz60_2
       try clear hfz62_0
       try clear hfz62_1
       try clear hfz62_2
       try clear hfz63_0
       try clear hfz63_1
       try clear hfz63_2
       try clear hfz65_0
       try clear hfz65_1
       try clear hfz65_2
       try clear hx174_0
       try clear hx175_0
       try clear hx177_0
       try clear hx178_0
       try clear hx180_0
       try clear hx181_0
       try clear p1
       try clear p17
       try clear p174
       try clear p175
       try clear p177
       try clear p178
       try clear p180
       try clear p181
       try clear p2
       try clear p6
       try clear q1
       try clear q17
       try clear q174
       try clear q175
       try clear q177
       try clear q178
       try clear q180
       try clear q181
       obtain ⟨kq, HA, HJ47, BK172, BK173, HB⟩ := hcut
       cases kq with
       | zero => exact absurd HA.out (by simp [spec_l14Fits.j2])
       | succ kj47 =>
        have H := HA.out
        clear HA
        simp only [spec_l14Fits.j2] at H
        by_cases c66 : (wrap64 (Int.tdiv a2 a1_0)) < (wrap64 (a1_1 - 1))
        ·rw [if_pos c66] at H
         have c66b0 : decide ((wrap64 (Int.tdiv a2 a1_0)) < (wrap64 (a1_1 - 1))) = true := decide_eq_true c66
         clear c66
         obtain ⟨ji67, hji67⟩ : ∃ j_ : Int, (wrap64 (a2 + a1_0)) = j_ := ⟨_, rfl⟩
         replace H : (if 0 ≤ (ji67) then (if (ji67) < (l1_2.length : Int) then (if (rd l1_2 (ji67)) ≥ 0 then (if 0 ≤ a3 then (if a3 < (l0_2.length : Int) then ((spec_l14In.f kj47 (rd_L1 l0_2 a3) (rd l1_2 (ji67))).bind fun t185 => (if t185 = true then (some true) else (some false))) else (none)) else (none)) else (some true)) else (none)) else (none)) = some r := by first | (rw [hji67] at H; exact H) | (simp only [hji67] at H ⊢; exact H)
         have hji67w : (IntKind.i64.wrap (a2 + a1_0)) = ji67 := (i64_w _).trans hji67
         by_cases c68 : 0 ≤ (ji67)
         ·rw [if_pos c68] at H
          have c68b0 : decide (0 ≤ (ji67)) = true := decide_eq_true c68
          clear c68
          by_cases c69 : (ji67) < (l1_2.length : Int)
          ·rw [if_pos c69] at H
           have c69b0 : decide ((ji67) < (l1_2.length : Int)) = true := decide_eq_true c69
           clear c69
           by_cases c70 : (rd l1_2 (ji67)) ≥ 0
           ·rw [if_pos c70] at H
            have c70b0 : decide (0 ≤ (rd l1_2 (ji67))) = true := decide_eq_true c70
            clear c70
            by_cases c71 : 0 ≤ a3
            ·rw [if_pos c71] at H
             have c71b0 : decide (0 ≤ a3) = true := decide_eq_true c71
             clear c71
             by_cases c72 : a3 < (l0_2.length : Int)
             ·rw [if_pos c72] at H
              have c72b0 : decide (a3 < (l0_2.length : Int)) = true := decide_eq_true c72
              clear c72
              obtain ⟨t185, A730, H⟩ := bE_ H
              have A73 := Aside0.mk A730
              clear A730
              by_cases c74 : t185 = true
              ·subst c74
               replace H := it_ H rfl
               obtain rfl := Option.some.inj H
               have hnb75 := NB173_172.out
               have hnc75 := NB172_173.out
               have hcz76_0 := cz_ BK173.out 0
               have hcz76_1 := cz_ BK173.out 1
               have hcz76_2 := cz_ BK173.out 2
               have hfz76_0 := blk_frozen BK173.out 0
               have hfz76_1 := blk_frozen BK173.out 1
               have hfz76_2 := blk_frozen BK173.out 2
               have p183 : 0 ≤ ((ji67) : Int) := of_decide_eq_true (by first | (with_reducible assumption) | assumption)
               have q183 : (ji67) < (l1_2.length : Int) := of_decide_eq_true (by first | (with_reducible assumption) | assumption)
               obtain ⟨ad183, e183, hx183_0⟩ := Kd.at_int HR1_2.out (ji67) p183 q183
               cases e183
               (try replace hx183_0 := (HB.out.cell (World.block_lt_of_cell? w _ hx183_0)).trans hx183_0)
               replace p183 := eq_true p183
               replace q183 := eq_true q183
               have hcz77_0 := cz_ BK172.out 0
               have hcz77_1 := cz_ BK172.out 1
               have hcz77_2 := cz_ BK172.out 2
               have hfz77_0 := blk_frozen BK172.out 0
               have hfz77_1 := blk_frozen BK172.out 1
               have hfz77_2 := blk_frozen BK172.out 2
               have p184 : 0 ≤ (a3 : Int) := of_decide_eq_true (by first | (with_reducible assumption) | assumption)
               have q184 : a3 < (l0_2.length : Int) := of_decide_eq_true (by first | (with_reducible assumption) | assumption)
               obtain ⟨ad184, A184_0, c184_0, e184, hx184_0, hl184_0, hi184_0⟩ := at_L1 HR0_2.out a3 p184 q184
               cases e184
               (try replace hx184_0 := (HB.out.cell (World.block_lt_of_cell? w _ hx184_0)).trans hx184_0)
               have HR184_0 := Aside0.mk hi184_0
               have HC184_0 := Aside0.mk hl184_0
               clear hi184_0 hl184_0
               replace p184 := eq_true p184
               replace q184 := eq_true q184
               go_wp2_with (first | (go_at_call 42; (with_reducible refine (spec_l14In.calls kj47 _ _ (rd_L1 l0_2 a3) (rd l1_2 (ji67)) true _ ?side1 ?side2 A73.out).mono ?_); (case side1 => repeat (first | exact (Kd.C_below HR184_0.out HB.out) | (with_reducible refine Kd.C_alloc ?_ _) | (with_reducible refine Kd.C_drewN ?_ _) | (with_reducible refine Kd.C_drew ?_))); (case side2 => exact HC184_0.out); rintro e w' ⟨rfl, ⟨nd, rfl⟩⟩))
               go_ret
               exact ⟨by first | rfl | (simp [errW_none, errW_some] <;> rfl) | (simp only [← hji67]; first | rfl | (simp [errW_none, errW_some] <;> rfl)) | (simp [*, errW_none, errW_some] <;> rfl), bw_ HB.out⟩
              ·replace c74 := Bool.eq_false_iff.mpr c74
               subst c74
               replace H := if_ H Bool.false_ne_true
               obtain rfl := Option.some.inj H
               have hnb78 := NB173_172.out
               have hnc78 := NB172_173.out
               have hcz79_0 := cz_ BK173.out 0
               have hcz79_1 := cz_ BK173.out 1
               have hcz79_2 := cz_ BK173.out 2
               have hfz79_0 := blk_frozen BK173.out 0
               have hfz79_1 := blk_frozen BK173.out 1
               have hfz79_2 := blk_frozen BK173.out 2
               have p183 : 0 ≤ ((ji67) : Int) := of_decide_eq_true (by first | (with_reducible assumption) | assumption)
               have q183 : (ji67) < (l1_2.length : Int) := of_decide_eq_true (by first | (with_reducible assumption) | assumption)
               obtain ⟨ad183, e183, hx183_0⟩ := Kd.at_int HR1_2.out (ji67) p183 q183
               cases e183
               (try replace hx183_0 := (HB.out.cell (World.block_lt_of_cell? w _ hx183_0)).trans hx183_0)
               replace p183 := eq_true p183
               replace q183 := eq_true q183
               have hcz80_0 := cz_ BK172.out 0
               have hcz80_1 := cz_ BK172.out 1
               have hcz80_2 := cz_ BK172.out 2
               have hfz80_0 := blk_frozen BK172.out 0
               have hfz80_1 := blk_frozen BK172.out 1
               have hfz80_2 := blk_frozen BK172.out 2
               have p184 : 0 ≤ (a3 : Int) := of_decide_eq_true (by first | (with_reducible assumption) | assumption)
               have q184 : a3 < (l0_2.length : Int) := of_decide_eq_true (by first | (with_reducible assumption) | assumption)
               obtain ⟨ad184, A184_0, c184_0, e184, hx184_0, hl184_0, hi184_0⟩ := at_L1 HR0_2.out a3 p184 q184
               cases e184
               (try replace hx184_0 := (HB.out.cell (World.block_lt_of_cell? w _ hx184_0)).trans hx184_0)
               have HR184_0 := Aside0.mk hi184_0
               have HC184_0 := Aside0.mk hl184_0
               clear hi184_0 hl184_0
               replace p184 := eq_true p184
               replace q184 := eq_true q184
               go_wp2_with (first | (go_at_call 42; (with_reducible refine (spec_l14In.calls kj47 _ _ (rd_L1 l0_2 a3) (rd l1_2 (ji67)) false _ ?side1 ?side2 A73.out).mono ?_); (case side1 => repeat (first | exact (Kd.C_below HR184_0.out HB.out) | (with_reducible refine Kd.C_alloc ?_ _) | (with_reducible refine Kd.C_drewN ?_ _) | (with_reducible refine Kd.C_drew ?_))); (case side2 => exact HC184_0.out); rintro e w' ⟨rfl, ⟨nd, rfl⟩⟩))
               go_ret
               exact ⟨by first | rfl | (simp [errW_none, errW_some] <;> rfl) | (simp only [← hji67]; first | rfl | (simp [errW_none, errW_some] <;> rfl)) | (simp [*, errW_none, errW_some] <;> rfl), bw_ HB.out⟩
             ·rw [if_neg c72] at H
              exact absurd H (by simp)
            ·rw [if_neg c71] at H
             exact absurd H (by simp)
           ·rw [if_neg c70] at H
            have c70b0 : decide (0 ≤ (rd l1_2 (ji67))) = false := decide_eq_false c70
            clear c70
            obtain rfl := Option.some.inj H
            have hnb81 := NB173_172.out
            have hnc81 := NB172_173.out
            have hcz82_0 := cz_ BK173.out 0
            have hcz82_1 := cz_ BK173.out 1
            have hcz82_2 := cz_ BK173.out 2
            have hfz82_0 := blk_frozen BK173.out 0
            have hfz82_1 := blk_frozen BK173.out 1
            have hfz82_2 := blk_frozen BK173.out 2
            have p183 : 0 ≤ ((ji67) : Int) := of_decide_eq_true (by first | (with_reducible assumption) | assumption)
            have q183 : (ji67) < (l1_2.length : Int) := of_decide_eq_true (by first | (with_reducible assumption) | assumption)
            obtain ⟨ad183, e183, hx183_0⟩ := Kd.at_int HR1_2.out (ji67) p183 q183
            cases e183
            (try replace hx183_0 := (HB.out.cell (World.block_lt_of_cell? w _ hx183_0)).trans hx183_0)
            replace p183 := eq_true p183
            replace q183 := eq_true q183
            go_wp2
            go_ret
            exact ⟨by first | rfl | (simp [errW_none, errW_some] <;> rfl) | (simp only [← hji67]; first | rfl | (simp [errW_none, errW_some] <;> rfl)) | (simp [*, errW_none, errW_some] <;> rfl), bw_ HB.out⟩
          ·rw [if_neg c69] at H
           exact absurd H (by simp)
         ·rw [if_neg c68] at H
          exact absurd H (by simp)
        ·rw [if_neg c66] at H
         have c66b0 : decide ((wrap64 (Int.tdiv a2 a1_0)) < (wrap64 (a1_1 - 1))) = false := decide_eq_false c66
         clear c66
         obtain rfl := Option.some.inj H
         have hnb83 := NB173_172.out
         have hnc83 := NB172_173.out
         have hcz84_0 := cz_ BK173.out 0
         have hcz84_1 := cz_ BK173.out 1
         have hcz84_2 := cz_ BK173.out 2
         have hfz84_0 := blk_frozen BK173.out 0
         have hfz84_1 := blk_frozen BK173.out 1
         have hfz84_2 := blk_frozen BK173.out 2
         go_wp2
         go_ret
         exact ⟨by first | rfl | (simp [errW_none, errW_some] <;> rfl) | (simp [*, errW_none, errW_some] <;> rfl), bw_ HB.out⟩

end Go.Proofs.Ytblmejanjhmjdaa.XFnExactFillField
