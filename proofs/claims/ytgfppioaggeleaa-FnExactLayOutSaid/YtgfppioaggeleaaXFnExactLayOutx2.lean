/- What the Go functions that this law comes to compute, each walked; written by a program of this session. -/
import Derived.Test.YtgfppioaggeleaaXShort
import Derived.Test.YtgfppioaggeleaaXMark
import Derived.Test.YtgfppioaggeleaaXFnExactLayOutx0
import Derived.Test.YtgfppioaggeleaaXFnExactLayOutx1
namespace Go.Proofs.Ytgfppioaggeleaa.XFnExactLayOut
open Go.RowKit Go.Proofs.YtgfppioaggeleaaW.PrintWords Go.Proofs.YtgfppioaggeleaaW.PrintLast Go.Proofs.YtgfppioaggeleaaW.PrintMore
attribute [local go_sem] str_geq max2_int min2_int max_two min_two max_three min_three max_four min_four   -- for this text's walks alone
set_option linter.unusedVariables false
set_option linter.unusedSimpArgs false

/-! ### spec_GoodBoxes: function 38 -/
mutual
def spec_GoodBoxes.j0 : Nat → List (S74) → Bool → Option (Bool)
 | 0, _, _ => none
 | k + 1, x0, x12 => if x12 = true then (some false) else (spec_GoodBoxes.l0 k x0 (x0.length : Int) 0)
def spec_GoodBoxes.l0 : Nat → List (S74) → Int → Int → Option (Bool)
 | 0, _, _, _ => none
 | k + 1, x13, x14, x15 => if x15 < x14 then (if 0 ≤ x15 then (if x15 < (x13.length : Int) then (if x15 = 0 then (if ((rd_T74 x13 x15).f0) = (-1) then (if x15 > 0 then ((spec_l1In.f ((rd_T74 x13 x15).f0) 0 (wrap64 (x15 - 1))).bind fun t103 => (if t103 = true then ((spec_l1In.f ((rd_T74 x13 x15).f1) 1 2).bind fun t104 => (if t104 = true then ((spec_l1In.f ((rd_T74 x13 x15).f2) 0 10000).bind fun t105 => (if t105 = true then ((spec_l1In.f ((rd_T74 x13 x15).f3) 0 1000).bind fun t106 => (if t106 = true then ((spec_l1In.f ((rd_T74 x13 x15).f4) 0 100).bind fun t107 => (if t107 = true then (spec_GoodBoxes.l0 k x13 x14 (wrap64 (x15 + 1))) else (some false))) else (some false))) else (some false))) else (some false))) else (some false))) else ((spec_l1In.f ((rd_T74 x13 x15).f1) 1 2).bind fun t108 => (if t108 = true then ((spec_l1In.f ((rd_T74 x13 x15).f2) 0 10000).bind fun t109 => (if t109 = true then ((spec_l1In.f ((rd_T74 x13 x15).f3) 0 1000).bind fun t110 => (if t110 = true then ((spec_l1In.f ((rd_T74 x13 x15).f4) 0 100).bind fun t111 => (if t111 = true then (spec_GoodBoxes.l0 k x13 x14 (wrap64 (x15 + 1))) else (some false))) else (some false))) else (some false))) else (some false)))) else (some false)) else (if x15 > 0 then ((spec_l1In.f ((rd_T74 x13 x15).f0) 0 (wrap64 (x15 - 1))).bind fun t112 => (if t112 = true then ((spec_l1In.f ((rd_T74 x13 x15).f1) 1 2).bind fun t113 => (if t113 = true then ((spec_l1In.f ((rd_T74 x13 x15).f2) 0 10000).bind fun t114 => (if t114 = true then ((spec_l1In.f ((rd_T74 x13 x15).f3) 0 1000).bind fun t115 => (if t115 = true then ((spec_l1In.f ((rd_T74 x13 x15).f4) 0 100).bind fun t116 => (if t116 = true then (spec_GoodBoxes.l0 k x13 x14 (wrap64 (x15 + 1))) else (some false))) else (some false))) else (some false))) else (some false))) else (some false))) else ((spec_l1In.f ((rd_T74 x13 x15).f1) 1 2).bind fun t117 => (if t117 = true then ((spec_l1In.f ((rd_T74 x13 x15).f2) 0 10000).bind fun t118 => (if t118 = true then ((spec_l1In.f ((rd_T74 x13 x15).f3) 0 1000).bind fun t119 => (if t119 = true then ((spec_l1In.f ((rd_T74 x13 x15).f4) 0 100).bind fun t120 => (if t120 = true then (spec_GoodBoxes.l0 k x13 x14 (wrap64 (x15 + 1))) else (some false))) else (some false))) else (some false))) else (some false))))) else (none)) else (none)) else (some true)
end
def spec_GoodBoxes.f (k : Nat) (l0 : List (S74)) : Option (Bool) := if (l0.length : Int) < 1 then (spec_GoodBoxes.j0 k l0 true) else (spec_GoodBoxes.j0 k l0 (decide ((l0.length : Int) > 40)))
theorem spec_GoodBoxes.mono_l : ∀ k, (∀ y0 y1, LeO (spec_GoodBoxes.j0 k y0 y1) (spec_GoodBoxes.j0 (k + 1) y0 y1)) ∧ (∀ y0 y1 y2, LeO (spec_GoodBoxes.l0 k y0 y1 y2) (spec_GoodBoxes.l0 (k + 1) y0 y1 y2))
 | 0 => ⟨fun _ _ r h => by simp [spec_GoodBoxes.j0] at h, fun _ _ _ r h => by simp [spec_GoodBoxes.l0] at h⟩
 | k + 1 => by
  obtain ⟨ih0, ih1⟩ := spec_GoodBoxes.mono_l k
  refine ⟨?_, ?_⟩
  ·intro y0 y1
   unfold spec_GoodBoxes.j0
   repeat' first
   | (with_reducible exact ih0 _ _)
   | (with_reducible exact ih1 _ _ _)
   | (with_reducible exact LeO.refl _)
   | (with_reducible exact LeO.none _)
   | (with_reducible refine LeO.ite ?_ ?_)
   | (with_reducible refine LeO.bind ?_ (fun _ => ?_))
   | exact ih0 _ _
   | exact ih1 _ _ _
   | exact LeO.none _
   | refine LeO.ite ?_ ?_
   | refine LeO.bind ?_ (fun _ => ?_)
  ·intro y0 y1 y2
   unfold spec_GoodBoxes.l0
   repeat' first
   | (with_reducible exact ih0 _ _)
   | (with_reducible exact ih1 _ _ _)
   | (with_reducible exact LeO.refl _)
   | (with_reducible exact LeO.none _)
   | (with_reducible refine LeO.ite ?_ ?_)
   | (with_reducible refine LeO.bind ?_ (fun _ => ?_))
   | exact ih0 _ _
   | exact ih1 _ _ _
   | exact LeO.none _
   | refine LeO.ite ?_ ?_
   | refine LeO.bind ?_ (fun _ => ?_)
theorem spec_GoodBoxes.mono : ∀ a0 k, LeO (spec_GoodBoxes.f k a0) (spec_GoodBoxes.f (k + 1) a0) := by
 intro a0 k
 obtain ⟨ih0, ih1⟩ := spec_GoodBoxes.mono_l k
 unfold spec_GoodBoxes.f
 repeat' first
   | (with_reducible exact ih0 _ _)
   | (with_reducible exact ih1 _ _ _)
   | (with_reducible exact LeO.refl _)
   | (with_reducible exact LeO.none _)
   | (with_reducible refine LeO.ite ?_ ?_)
   | (with_reducible refine LeO.bind ?_ (fun _ => ?_))
   | exact ih0 _ _
   | exact ih1 _ _ _
   | exact LeO.none _
   | refine LeO.ite ?_ ?_
   | refine LeO.bind ?_ (fun _ => ?_)
set_option maxHeartbeats 8000000 in
set_option maxRecDepth 100000 in
theorem spec_GoodBoxes.calls (k : Nat) (A0 : Option Addr) (c0 : Nat) (l0 : List (S74)) (r : Bool) (w : World) (hr0 : Kd.C k74 w A0 l0.length l0) (hc0 : l0.length ≤ c0) (h : spec_GoodBoxes.f k l0 = some r) :
  Calls Try.prog 38 #[.slice A0 l0.length c0] w fun e w' => e = .returned (.bool r) ∧ Below w.heap.size w w' := by
 have hu74 := Try.underlying74
 have HR0 := am_ hr0
 have HC0 := am_ hc0
 clear hr0 hc0
 have HB := am_ (Below.refl w.heap.size w)
 have H : (if (l0.length : Int) < 1 then (spec_GoodBoxes.j0 k l0 true) else (spec_GoodBoxes.j0 k l0 (decide ((l0.length : Int) > 40)))) = some r := h
 clear h
 have HC2 := am_ H
 clear H
 go_enter Try.func38, Try.ntmps38
 go_upto_region 1 with (fail)
 go_cut [12] (fun v12 wc => ∃ (kq : Nat) (x12_1 : Bool), v12 = .bool x12_1 ∧ Aside0 (spec_GoodBoxes.j0 kq l0 x12_1 = some r) ∧ Aside0 (kq ≤ k) ∧ Aside0 (Below w.heap.size w wc))
 case first =>
  have H := HC2.out
  clear HC2
  by_cases c3 : (l0.length : Int) < 1
  ·rw [if_pos c3] at H
   have c3b0 : decide ((l0.length : Int) < 1) = true := decide_eq_true c3
   have c3b1 : decide (l0.length < 1) = true := decide_eq_true (by omega)
   clear c3
   (first | rw [c3b0] | (simp only [i64_w, i32_w]; rw [c3b0]) | skip)
   have H' := am_ H
   clear H
   go_wp2
   go_meet
   case rel => exact ⟨_, (true), sq_, H', ⟨by first | omega | exact Nat.le_refl _⟩, ⟨bw_ HB.out⟩⟩
  ·rw [if_neg c3] at H
   have c3b0 : decide ((l0.length : Int) < 1) = false := decide_eq_false c3
   have c3b1 : decide (l0.length < 1) = false := decide_eq_false (by omega)
   clear c3
   (first | rw [c3b0] | (simp only [i64_w, i32_w]; rw [c3b0]) | skip)
   have H' := am_ H
   clear H
   go_wp2
   go_meet
   case rel => exact ⟨_, (decide ((l0.length : Int) > 40)), sq_, H', ⟨by first | omega | exact Nat.le_refl _⟩, ⟨bw_ HB.out⟩⟩
 case rest =>
  clear HC2
  obtain ⟨kq, x12_1, rfl, HA, HJ1, HB⟩ := hcut
  cases kq with
  | zero => exact absurd HA.out (by simp [spec_GoodBoxes.j0])
  | succ kj1 =>
   have H := HA.out
   clear HA
   simp only [spec_GoodBoxes.j0] at H
   by_cases c4 : x12_1 = true
   ·subst c4
    replace H := it_ H rfl
    obtain rfl := Option.some.inj H
    go_wp2
    go_ret
    exact ⟨by first | rfl | (simp [errW_none, errW_some] <;> rfl) | (simp [*, errW_none, errW_some] <;> rfl), bw_ HB.out⟩
   ·replace c4 := Bool.eq_false_iff.mpr c4
    subst c4
    replace H := if_ H Bool.false_ne_true
    have H' := am_ H
    clear H
    go_wp2
    go_loopg [15] kj1 (fun kq v15 w' => ∃ (x15_2 : Int), v15 = .int .i64 x15_2 ∧ Aside0 (spec_GoodBoxes.l0 kq l0 (l0.length : Int) x15_2 = some r) ∧ Aside0 (kq ≤ kj1) ∧ Aside0 (Below w.heap.size w w'))
    case atStart => exact ⟨(0), sq_, H', ⟨Nat.le_refl _⟩, ⟨bw_ HB.out⟩⟩
    case round =>
     clear H'
     try clear c4
     obtain ⟨x15_2, rfl, HA, HK2, HB⟩ := hrel
     cases gk with
     | zero => exact absurd HA.out (by simp [spec_GoodBoxes.l0])
     | succ k2 =>
      have H := HA.out
      clear HA
      simp only [spec_GoodBoxes.l0] at H
      by_cases c5 : x15_2 < (l0.length : Int)
      ·rw [if_pos c5] at H
       have c5b0 : decide (x15_2 < (l0.length : Int)) = true := decide_eq_true c5
       clear c5
       obtain ⟨c6, H⟩ := ifn_ H
       have c6b0 : decide (0 ≤ x15_2) = true := decide_eq_true c6
       clear c6
       obtain ⟨c7, H⟩ := ifn_ H
       have c7b0 : decide (x15_2 < (l0.length : Int)) = true := decide_eq_true c7
       clear c7
       by_cases c8 : x15_2 = 0
       ·rw [if_pos c8] at H
        have c8b0 : (x15_2 == 0) = true := beq_iff_eq.mpr c8
        have c8b1 : (x15_2 != 0) = false := bne_eq_false_iff_eq.mpr c8
        clear c8
        by_cases c9 : ((rd_T74 l0 x15_2).f0) = (-1)
        ·rw [if_pos c9] at H
         have c9b0 : (((rd_T74 l0 x15_2).f0) == (-1)) = true := beq_iff_eq.mpr c9
         have c9b1 : (((rd_T74 l0 x15_2).f0) != (-1)) = false := bne_eq_false_iff_eq.mpr c9
         clear c9
         by_cases c10 : x15_2 > 0
         ·rw [if_pos c10] at H
          have c10b0 : decide (0 < x15_2) = true := decide_eq_true c10
          clear c10
          obtain ⟨t103, A110, H⟩ := bE_ H
          have A11 := am_ A110
          clear A110
          by_cases c12 : t103 = true
          ·subst c12
           replace H := it_ H rfl
           obtain ⟨t104, A130, H⟩ := bE_ H
           have A13 := am_ A130
           clear A130
           by_cases c14 : t104 = true
           ·subst c14
            replace H := it_ H rfl
            obtain ⟨t105, A150, H⟩ := bE_ H
            have A15 := am_ A150
            clear A150
            by_cases c16 : t105 = true
            ·subst c16
             replace H := it_ H rfl
             obtain ⟨t106, A170, H⟩ := bE_ H
             have A17 := am_ A170
             clear A170
             by_cases c18 : t106 = true
             ·subst c18
              replace H := it_ H rfl
              obtain ⟨t107, A190, H⟩ := bE_ H
              have A19 := am_ A190
              clear A190
              by_cases c20 : t107 = true
              ·subst c20
               replace H := it_ H rfl
               have H' := am_ H
               clear H
               have p101 : 0 ≤ (x15_2 : Int) := od_
               have q101 : x15_2 < (l0.length : Int) := od_
               obtain ⟨ad101, e101, hx101_0, hx101_1, hx101_2, hx101_3, hx101_4⟩ := at_T74 HR0.out x15_2 p101 q101
               cases e101
               (try replace hx101_0 := hc_ HB.out hx101_0)
               (try replace hx101_1 := hc_ HB.out hx101_1)
               (try replace hx101_2 := hc_ HB.out hx101_2)
               (try replace hx101_3 := hc_ HB.out hx101_3)
               (try replace hx101_4 := hc_ HB.out hx101_4)
               replace p101 := eq_true p101
               replace q101 := eq_true q101
               go_wp2_with (first | ((with_reducible refine gate_dst (N := 4) rfl ?_); (try (refine gate_guard (by rfl) ?_; dsimp only)); refine bx_ 4 #[.int .i64 0, .int .i64 0, .int .i64 0, .int .i64 0, .int .i64 0] 74 ?_; intro gb102 hg w21 hbox hb; have n0_ := am_ (below_step (bw_ HB.out) hb); have n1_ := am_ (hbox); have n2_ := am_ (gs_ hg (bw_ HB.out)); have n3_ := am_ (gs_ hg (bw_ HB.out)); replace HB := n0_; have BK102 := n1_; have GW102 := n2_; have GE102 := n3_; clear n0_ n1_ n2_ n3_; clear hb hbox hg; have hcz22_0 := cz_ BK102.out 0; have hcz22_1 := cz_ BK102.out 1; have hcz22_2 := cz_ BK102.out 2; have hcz22_3 := cz_ BK102.out 3; have hcz22_4 := cz_ BK102.out 4; have hfz22_0 := blk_frozen BK102.out 0; have hfz22_1 := blk_frozen BK102.out 1; have hfz22_2 := blk_frozen BK102.out 2; have hfz22_3 := blk_frozen BK102.out 3; have hfz22_4 := blk_frozen BK102.out 4) | (go_at_call 39; (try simp only [i64_w]); (with_reducible refine (spec_l1In.calls ((rd_T74 l0 x15_2).f0) 0 (wrap64 (x15_2 - 1)) true _ A11.out).mono ?_); rintro e w' ⟨rfl, ⟨nd, rfl⟩⟩) | (go_at_call 39; (with_reducible refine (spec_l1In.calls ((rd_T74 l0 x15_2).f1) 1 2 true _ A13.out).mono ?_); rintro e w' ⟨rfl, ⟨nd, rfl⟩⟩) | (go_at_call 39; (with_reducible refine (spec_l1In.calls ((rd_T74 l0 x15_2).f2) 0 10000 true _ A15.out).mono ?_); rintro e w' ⟨rfl, ⟨nd, rfl⟩⟩) | (go_at_call 39; (with_reducible refine (spec_l1In.calls ((rd_T74 l0 x15_2).f3) 0 1000 true _ A17.out).mono ?_); rintro e w' ⟨rfl, ⟨nd, rfl⟩⟩) | (go_at_call 39; (with_reducible refine (spec_l1In.calls ((rd_T74 l0 x15_2).f4) 0 100 true _ A19.out).mono ?_); rintro e w' ⟨rfl, ⟨nd, rfl⟩⟩))
               go_roundg k2
               case measure => have := HJ1.out; have := HK2.out; omega
               case rel => exact ⟨(wrap64 (x15_2 + 1)), sq_, H', ⟨by have := HJ1.out; have := HK2.out; omega⟩, ⟨bw_ HB.out⟩⟩
              ·replace c20 := Bool.eq_false_iff.mpr c20
               subst c20
               replace H := if_ H Bool.false_ne_true
               obtain rfl := Option.some.inj H
               have p101 : 0 ≤ (x15_2 : Int) := od_
               have q101 : x15_2 < (l0.length : Int) := od_
               obtain ⟨ad101, e101, hx101_0, hx101_1, hx101_2, hx101_3, hx101_4⟩ := at_T74 HR0.out x15_2 p101 q101
               cases e101
               (try replace hx101_0 := hc_ HB.out hx101_0)
               (try replace hx101_1 := hc_ HB.out hx101_1)
               (try replace hx101_2 := hc_ HB.out hx101_2)
               (try replace hx101_3 := hc_ HB.out hx101_3)
               (try replace hx101_4 := hc_ HB.out hx101_4)
               replace p101 := eq_true p101
               replace q101 := eq_true q101
               go_wp2_with (first | ((with_reducible refine gate_dst (N := 4) rfl ?_); (try (refine gate_guard (by rfl) ?_; dsimp only)); refine bx_ 4 #[.int .i64 0, .int .i64 0, .int .i64 0, .int .i64 0, .int .i64 0] 74 ?_; intro gb102 hg w23 hbox hb; have n0_ := am_ (below_step (bw_ HB.out) hb); have n1_ := am_ (hbox); have n2_ := am_ (gs_ hg (bw_ HB.out)); have n3_ := am_ (gs_ hg (bw_ HB.out)); replace HB := n0_; have BK102 := n1_; have GW102 := n2_; have GE102 := n3_; clear n0_ n1_ n2_ n3_; clear hb hbox hg; have hcz24_0 := cz_ BK102.out 0; have hcz24_1 := cz_ BK102.out 1; have hcz24_2 := cz_ BK102.out 2; have hcz24_3 := cz_ BK102.out 3; have hcz24_4 := cz_ BK102.out 4; have hfz24_0 := blk_frozen BK102.out 0; have hfz24_1 := blk_frozen BK102.out 1; have hfz24_2 := blk_frozen BK102.out 2; have hfz24_3 := blk_frozen BK102.out 3; have hfz24_4 := blk_frozen BK102.out 4) | (go_at_call 39; (try simp only [i64_w]); (with_reducible refine (spec_l1In.calls ((rd_T74 l0 x15_2).f0) 0 (wrap64 (x15_2 - 1)) true _ A11.out).mono ?_); rintro e w' ⟨rfl, ⟨nd, rfl⟩⟩) | (go_at_call 39; (with_reducible refine (spec_l1In.calls ((rd_T74 l0 x15_2).f1) 1 2 true _ A13.out).mono ?_); rintro e w' ⟨rfl, ⟨nd, rfl⟩⟩) | (go_at_call 39; (with_reducible refine (spec_l1In.calls ((rd_T74 l0 x15_2).f2) 0 10000 true _ A15.out).mono ?_); rintro e w' ⟨rfl, ⟨nd, rfl⟩⟩) | (go_at_call 39; (with_reducible refine (spec_l1In.calls ((rd_T74 l0 x15_2).f3) 0 1000 true _ A17.out).mono ?_); rintro e w' ⟨rfl, ⟨nd, rfl⟩⟩) | (go_at_call 39; (with_reducible refine (spec_l1In.calls ((rd_T74 l0 x15_2).f4) 0 100 false _ A19.out).mono ?_); rintro e w' ⟨rfl, ⟨nd, rfl⟩⟩))
               go_ret
               exact ⟨by first | rfl | (simp [errW_none, errW_some] <;> rfl) | (simp [*, errW_none, errW_some] <;> rfl), bw_ HB.out⟩
             ·replace c18 := Bool.eq_false_iff.mpr c18
              subst c18
              replace H := if_ H Bool.false_ne_true
              obtain rfl := Option.some.inj H
              have p101 : 0 ≤ (x15_2 : Int) := od_
              have q101 : x15_2 < (l0.length : Int) := od_
              obtain ⟨ad101, e101, hx101_0, hx101_1, hx101_2, hx101_3, hx101_4⟩ := at_T74 HR0.out x15_2 p101 q101
              cases e101
              (try replace hx101_0 := hc_ HB.out hx101_0)
              (try replace hx101_1 := hc_ HB.out hx101_1)
              (try replace hx101_2 := hc_ HB.out hx101_2)
              (try replace hx101_3 := hc_ HB.out hx101_3)
              (try replace hx101_4 := hc_ HB.out hx101_4)
              replace p101 := eq_true p101
              replace q101 := eq_true q101
              go_wp2_with (first | ((with_reducible refine gate_dst (N := 4) rfl ?_); (try (refine gate_guard (by rfl) ?_; dsimp only)); refine bx_ 4 #[.int .i64 0, .int .i64 0, .int .i64 0, .int .i64 0, .int .i64 0] 74 ?_; intro gb102 hg w25 hbox hb; have n0_ := am_ (below_step (bw_ HB.out) hb); have n1_ := am_ (hbox); have n2_ := am_ (gs_ hg (bw_ HB.out)); have n3_ := am_ (gs_ hg (bw_ HB.out)); replace HB := n0_; have BK102 := n1_; have GW102 := n2_; have GE102 := n3_; clear n0_ n1_ n2_ n3_; clear hb hbox hg; have hcz26_0 := cz_ BK102.out 0; have hcz26_1 := cz_ BK102.out 1; have hcz26_2 := cz_ BK102.out 2; have hcz26_3 := cz_ BK102.out 3; have hcz26_4 := cz_ BK102.out 4; have hfz26_0 := blk_frozen BK102.out 0; have hfz26_1 := blk_frozen BK102.out 1; have hfz26_2 := blk_frozen BK102.out 2; have hfz26_3 := blk_frozen BK102.out 3; have hfz26_4 := blk_frozen BK102.out 4) | (go_at_call 39; (try simp only [i64_w]); (with_reducible refine (spec_l1In.calls ((rd_T74 l0 x15_2).f0) 0 (wrap64 (x15_2 - 1)) true _ A11.out).mono ?_); rintro e w' ⟨rfl, ⟨nd, rfl⟩⟩) | (go_at_call 39; (with_reducible refine (spec_l1In.calls ((rd_T74 l0 x15_2).f1) 1 2 true _ A13.out).mono ?_); rintro e w' ⟨rfl, ⟨nd, rfl⟩⟩) | (go_at_call 39; (with_reducible refine (spec_l1In.calls ((rd_T74 l0 x15_2).f2) 0 10000 true _ A15.out).mono ?_); rintro e w' ⟨rfl, ⟨nd, rfl⟩⟩) | (go_at_call 39; (with_reducible refine (spec_l1In.calls ((rd_T74 l0 x15_2).f3) 0 1000 false _ A17.out).mono ?_); rintro e w' ⟨rfl, ⟨nd, rfl⟩⟩))
              go_ret
              exact ⟨by first | rfl | (simp [errW_none, errW_some] <;> rfl) | (simp [*, errW_none, errW_some] <;> rfl), bw_ HB.out⟩
            ·replace c16 := Bool.eq_false_iff.mpr c16
             subst c16
             replace H := if_ H Bool.false_ne_true
             obtain rfl := Option.some.inj H
             have p101 : 0 ≤ (x15_2 : Int) := od_
             have q101 : x15_2 < (l0.length : Int) := od_
             obtain ⟨ad101, e101, hx101_0, hx101_1, hx101_2, hx101_3, hx101_4⟩ := at_T74 HR0.out x15_2 p101 q101
             cases e101
             (try replace hx101_0 := hc_ HB.out hx101_0)
             (try replace hx101_1 := hc_ HB.out hx101_1)
             (try replace hx101_2 := hc_ HB.out hx101_2)
             (try replace hx101_3 := hc_ HB.out hx101_3)
             (try replace hx101_4 := hc_ HB.out hx101_4)
             replace p101 := eq_true p101
             replace q101 := eq_true q101
             go_wp2_with (first | ((with_reducible refine gate_dst (N := 4) rfl ?_); (try (refine gate_guard (by rfl) ?_; dsimp only)); refine bx_ 4 #[.int .i64 0, .int .i64 0, .int .i64 0, .int .i64 0, .int .i64 0] 74 ?_; intro gb102 hg w27 hbox hb; have n0_ := am_ (below_step (bw_ HB.out) hb); have n1_ := am_ (hbox); have n2_ := am_ (gs_ hg (bw_ HB.out)); have n3_ := am_ (gs_ hg (bw_ HB.out)); replace HB := n0_; have BK102 := n1_; have GW102 := n2_; have GE102 := n3_; clear n0_ n1_ n2_ n3_; clear hb hbox hg; have hcz28_0 := cz_ BK102.out 0; have hcz28_1 := cz_ BK102.out 1; have hcz28_2 := cz_ BK102.out 2; have hcz28_3 := cz_ BK102.out 3; have hcz28_4 := cz_ BK102.out 4; have hfz28_0 := blk_frozen BK102.out 0; have hfz28_1 := blk_frozen BK102.out 1; have hfz28_2 := blk_frozen BK102.out 2; have hfz28_3 := blk_frozen BK102.out 3; have hfz28_4 := blk_frozen BK102.out 4) | (go_at_call 39; (try simp only [i64_w]); (with_reducible refine (spec_l1In.calls ((rd_T74 l0 x15_2).f0) 0 (wrap64 (x15_2 - 1)) true _ A11.out).mono ?_); rintro e w' ⟨rfl, ⟨nd, rfl⟩⟩) | (go_at_call 39; (with_reducible refine (spec_l1In.calls ((rd_T74 l0 x15_2).f1) 1 2 true _ A13.out).mono ?_); rintro e w' ⟨rfl, ⟨nd, rfl⟩⟩) | (go_at_call 39; (with_reducible refine (spec_l1In.calls ((rd_T74 l0 x15_2).f2) 0 10000 false _ A15.out).mono ?_); rintro e w' ⟨rfl, ⟨nd, rfl⟩⟩))
             go_ret
             exact ⟨by first | rfl | (simp [errW_none, errW_some] <;> rfl) | (simp [*, errW_none, errW_some] <;> rfl), bw_ HB.out⟩
           ·replace c14 := Bool.eq_false_iff.mpr c14
            subst c14
            replace H := if_ H Bool.false_ne_true
            obtain rfl := Option.some.inj H
            have p101 : 0 ≤ (x15_2 : Int) := od_
            have q101 : x15_2 < (l0.length : Int) := od_
            obtain ⟨ad101, e101, hx101_0, hx101_1, hx101_2, hx101_3, hx101_4⟩ := at_T74 HR0.out x15_2 p101 q101
            cases e101
            (try replace hx101_0 := hc_ HB.out hx101_0)
            (try replace hx101_1 := hc_ HB.out hx101_1)
            (try replace hx101_2 := hc_ HB.out hx101_2)
            (try replace hx101_3 := hc_ HB.out hx101_3)
            (try replace hx101_4 := hc_ HB.out hx101_4)
            replace p101 := eq_true p101
            replace q101 := eq_true q101
            go_wp2_with (first | ((with_reducible refine gate_dst (N := 4) rfl ?_); (try (refine gate_guard (by rfl) ?_; dsimp only)); refine bx_ 4 #[.int .i64 0, .int .i64 0, .int .i64 0, .int .i64 0, .int .i64 0] 74 ?_; intro gb102 hg w29 hbox hb; have n0_ := am_ (below_step (bw_ HB.out) hb); have n1_ := am_ (hbox); have n2_ := am_ (gs_ hg (bw_ HB.out)); have n3_ := am_ (gs_ hg (bw_ HB.out)); replace HB := n0_; have BK102 := n1_; have GW102 := n2_; have GE102 := n3_; clear n0_ n1_ n2_ n3_; clear hb hbox hg; have hcz30_0 := cz_ BK102.out 0; have hcz30_1 := cz_ BK102.out 1; have hcz30_2 := cz_ BK102.out 2; have hcz30_3 := cz_ BK102.out 3; have hcz30_4 := cz_ BK102.out 4; have hfz30_0 := blk_frozen BK102.out 0; have hfz30_1 := blk_frozen BK102.out 1; have hfz30_2 := blk_frozen BK102.out 2; have hfz30_3 := blk_frozen BK102.out 3; have hfz30_4 := blk_frozen BK102.out 4) | (go_at_call 39; (try simp only [i64_w]); (with_reducible refine (spec_l1In.calls ((rd_T74 l0 x15_2).f0) 0 (wrap64 (x15_2 - 1)) true _ A11.out).mono ?_); rintro e w' ⟨rfl, ⟨nd, rfl⟩⟩) | (go_at_call 39; (with_reducible refine (spec_l1In.calls ((rd_T74 l0 x15_2).f1) 1 2 false _ A13.out).mono ?_); rintro e w' ⟨rfl, ⟨nd, rfl⟩⟩))
            go_ret
            exact ⟨by first | rfl | (simp [errW_none, errW_some] <;> rfl) | (simp [*, errW_none, errW_some] <;> rfl), bw_ HB.out⟩
          ·replace c12 := Bool.eq_false_iff.mpr c12
           subst c12
           replace H := if_ H Bool.false_ne_true
           obtain rfl := Option.some.inj H
           have p101 : 0 ≤ (x15_2 : Int) := od_
           have q101 : x15_2 < (l0.length : Int) := od_
           obtain ⟨ad101, e101, hx101_0, hx101_1, hx101_2, hx101_3, hx101_4⟩ := at_T74 HR0.out x15_2 p101 q101
           cases e101
           (try replace hx101_0 := hc_ HB.out hx101_0)
           (try replace hx101_1 := hc_ HB.out hx101_1)
           (try replace hx101_2 := hc_ HB.out hx101_2)
           (try replace hx101_3 := hc_ HB.out hx101_3)
           (try replace hx101_4 := hc_ HB.out hx101_4)
           replace p101 := eq_true p101
           replace q101 := eq_true q101
           go_wp2_with (first | ((with_reducible refine gate_dst (N := 4) rfl ?_); (try (refine gate_guard (by rfl) ?_; dsimp only)); refine bx_ 4 #[.int .i64 0, .int .i64 0, .int .i64 0, .int .i64 0, .int .i64 0] 74 ?_; intro gb102 hg w31 hbox hb; have n0_ := am_ (below_step (bw_ HB.out) hb); have n1_ := am_ (hbox); have n2_ := am_ (gs_ hg (bw_ HB.out)); have n3_ := am_ (gs_ hg (bw_ HB.out)); replace HB := n0_; have BK102 := n1_; have GW102 := n2_; have GE102 := n3_; clear n0_ n1_ n2_ n3_; clear hb hbox hg; have hcz32_0 := cz_ BK102.out 0; have hcz32_1 := cz_ BK102.out 1; have hcz32_2 := cz_ BK102.out 2; have hcz32_3 := cz_ BK102.out 3; have hcz32_4 := cz_ BK102.out 4; have hfz32_0 := blk_frozen BK102.out 0; have hfz32_1 := blk_frozen BK102.out 1; have hfz32_2 := blk_frozen BK102.out 2; have hfz32_3 := blk_frozen BK102.out 3; have hfz32_4 := blk_frozen BK102.out 4) | (go_at_call 39; (try simp only [i64_w]); (with_reducible refine (spec_l1In.calls ((rd_T74 l0 x15_2).f0) 0 (wrap64 (x15_2 - 1)) false _ A11.out).mono ?_); rintro e w' ⟨rfl, ⟨nd, rfl⟩⟩))
           go_ret
           exact ⟨by first | rfl | (simp [errW_none, errW_some] <;> rfl) | (simp [*, errW_none, errW_some] <;> rfl), bw_ HB.out⟩
         ·rw [if_neg c10] at H
          have c10b0 : decide (0 < x15_2) = false := decide_eq_false c10
          clear c10
          obtain ⟨t108, A330, H⟩ := bE_ H
          have A33 := am_ A330
          clear A330
          by_cases c34 : t108 = true
          ·subst c34
           replace H := it_ H rfl
           obtain ⟨t109, A350, H⟩ := bE_ H
           have A35 := am_ A350
           clear A350
           by_cases c36 : t109 = true
           ·subst c36
            replace H := it_ H rfl
            obtain ⟨t110, A370, H⟩ := bE_ H
            have A37 := am_ A370
            clear A370
            by_cases c38 : t110 = true
            ·subst c38
             replace H := it_ H rfl
             obtain ⟨t111, A390, H⟩ := bE_ H
             have A39 := am_ A390
             clear A390
             by_cases c40 : t111 = true
             ·subst c40
              replace H := it_ H rfl
              have H' := am_ H
              clear H
              have p101 : 0 ≤ (x15_2 : Int) := od_
              have q101 : x15_2 < (l0.length : Int) := od_
              obtain ⟨ad101, e101, hx101_0, hx101_1, hx101_2, hx101_3, hx101_4⟩ := at_T74 HR0.out x15_2 p101 q101
              cases e101
              (try replace hx101_0 := hc_ HB.out hx101_0)
              (try replace hx101_1 := hc_ HB.out hx101_1)
              (try replace hx101_2 := hc_ HB.out hx101_2)
              (try replace hx101_3 := hc_ HB.out hx101_3)
              (try replace hx101_4 := hc_ HB.out hx101_4)
              replace p101 := eq_true p101
              replace q101 := eq_true q101
              go_wp2_with (first | ((with_reducible refine gate_dst (N := 4) rfl ?_); (try (refine gate_guard (by rfl) ?_; dsimp only)); refine bx_ 4 #[.int .i64 0, .int .i64 0, .int .i64 0, .int .i64 0, .int .i64 0] 74 ?_; intro gb102 hg w41 hbox hb; have n0_ := am_ (below_step (bw_ HB.out) hb); have n1_ := am_ (hbox); have n2_ := am_ (gs_ hg (bw_ HB.out)); have n3_ := am_ (gs_ hg (bw_ HB.out)); replace HB := n0_; have BK102 := n1_; have GW102 := n2_; have GE102 := n3_; clear n0_ n1_ n2_ n3_; clear hb hbox hg; have hcz42_0 := cz_ BK102.out 0; have hcz42_1 := cz_ BK102.out 1; have hcz42_2 := cz_ BK102.out 2; have hcz42_3 := cz_ BK102.out 3; have hcz42_4 := cz_ BK102.out 4; have hfz42_0 := blk_frozen BK102.out 0; have hfz42_1 := blk_frozen BK102.out 1; have hfz42_2 := blk_frozen BK102.out 2; have hfz42_3 := blk_frozen BK102.out 3; have hfz42_4 := blk_frozen BK102.out 4) | (go_at_call 39; (with_reducible refine (spec_l1In.calls ((rd_T74 l0 x15_2).f1) 1 2 true _ A33.out).mono ?_); rintro e w' ⟨rfl, ⟨nd, rfl⟩⟩) | (go_at_call 39; (with_reducible refine (spec_l1In.calls ((rd_T74 l0 x15_2).f2) 0 10000 true _ A35.out).mono ?_); rintro e w' ⟨rfl, ⟨nd, rfl⟩⟩) | (go_at_call 39; (with_reducible refine (spec_l1In.calls ((rd_T74 l0 x15_2).f3) 0 1000 true _ A37.out).mono ?_); rintro e w' ⟨rfl, ⟨nd, rfl⟩⟩) | (go_at_call 39; (with_reducible refine (spec_l1In.calls ((rd_T74 l0 x15_2).f4) 0 100 true _ A39.out).mono ?_); rintro e w' ⟨rfl, ⟨nd, rfl⟩⟩))
              go_roundg k2
              case measure => have := HJ1.out; have := HK2.out; omega
              case rel => exact ⟨(wrap64 (x15_2 + 1)), sq_, H', ⟨by have := HJ1.out; have := HK2.out; omega⟩, ⟨bw_ HB.out⟩⟩
             ·replace c40 := Bool.eq_false_iff.mpr c40
              subst c40
              replace H := if_ H Bool.false_ne_true
              obtain rfl := Option.some.inj H
              have p101 : 0 ≤ (x15_2 : Int) := od_
              have q101 : x15_2 < (l0.length : Int) := od_
              obtain ⟨ad101, e101, hx101_0, hx101_1, hx101_2, hx101_3, hx101_4⟩ := at_T74 HR0.out x15_2 p101 q101
              cases e101
              (try replace hx101_0 := hc_ HB.out hx101_0)
              (try replace hx101_1 := hc_ HB.out hx101_1)
              (try replace hx101_2 := hc_ HB.out hx101_2)
              (try replace hx101_3 := hc_ HB.out hx101_3)
              (try replace hx101_4 := hc_ HB.out hx101_4)
              replace p101 := eq_true p101
              replace q101 := eq_true q101
              go_wp2_with (first | ((with_reducible refine gate_dst (N := 4) rfl ?_); (try (refine gate_guard (by rfl) ?_; dsimp only)); refine bx_ 4 #[.int .i64 0, .int .i64 0, .int .i64 0, .int .i64 0, .int .i64 0] 74 ?_; intro gb102 hg w43 hbox hb; have n0_ := am_ (below_step (bw_ HB.out) hb); have n1_ := am_ (hbox); have n2_ := am_ (gs_ hg (bw_ HB.out)); have n3_ := am_ (gs_ hg (bw_ HB.out)); replace HB := n0_; have BK102 := n1_; have GW102 := n2_; have GE102 := n3_; clear n0_ n1_ n2_ n3_; clear hb hbox hg; have hcz44_0 := cz_ BK102.out 0; have hcz44_1 := cz_ BK102.out 1; have hcz44_2 := cz_ BK102.out 2; have hcz44_3 := cz_ BK102.out 3; have hcz44_4 := cz_ BK102.out 4; have hfz44_0 := blk_frozen BK102.out 0; have hfz44_1 := blk_frozen BK102.out 1; have hfz44_2 := blk_frozen BK102.out 2; have hfz44_3 := blk_frozen BK102.out 3; have hfz44_4 := blk_frozen BK102.out 4) | (go_at_call 39; (with_reducible refine (spec_l1In.calls ((rd_T74 l0 x15_2).f1) 1 2 true _ A33.out).mono ?_); rintro e w' ⟨rfl, ⟨nd, rfl⟩⟩) | (go_at_call 39; (with_reducible refine (spec_l1In.calls ((rd_T74 l0 x15_2).f2) 0 10000 true _ A35.out).mono ?_); rintro e w' ⟨rfl, ⟨nd, rfl⟩⟩) | (go_at_call 39; (with_reducible refine (spec_l1In.calls ((rd_T74 l0 x15_2).f3) 0 1000 true _ A37.out).mono ?_); rintro e w' ⟨rfl, ⟨nd, rfl⟩⟩) | (go_at_call 39; (with_reducible refine (spec_l1In.calls ((rd_T74 l0 x15_2).f4) 0 100 false _ A39.out).mono ?_); rintro e w' ⟨rfl, ⟨nd, rfl⟩⟩))
              go_ret
              exact ⟨by first | rfl | (simp [errW_none, errW_some] <;> rfl) | (simp [*, errW_none, errW_some] <;> rfl), bw_ HB.out⟩
            ·replace c38 := Bool.eq_false_iff.mpr c38
             subst c38
             replace H := if_ H Bool.false_ne_true
             obtain rfl := Option.some.inj H
             have p101 : 0 ≤ (x15_2 : Int) := od_
             have q101 : x15_2 < (l0.length : Int) := od_
             obtain ⟨ad101, e101, hx101_0, hx101_1, hx101_2, hx101_3, hx101_4⟩ := at_T74 HR0.out x15_2 p101 q101
             cases e101
             (try replace hx101_0 := hc_ HB.out hx101_0)
             (try replace hx101_1 := hc_ HB.out hx101_1)
             (try replace hx101_2 := hc_ HB.out hx101_2)
             (try replace hx101_3 := hc_ HB.out hx101_3)
             (try replace hx101_4 := hc_ HB.out hx101_4)
             replace p101 := eq_true p101
             replace q101 := eq_true q101
             go_wp2_with (first | ((with_reducible refine gate_dst (N := 4) rfl ?_); (try (refine gate_guard (by rfl) ?_; dsimp only)); refine bx_ 4 #[.int .i64 0, .int .i64 0, .int .i64 0, .int .i64 0, .int .i64 0] 74 ?_; intro gb102 hg w45 hbox hb; have n0_ := am_ (below_step (bw_ HB.out) hb); have n1_ := am_ (hbox); have n2_ := am_ (gs_ hg (bw_ HB.out)); have n3_ := am_ (gs_ hg (bw_ HB.out)); replace HB := n0_; have BK102 := n1_; have GW102 := n2_; have GE102 := n3_; clear n0_ n1_ n2_ n3_; clear hb hbox hg; have hcz46_0 := cz_ BK102.out 0; have hcz46_1 := cz_ BK102.out 1; have hcz46_2 := cz_ BK102.out 2; have hcz46_3 := cz_ BK102.out 3; have hcz46_4 := cz_ BK102.out 4; have hfz46_0 := blk_frozen BK102.out 0; have hfz46_1 := blk_frozen BK102.out 1; have hfz46_2 := blk_frozen BK102.out 2; have hfz46_3 := blk_frozen BK102.out 3; have hfz46_4 := blk_frozen BK102.out 4) | (go_at_call 39; (with_reducible refine (spec_l1In.calls ((rd_T74 l0 x15_2).f1) 1 2 true _ A33.out).mono ?_); rintro e w' ⟨rfl, ⟨nd, rfl⟩⟩) | (go_at_call 39; (with_reducible refine (spec_l1In.calls ((rd_T74 l0 x15_2).f2) 0 10000 true _ A35.out).mono ?_); rintro e w' ⟨rfl, ⟨nd, rfl⟩⟩) | (go_at_call 39; (with_reducible refine (spec_l1In.calls ((rd_T74 l0 x15_2).f3) 0 1000 false _ A37.out).mono ?_); rintro e w' ⟨rfl, ⟨nd, rfl⟩⟩))
             go_ret
             exact ⟨by first | rfl | (simp [errW_none, errW_some] <;> rfl) | (simp [*, errW_none, errW_some] <;> rfl), bw_ HB.out⟩
           ·replace c36 := Bool.eq_false_iff.mpr c36
            subst c36
            replace H := if_ H Bool.false_ne_true
            obtain rfl := Option.some.inj H
            have p101 : 0 ≤ (x15_2 : Int) := od_
            have q101 : x15_2 < (l0.length : Int) := od_
            obtain ⟨ad101, e101, hx101_0, hx101_1, hx101_2, hx101_3, hx101_4⟩ := at_T74 HR0.out x15_2 p101 q101
            cases e101
            (try replace hx101_0 := hc_ HB.out hx101_0)
            (try replace hx101_1 := hc_ HB.out hx101_1)
            (try replace hx101_2 := hc_ HB.out hx101_2)
            (try replace hx101_3 := hc_ HB.out hx101_3)
            (try replace hx101_4 := hc_ HB.out hx101_4)
            replace p101 := eq_true p101
            replace q101 := eq_true q101
            go_wp2_with (first | ((with_reducible refine gate_dst (N := 4) rfl ?_); (try (refine gate_guard (by rfl) ?_; dsimp only)); refine bx_ 4 #[.int .i64 0, .int .i64 0, .int .i64 0, .int .i64 0, .int .i64 0] 74 ?_; intro gb102 hg w47 hbox hb; have n0_ := am_ (below_step (bw_ HB.out) hb); have n1_ := am_ (hbox); have n2_ := am_ (gs_ hg (bw_ HB.out)); have n3_ := am_ (gs_ hg (bw_ HB.out)); replace HB := n0_; have BK102 := n1_; have GW102 := n2_; have GE102 := n3_; clear n0_ n1_ n2_ n3_; clear hb hbox hg; have hcz48_0 := cz_ BK102.out 0; have hcz48_1 := cz_ BK102.out 1; have hcz48_2 := cz_ BK102.out 2; have hcz48_3 := cz_ BK102.out 3; have hcz48_4 := cz_ BK102.out 4; have hfz48_0 := blk_frozen BK102.out 0; have hfz48_1 := blk_frozen BK102.out 1; have hfz48_2 := blk_frozen BK102.out 2; have hfz48_3 := blk_frozen BK102.out 3; have hfz48_4 := blk_frozen BK102.out 4) | (go_at_call 39; (with_reducible refine (spec_l1In.calls ((rd_T74 l0 x15_2).f1) 1 2 true _ A33.out).mono ?_); rintro e w' ⟨rfl, ⟨nd, rfl⟩⟩) | (go_at_call 39; (with_reducible refine (spec_l1In.calls ((rd_T74 l0 x15_2).f2) 0 10000 false _ A35.out).mono ?_); rintro e w' ⟨rfl, ⟨nd, rfl⟩⟩))
            go_ret
            exact ⟨by first | rfl | (simp [errW_none, errW_some] <;> rfl) | (simp [*, errW_none, errW_some] <;> rfl), bw_ HB.out⟩
          ·replace c34 := Bool.eq_false_iff.mpr c34
           subst c34
           replace H := if_ H Bool.false_ne_true
           obtain rfl := Option.some.inj H
           have p101 : 0 ≤ (x15_2 : Int) := od_
           have q101 : x15_2 < (l0.length : Int) := od_
           obtain ⟨ad101, e101, hx101_0, hx101_1, hx101_2, hx101_3, hx101_4⟩ := at_T74 HR0.out x15_2 p101 q101
           cases e101
           (try replace hx101_0 := hc_ HB.out hx101_0)
           (try replace hx101_1 := hc_ HB.out hx101_1)
           (try replace hx101_2 := hc_ HB.out hx101_2)
           (try replace hx101_3 := hc_ HB.out hx101_3)
           (try replace hx101_4 := hc_ HB.out hx101_4)
           replace p101 := eq_true p101
           replace q101 := eq_true q101
           go_wp2_with (first | ((with_reducible refine gate_dst (N := 4) rfl ?_); (try (refine gate_guard (by rfl) ?_; dsimp only)); refine bx_ 4 #[.int .i64 0, .int .i64 0, .int .i64 0, .int .i64 0, .int .i64 0] 74 ?_; intro gb102 hg w49 hbox hb; have n0_ := am_ (below_step (bw_ HB.out) hb); have n1_ := am_ (hbox); have n2_ := am_ (gs_ hg (bw_ HB.out)); have n3_ := am_ (gs_ hg (bw_ HB.out)); replace HB := n0_; have BK102 := n1_; have GW102 := n2_; have GE102 := n3_; clear n0_ n1_ n2_ n3_; clear hb hbox hg; have hcz50_0 := cz_ BK102.out 0; have hcz50_1 := cz_ BK102.out 1; have hcz50_2 := cz_ BK102.out 2; have hcz50_3 := cz_ BK102.out 3; have hcz50_4 := cz_ BK102.out 4; have hfz50_0 := blk_frozen BK102.out 0; have hfz50_1 := blk_frozen BK102.out 1; have hfz50_2 := blk_frozen BK102.out 2; have hfz50_3 := blk_frozen BK102.out 3; have hfz50_4 := blk_frozen BK102.out 4) | (go_at_call 39; (with_reducible refine (spec_l1In.calls ((rd_T74 l0 x15_2).f1) 1 2 false _ A33.out).mono ?_); rintro e w' ⟨rfl, ⟨nd, rfl⟩⟩))
           go_ret
           exact ⟨by first | rfl | (simp [errW_none, errW_some] <;> rfl) | (simp [*, errW_none, errW_some] <;> rfl), bw_ HB.out⟩
        ·rw [if_neg c9] at H
         have c9b0 : (((rd_T74 l0 x15_2).f0) == (-1)) = false := beq_eq_false_iff_ne.mpr c9
         have c9b1 : (((rd_T74 l0 x15_2).f0) != (-1)) = true := bne_iff_ne.mpr c9
         obtain rfl := Option.some.inj H
         have p101 : 0 ≤ (x15_2 : Int) := od_
         have q101 : x15_2 < (l0.length : Int) := od_
         obtain ⟨ad101, e101, hx101_0, hx101_1, hx101_2, hx101_3, hx101_4⟩ := at_T74 HR0.out x15_2 p101 q101
         cases e101
         (try replace hx101_0 := hc_ HB.out hx101_0)
         (try replace hx101_1 := hc_ HB.out hx101_1)
         (try replace hx101_2 := hc_ HB.out hx101_2)
         (try replace hx101_3 := hc_ HB.out hx101_3)
         (try replace hx101_4 := hc_ HB.out hx101_4)
         replace p101 := eq_true p101
         replace q101 := eq_true q101
         go_wp2_with (first | ((with_reducible refine gate_dst (N := 4) rfl ?_); (try (refine gate_guard (by rfl) ?_; dsimp only)); refine bx_ 4 #[.int .i64 0, .int .i64 0, .int .i64 0, .int .i64 0, .int .i64 0] 74 ?_; intro gb102 hg w51 hbox hb; have n0_ := am_ (below_step (bw_ HB.out) hb); have n1_ := am_ (hbox); have n2_ := am_ (gs_ hg (bw_ HB.out)); have n3_ := am_ (gs_ hg (bw_ HB.out)); replace HB := n0_; have BK102 := n1_; have GW102 := n2_; have GE102 := n3_; clear n0_ n1_ n2_ n3_; clear hb hbox hg; have hcz52_0 := cz_ BK102.out 0; have hcz52_1 := cz_ BK102.out 1; have hcz52_2 := cz_ BK102.out 2; have hcz52_3 := cz_ BK102.out 3; have hcz52_4 := cz_ BK102.out 4; have hfz52_0 := blk_frozen BK102.out 0; have hfz52_1 := blk_frozen BK102.out 1; have hfz52_2 := blk_frozen BK102.out 2; have hfz52_3 := blk_frozen BK102.out 3; have hfz52_4 := blk_frozen BK102.out 4))
         go_ret
         exact ⟨by first | rfl | (simp [errW_none, errW_some] <;> rfl) | (simp [*, errW_none, errW_some] <;> rfl), bw_ HB.out⟩
       ·rw [if_neg c8] at H
        have c8b0 : (x15_2 == 0) = false := beq_eq_false_iff_ne.mpr c8
        have c8b1 : (x15_2 != 0) = true := bne_iff_ne.mpr c8
        by_cases c53 : x15_2 > 0
        ·rw [if_pos c53] at H
         have c53b0 : decide (0 < x15_2) = true := decide_eq_true c53
         clear c53
         obtain ⟨t112, A540, H⟩ := bE_ H
         have A54 := am_ A540
         clear A540
         by_cases c55 : t112 = true
         ·subst c55
          replace H := it_ H rfl
          obtain ⟨t113, A560, H⟩ := bE_ H
          have A56 := am_ A560
          clear A560
          by_cases c57 : t113 = true
          ·subst c57
           replace H := it_ H rfl
           obtain ⟨t114, A580, H⟩ := bE_ H
           have A58 := am_ A580
           clear A580
           by_cases c59 : t114 = true
           ·subst c59
            replace H := it_ H rfl
            obtain ⟨t115, A600, H⟩ := bE_ H
            have A60 := am_ A600
            clear A600
            by_cases c61 : t115 = true
            ·subst c61
             replace H := it_ H rfl
             obtain ⟨t116, A620, H⟩ := bE_ H
             have A62 := am_ A620
             clear A620
             by_cases c63 : t116 = true
             ·subst c63
              replace H := it_ H rfl
              have H' := am_ H
              clear H
              have p101 : 0 ≤ (x15_2 : Int) := od_
              have q101 : x15_2 < (l0.length : Int) := od_
              obtain ⟨ad101, e101, hx101_0, hx101_1, hx101_2, hx101_3, hx101_4⟩ := at_T74 HR0.out x15_2 p101 q101
              cases e101
              (try replace hx101_0 := hc_ HB.out hx101_0)
              (try replace hx101_1 := hc_ HB.out hx101_1)
              (try replace hx101_2 := hc_ HB.out hx101_2)
              (try replace hx101_3 := hc_ HB.out hx101_3)
              (try replace hx101_4 := hc_ HB.out hx101_4)
              replace p101 := eq_true p101
              replace q101 := eq_true q101
              go_wp2_with (first | ((with_reducible refine gate_dst (N := 4) rfl ?_); (try (refine gate_guard (by rfl) ?_; dsimp only)); refine bx_ 4 #[.int .i64 0, .int .i64 0, .int .i64 0, .int .i64 0, .int .i64 0] 74 ?_; intro gb102 hg w64 hbox hb; have n0_ := am_ (below_step (bw_ HB.out) hb); have n1_ := am_ (hbox); have n2_ := am_ (gs_ hg (bw_ HB.out)); have n3_ := am_ (gs_ hg (bw_ HB.out)); replace HB := n0_; have BK102 := n1_; have GW102 := n2_; have GE102 := n3_; clear n0_ n1_ n2_ n3_; clear hb hbox hg; have hcz65_0 := cz_ BK102.out 0; have hcz65_1 := cz_ BK102.out 1; have hcz65_2 := cz_ BK102.out 2; have hcz65_3 := cz_ BK102.out 3; have hcz65_4 := cz_ BK102.out 4; have hfz65_0 := blk_frozen BK102.out 0; have hfz65_1 := blk_frozen BK102.out 1; have hfz65_2 := blk_frozen BK102.out 2; have hfz65_3 := blk_frozen BK102.out 3; have hfz65_4 := blk_frozen BK102.out 4) | (go_at_call 39; (try simp only [i64_w]); (with_reducible refine (spec_l1In.calls ((rd_T74 l0 x15_2).f0) 0 (wrap64 (x15_2 - 1)) true _ A54.out).mono ?_); rintro e w' ⟨rfl, ⟨nd, rfl⟩⟩) | (go_at_call 39; (with_reducible refine (spec_l1In.calls ((rd_T74 l0 x15_2).f1) 1 2 true _ A56.out).mono ?_); rintro e w' ⟨rfl, ⟨nd, rfl⟩⟩) | (go_at_call 39; (with_reducible refine (spec_l1In.calls ((rd_T74 l0 x15_2).f2) 0 10000 true _ A58.out).mono ?_); rintro e w' ⟨rfl, ⟨nd, rfl⟩⟩) | (go_at_call 39; (with_reducible refine (spec_l1In.calls ((rd_T74 l0 x15_2).f3) 0 1000 true _ A60.out).mono ?_); rintro e w' ⟨rfl, ⟨nd, rfl⟩⟩) | (go_at_call 39; (with_reducible refine (spec_l1In.calls ((rd_T74 l0 x15_2).f4) 0 100 true _ A62.out).mono ?_); rintro e w' ⟨rfl, ⟨nd, rfl⟩⟩))
              go_roundg k2
              case measure => have := HJ1.out; have := HK2.out; omega
              case rel => exact ⟨(wrap64 (x15_2 + 1)), sq_, H', ⟨by have := HJ1.out; have := HK2.out; omega⟩, ⟨bw_ HB.out⟩⟩
             ·replace c63 := Bool.eq_false_iff.mpr c63
              subst c63
              replace H := if_ H Bool.false_ne_true
              obtain rfl := Option.some.inj H
              have p101 : 0 ≤ (x15_2 : Int) := od_
              have q101 : x15_2 < (l0.length : Int) := od_
              obtain ⟨ad101, e101, hx101_0, hx101_1, hx101_2, hx101_3, hx101_4⟩ := at_T74 HR0.out x15_2 p101 q101
              cases e101
              (try replace hx101_0 := hc_ HB.out hx101_0)
              (try replace hx101_1 := hc_ HB.out hx101_1)
              (try replace hx101_2 := hc_ HB.out hx101_2)
              (try replace hx101_3 := hc_ HB.out hx101_3)
              (try replace hx101_4 := hc_ HB.out hx101_4)
              replace p101 := eq_true p101
              replace q101 := eq_true q101
              go_wp2_with (first | ((with_reducible refine gate_dst (N := 4) rfl ?_); (try (refine gate_guard (by rfl) ?_; dsimp only)); refine bx_ 4 #[.int .i64 0, .int .i64 0, .int .i64 0, .int .i64 0, .int .i64 0] 74 ?_; intro gb102 hg w66 hbox hb; have n0_ := am_ (below_step (bw_ HB.out) hb); have n1_ := am_ (hbox); have n2_ := am_ (gs_ hg (bw_ HB.out)); have n3_ := am_ (gs_ hg (bw_ HB.out)); replace HB := n0_; have BK102 := n1_; have GW102 := n2_; have GE102 := n3_; clear n0_ n1_ n2_ n3_; clear hb hbox hg; have hcz67_0 := cz_ BK102.out 0; have hcz67_1 := cz_ BK102.out 1; have hcz67_2 := cz_ BK102.out 2; have hcz67_3 := cz_ BK102.out 3; have hcz67_4 := cz_ BK102.out 4; have hfz67_0 := blk_frozen BK102.out 0; have hfz67_1 := blk_frozen BK102.out 1; have hfz67_2 := blk_frozen BK102.out 2; have hfz67_3 := blk_frozen BK102.out 3; have hfz67_4 := blk_frozen BK102.out 4) | (go_at_call 39; (try simp only [i64_w]); (with_reducible refine (spec_l1In.calls ((rd_T74 l0 x15_2).f0) 0 (wrap64 (x15_2 - 1)) true _ A54.out).mono ?_); rintro e w' ⟨rfl, ⟨nd, rfl⟩⟩) | (go_at_call 39; (with_reducible refine (spec_l1In.calls ((rd_T74 l0 x15_2).f1) 1 2 true _ A56.out).mono ?_); rintro e w' ⟨rfl, ⟨nd, rfl⟩⟩) | (go_at_call 39; (with_reducible refine (spec_l1In.calls ((rd_T74 l0 x15_2).f2) 0 10000 true _ A58.out).mono ?_); rintro e w' ⟨rfl, ⟨nd, rfl⟩⟩) | (go_at_call 39; (with_reducible refine (spec_l1In.calls ((rd_T74 l0 x15_2).f3) 0 1000 true _ A60.out).mono ?_); rintro e w' ⟨rfl, ⟨nd, rfl⟩⟩) | (go_at_call 39; (with_reducible refine (spec_l1In.calls ((rd_T74 l0 x15_2).f4) 0 100 false _ A62.out).mono ?_); rintro e w' ⟨rfl, ⟨nd, rfl⟩⟩))
              go_ret
              exact ⟨by first | rfl | (simp [errW_none, errW_some] <;> rfl) | (simp [*, errW_none, errW_some] <;> rfl), bw_ HB.out⟩
            ·replace c61 := Bool.eq_false_iff.mpr c61
             subst c61
             replace H := if_ H Bool.false_ne_true
             obtain rfl := Option.some.inj H
             have p101 : 0 ≤ (x15_2 : Int) := od_
             have q101 : x15_2 < (l0.length : Int) := od_
             obtain ⟨ad101, e101, hx101_0, hx101_1, hx101_2, hx101_3, hx101_4⟩ := at_T74 HR0.out x15_2 p101 q101
             cases e101
             (try replace hx101_0 := hc_ HB.out hx101_0)
             (try replace hx101_1 := hc_ HB.out hx101_1)
             (try replace hx101_2 := hc_ HB.out hx101_2)
             (try replace hx101_3 := hc_ HB.out hx101_3)
             (try replace hx101_4 := hc_ HB.out hx101_4)
             replace p101 := eq_true p101
             replace q101 := eq_true q101
             go_wp2_with (first | ((with_reducible refine gate_dst (N := 4) rfl ?_); (try (refine gate_guard (by rfl) ?_; dsimp only)); refine bx_ 4 #[.int .i64 0, .int .i64 0, .int .i64 0, .int .i64 0, .int .i64 0] 74 ?_; intro gb102 hg w68 hbox hb; have n0_ := am_ (below_step (bw_ HB.out) hb); have n1_ := am_ (hbox); have n2_ := am_ (gs_ hg (bw_ HB.out)); have n3_ := am_ (gs_ hg (bw_ HB.out)); replace HB := n0_; have BK102 := n1_; have GW102 := n2_; have GE102 := n3_; clear n0_ n1_ n2_ n3_; clear hb hbox hg; have hcz69_0 := cz_ BK102.out 0; have hcz69_1 := cz_ BK102.out 1; have hcz69_2 := cz_ BK102.out 2; have hcz69_3 := cz_ BK102.out 3; have hcz69_4 := cz_ BK102.out 4; have hfz69_0 := blk_frozen BK102.out 0; have hfz69_1 := blk_frozen BK102.out 1; have hfz69_2 := blk_frozen BK102.out 2; have hfz69_3 := blk_frozen BK102.out 3; have hfz69_4 := blk_frozen BK102.out 4) | (go_at_call 39; (try simp only [i64_w]); (with_reducible refine (spec_l1In.calls ((rd_T74 l0 x15_2).f0) 0 (wrap64 (x15_2 - 1)) true _ A54.out).mono ?_); rintro e w' ⟨rfl, ⟨nd, rfl⟩⟩) | (go_at_call 39; (with_reducible refine (spec_l1In.calls ((rd_T74 l0 x15_2).f1) 1 2 true _ A56.out).mono ?_); rintro e w' ⟨rfl, ⟨nd, rfl⟩⟩) | (go_at_call 39; (with_reducible refine (spec_l1In.calls ((rd_T74 l0 x15_2).f2) 0 10000 true _ A58.out).mono ?_); rintro e w' ⟨rfl, ⟨nd, rfl⟩⟩) | (go_at_call 39; (with_reducible refine (spec_l1In.calls ((rd_T74 l0 x15_2).f3) 0 1000 false _ A60.out).mono ?_); rintro e w' ⟨rfl, ⟨nd, rfl⟩⟩))
             go_ret
             exact ⟨by first | rfl | (simp [errW_none, errW_some] <;> rfl) | (simp [*, errW_none, errW_some] <;> rfl), bw_ HB.out⟩
           ·replace c59 := Bool.eq_false_iff.mpr c59
            subst c59
            replace H := if_ H Bool.false_ne_true
            obtain rfl := Option.some.inj H
            have p101 : 0 ≤ (x15_2 : Int) := od_
            have q101 : x15_2 < (l0.length : Int) := od_
            obtain ⟨ad101, e101, hx101_0, hx101_1, hx101_2, hx101_3, hx101_4⟩ := at_T74 HR0.out x15_2 p101 q101
            cases e101
            (try replace hx101_0 := hc_ HB.out hx101_0)
            (try replace hx101_1 := hc_ HB.out hx101_1)
            (try replace hx101_2 := hc_ HB.out hx101_2)
            (try replace hx101_3 := hc_ HB.out hx101_3)
            (try replace hx101_4 := hc_ HB.out hx101_4)
            replace p101 := eq_true p101
            replace q101 := eq_true q101
            go_wp2_with (first | ((with_reducible refine gate_dst (N := 4) rfl ?_); (try (refine gate_guard (by rfl) ?_; dsimp only)); refine bx_ 4 #[.int .i64 0, .int .i64 0, .int .i64 0, .int .i64 0, .int .i64 0] 74 ?_; intro gb102 hg w70 hbox hb; have n0_ := am_ (below_step (bw_ HB.out) hb); have n1_ := am_ (hbox); have n2_ := am_ (gs_ hg (bw_ HB.out)); have n3_ := am_ (gs_ hg (bw_ HB.out)); replace HB := n0_; have BK102 := n1_; have GW102 := n2_; have GE102 := n3_; clear n0_ n1_ n2_ n3_; clear hb hbox hg; have hcz71_0 := cz_ BK102.out 0; have hcz71_1 := cz_ BK102.out 1; have hcz71_2 := cz_ BK102.out 2; have hcz71_3 := cz_ BK102.out 3; have hcz71_4 := cz_ BK102.out 4; have hfz71_0 := blk_frozen BK102.out 0; have hfz71_1 := blk_frozen BK102.out 1; have hfz71_2 := blk_frozen BK102.out 2; have hfz71_3 := blk_frozen BK102.out 3; have hfz71_4 := blk_frozen BK102.out 4) | (go_at_call 39; (try simp only [i64_w]); (with_reducible refine (spec_l1In.calls ((rd_T74 l0 x15_2).f0) 0 (wrap64 (x15_2 - 1)) true _ A54.out).mono ?_); rintro e w' ⟨rfl, ⟨nd, rfl⟩⟩) | (go_at_call 39; (with_reducible refine (spec_l1In.calls ((rd_T74 l0 x15_2).f1) 1 2 true _ A56.out).mono ?_); rintro e w' ⟨rfl, ⟨nd, rfl⟩⟩) | (go_at_call 39; (with_reducible refine (spec_l1In.calls ((rd_T74 l0 x15_2).f2) 0 10000 false _ A58.out).mono ?_); rintro e w' ⟨rfl, ⟨nd, rfl⟩⟩))
            go_ret
            exact ⟨by first | rfl | (simp [errW_none, errW_some] <;> rfl) | (simp [*, errW_none, errW_some] <;> rfl), bw_ HB.out⟩
          ·replace c57 := Bool.eq_false_iff.mpr c57
           subst c57
           replace H := if_ H Bool.false_ne_true
           obtain rfl := Option.some.inj H
           have p101 : 0 ≤ (x15_2 : Int) := od_
           have q101 : x15_2 < (l0.length : Int) := od_
           obtain ⟨ad101, e101, hx101_0, hx101_1, hx101_2, hx101_3, hx101_4⟩ := at_T74 HR0.out x15_2 p101 q101
           cases e101
           (try replace hx101_0 := hc_ HB.out hx101_0)
           (try replace hx101_1 := hc_ HB.out hx101_1)
           (try replace hx101_2 := hc_ HB.out hx101_2)
           (try replace hx101_3 := hc_ HB.out hx101_3)
           (try replace hx101_4 := hc_ HB.out hx101_4)
           replace p101 := eq_true p101
           replace q101 := eq_true q101
           go_wp2_with (first | ((with_reducible refine gate_dst (N := 4) rfl ?_); (try (refine gate_guard (by rfl) ?_; dsimp only)); refine bx_ 4 #[.int .i64 0, .int .i64 0, .int .i64 0, .int .i64 0, .int .i64 0] 74 ?_; intro gb102 hg w72 hbox hb; have n0_ := am_ (below_step (bw_ HB.out) hb); have n1_ := am_ (hbox); have n2_ := am_ (gs_ hg (bw_ HB.out)); have n3_ := am_ (gs_ hg (bw_ HB.out)); replace HB := n0_; have BK102 := n1_; have GW102 := n2_; have GE102 := n3_; clear n0_ n1_ n2_ n3_; clear hb hbox hg; have hcz73_0 := cz_ BK102.out 0; have hcz73_1 := cz_ BK102.out 1; have hcz73_2 := cz_ BK102.out 2; have hcz73_3 := cz_ BK102.out 3; have hcz73_4 := cz_ BK102.out 4; have hfz73_0 := blk_frozen BK102.out 0; have hfz73_1 := blk_frozen BK102.out 1; have hfz73_2 := blk_frozen BK102.out 2; have hfz73_3 := blk_frozen BK102.out 3; have hfz73_4 := blk_frozen BK102.out 4) | (go_at_call 39; (try simp only [i64_w]); (with_reducible refine (spec_l1In.calls ((rd_T74 l0 x15_2).f0) 0 (wrap64 (x15_2 - 1)) true _ A54.out).mono ?_); rintro e w' ⟨rfl, ⟨nd, rfl⟩⟩) | (go_at_call 39; (with_reducible refine (spec_l1In.calls ((rd_T74 l0 x15_2).f1) 1 2 false _ A56.out).mono ?_); rintro e w' ⟨rfl, ⟨nd, rfl⟩⟩))
           go_ret
           exact ⟨by first | rfl | (simp [errW_none, errW_some] <;> rfl) | (simp [*, errW_none, errW_some] <;> rfl), bw_ HB.out⟩
         ·replace c55 := Bool.eq_false_iff.mpr c55
          subst c55
          replace H := if_ H Bool.false_ne_true
          obtain rfl := Option.some.inj H
          have p101 : 0 ≤ (x15_2 : Int) := od_
          have q101 : x15_2 < (l0.length : Int) := od_
          obtain ⟨ad101, e101, hx101_0, hx101_1, hx101_2, hx101_3, hx101_4⟩ := at_T74 HR0.out x15_2 p101 q101
          cases e101
          (try replace hx101_0 := hc_ HB.out hx101_0)
          (try replace hx101_1 := hc_ HB.out hx101_1)
          (try replace hx101_2 := hc_ HB.out hx101_2)
          (try replace hx101_3 := hc_ HB.out hx101_3)
          (try replace hx101_4 := hc_ HB.out hx101_4)
          replace p101 := eq_true p101
          replace q101 := eq_true q101
          go_wp2_with (first | ((with_reducible refine gate_dst (N := 4) rfl ?_); (try (refine gate_guard (by rfl) ?_; dsimp only)); refine bx_ 4 #[.int .i64 0, .int .i64 0, .int .i64 0, .int .i64 0, .int .i64 0] 74 ?_; intro gb102 hg w74 hbox hb; have n0_ := am_ (below_step (bw_ HB.out) hb); have n1_ := am_ (hbox); have n2_ := am_ (gs_ hg (bw_ HB.out)); have n3_ := am_ (gs_ hg (bw_ HB.out)); replace HB := n0_; have BK102 := n1_; have GW102 := n2_; have GE102 := n3_; clear n0_ n1_ n2_ n3_; clear hb hbox hg; have hcz75_0 := cz_ BK102.out 0; have hcz75_1 := cz_ BK102.out 1; have hcz75_2 := cz_ BK102.out 2; have hcz75_3 := cz_ BK102.out 3; have hcz75_4 := cz_ BK102.out 4; have hfz75_0 := blk_frozen BK102.out 0; have hfz75_1 := blk_frozen BK102.out 1; have hfz75_2 := blk_frozen BK102.out 2; have hfz75_3 := blk_frozen BK102.out 3; have hfz75_4 := blk_frozen BK102.out 4) | (go_at_call 39; (try simp only [i64_w]); (with_reducible refine (spec_l1In.calls ((rd_T74 l0 x15_2).f0) 0 (wrap64 (x15_2 - 1)) false _ A54.out).mono ?_); rintro e w' ⟨rfl, ⟨nd, rfl⟩⟩))
          go_ret
          exact ⟨by first | rfl | (simp [errW_none, errW_some] <;> rfl) | (simp [*, errW_none, errW_some] <;> rfl), bw_ HB.out⟩
        ·rw [if_neg c53] at H
         have c53b0 : decide (0 < x15_2) = false := decide_eq_false c53
         clear c53
         obtain ⟨t117, A760, H⟩ := bE_ H
         have A76 := am_ A760
         clear A760
         by_cases c77 : t117 = true
         ·subst c77
          replace H := it_ H rfl
          obtain ⟨t118, A780, H⟩ := bE_ H
          have A78 := am_ A780
          clear A780
          by_cases c79 : t118 = true
          ·subst c79
           replace H := it_ H rfl
           obtain ⟨t119, A800, H⟩ := bE_ H
           have A80 := am_ A800
           clear A800
           by_cases c81 : t119 = true
           ·subst c81
            replace H := it_ H rfl
            obtain ⟨t120, A820, H⟩ := bE_ H
            have A82 := am_ A820
            clear A820
            by_cases c83 : t120 = true
            ·subst c83
             replace H := it_ H rfl
             have H' := am_ H
             clear H
             have p101 : 0 ≤ (x15_2 : Int) := od_
             have q101 : x15_2 < (l0.length : Int) := od_
             obtain ⟨ad101, e101, hx101_0, hx101_1, hx101_2, hx101_3, hx101_4⟩ := at_T74 HR0.out x15_2 p101 q101
             cases e101
             (try replace hx101_0 := hc_ HB.out hx101_0)
             (try replace hx101_1 := hc_ HB.out hx101_1)
             (try replace hx101_2 := hc_ HB.out hx101_2)
             (try replace hx101_3 := hc_ HB.out hx101_3)
             (try replace hx101_4 := hc_ HB.out hx101_4)
             replace p101 := eq_true p101
             replace q101 := eq_true q101
             go_wp2_with (first | ((with_reducible refine gate_dst (N := 4) rfl ?_); (try (refine gate_guard (by rfl) ?_; dsimp only)); refine bx_ 4 #[.int .i64 0, .int .i64 0, .int .i64 0, .int .i64 0, .int .i64 0] 74 ?_; intro gb102 hg w84 hbox hb; have n0_ := am_ (below_step (bw_ HB.out) hb); have n1_ := am_ (hbox); have n2_ := am_ (gs_ hg (bw_ HB.out)); have n3_ := am_ (gs_ hg (bw_ HB.out)); replace HB := n0_; have BK102 := n1_; have GW102 := n2_; have GE102 := n3_; clear n0_ n1_ n2_ n3_; clear hb hbox hg; have hcz85_0 := cz_ BK102.out 0; have hcz85_1 := cz_ BK102.out 1; have hcz85_2 := cz_ BK102.out 2; have hcz85_3 := cz_ BK102.out 3; have hcz85_4 := cz_ BK102.out 4; have hfz85_0 := blk_frozen BK102.out 0; have hfz85_1 := blk_frozen BK102.out 1; have hfz85_2 := blk_frozen BK102.out 2; have hfz85_3 := blk_frozen BK102.out 3; have hfz85_4 := blk_frozen BK102.out 4) | (go_at_call 39; (with_reducible refine (spec_l1In.calls ((rd_T74 l0 x15_2).f1) 1 2 true _ A76.out).mono ?_); rintro e w' ⟨rfl, ⟨nd, rfl⟩⟩) | (go_at_call 39; (with_reducible refine (spec_l1In.calls ((rd_T74 l0 x15_2).f2) 0 10000 true _ A78.out).mono ?_); rintro e w' ⟨rfl, ⟨nd, rfl⟩⟩) | (go_at_call 39; (with_reducible refine (spec_l1In.calls ((rd_T74 l0 x15_2).f3) 0 1000 true _ A80.out).mono ?_); rintro e w' ⟨rfl, ⟨nd, rfl⟩⟩) | (go_at_call 39; (with_reducible refine (spec_l1In.calls ((rd_T74 l0 x15_2).f4) 0 100 true _ A82.out).mono ?_); rintro e w' ⟨rfl, ⟨nd, rfl⟩⟩))
             go_roundg k2
             case measure => have := HJ1.out; have := HK2.out; omega
             case rel => exact ⟨(wrap64 (x15_2 + 1)), sq_, H', ⟨by have := HJ1.out; have := HK2.out; omega⟩, ⟨bw_ HB.out⟩⟩
            ·replace c83 := Bool.eq_false_iff.mpr c83
             subst c83
             replace H := if_ H Bool.false_ne_true
             obtain rfl := Option.some.inj H
             have p101 : 0 ≤ (x15_2 : Int) := od_
             have q101 : x15_2 < (l0.length : Int) := od_
             obtain ⟨ad101, e101, hx101_0, hx101_1, hx101_2, hx101_3, hx101_4⟩ := at_T74 HR0.out x15_2 p101 q101
             cases e101
             (try replace hx101_0 := hc_ HB.out hx101_0)
             (try replace hx101_1 := hc_ HB.out hx101_1)
             (try replace hx101_2 := hc_ HB.out hx101_2)
             (try replace hx101_3 := hc_ HB.out hx101_3)
             (try replace hx101_4 := hc_ HB.out hx101_4)
             replace p101 := eq_true p101
             replace q101 := eq_true q101
             go_wp2_with (first | ((with_reducible refine gate_dst (N := 4) rfl ?_); (try (refine gate_guard (by rfl) ?_; dsimp only)); refine bx_ 4 #[.int .i64 0, .int .i64 0, .int .i64 0, .int .i64 0, .int .i64 0] 74 ?_; intro gb102 hg w86 hbox hb; have n0_ := am_ (below_step (bw_ HB.out) hb); have n1_ := am_ (hbox); have n2_ := am_ (gs_ hg (bw_ HB.out)); have n3_ := am_ (gs_ hg (bw_ HB.out)); replace HB := n0_; have BK102 := n1_; have GW102 := n2_; have GE102 := n3_; clear n0_ n1_ n2_ n3_; clear hb hbox hg; have hcz87_0 := cz_ BK102.out 0; have hcz87_1 := cz_ BK102.out 1; have hcz87_2 := cz_ BK102.out 2; have hcz87_3 := cz_ BK102.out 3; have hcz87_4 := cz_ BK102.out 4; have hfz87_0 := blk_frozen BK102.out 0; have hfz87_1 := blk_frozen BK102.out 1; have hfz87_2 := blk_frozen BK102.out 2; have hfz87_3 := blk_frozen BK102.out 3; have hfz87_4 := blk_frozen BK102.out 4) | (go_at_call 39; (with_reducible refine (spec_l1In.calls ((rd_T74 l0 x15_2).f1) 1 2 true _ A76.out).mono ?_); rintro e w' ⟨rfl, ⟨nd, rfl⟩⟩) | (go_at_call 39; (with_reducible refine (spec_l1In.calls ((rd_T74 l0 x15_2).f2) 0 10000 true _ A78.out).mono ?_); rintro e w' ⟨rfl, ⟨nd, rfl⟩⟩) | (go_at_call 39; (with_reducible refine (spec_l1In.calls ((rd_T74 l0 x15_2).f3) 0 1000 true _ A80.out).mono ?_); rintro e w' ⟨rfl, ⟨nd, rfl⟩⟩) | (go_at_call 39; (with_reducible refine (spec_l1In.calls ((rd_T74 l0 x15_2).f4) 0 100 false _ A82.out).mono ?_); rintro e w' ⟨rfl, ⟨nd, rfl⟩⟩))
             go_ret
             exact ⟨by first | rfl | (simp [errW_none, errW_some] <;> rfl) | (simp [*, errW_none, errW_some] <;> rfl), bw_ HB.out⟩
           ·replace c81 := Bool.eq_false_iff.mpr c81
            subst c81
            replace H := if_ H Bool.false_ne_true
            obtain rfl := Option.some.inj H
            have p101 : 0 ≤ (x15_2 : Int) := od_
            have q101 : x15_2 < (l0.length : Int) := od_
            obtain ⟨ad101, e101, hx101_0, hx101_1, hx101_2, hx101_3, hx101_4⟩ := at_T74 HR0.out x15_2 p101 q101
            cases e101
            (try replace hx101_0 := hc_ HB.out hx101_0)
            (try replace hx101_1 := hc_ HB.out hx101_1)
            (try replace hx101_2 := hc_ HB.out hx101_2)
            (try replace hx101_3 := hc_ HB.out hx101_3)
            (try replace hx101_4 := hc_ HB.out hx101_4)
            replace p101 := eq_true p101
            replace q101 := eq_true q101
            go_wp2_with (first | ((with_reducible refine gate_dst (N := 4) rfl ?_); (try (refine gate_guard (by rfl) ?_; dsimp only)); refine bx_ 4 #[.int .i64 0, .int .i64 0, .int .i64 0, .int .i64 0, .int .i64 0] 74 ?_; intro gb102 hg w88 hbox hb; have n0_ := am_ (below_step (bw_ HB.out) hb); have n1_ := am_ (hbox); have n2_ := am_ (gs_ hg (bw_ HB.out)); have n3_ := am_ (gs_ hg (bw_ HB.out)); replace HB := n0_; have BK102 := n1_; have GW102 := n2_; have GE102 := n3_; clear n0_ n1_ n2_ n3_; clear hb hbox hg; have hcz89_0 := cz_ BK102.out 0; have hcz89_1 := cz_ BK102.out 1; have hcz89_2 := cz_ BK102.out 2; have hcz89_3 := cz_ BK102.out 3; have hcz89_4 := cz_ BK102.out 4; have hfz89_0 := blk_frozen BK102.out 0; have hfz89_1 := blk_frozen BK102.out 1; have hfz89_2 := blk_frozen BK102.out 2; have hfz89_3 := blk_frozen BK102.out 3; have hfz89_4 := blk_frozen BK102.out 4) | (go_at_call 39; (with_reducible refine (spec_l1In.calls ((rd_T74 l0 x15_2).f1) 1 2 true _ A76.out).mono ?_); rintro e w' ⟨rfl, ⟨nd, rfl⟩⟩) | (go_at_call 39; (with_reducible refine (spec_l1In.calls ((rd_T74 l0 x15_2).f2) 0 10000 true _ A78.out).mono ?_); rintro e w' ⟨rfl, ⟨nd, rfl⟩⟩) | (go_at_call 39; (with_reducible refine (spec_l1In.calls ((rd_T74 l0 x15_2).f3) 0 1000 false _ A80.out).mono ?_); rintro e w' ⟨rfl, ⟨nd, rfl⟩⟩))
            go_ret
            exact ⟨by first | rfl | (simp [errW_none, errW_some] <;> rfl) | (simp [*, errW_none, errW_some] <;> rfl), bw_ HB.out⟩
          ·replace c79 := Bool.eq_false_iff.mpr c79
           subst c79
           replace H := if_ H Bool.false_ne_true
           obtain rfl := Option.some.inj H
           have p101 : 0 ≤ (x15_2 : Int) := od_
           have q101 : x15_2 < (l0.length : Int) := od_
           obtain ⟨ad101, e101, hx101_0, hx101_1, hx101_2, hx101_3, hx101_4⟩ := at_T74 HR0.out x15_2 p101 q101
           cases e101
           (try replace hx101_0 := hc_ HB.out hx101_0)
           (try replace hx101_1 := hc_ HB.out hx101_1)
           (try replace hx101_2 := hc_ HB.out hx101_2)
           (try replace hx101_3 := hc_ HB.out hx101_3)
           (try replace hx101_4 := hc_ HB.out hx101_4)
           replace p101 := eq_true p101
           replace q101 := eq_true q101
           go_wp2_with (first | ((with_reducible refine gate_dst (N := 4) rfl ?_); (try (refine gate_guard (by rfl) ?_; dsimp only)); refine bx_ 4 #[.int .i64 0, .int .i64 0, .int .i64 0, .int .i64 0, .int .i64 0] 74 ?_; intro gb102 hg w90 hbox hb; have n0_ := am_ (below_step (bw_ HB.out) hb); have n1_ := am_ (hbox); have n2_ := am_ (gs_ hg (bw_ HB.out)); have n3_ := am_ (gs_ hg (bw_ HB.out)); replace HB := n0_; have BK102 := n1_; have GW102 := n2_; have GE102 := n3_; clear n0_ n1_ n2_ n3_; clear hb hbox hg; have hcz91_0 := cz_ BK102.out 0; have hcz91_1 := cz_ BK102.out 1; have hcz91_2 := cz_ BK102.out 2; have hcz91_3 := cz_ BK102.out 3; have hcz91_4 := cz_ BK102.out 4; have hfz91_0 := blk_frozen BK102.out 0; have hfz91_1 := blk_frozen BK102.out 1; have hfz91_2 := blk_frozen BK102.out 2; have hfz91_3 := blk_frozen BK102.out 3; have hfz91_4 := blk_frozen BK102.out 4) | (go_at_call 39; (with_reducible refine (spec_l1In.calls ((rd_T74 l0 x15_2).f1) 1 2 true _ A76.out).mono ?_); rintro e w' ⟨rfl, ⟨nd, rfl⟩⟩) | (go_at_call 39; (with_reducible refine (spec_l1In.calls ((rd_T74 l0 x15_2).f2) 0 10000 false _ A78.out).mono ?_); rintro e w' ⟨rfl, ⟨nd, rfl⟩⟩))
           go_ret
           exact ⟨by first | rfl | (simp [errW_none, errW_some] <;> rfl) | (simp [*, errW_none, errW_some] <;> rfl), bw_ HB.out⟩
         ·replace c77 := Bool.eq_false_iff.mpr c77
          subst c77
          replace H := if_ H Bool.false_ne_true
          obtain rfl := Option.some.inj H
          have p101 : 0 ≤ (x15_2 : Int) := od_
          have q101 : x15_2 < (l0.length : Int) := od_
          obtain ⟨ad101, e101, hx101_0, hx101_1, hx101_2, hx101_3, hx101_4⟩ := at_T74 HR0.out x15_2 p101 q101
          cases e101
          (try replace hx101_0 := hc_ HB.out hx101_0)
          (try replace hx101_1 := hc_ HB.out hx101_1)
          (try replace hx101_2 := hc_ HB.out hx101_2)
          (try replace hx101_3 := hc_ HB.out hx101_3)
          (try replace hx101_4 := hc_ HB.out hx101_4)
          replace p101 := eq_true p101
          replace q101 := eq_true q101
          go_wp2_with (first | ((with_reducible refine gate_dst (N := 4) rfl ?_); (try (refine gate_guard (by rfl) ?_; dsimp only)); refine bx_ 4 #[.int .i64 0, .int .i64 0, .int .i64 0, .int .i64 0, .int .i64 0] 74 ?_; intro gb102 hg w92 hbox hb; have n0_ := am_ (below_step (bw_ HB.out) hb); have n1_ := am_ (hbox); have n2_ := am_ (gs_ hg (bw_ HB.out)); have n3_ := am_ (gs_ hg (bw_ HB.out)); replace HB := n0_; have BK102 := n1_; have GW102 := n2_; have GE102 := n3_; clear n0_ n1_ n2_ n3_; clear hb hbox hg; have hcz93_0 := cz_ BK102.out 0; have hcz93_1 := cz_ BK102.out 1; have hcz93_2 := cz_ BK102.out 2; have hcz93_3 := cz_ BK102.out 3; have hcz93_4 := cz_ BK102.out 4; have hfz93_0 := blk_frozen BK102.out 0; have hfz93_1 := blk_frozen BK102.out 1; have hfz93_2 := blk_frozen BK102.out 2; have hfz93_3 := blk_frozen BK102.out 3; have hfz93_4 := blk_frozen BK102.out 4) | (go_at_call 39; (with_reducible refine (spec_l1In.calls ((rd_T74 l0 x15_2).f1) 1 2 false _ A76.out).mono ?_); rintro e w' ⟨rfl, ⟨nd, rfl⟩⟩))
          go_ret
          exact ⟨by first | rfl | (simp [errW_none, errW_some] <;> rfl) | (simp [*, errW_none, errW_some] <;> rfl), bw_ HB.out⟩
      ·rw [if_neg c5] at H
       have c5b0 : decide (x15_2 < (l0.length : Int)) = false := decide_eq_false c5
       clear c5
       obtain rfl := Option.some.inj H
       go_wp2
       go_ret
       exact ⟨by first | rfl | (simp [errW_none, errW_some] <;> rfl) | (simp [*, errW_none, errW_some] <;> rfl), bw_ HB.out⟩

/-! ### spec_l18Least: function 40 -/
def spec_l18Least.f (a0 : Int) : Option (Int) := if a0 < 0 then (some 0) else (some a0)
set_option maxHeartbeats 8000000 in
set_option maxRecDepth 100000 in
theorem spec_l18Least.calls (a0 : Int) (r : Int) (w : World) (h : spec_l18Least.f a0 = some r) :
  Calls Try.prog 40 #[.int .i64 a0] w fun e w' => e = .returned (.int .i64 r) ∧ Drawn0 w w' := by
 have H : (if a0 < 0 then (some 0) else (some a0)) = some r := h
 clear h
 by_cases c2 : a0 < 0
 ·rw [if_pos c2] at H
  have c2b0 : decide (a0 < 0) = true := decide_eq_true c2
  clear c2
  obtain rfl := Option.some.inj H
  go_enter Try.func40, Try.ntmps40
  go_wp2
  go_ret
  exact ⟨by first | rfl | (simp; done) | (simp [*]; done), by repeat (first | exact Drawn0.refl _ | apply Drawn0.step)⟩
 ·rw [if_neg c2] at H
  have c2b0 : decide (a0 < 0) = false := decide_eq_false c2
  clear c2
  obtain rfl := Option.some.inj H
  go_enter Try.func40, Try.ntmps40
  go_wp2
  go_ret
  exact ⟨by first | rfl | (simp; done) | (simp [*]; done), by repeat (first | exact Drawn0.refl _ | apply Drawn0.step)⟩

end Go.Proofs.Ytgfppioaggeleaa.XFnExactLayOut
