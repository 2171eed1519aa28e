/- What the Go functions that this law comes to compute, each walked; written by a program of this session. -/
import Derived.Test.YtcabbfphidjapaaDoorXShort
import Derived.Test.YtcabbfphidjapaaDoorXMark
import Derived.Test.YtcabbfphidjapaaDoorXFnExactRunMusicx0
import Derived.Test.YtcabbfphidjapaaDoorXFnExactRunMusicx6
namespace Go.Proofs.YtcabbfphidjapaaDoor.XFnExactRunMusic
open Go.RowKit Go.Proofs.YtcabbfphidjapaaDoorW.PrintWords Go.Proofs.YtcabbfphidjapaaDoorW.PrintLast Go.Proofs.YtcabbfphidjapaaDoorW.PrintMore
attribute [local go_sem] str_geq max2_int min2_int max_two min_two max_three min_three max_four min_four   -- for this text's walks alone
set_option linter.unusedVariables false
set_option linter.unusedSimpArgs false

/-! ### impl_areSections: function 42 -/
mutual
def impl_areSections.l0 : Nat → List (S49) → List (S49) → Int → Int → Option (Bool)
 | 0, _, _, _, _ => none
 | k + 1, x0, x7, x8, x9 => if x9 < x8 then (if 0 ≤ x9 then (if x9 < (x7.length : Int) then ((impl_GoodName.f k ((rd_T49 x7 x9).f0)).bind fun t194 => (if t194 = true then ((impl_sectionAt.f k x0 ((rd_T49 x7 x9).f0)).bind fun t195 => (if t195 = x9 then ((impl_inRange.f ((rd_T49 x7 x9).f1) 1 64).bind fun t196 => (if t196 = true then ((impl_sectionAt.f k x0 ((rd_T49 x7 x9).f3)).bind fun t197 => (impl_areSections.j1 k x0 x7 x8 x9 (decide (t197 < 0)) ((rd_T49 x7 x9).f0) ((rd_T49 x7 x9).f1) ((rd_T49 x7 x9).f2) ((rd_T49 x7 x9).f3))) else (impl_areSections.j1 k x0 x7 x8 x9 true ((rd_T49 x7 x9).f0) ((rd_T49 x7 x9).f1) ((rd_T49 x7 x9).f2) ((rd_T49 x7 x9).f3)))) else (impl_areSections.j1 k x0 x7 x8 x9 true ((rd_T49 x7 x9).f0) ((rd_T49 x7 x9).f1) ((rd_T49 x7 x9).f2) ((rd_T49 x7 x9).f3)))) else (impl_areSections.j1 k x0 x7 x8 x9 true ((rd_T49 x7 x9).f0) ((rd_T49 x7 x9).f1) ((rd_T49 x7 x9).f2) ((rd_T49 x7 x9).f3)))) else (none)) else (none)) else ((impl_inRange.f (x0.length : Int) 1 64).bind fun t191 => (some t191))
def impl_areSections.j1 : Nat → List (S49) → List (S49) → Int → Int → Bool → ByteArray → Int → List Int → ByteArray → Option (Bool)
 | 0, _, _, _, _, _, _, _, _, _ => none
 | k + 1, x0, x7, x8, x9, x38, x194000, x194001, x194002, x194003 => if x38 = true then (some false) else (impl_areSections.l1 k x0 x7 x8 x9 x194002 (x194002.length : Int) 0 x194000 x194001 x194002 x194003)
def impl_areSections.l1 : Nat → List (S49) → List (S49) → Int → Int → List Int → Int → Int → ByteArray → Int → List Int → ByteArray → Option (Bool)
 | 0, _, _, _, _, _, _, _, _, _, _, _ => none
 | k + 1, x0, x7, x8, x9, x40, x41, x42, x194000, x194001, x194002, x194003 => if x42 < x41 then (if 0 ≤ x42 then (if x42 < (x40.length : Int) then ((impl_inRange.f (rd x40 x42) 0 (wrap64 (x194001 - 1))).bind fun t199 => (if t199 = true then (if x42 > 0 then (if 0 ≤ (wrap64 (x42 - 1)) then (if (wrap64 (x42 - 1)) < (x194002.length : Int) then (if (rd x194002 (wrap64 (x42 - 1))) ≥ (rd x40 x42) then (some false) else (impl_areSections.l1 k x0 x7 x8 x9 x40 x41 (wrap64 (x42 + 1)) x194000 x194001 x194002 x194003)) else (none)) else (none)) else (impl_areSections.l1 k x0 x7 x8 x9 x40 x41 (wrap64 (x42 + 1)) x194000 x194001 x194002 x194003)) else (some false))) else (none)) else (none)) else (impl_areSections.l0 k x0 x7 x8 (wrap64 (x9 + 1)))
end
def impl_areSections.f (k : Nat) (l0 : List (S49)) : Option (Bool) := impl_areSections.l0 k l0 l0 (l0.length : Int) 0
theorem impl_areSections.mono_l : ∀ k, (∀ y0 y1 y2 y3, LeO (impl_areSections.l0 k y0 y1 y2 y3) (impl_areSections.l0 (k + 1) y0 y1 y2 y3)) ∧ (∀ y0 y1 y2 y3 y4 y5 y6 y7 y8, LeO (impl_areSections.j1 k y0 y1 y2 y3 y4 y5 y6 y7 y8) (impl_areSections.j1 (k + 1) y0 y1 y2 y3 y4 y5 y6 y7 y8)) ∧ (∀ y0 y1 y2 y3 y4 y5 y6 y7 y8 y9 y10, LeO (impl_areSections.l1 k y0 y1 y2 y3 y4 y5 y6 y7 y8 y9 y10) (impl_areSections.l1 (k + 1) y0 y1 y2 y3 y4 y5 y6 y7 y8 y9 y10))
 | 0 => ⟨fun _ _ _ _ r h => by simp [impl_areSections.l0] at h, fun _ _ _ _ _ _ _ _ _ r h => by simp [impl_areSections.j1] at h, fun _ _ _ _ _ _ _ _ _ _ _ r h => by simp [impl_areSections.l1] at h⟩
 | k + 1 => by
  obtain ⟨ih0, ih1, ih2⟩ := impl_areSections.mono_l k
  refine ⟨?_, ?_, ?_⟩
  ·intro y0 y1 y2 y3
   unfold impl_areSections.l0
   repeat' first
   | (with_reducible exact ih0 _ _ _ _)
   | (with_reducible exact ih1 _ _ _ _ _ _ _ _ _)
   | (with_reducible exact ih2 _ _ _ _ _ _ _ _ _ _ _)
   | (with_reducible exact impl_GoodName.mono _ _)
   | (with_reducible exact impl_sectionAt.mono _ _ _)
   | (with_reducible exact LeO.refl _)
   | (with_reducible exact LeO.none _)
   | (with_reducible refine LeO.ite ?_ ?_)
   | (with_reducible refine LeO.bind ?_ (fun _ => ?_))
   | exact ih0 _ _ _ _
   | exact ih1 _ _ _ _ _ _ _ _ _
   | exact ih2 _ _ _ _ _ _ _ _ _ _ _
   | exact impl_GoodName.mono _ _
   | exact impl_sectionAt.mono _ _ _
   | exact LeO.none _
   | refine LeO.ite ?_ ?_
   | refine LeO.bind ?_ (fun _ => ?_)
  ·intro y0 y1 y2 y3 y4 y5 y6 y7 y8
   unfold impl_areSections.j1
   repeat' first
   | (with_reducible exact ih0 _ _ _ _)
   | (with_reducible exact ih1 _ _ _ _ _ _ _ _ _)
   | (with_reducible exact ih2 _ _ _ _ _ _ _ _ _ _ _)
   | (with_reducible exact impl_GoodName.mono _ _)
   | (with_reducible exact impl_sectionAt.mono _ _ _)
   | (with_reducible exact LeO.refl _)
   | (with_reducible exact LeO.none _)
   | (with_reducible refine LeO.ite ?_ ?_)
   | (with_reducible refine LeO.bind ?_ (fun _ => ?_))
   | exact ih0 _ _ _ _
   | exact ih1 _ _ _ _ _ _ _ _ _
   | exact ih2 _ _ _ _ _ _ _ _ _ _ _
   | exact impl_GoodName.mono _ _
   | exact impl_sectionAt.mono _ _ _
   | exact LeO.none _
   | refine LeO.ite ?_ ?_
   | refine LeO.bind ?_ (fun _ => ?_)
  ·intro y0 y1 y2 y3 y4 y5 y6 y7 y8 y9 y10
   unfold impl_areSections.l1
   repeat' first
   | (with_reducible exact ih0 _ _ _ _)
   | (with_reducible exact ih1 _ _ _ _ _ _ _ _ _)
   | (with_reducible exact ih2 _ _ _ _ _ _ _ _ _ _ _)
   | (with_reducible exact impl_GoodName.mono _ _)
   | (with_reducible exact impl_sectionAt.mono _ _ _)
   | (with_reducible exact LeO.refl _)
   | (with_reducible exact LeO.none _)
   | (with_reducible refine LeO.ite ?_ ?_)
   | (with_reducible refine LeO.bind ?_ (fun _ => ?_))
   | exact ih0 _ _ _ _
   | exact ih1 _ _ _ _ _ _ _ _ _
   | exact ih2 _ _ _ _ _ _ _ _ _ _ _
   | exact impl_GoodName.mono _ _
   | exact impl_sectionAt.mono _ _ _
   | exact LeO.none _
   | refine LeO.ite ?_ ?_
   | refine LeO.bind ?_ (fun _ => ?_)
theorem impl_areSections.mono : ∀ a0 k, LeO (impl_areSections.f k a0) (impl_areSections.f (k + 1) a0) := by
 intro a0 k
 obtain ⟨ih0, ih1, ih2⟩ := impl_areSections.mono_l k
 unfold impl_areSections.f
 repeat' first
   | (with_reducible exact ih0 _ _ _ _)
   | (with_reducible exact ih1 _ _ _ _ _ _ _ _ _)
   | (with_reducible exact ih2 _ _ _ _ _ _ _ _ _ _ _)
   | (with_reducible exact impl_GoodName.mono _ _)
   | (with_reducible exact impl_sectionAt.mono _ _ _)
   | (with_reducible exact LeO.refl _)
   | (with_reducible exact LeO.none _)
   | (with_reducible refine LeO.ite ?_ ?_)
   | (with_reducible refine LeO.bind ?_ (fun _ => ?_))
   | exact ih0 _ _ _ _
   | exact ih1 _ _ _ _ _ _ _ _ _
   | exact ih2 _ _ _ _ _ _ _ _ _ _ _
   | exact impl_GoodName.mono _ _
   | exact impl_sectionAt.mono _ _ _
   | exact LeO.none _
   | refine LeO.ite ?_ ?_
   | refine LeO.bind ?_ (fun _ => ?_)
set_option maxHeartbeats 8000000 in
set_option maxRecDepth 100000 in
theorem impl_areSections.calls (k : Nat) (A0 : Option Addr) (c0 : Nat) (l0 : List (S49)) (r : Bool) (w : World) (hr0 : Kd.C k49 w A0 l0.length l0) (hc0 : l0.length ≤ c0) (h : impl_areSections.f k l0 = some r) :
  Calls Tryd.prog 42 #[.slice A0 l0.length c0] w fun e w' => e = .returned (.bool r) ∧ Below w.heap.size w w' := by
 have hu49 := Tryd.underlying49
 have HR0 := am_ hr0
 have HC0 := am_ hc0
 clear hr0 hc0
 have HB := am_ (Below.refl w.heap.size w)
 have H : (impl_areSections.l0 k l0 l0 (l0.length : Int) 0) = some r := h
 clear h
 have H' := am_ H
 clear H
 go_enter Tryd.func42, Tryd.ntmps42
 go_wp2
 go_loopg [9] k (fun kq v9 w' => ∃ (x9_1 : Int), v9 = .int .i64 x9_1 ∧ Aside0 (impl_areSections.l0 kq l0 l0 (l0.length : Int) x9_1 = some r) ∧ Aside0 (kq ≤ k) ∧ Aside0 (Below w.heap.size w w'))
 case atStart => exact ⟨(0), sq_, H', ⟨Nat.le_refl _⟩, ⟨bw_ HB.out⟩⟩
 case round =>
  clear H'
  obtain ⟨x9_1, rfl, HA, HK1, HB⟩ := hrel
  cases gk with
  | zero => exact absurd HA.out (by simp [impl_areSections.l0])
  | succ k1 =>
   have H := HA.out
   clear HA
   simp only [impl_areSections.l0] at H
   by_cases c2 : x9_1 < (l0.length : Int)
   ·rw [if_pos c2] at H
    have c2b0 : decide (x9_1 < (l0.length : Int)) = true := decide_eq_true c2
    clear c2
    obtain ⟨c3, H⟩ := ifn_ H
    have c3b0 : decide (0 ≤ x9_1) = true := decide_eq_true c3
    clear c3
    obtain ⟨c4, H⟩ := ifn_ H
    have c4b0 : decide (x9_1 < (l0.length : Int)) = true := decide_eq_true c4
    clear c4
    have HC5 := am_ H
    clear H
    have p192 : 0 ≤ (x9_1 : Int) := od_
    have q192 : x9_1 < (l0.length : Int) := od_
    obtain ⟨ad192, A192_2, c192_2, e192, hx192_0, hx192_1, hx192_2, hx192_3, hl192_2, hi192_2⟩ := at_T49 HR0.out x9_1 p192 q192
    cases e192
    (try replace hx192_0 := hc_ HB.out hx192_0)
    (try replace hx192_1 := hc_ HB.out hx192_1)
    (try replace hx192_2 := hc_ HB.out hx192_2)
    (try replace hx192_3 := hc_ HB.out hx192_3)
    have HR192_2 := am_ hi192_2
    have HC192_2 := am_ hl192_2
    clear hi192_2 hl192_2
    replace p192 := eq_true p192
    replace q192 := eq_true q192
    go_upto_region 4 with (first | ((with_reducible refine gate_dst (N := 4) rfl ?_); refine bx_ 4 #[.string (⟨#[]⟩ : ByteArray), .int .i64 0, .slice none 0 0, .string (⟨#[]⟩ : ByteArray)] 49 ?_; intro gb193 hg w6 hbox hb; have n0_ := am_ (below_step (bw_ HB.out) hb); have n1_ := am_ (hbox); have n2_ := am_ (gs_ hg (bw_ HB.out)); have n3_ := am_ (gs_ hg (bw_ HB.out)); replace HB := n0_; have BK193 := n1_; have GW193 := n2_; have GE193 := n3_; clear n0_ n1_ n2_ n3_; clear hb hbox hg; have hcz7_0 := cz_ BK193.out 0; have hcz7_1 := cz_ BK193.out 1; have hcz7_2 := cz_ BK193.out 2; have hcz7_3 := cz_ BK193.out 3; have hfz7_0 := blk_frozen BK193.out 0; have hfz7_1 := blk_frozen BK193.out 1; have hfz7_2 := blk_frozen BK193.out 2; have hfz7_3 := blk_frozen BK193.out 3))
    (try simp only [Act.put, List.setIfInBounds_toArray, List.set_cons_zero, List.set_cons_succ])
    go_cut [38] (fun v38 wc => ∃ (kq : Nat) (x38_4 : Bool), v38 = .bool x38_4 ∧ Aside0 (impl_areSections.j1 kq l0 l0 (l0.length : Int) x9_1 x38_4 ((rd_T49 l0 x9_1).f0) ((rd_T49 l0 x9_1).f1) ((rd_T49 l0 x9_1).f2) ((rd_T49 l0 x9_1).f3) = some r) ∧ Aside0 (kq ≤ k1) ∧ Aside0 (wc.heap[gb193]? = some (.cells #[.string ((rd_T49 l0 x9_1).f0), .int .i64 ((rd_T49 l0 x9_1).f1), (.slice A192_2 ((rd_T49 l0 x9_1).f2).length c192_2), .string ((rd_T49 l0 x9_1).f3)] 49 (0, 0))) ∧ Aside0 (Below w.heap.size w wc))
    case first =>
     have H := HC5.out
     clear HC5
     obtain ⟨t194, A80, H⟩ := bE_ H
     have A8 := am_ A80
     clear A80
     by_cases c9 : t194 = true
     ·subst c9
      replace H := it_ H rfl
      obtain ⟨t195, A100, H⟩ := bE_ H
      have A10 := am_ A100
      clear A100
      by_cases c11 : t195 = x9_1
      ·rw [if_pos c11] at H
       have c11b0 : (t195 == x9_1) = true := beq_iff_eq.mpr c11
       have c11b1 : (t195 != x9_1) = false := bne_eq_false_iff_eq.mpr c11
       clear c11
       (first | rw [c11b0] | (simp only [i64_w, i32_w]; rw [c11b0]) | skip)
       obtain ⟨t196, A120, H⟩ := bE_ H
       have A12 := am_ A120
       clear A120
       by_cases c13 : t196 = true
       ·subst c13
        replace H := it_ H rfl
        obtain ⟨t197, A140, H⟩ := bE_ H
        have A14 := am_ A140
        clear A140
        have H' := am_ H
        clear H
        have hcz15_0 := cz_ BK193.out 0
        have hcz15_1 := cz_ BK193.out 1
        have hcz15_2 := cz_ BK193.out 2
        have hcz15_3 := cz_ BK193.out 3
        have hfz15_0 := blk_frozen BK193.out 0
        have hfz15_1 := blk_frozen BK193.out 1
        have hfz15_2 := blk_frozen BK193.out 2
        have hfz15_3 := blk_frozen BK193.out 3
        go_wp2_with (first | ((with_reducible refine gate_callee (f := 53) rfl ?_); refine goesL_ (some 16) rfl rfl Tryd.func53 (by kernel_rfl) rfl #[.string ((rd_T49 l0 x9_1).f0)] rfl (by (try simp only [List.map_toArray, List.map_cons, List.map_nil]); first | done | rfl | (simp only [List.length_drop, List.length_take]; rfl)) ?_; (with_reducible refine (impl_GoodName.calls k1 ((rd_T49 l0 x9_1).f0) true _ A8.out).mono ?_); rintro e w' ⟨rfl, ⟨nd, rfl⟩⟩; refine ⟨_, rfl, ?_⟩) | (go_at_call 28; (with_reducible refine (impl_sectionAt.calls k1 _ _ l0 ((rd_T49 l0 x9_1).f0) t195 _ ?side1 ?side2 A10.out).mono ?_); (case side1 => exact Kd.C_below HR0.out (bw_ HB.out)); (case side2 => exact HC0.out); rintro e w16 ⟨rfl, hb⟩; have n0_ := am_ (blk_below (g := gb193) (o := .cells #[.string ((rd_T49 l0 x9_1).f0), .int .i64 ((rd_T49 l0 x9_1).f1), .slice A192_2 ((rd_T49 l0 x9_1).f2).length c192_2, .string ((rd_T49 l0 x9_1).f3)] 49 (0, 0)) (by (with_reducible repeat (first | refine blk_drewN ?_ _ | refine blk_drew ?_ | refine blk_alloc ?_ _)); refine blk_put (cs := #[.string ((rd_T49 l0 x9_1).f0), .int .i64 ((rd_T49 l0 x9_1).f1), .slice A192_2 ((rd_T49 l0 x9_1).f2).length c192_2, .string (⟨#[]⟩ : ByteArray)]) ?_ 3 _ rfl; (with_reducible repeat (first | refine blk_drewN ?_ _ | refine blk_drew ?_ | refine blk_alloc ?_ _)); refine blk_put (cs := #[.string ((rd_T49 l0 x9_1).f0), .int .i64 ((rd_T49 l0 x9_1).f1), .slice none 0 0, .string (⟨#[]⟩ : ByteArray)]) ?_ 2 _ rfl; (with_reducible repeat (first | refine blk_drewN ?_ _ | refine blk_drew ?_ | refine blk_alloc ?_ _)); refine blk_put (cs := #[.string ((rd_T49 l0 x9_1).f0), .int .i64 0, .slice none 0 0, .string (⟨#[]⟩ : ByteArray)]) ?_ 1 _ rfl; (with_reducible repeat (first | refine blk_drewN ?_ _ | refine blk_drew ?_ | refine blk_alloc ?_ _)); refine blk_put (cs := #[.string (⟨#[]⟩ : ByteArray), .int .i64 0, .slice none 0 0, .string (⟨#[]⟩ : ByteArray)]) ?_ 0 _ rfl; (with_reducible repeat (first | refine blk_drewN ?_ _ | refine blk_drew ?_ | refine blk_alloc ?_ _)); exact BK193.out) hb); have n1_ := am_ (below_step (bw_ HB.out) hb); replace BK193 := n0_; replace HB := n1_; clear n0_ n1_; (try clear hb); (try clear hb2); (try clear hk); (try clear hi); have hcz17_0 := cz_ BK193.out 0; have hcz17_1 := cz_ BK193.out 1; have hcz17_2 := cz_ BK193.out 2; have hcz17_3 := cz_ BK193.out 3; have hfz17_0 := blk_frozen BK193.out 0; have hfz17_1 := blk_frozen BK193.out 1; have hfz17_2 := blk_frozen BK193.out 2; have hfz17_3 := blk_frozen BK193.out 3) | (go_at_call 27; (with_reducible refine (impl_inRange.calls ((rd_T49 l0 x9_1).f1) 1 64 true _ A12.out).mono ?_); rintro e w' ⟨rfl, ⟨nd, rfl⟩⟩) | (go_at_call 28; (with_reducible refine (impl_sectionAt.calls k1 _ _ l0 ((rd_T49 l0 x9_1).f3) t197 _ ?side1 ?side2 A14.out).mono ?_); (case side1 => repeat (first | exact (Kd.C_below HR0.out (bw_ HB.out)) | (with_reducible refine Kd.C_alloc ?_ _) | (with_reducible refine Kd.C_drewN ?_ _) | (with_reducible refine Kd.C_drew ?_))); (case side2 => exact HC0.out); rintro e w18 ⟨rfl, hb⟩; have n0_ := am_ (blk_below (bk_ BK193.out) hb); have n1_ := am_ (below_step (bw_ HB.out) hb); replace BK193 := n0_; replace HB := n1_; clear n0_ n1_; (try clear hb); (try clear hb2); (try clear hk); (try clear hi)))
        go_meet
        case rel => exact ⟨_, (decide (t197 < 0)), sq_, H', ⟨by have := HK1.out; first | omega | exact Nat.le_refl _⟩, ⟨bk_ BK193.out⟩, ⟨bw_ HB.out⟩⟩
       ·replace c13 := Bool.eq_false_iff.mpr c13
        subst c13
        replace H := if_ H Bool.false_ne_true
        have H' := am_ H
        clear H
        have hcz19_0 := cz_ BK193.out 0
        have hcz19_1 := cz_ BK193.out 1
        have hcz19_2 := cz_ BK193.out 2
        have hcz19_3 := cz_ BK193.out 3
        have hfz19_0 := blk_frozen BK193.out 0
        have hfz19_1 := blk_frozen BK193.out 1
        have hfz19_2 := blk_frozen BK193.out 2
        have hfz19_3 := blk_frozen BK193.out 3
        go_wp2_with (first | ((with_reducible refine gate_callee (f := 53) rfl ?_); refine goesL_ (some 16) rfl rfl Tryd.func53 (by kernel_rfl) rfl #[.string ((rd_T49 l0 x9_1).f0)] rfl (by (try simp only [List.map_toArray, List.map_cons, List.map_nil]); first | done | rfl | (simp only [List.length_drop, List.length_take]; rfl)) ?_; (with_reducible refine (impl_GoodName.calls k1 ((rd_T49 l0 x9_1).f0) true _ A8.out).mono ?_); rintro e w' ⟨rfl, ⟨nd, rfl⟩⟩; refine ⟨_, rfl, ?_⟩) | (go_at_call 28; (with_reducible refine (impl_sectionAt.calls k1 _ _ l0 ((rd_T49 l0 x9_1).f0) t195 _ ?side1 ?side2 A10.out).mono ?_); (case side1 => exact Kd.C_below HR0.out (bw_ HB.out)); (case side2 => exact HC0.out); rintro e w20 ⟨rfl, hb⟩; have n0_ := am_ (blk_below (g := gb193) (o := .cells #[.string ((rd_T49 l0 x9_1).f0), .int .i64 ((rd_T49 l0 x9_1).f1), .slice A192_2 ((rd_T49 l0 x9_1).f2).length c192_2, .string ((rd_T49 l0 x9_1).f3)] 49 (0, 0)) (by (with_reducible repeat (first | refine blk_drewN ?_ _ | refine blk_drew ?_ | refine blk_alloc ?_ _)); refine blk_put (cs := #[.string ((rd_T49 l0 x9_1).f0), .int .i64 ((rd_T49 l0 x9_1).f1), .slice A192_2 ((rd_T49 l0 x9_1).f2).length c192_2, .string (⟨#[]⟩ : ByteArray)]) ?_ 3 _ rfl; (with_reducible repeat (first | refine blk_drewN ?_ _ | refine blk_drew ?_ | refine blk_alloc ?_ _)); refine blk_put (cs := #[.string ((rd_T49 l0 x9_1).f0), .int .i64 ((rd_T49 l0 x9_1).f1), .slice none 0 0, .string (⟨#[]⟩ : ByteArray)]) ?_ 2 _ rfl; (with_reducible repeat (first | refine blk_drewN ?_ _ | refine blk_drew ?_ | refine blk_alloc ?_ _)); refine blk_put (cs := #[.string ((rd_T49 l0 x9_1).f0), .int .i64 0, .slice none 0 0, .string (⟨#[]⟩ : ByteArray)]) ?_ 1 _ rfl; (with_reducible repeat (first | refine blk_drewN ?_ _ | refine blk_drew ?_ | refine blk_alloc ?_ _)); refine blk_put (cs := #[.string (⟨#[]⟩ : ByteArray), .int .i64 0, .slice none 0 0, .string (⟨#[]⟩ : ByteArray)]) ?_ 0 _ rfl; (with_reducible repeat (first | refine blk_drewN ?_ _ | refine blk_drew ?_ | refine blk_alloc ?_ _)); exact BK193.out) hb); have n1_ := am_ (below_step (bw_ HB.out) hb); replace BK193 := n0_; replace HB := n1_; clear n0_ n1_; (try clear hb); (try clear hb2); (try clear hk); (try clear hi); have hcz21_0 := cz_ BK193.out 0; have hcz21_1 := cz_ BK193.out 1; have hcz21_2 := cz_ BK193.out 2; have hcz21_3 := cz_ BK193.out 3; have hfz21_0 := blk_frozen BK193.out 0; have hfz21_1 := blk_frozen BK193.out 1; have hfz21_2 := blk_frozen BK193.out 2; have hfz21_3 := blk_frozen BK193.out 3) | (go_at_call 27; (with_reducible refine (impl_inRange.calls ((rd_T49 l0 x9_1).f1) 1 64 false _ A12.out).mono ?_); rintro e w' ⟨rfl, ⟨nd, rfl⟩⟩))
        go_meet
        case rel => exact ⟨_, (true), sq_, H', ⟨by have := HK1.out; first | omega | exact Nat.le_refl _⟩, ⟨bk_ BK193.out⟩, ⟨bw_ HB.out⟩⟩
      ·rw [if_neg c11] at H
       have c11b0 : (t195 == x9_1) = false := beq_eq_false_iff_ne.mpr c11
       have c11b1 : (t195 != x9_1) = true := bne_iff_ne.mpr c11
       (first | rw [c11b0] | (simp only [i64_w, i32_w]; rw [c11b0]) | skip)
       have H' := am_ H
       clear H
       have hcz22_0 := cz_ BK193.out 0
       have hcz22_1 := cz_ BK193.out 1
       have hcz22_2 := cz_ BK193.out 2
       have hcz22_3 := cz_ BK193.out 3
       have hfz22_0 := blk_frozen BK193.out 0
       have hfz22_1 := blk_frozen BK193.out 1
       have hfz22_2 := blk_frozen BK193.out 2
       have hfz22_3 := blk_frozen BK193.out 3
       go_wp2_with (first | ((with_reducible refine gate_callee (f := 53) rfl ?_); refine goesL_ (some 16) rfl rfl Tryd.func53 (by kernel_rfl) rfl #[.string ((rd_T49 l0 x9_1).f0)] rfl (by (try simp only [List.map_toArray, List.map_cons, List.map_nil]); first | done | rfl | (simp only [List.length_drop, List.length_take]; rfl)) ?_; (with_reducible refine (impl_GoodName.calls k1 ((rd_T49 l0 x9_1).f0) true _ A8.out).mono ?_); rintro e w' ⟨rfl, ⟨nd, rfl⟩⟩; refine ⟨_, rfl, ?_⟩) | (go_at_call 28; (with_reducible refine (impl_sectionAt.calls k1 _ _ l0 ((rd_T49 l0 x9_1).f0) t195 _ ?side1 ?side2 A10.out).mono ?_); (case side1 => exact Kd.C_below HR0.out (bw_ HB.out)); (case side2 => exact HC0.out); rintro e w23 ⟨rfl, hb⟩; have n0_ := am_ (blk_below (g := gb193) (o := .cells #[.string ((rd_T49 l0 x9_1).f0), .int .i64 ((rd_T49 l0 x9_1).f1), .slice A192_2 ((rd_T49 l0 x9_1).f2).length c192_2, .string ((rd_T49 l0 x9_1).f3)] 49 (0, 0)) (by (with_reducible repeat (first | refine blk_drewN ?_ _ | refine blk_drew ?_ | refine blk_alloc ?_ _)); refine blk_put (cs := #[.string ((rd_T49 l0 x9_1).f0), .int .i64 ((rd_T49 l0 x9_1).f1), .slice A192_2 ((rd_T49 l0 x9_1).f2).length c192_2, .string (⟨#[]⟩ : ByteArray)]) ?_ 3 _ rfl; (with_reducible repeat (first | refine blk_drewN ?_ _ | refine blk_drew ?_ | refine blk_alloc ?_ _)); refine blk_put (cs := #[.string ((rd_T49 l0 x9_1).f0), .int .i64 ((rd_T49 l0 x9_1).f1), .slice none 0 0, .string (⟨#[]⟩ : ByteArray)]) ?_ 2 _ rfl; (with_reducible repeat (first | refine blk_drewN ?_ _ | refine blk_drew ?_ | refine blk_alloc ?_ _)); refine blk_put (cs := #[.string ((rd_T49 l0 x9_1).f0), .int .i64 0, .slice none 0 0, .string (⟨#[]⟩ : ByteArray)]) ?_ 1 _ rfl; (with_reducible repeat (first | refine blk_drewN ?_ _ | refine blk_drew ?_ | refine blk_alloc ?_ _)); refine blk_put (cs := #[.string (⟨#[]⟩ : ByteArray), .int .i64 0, .slice none 0 0, .string (⟨#[]⟩ : ByteArray)]) ?_ 0 _ rfl; (with_reducible repeat (first | refine blk_drewN ?_ _ | refine blk_drew ?_ | refine blk_alloc ?_ _)); exact BK193.out) hb); have n1_ := am_ (below_step (bw_ HB.out) hb); replace BK193 := n0_; replace HB := n1_; clear n0_ n1_; (try clear hb); (try clear hb2); (try clear hk); (try clear hi)))
       go_meet
       case rel => exact ⟨_, (true), sq_, H', ⟨by have := HK1.out; first | omega | exact Nat.le_refl _⟩, ⟨bk_ BK193.out⟩, ⟨bw_ HB.out⟩⟩
     ·replace c9 := Bool.eq_false_iff.mpr c9
      subst c9
      replace H := if_ H Bool.false_ne_true
      have H' := am_ H
      clear H
      have hcz24_0 := cz_ BK193.out 0
      have hcz24_1 := cz_ BK193.out 1
      have hcz24_2 := cz_ BK193.out 2
      have hcz24_3 := cz_ BK193.out 3
      have hfz24_0 := blk_frozen BK193.out 0
      have hfz24_1 := blk_frozen BK193.out 1
      have hfz24_2 := blk_frozen BK193.out 2
      have hfz24_3 := blk_frozen BK193.out 3
      go_wp2_with (first | ((with_reducible refine gate_callee (f := 53) rfl ?_); refine goesL_ (some 16) rfl rfl Tryd.func53 (by kernel_rfl) rfl #[.string ((rd_T49 l0 x9_1).f0)] rfl (by (try simp only [List.map_toArray, List.map_cons, List.map_nil]); first | done | rfl | (simp only [List.length_drop, List.length_take]; rfl)) ?_; (with_reducible refine (impl_GoodName.calls k1 ((rd_T49 l0 x9_1).f0) false _ A8.out).mono ?_); rintro e w' ⟨rfl, ⟨nd, rfl⟩⟩; refine ⟨_, rfl, ?_⟩))
      go_meet
      case rel => exact ⟨_, (true), sq_, H', ⟨by have := HK1.out; first | omega | exact Nat.le_refl _⟩, ⟨by (with_reducible repeat (first | refine blk_drewN ?_ _ | refine blk_drew ?_ | refine blk_alloc ?_ _)); refine blk_put (cs := #[.string ((rd_T49 l0 x9_1).f0), .int .i64 ((rd_T49 l0 x9_1).f1), .slice A192_2 ((rd_T49 l0 x9_1).f2).length c192_2, .string (⟨#[]⟩ : ByteArray)]) ?_ 3 _ rfl; (with_reducible repeat (first | refine blk_drewN ?_ _ | refine blk_drew ?_ | refine blk_alloc ?_ _)); refine blk_put (cs := #[.string ((rd_T49 l0 x9_1).f0), .int .i64 ((rd_T49 l0 x9_1).f1), .slice none 0 0, .string (⟨#[]⟩ : ByteArray)]) ?_ 2 _ rfl; (with_reducible repeat (first | refine blk_drewN ?_ _ | refine blk_drew ?_ | refine blk_alloc ?_ _)); refine blk_put (cs := #[.string ((rd_T49 l0 x9_1).f0), .int .i64 0, .slice none 0 0, .string (⟨#[]⟩ : ByteArray)]) ?_ 1 _ rfl; (with_reducible repeat (first | refine blk_drewN ?_ _ | refine blk_drew ?_ | refine blk_alloc ?_ _)); refine blk_put (cs := #[.string (⟨#[]⟩ : ByteArray), .int .i64 0, .slice none 0 0, .string (⟨#[]⟩ : ByteArray)]) ?_ 0 _ rfl; (with_reducible repeat (first | refine blk_drewN ?_ _ | refine blk_drew ?_ | refine blk_alloc ?_ _)); exact BK193.out⟩, ⟨bw_ HB.out⟩⟩
    case rest =>
     clear HC5
     try clear c2
     try clear c2b0
     try clear c3
     try clear c3b0
     try clear c4
     try clear c4b0
     try clear hcz7_0
     try clear hcz7_1
     try clear hcz7_2
     try clear hcz7_3
     try clear hfz7_0
     try clear hfz7_1
     try clear hfz7_2
     try clear hfz7_3
     try clear hx192_0
     try clear hx192_1
     try clear hx192_2
     try clear hx192_3
     try clear p192
     try clear q192
     obtain ⟨kq, x38_4, rfl, HA, HJ4, BK193, HB⟩ := hcut
     cases kq with
     | zero => exact absurd HA.out (by simp [impl_areSections.j1])
     | succ kj4 =>
      have H := HA.out
      clear HA
      simp only [impl_areSections.j1] at H
      by_cases c25 : x38_4 = true
      ·subst c25
       replace H := it_ H rfl
       obtain rfl := Option.some.inj H
       go_wp2
       go_ret
       exact ⟨by first | rfl | (simp [errW_none, errW_some] <;> rfl) | (simp [*, errW_none, errW_some] <;> rfl), bw_ HB.out⟩
      ·replace c25 := Bool.eq_false_iff.mpr c25
       subst c25
       replace H := if_ H Bool.false_ne_true
       have H' := am_ H
       clear H
       have hcz26_0 := cz_ BK193.out 0
       have hcz26_1 := cz_ BK193.out 1
       have hcz26_2 := cz_ BK193.out 2
       have hcz26_3 := cz_ BK193.out 3
       have hfz26_0 := blk_frozen BK193.out 0
       have hfz26_1 := blk_frozen BK193.out 1
       have hfz26_2 := blk_frozen BK193.out 2
       have hfz26_3 := blk_frozen BK193.out 3
       go_wp2
       go_loopg [42] kj4 (fun kq v42 w' => ∃ (x42_3 : Int), v42 = .int .i64 x42_3 ∧ Aside0 (impl_areSections.l1 kq l0 l0 (l0.length : Int) x9_1 ((rd_T49 l0 x9_1).f2) (((rd_T49 l0 x9_1).f2).length : Int) x42_3 ((rd_T49 l0 x9_1).f0) ((rd_T49 l0 x9_1).f1) ((rd_T49 l0 x9_1).f2) ((rd_T49 l0 x9_1).f3) = some r) ∧ Aside0 (kq ≤ kj4) ∧ Aside0 (w'.heap[gb193]? = some (.cells #[.string ((rd_T49 l0 x9_1).f0), .int .i64 ((rd_T49 l0 x9_1).f1), (.slice A192_2 ((rd_T49 l0 x9_1).f2).length c192_2), .string ((rd_T49 l0 x9_1).f3)] 49 (0, 0))) ∧ Aside0 (Below w.heap.size w w'))
       case atStart => exact ⟨(0), sq_, H', ⟨Nat.le_refl _⟩, ⟨bk_ BK193.out⟩, ⟨bw_ HB.out⟩⟩
       case round =>
        clear H'
        try clear c2
        try clear c2b0
        try clear c3
        try clear c3b0
        try clear c4
        try clear c4b0
        try clear c25
        try clear hcz26_0
        try clear hcz26_1
        try clear hcz26_2
        try clear hcz26_3
        try clear hcz7_0
        try clear hcz7_1
        try clear hcz7_2
        try clear hcz7_3
        try clear hfz26_0
        try clear hfz26_1
        try clear hfz26_2
        try clear hfz26_3
        try clear hfz7_0
        try clear hfz7_1
        try clear hfz7_2
        try clear hfz7_3
        try clear hx192_0
        try clear hx192_1
        try clear hx192_2
        try clear hx192_3
        try clear p192
        try clear q192
        obtain ⟨x42_3, rfl, HA, HK3, BK193, HB⟩ := hrel
        cases gk with
        | zero => exact absurd HA.out (by simp [impl_areSections.l1])
        | succ k3 =>
         have H := HA.out
         clear HA
         simp only [impl_areSections.l1] at H
         by_cases c27 : x42_3 < (((rd_T49 l0 x9_1).f2).length : Int)
         ·rw [if_pos c27] at H
          have c27b0 : decide (x42_3 < (((rd_T49 l0 x9_1).f2).length : Int)) = true := decide_eq_true c27
          clear c27
          obtain ⟨c28, H⟩ := ifn_ H
          have c28b0 : decide (0 ≤ x42_3) = true := decide_eq_true c28
          clear c28
          obtain ⟨c29, H⟩ := ifn_ H
          have c29b0 : decide (x42_3 < (((rd_T49 l0 x9_1).f2).length : Int)) = true := decide_eq_true c29
          clear c29
          obtain ⟨t199, A300, H⟩ := bE_ H
          have A30 := am_ A300
          clear A300
          by_cases c31 : t199 = true
          ·subst c31
           replace H := it_ H rfl
           by_cases c32 : x42_3 > 0
           ·rw [if_pos c32] at H
            have c32b0 : decide (0 < x42_3) = true := decide_eq_true c32
            clear c32
            obtain ⟨ji33, hji33⟩ : ∃ j_ : Int, (wrap64 (x42_3 - 1)) = j_ := ⟨_, rfl⟩
            replace H : (if 0 ≤ (ji33) then (if (ji33) < (((rd_T49 l0 x9_1).f2).length : Int) then (if (rd ((rd_T49 l0 x9_1).f2) (ji33)) ≥ (rd ((rd_T49 l0 x9_1).f2) x42_3) then (some false) else (impl_areSections.l1 k3 l0 l0 (l0.length : Int) x9_1 ((rd_T49 l0 x9_1).f2) (((rd_T49 l0 x9_1).f2).length : Int) (wrap64 (x42_3 + 1)) ((rd_T49 l0 x9_1).f0) ((rd_T49 l0 x9_1).f1) ((rd_T49 l0 x9_1).f2) ((rd_T49 l0 x9_1).f3))) else (none)) else (none)) = some r := by first | (rw [hji33] at H; exact H) | (simp only [hji33] at H ⊢; exact H)
            (try rw [hji33] at A30)
            have hji33w : (IntKind.i64.wrap (x42_3 - 1)) = ji33 := (i64_w _).trans hji33
            obtain ⟨c34, H⟩ := ifn_ H
            have c34b0 : decide (0 ≤ (ji33)) = true := decide_eq_true c34
            clear c34
            obtain ⟨c35, H⟩ := ifn_ H
            have c35b0 : decide ((ji33) < (((rd_T49 l0 x9_1).f2).length : Int)) = true := decide_eq_true c35
            clear c35
            by_cases c36 : (rd ((rd_T49 l0 x9_1).f2) (ji33)) ≥ (rd ((rd_T49 l0 x9_1).f2) x42_3)
            ·rw [if_pos c36] at H
             have c36b0 : decide ((rd ((rd_T49 l0 x9_1).f2) x42_3) ≤ (rd ((rd_T49 l0 x9_1).f2) (ji33))) = true := decide_eq_true c36
             clear c36
             obtain rfl := Option.some.inj H
             have p198 : 0 ≤ (x42_3 : Int) := od_
             have q198 : x42_3 < (((rd_T49 l0 x9_1).f2).length : Int) := od_
             obtain ⟨ad198, e198, hx198_0⟩ := Kd.at_int HR192_2.out x42_3 p198 q198
             cases e198
             (try replace hx198_0 := hc_ HB.out hx198_0)
             replace p198 := eq_true p198
             replace q198 := eq_true q198
             have hcz37_0 := cz_ BK193.out 0
             have hcz37_1 := cz_ BK193.out 1
             have hcz37_2 := cz_ BK193.out 2
             have hcz37_3 := cz_ BK193.out 3
             have hfz37_0 := blk_frozen BK193.out 0
             have hfz37_1 := blk_frozen BK193.out 1
             have hfz37_2 := blk_frozen BK193.out 2
             have hfz37_3 := blk_frozen BK193.out 3
             go_wp2_with (first | ((with_reducible refine gate_callee (f := 27) rfl ?_); refine goesL_ (some 51) rfl rfl Tryd.func27 (by kernel_rfl) rfl #[.int .i64 (rd ((rd_T49 l0 x9_1).f2) x42_3), .int .i64 0, .int .i64 (wrap64 (((rd_T49 l0 x9_1).f1) - 1))] rfl (by (try simp only [List.map_toArray, List.map_cons, List.map_nil]); first | done | rfl | (simp only [List.length_drop, List.length_take]; rfl)) ?_; (with_reducible refine (impl_inRange.calls (rd ((rd_T49 l0 x9_1).f2) x42_3) 0 (wrap64 (((rd_T49 l0 x9_1).f1) - 1)) true _ A30.out).mono ?_); rintro e w' ⟨rfl, ⟨nd, rfl⟩⟩; refine ⟨_, rfl, ?_⟩; have p200 : 0 ≤ ((ji33) : Int) := od_; have q200 : (ji33) < (((rd_T49 l0 x9_1).f2).length : Int) := od_; obtain ⟨ad200, e200, hx200_0⟩ := Kd.at_int HR192_2.out (ji33) p200 q200; obtain rfl : ad198 = ad200 := (by injection e200); (try replace hx200_0 := hc_ HB.out hx200_0); replace p200 := eq_true p200; replace q200 := eq_true q200))
             go_ret
             exact ⟨by first | rfl | (simp [errW_none, errW_some] <;> rfl) | (simp only [← hji33]; first | rfl | (simp [errW_none, errW_some] <;> rfl)) | (simp [*, errW_none, errW_some] <;> rfl), bw_ HB.out⟩
            ·rw [if_neg c36] at H
             have c36b0 : decide ((rd ((rd_T49 l0 x9_1).f2) x42_3) ≤ (rd ((rd_T49 l0 x9_1).f2) (ji33))) = false := decide_eq_false c36
             clear c36
             have H' := am_ H
             clear H
             have p198 : 0 ≤ (x42_3 : Int) := od_
             have q198 : x42_3 < (((rd_T49 l0 x9_1).f2).length : Int) := od_
             obtain ⟨ad198, e198, hx198_0⟩ := Kd.at_int HR192_2.out x42_3 p198 q198
             cases e198
             (try replace hx198_0 := hc_ HB.out hx198_0)
             replace p198 := eq_true p198
             replace q198 := eq_true q198
             have hcz38_0 := cz_ BK193.out 0
             have hcz38_1 := cz_ BK193.out 1
             have hcz38_2 := cz_ BK193.out 2
             have hcz38_3 := cz_ BK193.out 3
             have hfz38_0 := blk_frozen BK193.out 0
             have hfz38_1 := blk_frozen BK193.out 1
             have hfz38_2 := blk_frozen BK193.out 2
             have hfz38_3 := blk_frozen BK193.out 3
             go_wp2_with (first | ((with_reducible refine gate_callee (f := 27) rfl ?_); refine goesL_ (some 51) rfl rfl Tryd.func27 (by kernel_rfl) rfl #[.int .i64 (rd ((rd_T49 l0 x9_1).f2) x42_3), .int .i64 0, .int .i64 (wrap64 (((rd_T49 l0 x9_1).f1) - 1))] rfl (by (try simp only [List.map_toArray, List.map_cons, List.map_nil]); first | done | rfl | (simp only [List.length_drop, List.length_take]; rfl)) ?_; (with_reducible refine (impl_inRange.calls (rd ((rd_T49 l0 x9_1).f2) x42_3) 0 (wrap64 (((rd_T49 l0 x9_1).f1) - 1)) true _ A30.out).mono ?_); rintro e w' ⟨rfl, ⟨nd, rfl⟩⟩; refine ⟨_, rfl, ?_⟩; have p200 : 0 ≤ ((ji33) : Int) := od_; have q200 : (ji33) < (((rd_T49 l0 x9_1).f2).length : Int) := od_; obtain ⟨ad200, e200, hx200_0⟩ := Kd.at_int HR192_2.out (ji33) p200 q200; obtain rfl : ad198 = ad200 := (by injection e200); (try replace hx200_0 := hc_ HB.out hx200_0); replace p200 := eq_true p200; replace q200 := eq_true q200))
             go_roundg k3
             case measure => have := HK1.out; have := HJ4.out; have := HK3.out; omega
             case rel => exact ⟨(wrap64 (x42_3 + 1)), sq_, H', ⟨by have := HK1.out; have := HJ4.out; have := HK3.out; omega⟩, ⟨bk_ BK193.out⟩, ⟨bw_ HB.out⟩⟩
           ·rw [if_neg c32] at H
            have c32b0 : decide (0 < x42_3) = false := decide_eq_false c32
            clear c32
            have H' := am_ H
            clear H
            have p198 : 0 ≤ (x42_3 : Int) := od_
            have q198 : x42_3 < (((rd_T49 l0 x9_1).f2).length : Int) := od_
            obtain ⟨ad198, e198, hx198_0⟩ := Kd.at_int HR192_2.out x42_3 p198 q198
            cases e198
            (try replace hx198_0 := hc_ HB.out hx198_0)
            replace p198 := eq_true p198
            replace q198 := eq_true q198
            have hcz39_0 := cz_ BK193.out 0
            have hcz39_1 := cz_ BK193.out 1
            have hcz39_2 := cz_ BK193.out 2
            have hcz39_3 := cz_ BK193.out 3
            have hfz39_0 := blk_frozen BK193.out 0
            have hfz39_1 := blk_frozen BK193.out 1
            have hfz39_2 := blk_frozen BK193.out 2
            have hfz39_3 := blk_frozen BK193.out 3
            go_wp2_with (first | ((with_reducible refine gate_callee (f := 27) rfl ?_); refine goesL_ (some 51) rfl rfl Tryd.func27 (by kernel_rfl) rfl #[.int .i64 (rd ((rd_T49 l0 x9_1).f2) x42_3), .int .i64 0, .int .i64 (wrap64 (((rd_T49 l0 x9_1).f1) - 1))] rfl (by (try simp only [List.map_toArray, List.map_cons, List.map_nil]); first | done | rfl | (simp only [List.length_drop, List.length_take]; rfl)) ?_; (with_reducible refine (impl_inRange.calls (rd ((rd_T49 l0 x9_1).f2) x42_3) 0 (wrap64 (((rd_T49 l0 x9_1).f1) - 1)) true _ A30.out).mono ?_); rintro e w' ⟨rfl, ⟨nd, rfl⟩⟩; refine ⟨_, rfl, ?_⟩))
            go_roundg k3
            case measure => have := HK1.out; have := HJ4.out; have := HK3.out; omega
            case rel => exact ⟨(wrap64 (x42_3 + 1)), sq_, H', ⟨by have := HK1.out; have := HJ4.out; have := HK3.out; omega⟩, ⟨bk_ BK193.out⟩, ⟨bw_ HB.out⟩⟩
          ·replace c31 := Bool.eq_false_iff.mpr c31
           subst c31
           replace H := if_ H Bool.false_ne_true
           obtain rfl := Option.some.inj H
           have p198 : 0 ≤ (x42_3 : Int) := od_
           have q198 : x42_3 < (((rd_T49 l0 x9_1).f2).length : Int) := od_
           obtain ⟨ad198, e198, hx198_0⟩ := Kd.at_int HR192_2.out x42_3 p198 q198
           cases e198
           (try replace hx198_0 := hc_ HB.out hx198_0)
           replace p198 := eq_true p198
           replace q198 := eq_true q198
           have hcz40_0 := cz_ BK193.out 0
           have hcz40_1 := cz_ BK193.out 1
           have hcz40_2 := cz_ BK193.out 2
           have hcz40_3 := cz_ BK193.out 3
           have hfz40_0 := blk_frozen BK193.out 0
           have hfz40_1 := blk_frozen BK193.out 1
           have hfz40_2 := blk_frozen BK193.out 2
           have hfz40_3 := blk_frozen BK193.out 3
           go_wp2_with (first | ((with_reducible refine gate_callee (f := 27) rfl ?_); refine goesL_ (some 51) rfl rfl Tryd.func27 (by kernel_rfl) rfl #[.int .i64 (rd ((rd_T49 l0 x9_1).f2) x42_3), .int .i64 0, .int .i64 (wrap64 (((rd_T49 l0 x9_1).f1) - 1))] rfl (by (try simp only [List.map_toArray, List.map_cons, List.map_nil]); first | done | rfl | (simp only [List.length_drop, List.length_take]; rfl)) ?_; (with_reducible refine (impl_inRange.calls (rd ((rd_T49 l0 x9_1).f2) x42_3) 0 (wrap64 (((rd_T49 l0 x9_1).f1) - 1)) false _ A30.out).mono ?_); rintro e w' ⟨rfl, ⟨nd, rfl⟩⟩; refine ⟨_, rfl, ?_⟩))
           go_ret
           exact ⟨by first | rfl | (simp [errW_none, errW_some] <;> rfl) | (simp [*, errW_none, errW_some] <;> rfl), bw_ HB.out⟩
         ·rw [if_neg c27] at H
          have c27b0 : decide (x42_3 < (((rd_T49 l0 x9_1).f2).length : Int)) = false := decide_eq_false c27
          clear c27
          have H' := am_ H
          clear H
          go_wp2
          go_roundg k3
          case measure => have := HK1.out; have := HJ4.out; have := HK3.out; omega
          case rel => exact ⟨(wrap64 (x9_1 + 1)), sq_, H', ⟨by have := HK1.out; have := HJ4.out; have := HK3.out; omega⟩, ⟨bw_ HB.out⟩⟩
   ·rw [if_neg c2] at H
    have c2b0 : decide (x9_1 < (l0.length : Int)) = false := decide_eq_false c2
    clear c2
    obtain ⟨t191, A410, H⟩ := bE_ H
    have A41 := am_ A410
    clear A410
    obtain rfl := Option.some.inj H
    go_wp2_with (first | ((with_reducible refine gate_callee (f := 27) rfl ?_); refine goesL_ (some 71) rfl rfl Tryd.func27 (by kernel_rfl) rfl #[.int .i64 (l0.length : Int), .int .i64 1, .int .i64 64] rfl (by (try simp only [List.map_toArray, List.map_cons, List.map_nil]); first | done | rfl | (simp only [List.length_drop, List.length_take]; rfl)) ?_; (with_reducible refine (impl_inRange.calls (l0.length : Int) 1 64 t191 _ A41.out).mono ?_); rintro e w' ⟨rfl, ⟨nd, rfl⟩⟩; refine ⟨_, rfl, ?_⟩))
    go_ret
    exact ⟨by first | rfl | (simp [errW_none, errW_some] <;> rfl) | (simp [*, errW_none, errW_some] <;> rfl), bw_ HB.out⟩

end Go.Proofs.YtcabbfphidjapaaDoor.XFnExactRunMusic
