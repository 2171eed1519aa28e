/- What the Go functions that this law comes to compute, each walked; written by a program of this session. -/
import Derived.Test.YtgfppioaggeleaaXShort
import Derived.Test.YtgfppioaggeleaaXMark
import Derived.Test.YtgfppioaggeleaaXFnExactLayOutx0
import Derived.Test.YtgfppioaggeleaaXFnExactLayOutx1
import Derived.Test.YtgfppioaggeleaaXFnExactLayOutx2
import Derived.Test.YtgfppioaggeleaaXFnExactLayOutx3
namespace Go.Proofs.Ytgfppioaggeleaa.XFnExactLayOut
open Go.RowKit Go.Proofs.YtgfppioaggeleaaW.PrintWords Go.Proofs.YtgfppioaggeleaaW.PrintLast Go.Proofs.YtgfppioaggeleaaW.PrintMore
attribute [local go_sem] str_geq max2_int min2_int max_two min_two max_three min_three max_four min_four   -- for this text's walks alone
set_option linter.unusedVariables false
set_option linter.unusedSimpArgs false

/-! ### spec_LayOut: function 15 -/
mutual
def spec_LayOut.j0 : Nat → List (S74) → Int → Int → Bool → Option ((List (S72)) × Bool)
 | 0, _, _, _, _ => none
 | k + 1, x0, x1, x2, x36 => if x36 = true then (some (([] : List (S72)), false)) else (if 0 ≤ (x0.length : Int) then (if ((x0.length : Int) : Int).toNat ≤ 8796093022208 then ((some (List.replicate ((x0.length : Int) : Int).toNat z72 : List (S72))).bind fun y145 => (if 0 < (y145.length : Int) then (spec_LayOut.l0 k x0 (y145.set (0 : Int).toNat (⟨0, 0, x1, x2⟩ : S72)) x0 (x0.length : Int) 0) else (none))) else (none)) else (none))
def spec_LayOut.l0 : Nat → List (S74) → List (S72) → List (S74) → Int → Int → Option ((List (S72)) × Bool)
 | 0, _, _, _, _, _ => none
 | k + 1, x0, x8, x45, x46, x47 => if x47 < x46 then (if 0 ≤ x47 then (if x47 < (x45.length : Int) then (spec_LayOut.l1 k x0 x8 x47 ([] : List Int) ([] : List Int) ([] : List Int) x45 x46 x47 x0 (x0.length : Int) 0 ((rd_T74 x45 x47).f0) ((rd_T74 x45 x47).f1) ((rd_T74 x45 x47).f2) ((rd_T74 x45 x47).f3) ((rd_T74 x45 x47).f4)) else (none)) else (none)) else (some (x8, true))
def spec_LayOut.l1 : Nat → List (S74) → List (S72) → Int → List Int → List Int → List Int → List (S74) → Int → Int → List (S74) → Int → Int → Int → Int → Int → Int → Int → Option ((List (S72)) × Bool)
 | 0, _, _, _, _, _, _, _, _, _, _, _, _, _, _, _, _, _ => none
 | k + 1, x0, x8, x9, x11, x12, x13, x45, x46, x47, x52, x53, x54, x151000, x151001, x151002, x151003, x151004 => if x54 < x53 then (if 0 ≤ x54 then (if x54 < (x52.length : Int) then (if x54 > 0 then (if ((rd_T74 x52 x54).f0) = x9 then (if x11.length < 17592186044416 then (if x12.length < 17592186044416 then (if x13.length < 17592186044416 then (spec_LayOut.l1 k x0 x8 x9 (x11 ++ [x54]) (x12 ++ [(rd_T74 x52 x54).f2]) (x13 ++ [(rd_T74 x52 x54).f3]) x45 x46 x47 x52 x53 (wrap64 (x54 + 1)) x151000 x151001 x151002 x151003 x151004) else (none)) else (none)) else (none)) else (spec_LayOut.l1 k x0 x8 x9 x11 x12 x13 x45 x46 x47 x52 x53 (wrap64 (x54 + 1)) x151000 x151001 x151002 x151003 x151004)) else (spec_LayOut.l1 k x0 x8 x9 x11 x12 x13 x45 x46 x47 x52 x53 (wrap64 (x54 + 1)) x151000 x151001 x151002 x151003 x151004)) else (none)) else (none)) else (if 0 ≤ x9 then (if x9 < (x8.length : Int) then ((spec_l18Least.f (wrap64 (((rd_T72 x8 x9).f2) - (wrap64 (2 * x151004))))).bind fun t165 => ((spec_l18Least.f (wrap64 (((rd_T72 x8 x9).f3) - (wrap64 (2 * x151004))))).bind fun t167 => (if x151001 = 1 then ((spec_l18Share.f k t165 x12 x13).bind fun t168 => (spec_LayOut.l2 k x0 x8 x11 (wrap64 (((rd_T72 x8 x9).f0) + x151004)) (wrap64 (((rd_T72 x8 x9).f1) + x151004)) t167 x45 x46 x47 t168 (t168.length : Int) 0)) else ((spec_l18Share.f k t167 x12 x13).bind fun t174 => (spec_LayOut.l3 k x0 x8 x11 (wrap64 (((rd_T72 x8 x9).f0) + x151004)) (wrap64 (((rd_T72 x8 x9).f1) + x151004)) t165 x45 x46 x47 t174 (t174.length : Int) 0))))) else (none)) else (none))
def spec_LayOut.l2 : Nat → List (S74) → List (S72) → List Int → Int → Int → Int → List (S74) → Int → Int → List Int → Int → Int → Option ((List (S72)) × Bool)
 | 0, _, _, _, _, _, _, _, _, _, _, _, _ => none
 | k + 1, x0, x8, x11, x16, x17, x19, x45, x46, x47, x124, x125, x126 => if x126 < x125 then (if 0 ≤ x126 then (if x126 < (x124.length : Int) then (if x126 < (x11.length : Int) then (if 0 ≤ (rd x11 x126) then (if (rd x11 x126) < (x8.length : Int) then (spec_LayOut.l2 k x0 (x8.set ((rd x11 x126) : Int).toNat (⟨x16, x17, rd x124 x126, x19⟩ : S72)) x11 (wrap64 (x16 + (rd x124 x126))) x17 x19 x45 x46 x47 x124 x125 (wrap64 (x126 + 1))) else (none)) else (none)) else (none)) else (none)) else (none)) else (spec_LayOut.l0 k x0 x8 x45 x46 (wrap64 (x47 + 1)))
def spec_LayOut.l3 : Nat → List (S74) → List (S72) → List Int → Int → Int → Int → List (S74) → Int → Int → List Int → Int → Int → Option ((List (S72)) × Bool)
 | 0, _, _, _, _, _, _, _, _, _, _, _, _ => none
 | k + 1, x0, x8, x11, x16, x17, x18, x45, x46, x47, x149, x150, x151 => if x151 < x150 then (if 0 ≤ x151 then (if x151 < (x149.length : Int) then (if x151 < (x11.length : Int) then (if 0 ≤ (rd x11 x151) then (if (rd x11 x151) < (x8.length : Int) then (spec_LayOut.l3 k x0 (x8.set ((rd x11 x151) : Int).toNat (⟨x16, x17, x18, rd x149 x151⟩ : S72)) x11 x16 (wrap64 (x17 + (rd x149 x151))) x18 x45 x46 x47 x149 x150 (wrap64 (x151 + 1))) else (none)) else (none)) else (none)) else (none)) else (none)) else (spec_LayOut.l0 k x0 x8 x45 x46 (wrap64 (x47 + 1)))
end
def spec_LayOut.f (k : Nat) (l0 : List (S74)) (a1 : Int) (a2 : Int) : Option ((List (S72)) × Bool) := (spec_GoodBoxes.f k l0).bind fun t142 => (if t142 = true then ((spec_l1In.f a1 0 10000).bind fun t143 => (if t143 = true then ((spec_l1In.f a2 0 10000).bind fun t144 => (spec_LayOut.j0 k l0 a1 a2 (!t144))) else (spec_LayOut.j0 k l0 a1 a2 true))) else (spec_LayOut.j0 k l0 a1 a2 true))
theorem spec_LayOut.mono_l : ∀ k, (∀ y0 y1 y2 y3, LeO (spec_LayOut.j0 k y0 y1 y2 y3) (spec_LayOut.j0 (k + 1) y0 y1 y2 y3)) ∧ (∀ y0 y1 y2 y3 y4, LeO (spec_LayOut.l0 k y0 y1 y2 y3 y4) (spec_LayOut.l0 (k + 1) y0 y1 y2 y3 y4)) ∧ (∀ y0 y1 y2 y3 y4 y5 y6 y7 y8 y9 y10 y11 y12 y13 y14 y15 y16, LeO (spec_LayOut.l1 k y0 y1 y2 y3 y4 y5 y6 y7 y8 y9 y10 y11 y12 y13 y14 y15 y16) (spec_LayOut.l1 (k + 1) y0 y1 y2 y3 y4 y5 y6 y7 y8 y9 y10 y11 y12 y13 y14 y15 y16)) ∧ (∀ y0 y1 y2 y3 y4 y5 y6 y7 y8 y9 y10 y11, LeO (spec_LayOut.l2 k y0 y1 y2 y3 y4 y5 y6 y7 y8 y9 y10 y11) (spec_LayOut.l2 (k + 1) y0 y1 y2 y3 y4 y5 y6 y7 y8 y9 y10 y11)) ∧ (∀ y0 y1 y2 y3 y4 y5 y6 y7 y8 y9 y10 y11, LeO (spec_LayOut.l3 k y0 y1 y2 y3 y4 y5 y6 y7 y8 y9 y10 y11) (spec_LayOut.l3 (k + 1) y0 y1 y2 y3 y4 y5 y6 y7 y8 y9 y10 y11))
 | 0 => ⟨fun _ _ _ _ r h => by simp [spec_LayOut.j0] at h, fun _ _ _ _ _ r h => by simp [spec_LayOut.l0] at h, fun _ _ _ _ _ _ _ _ _ _ _ _ _ _ _ _ _ r h => by simp [spec_LayOut.l1] at h, fun _ _ _ _ _ _ _ _ _ _ _ _ r h => by simp [spec_LayOut.l2] at h, fun _ _ _ _ _ _ _ _ _ _ _ _ r h => by simp [spec_LayOut.l3] at h⟩
 | k + 1 => by
  obtain ⟨ih0, ih1, ih2, ih3, ih4⟩ := spec_LayOut.mono_l k
  refine ⟨?_, ?_, ?_, ?_, ?_⟩
  ·intro y0 y1 y2 y3
   unfold spec_LayOut.j0
   repeat' first
   | (with_reducible exact ih0 _ _ _ _)
   | (with_reducible exact ih1 _ _ _ _ _)
   | (with_reducible exact ih2 _ _ _ _ _ _ _ _ _ _ _ _ _ _ _ _ _)
   | (with_reducible exact ih3 _ _ _ _ _ _ _ _ _ _ _ _)
   | (with_reducible exact ih4 _ _ _ _ _ _ _ _ _ _ _ _)
   | (with_reducible exact spec_GoodBoxes.mono _ _)
   | (with_reducible exact spec_l18Share.mono _ _ _ _)
   | (with_reducible exact LeO.refl _)
   | (with_reducible exact LeO.none _)
   | (with_reducible refine LeO.ite ?_ ?_)
   | (with_reducible refine LeO.bind ?_ (fun _ => ?_))
   | exact ih0 _ _ _ _
   | exact ih1 _ _ _ _ _
   | exact ih2 _ _ _ _ _ _ _ _ _ _ _ _ _ _ _ _ _
   | exact ih3 _ _ _ _ _ _ _ _ _ _ _ _
   | exact ih4 _ _ _ _ _ _ _ _ _ _ _ _
   | exact spec_GoodBoxes.mono _ _
   | exact spec_l18Share.mono _ _ _ _
   | exact LeO.none _
   | refine LeO.ite ?_ ?_
   | refine LeO.bind ?_ (fun _ => ?_)
  ·intro y0 y1 y2 y3 y4
   unfold spec_LayOut.l0
   repeat' first
   | (with_reducible exact ih0 _ _ _ _)
   | (with_reducible exact ih1 _ _ _ _ _)
   | (with_reducible exact ih2 _ _ _ _ _ _ _ _ _ _ _ _ _ _ _ _ _)
   | (with_reducible exact ih3 _ _ _ _ _ _ _ _ _ _ _ _)
   | (with_reducible exact ih4 _ _ _ _ _ _ _ _ _ _ _ _)
   | (with_reducible exact spec_GoodBoxes.mono _ _)
   | (with_reducible exact spec_l18Share.mono _ _ _ _)
   | (with_reducible exact LeO.refl _)
   | (with_reducible exact LeO.none _)
   | (with_reducible refine LeO.ite ?_ ?_)
   | (with_reducible refine LeO.bind ?_ (fun _ => ?_))
   | exact ih0 _ _ _ _
   | exact ih1 _ _ _ _ _
   | exact ih2 _ _ _ _ _ _ _ _ _ _ _ _ _ _ _ _ _
   | exact ih3 _ _ _ _ _ _ _ _ _ _ _ _
   | exact ih4 _ _ _ _ _ _ _ _ _ _ _ _
   | exact spec_GoodBoxes.mono _ _
   | exact spec_l18Share.mono _ _ _ _
   | exact LeO.none _
   | refine LeO.ite ?_ ?_
   | refine LeO.bind ?_ (fun _ => ?_)
  ·intro y0 y1 y2 y3 y4 y5 y6 y7 y8 y9 y10 y11 y12 y13 y14 y15 y16
   unfold spec_LayOut.l1
   repeat' first
   | (with_reducible exact ih0 _ _ _ _)
   | (with_reducible exact ih1 _ _ _ _ _)
   | (with_reducible exact ih2 _ _ _ _ _ _ _ _ _ _ _ _ _ _ _ _ _)
   | (with_reducible exact ih3 _ _ _ _ _ _ _ _ _ _ _ _)
   | (with_reducible exact ih4 _ _ _ _ _ _ _ _ _ _ _ _)
   | (with_reducible exact spec_GoodBoxes.mono _ _)
   | (with_reducible exact spec_l18Share.mono _ _ _ _)
   | (with_reducible exact LeO.refl _)
   | (with_reducible exact LeO.none _)
   | (with_reducible refine LeO.ite ?_ ?_)
   | (with_reducible refine LeO.bind ?_ (fun _ => ?_))
   | exact ih0 _ _ _ _
   | exact ih1 _ _ _ _ _
   | exact ih2 _ _ _ _ _ _ _ _ _ _ _ _ _ _ _ _ _
   | exact ih3 _ _ _ _ _ _ _ _ _ _ _ _
   | exact ih4 _ _ _ _ _ _ _ _ _ _ _ _
   | exact spec_GoodBoxes.mono _ _
   | exact spec_l18Share.mono _ _ _ _
   | exact LeO.none _
   | refine LeO.ite ?_ ?_
   | refine LeO.bind ?_ (fun _ => ?_)
  ·intro y0 y1 y2 y3 y4 y5 y6 y7 y8 y9 y10 y11
   unfold spec_LayOut.l2
   repeat' first
   | (with_reducible exact ih0 _ _ _ _)
   | (with_reducible exact ih1 _ _ _ _ _)
   | (with_reducible exact ih2 _ _ _ _ _ _ _ _ _ _ _ _ _ _ _ _ _)
   | (with_reducible exact ih3 _ _ _ _ _ _ _ _ _ _ _ _)
   | (with_reducible exact ih4 _ _ _ _ _ _ _ _ _ _ _ _)
   | (with_reducible exact spec_GoodBoxes.mono _ _)
   | (with_reducible exact spec_l18Share.mono _ _ _ _)
   | (with_reducible exact LeO.refl _)
   | (with_reducible exact LeO.none _)
   | (with_reducible refine LeO.ite ?_ ?_)
   | (with_reducible refine LeO.bind ?_ (fun _ => ?_))
   | exact ih0 _ _ _ _
   | exact ih1 _ _ _ _ _
   | exact ih2 _ _ _ _ _ _ _ _ _ _ _ _ _ _ _ _ _
   | exact ih3 _ _ _ _ _ _ _ _ _ _ _ _
   | exact ih4 _ _ _ _ _ _ _ _ _ _ _ _
   | exact spec_GoodBoxes.mono _ _
   | exact spec_l18Share.mono _ _ _ _
   | exact LeO.none _
   | refine LeO.ite ?_ ?_
   | refine LeO.bind ?_ (fun _ => ?_)
  ·intro y0 y1 y2 y3 y4 y5 y6 y7 y8 y9 y10 y11
   unfold spec_LayOut.l3
   repeat' first
   | (with_reducible exact ih0 _ _ _ _)
   | (with_reducible exact ih1 _ _ _ _ _)
   | (with_reducible exact ih2 _ _ _ _ _ _ _ _ _ _ _ _ _ _ _ _ _)
   | (with_reducible exact ih3 _ _ _ _ _ _ _ _ _ _ _ _)
   | (with_reducible exact ih4 _ _ _ _ _ _ _ _ _ _ _ _)
   | (with_reducible exact spec_GoodBoxes.mono _ _)
   | (with_reducible exact spec_l18Share.mono _ _ _ _)
   | (with_reducible exact LeO.refl _)
   | (with_reducible exact LeO.none _)
   | (with_reducible refine LeO.ite ?_ ?_)
   | (with_reducible refine LeO.bind ?_ (fun _ => ?_))
   | exact ih0 _ _ _ _
   | exact ih1 _ _ _ _ _
   | exact ih2 _ _ _ _ _ _ _ _ _ _ _ _ _ _ _ _ _
   | exact ih3 _ _ _ _ _ _ _ _ _ _ _ _
   | exact ih4 _ _ _ _ _ _ _ _ _ _ _ _
   | exact spec_GoodBoxes.mono _ _
   | exact spec_l18Share.mono _ _ _ _
   | exact LeO.none _
   | refine LeO.ite ?_ ?_
   | refine LeO.bind ?_ (fun _ => ?_)
theorem spec_LayOut.mono : ∀ a0 a1 a2 k, LeO (spec_LayOut.f k a0 a1 a2) (spec_LayOut.f (k + 1) a0 a1 a2) := by
 intro a0 a1 a2 k
 obtain ⟨ih0, ih1, ih2, ih3, ih4⟩ := spec_LayOut.mono_l k
 unfold spec_LayOut.f
 repeat' first
   | (with_reducible exact ih0 _ _ _ _)
   | (with_reducible exact ih1 _ _ _ _ _)
   | (with_reducible exact ih2 _ _ _ _ _ _ _ _ _ _ _ _ _ _ _ _ _)
   | (with_reducible exact ih3 _ _ _ _ _ _ _ _ _ _ _ _)
   | (with_reducible exact ih4 _ _ _ _ _ _ _ _ _ _ _ _)
   | (with_reducible exact spec_GoodBoxes.mono _ _)
   | (with_reducible exact spec_l18Share.mono _ _ _ _)
   | (with_reducible exact LeO.refl _)
   | (with_reducible exact LeO.none _)
   | (with_reducible refine LeO.ite ?_ ?_)
   | (with_reducible refine LeO.bind ?_ (fun _ => ?_))
   | exact ih0 _ _ _ _
   | exact ih1 _ _ _ _ _
   | exact ih2 _ _ _ _ _ _ _ _ _ _ _ _ _ _ _ _ _
   | exact ih3 _ _ _ _ _ _ _ _ _ _ _ _
   | exact ih4 _ _ _ _ _ _ _ _ _ _ _ _
   | exact spec_GoodBoxes.mono _ _
   | exact spec_l18Share.mono _ _ _ _
   | exact LeO.none _
   | refine LeO.ite ?_ ?_
   | refine LeO.bind ?_ (fun _ => ?_)
set_option maxHeartbeats 8000000 in
set_option maxRecDepth 100000 in
theorem spec_LayOut.calls (k : Nat) (A0 : Option Addr) (c0 : Nat) (l0 : List (S74)) (a1 : Int) (a2 : Int) (r1 : List (S72)) (r2 : Bool) (w : World) (hr0 : Kd.C k74 w A0 l0.length l0) (hc0 : l0.length ≤ c0) (h : spec_LayOut.f k l0 a1 a2 = some (r1, r2)) :
  Calls Try.prog 15 #[.slice A0 l0.length c0, .int .i64 a1, .int .i64 a2] w fun e w' => ∃ v0_ : Value, e = .returned (.tuple #[v0_, .bool r2]) ∧ Kd.R k72 72 w' w.heap.size (fun _ => True) v0_ r1 ∧ Below w.heap.size w w' := by
 have hu72 := Try.underlying72
 have hu74 := Try.underlying74
 have HR0 := am_ hr0
 have HC0 := am_ hc0
 clear hr0 hc0
 have HB := am_ (Below.refl w.heap.size w)
 have H : ((spec_GoodBoxes.f k l0).bind fun t142 => (if t142 = true then ((spec_l1In.f a1 0 10000).bind fun t143 => (if t143 = true then ((spec_l1In.f a2 0 10000).bind fun t144 => (spec_LayOut.j0 k l0 a1 a2 (!t144))) else (spec_LayOut.j0 k l0 a1 a2 true))) else (spec_LayOut.j0 k l0 a1 a2 true))) = some (r1, r2) := h
 clear h
 have HC4 := am_ H
 clear H
 go_enter Try.func15, Try.ntmps15
 go_upto_region 1 with (fail)
 repeat (go_quiet (fail); go_upto_region 1 with (fail))
 go_cut [36] (fun v36 wc => ∃ (kq : Nat) (x36_3 : Bool), v36 = .bool x36_3 ∧ Aside0 (spec_LayOut.j0 kq l0 a1 a2 x36_3 = some (r1, r2)) ∧ Aside0 (kq ≤ k) ∧ Aside0 (Below w.heap.size w wc))
 case first =>
  have H := HC4.out
  clear HC4
  obtain ⟨t142, A50, H⟩ := bE_ H
  have A5 := am_ A50
  clear A50
  by_cases c6 : t142 = true
  ·subst c6
   replace H := it_ H rfl
   obtain ⟨t143, A70, H⟩ := bE_ H
   have A7 := am_ A70
   clear A70
   by_cases c8 : t143 = true
   ·subst c8
    replace H := it_ H rfl
    obtain ⟨t144, A90, H⟩ := bE_ H
    have A9 := am_ A90
    clear A90
    have H' := am_ H
    clear H
    go_wp2_with (first | (go_at_call 38; (with_reducible refine (spec_GoodBoxes.calls k _ _ l0 true _ ?side1 ?side2 A5.out).mono ?_); (case side1 => repeat (first | exact (Kd.C_below HR0.out HB.out) | (with_reducible refine Kd.C_alloc ?_ _) | (with_reducible refine Kd.C_drewN ?_ _) | (with_reducible refine Kd.C_drew ?_))); (case side2 => exact HC0.out); rintro e w10 ⟨rfl, hb⟩; have n0_ := am_ (below_step (bw_ HB.out) hb); replace HB := n0_; clear n0_; (try clear hb); (try clear hb2); (try clear hk); (try clear hi)) | (go_at_call 39; (with_reducible refine (spec_l1In.calls a1 0 10000 true _ A7.out).mono ?_); rintro e w' ⟨rfl, ⟨nd, rfl⟩⟩; (try first | exact ⟨rfl, _, World.drewN_drewN _ _ _⟩ | exact ⟨rfl, _, Eq.trans (World.drewN_drewN _ _ _) (congrArg (World.drewN _) (Nat.add_assoc _ _ _))⟩)) | (go_at_call 39; (with_reducible refine (spec_l1In.calls a2 0 10000 t144 _ A9.out).mono ?_); rintro e w' ⟨rfl, ⟨nd, rfl⟩⟩; (try first | exact ⟨rfl, _, World.drewN_drewN _ _ _⟩ | exact ⟨rfl, _, Eq.trans (World.drewN_drewN _ _ _) (congrArg (World.drewN _) (Nat.add_assoc _ _ _))⟩)))
    repeat (go_quiet (first | (go_at_call 38; (with_reducible refine (spec_GoodBoxes.calls k _ _ l0 true _ ?side1 ?side2 A5.out).mono ?_); (case side1 => repeat (first | exact (Kd.C_below HR0.out HB.out) | (with_reducible refine Kd.C_alloc ?_ _) | (with_reducible refine Kd.C_drewN ?_ _) | (with_reducible refine Kd.C_drew ?_))); (case side2 => exact HC0.out); rintro e w10 ⟨rfl, hb⟩; have n0_ := am_ (below_step (bw_ HB.out) hb); replace HB := n0_; clear n0_; (try clear hb); (try clear hb2); (try clear hk); (try clear hi)) | (go_at_call 39; (with_reducible refine (spec_l1In.calls a1 0 10000 true _ A7.out).mono ?_); rintro e w' ⟨rfl, ⟨nd, rfl⟩⟩; (try first | exact ⟨rfl, _, World.drewN_drewN _ _ _⟩ | exact ⟨rfl, _, Eq.trans (World.drewN_drewN _ _ _) (congrArg (World.drewN _) (Nat.add_assoc _ _ _))⟩)) | (go_at_call 39; (with_reducible refine (spec_l1In.calls a2 0 10000 t144 _ A9.out).mono ?_); rintro e w' ⟨rfl, ⟨nd, rfl⟩⟩; (try first | exact ⟨rfl, _, World.drewN_drewN _ _ _⟩ | exact ⟨rfl, _, Eq.trans (World.drewN_drewN _ _ _) (congrArg (World.drewN _) (Nat.add_assoc _ _ _))⟩))); try go_wp2_with (first | (go_at_call 38; (with_reducible refine (spec_GoodBoxes.calls k _ _ l0 true _ ?side1 ?side2 A5.out).mono ?_); (case side1 => repeat (first | exact (Kd.C_below HR0.out HB.out) | (with_reducible refine Kd.C_alloc ?_ _) | (with_reducible refine Kd.C_drewN ?_ _) | (with_reducible refine Kd.C_drew ?_))); (case side2 => exact HC0.out); rintro e w10 ⟨rfl, hb⟩; have n0_ := am_ (below_step (bw_ HB.out) hb); replace HB := n0_; clear n0_; (try clear hb); (try clear hb2); (try clear hk); (try clear hi)) | (go_at_call 39; (with_reducible refine (spec_l1In.calls a1 0 10000 true _ A7.out).mono ?_); rintro e w' ⟨rfl, ⟨nd, rfl⟩⟩; (try first | exact ⟨rfl, _, World.drewN_drewN _ _ _⟩ | exact ⟨rfl, _, Eq.trans (World.drewN_drewN _ _ _) (congrArg (World.drewN _) (Nat.add_assoc _ _ _))⟩)) | (go_at_call 39; (with_reducible refine (spec_l1In.calls a2 0 10000 t144 _ A9.out).mono ?_); rintro e w' ⟨rfl, ⟨nd, rfl⟩⟩; (try first | exact ⟨rfl, _, World.drewN_drewN _ _ _⟩ | exact ⟨rfl, _, Eq.trans (World.drewN_drewN _ _ _) (congrArg (World.drewN _) (Nat.add_assoc _ _ _))⟩))))
    go_meet
    case rel => exact ⟨_, (!t144), sq_, H', ⟨by first | omega | exact Nat.le_refl _⟩, ⟨bw_ HB.out⟩⟩
   ·replace c8 := Bool.eq_false_iff.mpr c8
    subst c8
    replace H := if_ H Bool.false_ne_true
    have H' := am_ H
    clear H
    go_wp2_with (first | (go_at_call 38; (with_reducible refine (spec_GoodBoxes.calls k _ _ l0 true _ ?side1 ?side2 A5.out).mono ?_); (case side1 => repeat (first | exact (Kd.C_below HR0.out HB.out) | (with_reducible refine Kd.C_alloc ?_ _) | (with_reducible refine Kd.C_drewN ?_ _) | (with_reducible refine Kd.C_drew ?_))); (case side2 => exact HC0.out); rintro e w11 ⟨rfl, hb⟩; have n0_ := am_ (below_step (bw_ HB.out) hb); replace HB := n0_; clear n0_; (try clear hb); (try clear hb2); (try clear hk); (try clear hi)) | (go_at_call 39; (with_reducible refine (spec_l1In.calls a1 0 10000 false _ A7.out).mono ?_); rintro e w' ⟨rfl, ⟨nd, rfl⟩⟩; (try first | exact ⟨rfl, _, World.drewN_drewN _ _ _⟩ | exact ⟨rfl, _, Eq.trans (World.drewN_drewN _ _ _) (congrArg (World.drewN _) (Nat.add_assoc _ _ _))⟩)))
    repeat (go_quiet (first | (go_at_call 38; (with_reducible refine (spec_GoodBoxes.calls k _ _ l0 true _ ?side1 ?side2 A5.out).mono ?_); (case side1 => repeat (first | exact (Kd.C_below HR0.out HB.out) | (with_reducible refine Kd.C_alloc ?_ _) | (with_reducible refine Kd.C_drewN ?_ _) | (with_reducible refine Kd.C_drew ?_))); (case side2 => exact HC0.out); rintro e w11 ⟨rfl, hb⟩; have n0_ := am_ (below_step (bw_ HB.out) hb); replace HB := n0_; clear n0_; (try clear hb); (try clear hb2); (try clear hk); (try clear hi)) | (go_at_call 39; (with_reducible refine (spec_l1In.calls a1 0 10000 false _ A7.out).mono ?_); rintro e w' ⟨rfl, ⟨nd, rfl⟩⟩; (try first | exact ⟨rfl, _, World.drewN_drewN _ _ _⟩ | exact ⟨rfl, _, Eq.trans (World.drewN_drewN _ _ _) (congrArg (World.drewN _) (Nat.add_assoc _ _ _))⟩))); try go_wp2_with (first | (go_at_call 38; (with_reducible refine (spec_GoodBoxes.calls k _ _ l0 true _ ?side1 ?side2 A5.out).mono ?_); (case side1 => repeat (first | exact (Kd.C_below HR0.out HB.out) | (with_reducible refine Kd.C_alloc ?_ _) | (with_reducible refine Kd.C_drewN ?_ _) | (with_reducible refine Kd.C_drew ?_))); (case side2 => exact HC0.out); rintro e w11 ⟨rfl, hb⟩; have n0_ := am_ (below_step (bw_ HB.out) hb); replace HB := n0_; clear n0_; (try clear hb); (try clear hb2); (try clear hk); (try clear hi)) | (go_at_call 39; (with_reducible refine (spec_l1In.calls a1 0 10000 false _ A7.out).mono ?_); rintro e w' ⟨rfl, ⟨nd, rfl⟩⟩; (try first | exact ⟨rfl, _, World.drewN_drewN _ _ _⟩ | exact ⟨rfl, _, Eq.trans (World.drewN_drewN _ _ _) (congrArg (World.drewN _) (Nat.add_assoc _ _ _))⟩))))
    go_meet
    case rel => exact ⟨_, (true), sq_, H', ⟨by first | omega | exact Nat.le_refl _⟩, ⟨bw_ HB.out⟩⟩
  ·replace c6 := Bool.eq_false_iff.mpr c6
   subst c6
   replace H := if_ H Bool.false_ne_true
   have H' := am_ H
   clear H
   go_wp2_with (first | (go_at_call 38; (with_reducible refine (spec_GoodBoxes.calls k _ _ l0 false _ ?side1 ?side2 A5.out).mono ?_); (case side1 => repeat (first | exact (Kd.C_below HR0.out HB.out) | (with_reducible refine Kd.C_alloc ?_ _) | (with_reducible refine Kd.C_drewN ?_ _) | (with_reducible refine Kd.C_drew ?_))); (case side2 => exact HC0.out); rintro e w12 ⟨rfl, hb⟩; have n0_ := am_ (below_step (bw_ HB.out) hb); replace HB := n0_; clear n0_; (try clear hb); (try clear hb2); (try clear hk); (try clear hi)))
   repeat (go_quiet (first | (go_at_call 38; (with_reducible refine (spec_GoodBoxes.calls k _ _ l0 false _ ?side1 ?side2 A5.out).mono ?_); (case side1 => repeat (first | exact (Kd.C_below HR0.out HB.out) | (with_reducible refine Kd.C_alloc ?_ _) | (with_reducible refine Kd.C_drewN ?_ _) | (with_reducible refine Kd.C_drew ?_))); (case side2 => exact HC0.out); rintro e w12 ⟨rfl, hb⟩; have n0_ := am_ (below_step (bw_ HB.out) hb); replace HB := n0_; clear n0_; (try clear hb); (try clear hb2); (try clear hk); (try clear hi))); try go_wp2_with (first | (go_at_call 38; (with_reducible refine (spec_GoodBoxes.calls k _ _ l0 false _ ?side1 ?side2 A5.out).mono ?_); (case side1 => repeat (first | exact (Kd.C_below HR0.out HB.out) | (with_reducible refine Kd.C_alloc ?_ _) | (with_reducible refine Kd.C_drewN ?_ _) | (with_reducible refine Kd.C_drew ?_))); (case side2 => exact HC0.out); rintro e w12 ⟨rfl, hb⟩; have n0_ := am_ (below_step (bw_ HB.out) hb); replace HB := n0_; clear n0_; (try clear hb); (try clear hb2); (try clear hk); (try clear hi))))
   go_meet
   case rel => exact ⟨_, (true), sq_, H', ⟨by first | omega | exact Nat.le_refl _⟩, ⟨bw_ HB.out⟩⟩
 case rest => as_aux_lemma =>
  clear HC4
  obtain ⟨kq, x36_3, rfl, HA, HJ3, HB⟩ := hcut
  cases kq with
  | zero => exact absurd HA.out (by simp [spec_LayOut.j0])
  | succ kj3 =>
   have H := HA.out
   clear HA
   simp only [spec_LayOut.j0] at H
   by_cases c13 : x36_3 = true
   ·subst c13
    replace H := it_ H rfl
    simp only [Option.some.injEq, Prod.mk.injEq] at H
    obtain ⟨rfl, rfl⟩ := H
    go_wp2
    repeat (go_quiet (fail); try go_wp2)
    go_ret2
    exact ⟨_, by first | rfl | (simp [errW_none, errW_some] <;> rfl) | (simp [*, errW_none, errW_some] <;> rfl), by first | exact Kd.R_nil _ _ _ _ _ | exact Kd.N_nil _ _ _ _ _ | exact Kd.V_nil _ _ _ _ _ | exact Kd.Q_nil _ _ _ _ _ | exact Kd.S_nil _ _ _ _ _, bw_ HB.out⟩
   ·replace c13 := Bool.eq_false_iff.mpr c13
    subst c13
    replace H := if_ H Bool.false_ne_true
    obtain ⟨c14, H⟩ := ifn_ H
    have c14b0 := eq_true c14
    have c14b1 : decide (0 ≤ (l0.length : Int)) = true := decide_eq_true c14
    clear c14
    obtain ⟨c15, H⟩ := ifn_ H
    have c15b0 := eq_true c15
    have c15b1 : decide (((l0.length : Int) : Int).toNat ≤ 8796093022208) = true := decide_eq_true c15
    clear c15
    obtain ⟨y145, hy145⟩ : ∃ y_ : List (S72), y_ = (List.replicate ((l0.length : Int) : Int).toNat z72) := ⟨_, rfl⟩
    replace H : (if 0 < (y145.length : Int) then (spec_LayOut.l0 kj3 l0 (y145.set (0 : Int).toNat (⟨0, 0, a1, a2⟩ : S72)) l0 (l0.length : Int) 0) else (none)) = some (r1, r2) := by first | (rw [hy145]; with_reducible exact H) | (have H2_ := (Option.bind_some _ _).symm.trans H; rw [hy145]; with_reducible exact H2_) | (have H2_ := (Option.bind_some _ _).symm.trans H; with_reducible exact H2_) | with_reducible exact H | (rw [hy145]; exact H) | exact H
    have Ny145 := am_ hy145
    clear hy145
    obtain ⟨c16, H⟩ := ifn_ H
    have c16b0 : decide (0 < (y145.length : Int)) = true := decide_eq_true c16
    have c16b1 : decide (0 < y145.length) = true := decide_eq_true (by omega)
    clear c16
    obtain ⟨y148, hy148⟩ : ∃ y_ : List (S72), y_ = (y145.set (0 : Int).toNat (⟨0, 0, a1, a2⟩ : S72)) := ⟨_, rfl⟩
    replace H : (spec_LayOut.l0 kj3 l0 y148 l0 (l0.length : Int) 0) = some (r1, r2) := by first | (rw [hy148]; with_reducible exact H) | (have H2_ := (Option.bind_some _ _).symm.trans H; rw [hy148]; with_reducible exact H2_) | (have H2_ := (Option.bind_some _ _).symm.trans H; with_reducible exact H2_) | with_reducible exact H | (rw [hy148]; exact H) | exact H
    have Ny148 := am_ hy148
    clear hy148
    have H' := am_ H
    clear H
    go_wp2_with (first | ((with_reducible refine gate_dst (N := 39) rfl ?_); refine Kd.R_make k72 _ 72 rfl (N := 39) rfl 36 _ _ rfl (l0.length : Int) rfl rfl Try.underlying36 (.agg #[(.int .i64 0), (.int .i64 0), (.int .i64 0), (.int .i64 0)]) 32 info72 rfl (by decide) (by omega) z72 (ok := fun _ => True) (okp := fun _ => True) (k72_mkM _ _ _ z72 ) (fun _ hk => hk) trivial od_ (Nat.le_trans (Nat.mul_le_mul_right _ (od_ : (l0.length : Int).toNat ≤ 8796093022208)) (by omega)) (Below.refl _ _) (Nat.le_refl _) ?_; intro v146 w18 ho19 hb hg_ hnew_; clear hg_ hnew_; (first | rw [← Ny145.out] at ho19 | (simp only [Int.reduceToNat] at ho19; rw [← Ny145.out] at ho19)); have n0_ := am_ (Kd.R_lower ho19 (below_size (bw_ HB.out))); have n1_ := am_ (below_step (bw_ HB.out) hb); have HO147 := n0_; replace HB := n1_; clear n0_ n1_; clear hb ho19; have p17 : 0 ≤ (0 : Int) := (by omega); have q17 : (0 : Int) < ((y145.length : Int) : Int) := od_; have qi17 : (0 < y145.length) = True := eq_true (by omega); obtain ⟨go17, co17, eo17, gb17, gl17, cl17, HG17⟩ := Kd.R_form HO147.out (by omega); (first | cases eo17 | (injection eo17 with ea_ en_ ec_; (first | subst ea_ | (injection ea_ with ea_; subst ea_)); subst ec_; clear en_)); have GB17 := am_ gb17; have GG17 := am_ HG17; clear gb17 gl17 HG17; obtain ⟨ce17, hcl17, hM17, hcc17, hfr17⟩ := Kd.R_elem HO147.out z72 (0 : Int) p17 q17; obtain rfl := k72_openM hM17; have hx17_0 : w18.cell? ⟨go17, (0 : Int).toNat * 4, none⟩ = some (.int .i64 ((rd_T72 y145 0).f0)) := hcc17 0 _ rfl; have hx17_1 : w18.cell? ⟨go17, (0 : Int).toNat * 4 + 1, none⟩ = some (.int .i64 ((rd_T72 y145 0).f1)) := hcc17 1 _ rfl; have hx17_2 : w18.cell? ⟨go17, (0 : Int).toNat * 4 + 2, none⟩ = some (.int .i64 ((rd_T72 y145 0).f2)) := hcc17 2 _ rfl; have hx17_3 : w18.cell? ⟨go17, (0 : Int).toNat * 4 + 3, none⟩ = some (.int .i64 ((rd_T72 y145 0).f3)) := hcc17 3 _ rfl; have hf17_0 : w18.frozen? ⟨go17, (0 : Int).toNat * 4, none⟩ = false := hfr17 0; have hf17_1 : w18.frozen? ⟨go17, (0 : Int).toNat * 4 + 1, none⟩ = false := hfr17 1; have hf17_2 : w18.frozen? ⟨go17, (0 : Int).toNat * 4 + 2, none⟩ = false := hfr17 2; have hf17_3 : w18.frozen? ⟨go17, (0 : Int).toNat * 4 + 3, none⟩ = false := hfr17 3; clear hcl17 hcc17 hfr17; (try clear hM17); (try rw [show ((0 : Int)).toNat = 0 from rfl] at hx17_0); (try simp only [Nat.reduceMul, Nat.zero_mul, Nat.zero_add, Nat.reduceAdd] at hx17_0); (try rw [show ((0 : Int)).toNat = 0 from rfl] at hf17_0); (try simp only [Nat.reduceMul, Nat.zero_mul, Nat.zero_add, Nat.reduceAdd] at hf17_0); (try rw [show ((0 : Int)).toNat = 0 from rfl] at hx17_1); (try simp only [Nat.reduceMul, Nat.zero_mul, Nat.zero_add, Nat.reduceAdd] at hx17_1); (try rw [show ((0 : Int)).toNat = 0 from rfl] at hf17_1); (try simp only [Nat.reduceMul, Nat.zero_mul, Nat.zero_add, Nat.reduceAdd] at hf17_1); (try rw [show ((0 : Int)).toNat = 0 from rfl] at hx17_2); (try simp only [Nat.reduceMul, Nat.zero_mul, Nat.zero_add, Nat.reduceAdd] at hx17_2); (try rw [show ((0 : Int)).toNat = 0 from rfl] at hf17_2); (try simp only [Nat.reduceMul, Nat.zero_mul, Nat.zero_add, Nat.reduceAdd] at hf17_2); (try rw [show ((0 : Int)).toNat = 0 from rfl] at hx17_3); (try simp only [Nat.reduceMul, Nat.zero_mul, Nat.zero_add, Nat.reduceAdd] at hx17_3); (try rw [show ((0 : Int)).toNat = 0 from rfl] at hf17_3); (try simp only [Nat.reduceMul, Nat.zero_mul, Nat.zero_add, Nat.reduceAdd] at hf17_3); replace p17 := eq_true p17; replace q17 := eq_true q17; have HX20 := am_ (show Kd.R k72 72 w18 w.heap.size (fun _ => True) (.slice (some ⟨go17, 0, none⟩) y145.length co17) y145 from (ra_ HO147.out)); obtain ⟨ce20, hcl20, hM20, hcc20, hfr20⟩ := Kd.R_elem HX20.out z72 (0 : Int) (by omega) (by have h_ : (0 : Int) < ((y145.length : Int) : Int) := od_; first | exact h_ | (have e_ := (Kd.R_reads' HO147.out).1; omega) | simpa using h_); obtain rfl := k72_openM hM20; have HP20 := Kd.R_seg HX20.out (0 : Int) (by omega) (by have h_ : (0 : Int) < ((y145.length : Int) : Int) := od_; first | exact h_ | (have e_ := (Kd.R_reads' HO147.out).1; omega) | simpa using h_) (seg := [.int .i64 0, .int .i64 0, .int .i64 a1, .int .i64 a2]) (j := 0) hcl20 hcc20 (show 4 ≤ 4 from by decide) (x' := (⟨0, 0, a1, a2⟩ : S72)) (k72_mkM _ _ _ (⟨0, 0, a1, a2⟩ : S72) ) (fun _ hk => hk); have hx20_0 := hcc20 0 _ rfl; (try simp only [show (k72).sz = 4 from rfl, Nat.mul_one, Nat.add_zero] at hx20_0); (try rw [show ((0 : Int)).toNat = 0 from rfl] at hx20_0); (try simp only [Nat.reduceMul, Nat.zero_mul, Nat.zero_add, Nat.reduceAdd] at hx20_0); have hf20_0 := hfr20 0; (try simp only [show (k72).sz = 4 from rfl, Nat.mul_one, Nat.add_zero] at hf20_0); (try rw [show ((0 : Int)).toNat = 0 from rfl] at hf20_0); (try simp only [Nat.reduceMul, Nat.zero_mul, Nat.zero_add, Nat.reduceAdd] at hf20_0); have hx20_1 := hcc20 1 _ rfl; (try simp only [show (k72).sz = 4 from rfl, Nat.mul_one, Nat.add_zero] at hx20_1); (try rw [show ((0 : Int)).toNat = 0 from rfl] at hx20_1); (try simp only [Nat.reduceMul, Nat.zero_mul, Nat.zero_add, Nat.reduceAdd] at hx20_1); have hf20_1 := hfr20 1; (try simp only [show (k72).sz = 4 from rfl, Nat.mul_one, Nat.add_zero] at hf20_1); (try rw [show ((0 : Int)).toNat = 0 from rfl] at hf20_1); (try simp only [Nat.reduceMul, Nat.zero_mul, Nat.zero_add, Nat.reduceAdd] at hf20_1); have hx20_2 := hcc20 2 _ rfl; (try simp only [show (k72).sz = 4 from rfl, Nat.mul_one, Nat.add_zero] at hx20_2); (try rw [show ((0 : Int)).toNat = 0 from rfl] at hx20_2); (try simp only [Nat.reduceMul, Nat.zero_mul, Nat.zero_add, Nat.reduceAdd] at hx20_2); have hf20_2 := hfr20 2; (try simp only [show (k72).sz = 4 from rfl, Nat.mul_one, Nat.add_zero] at hf20_2); (try rw [show ((0 : Int)).toNat = 0 from rfl] at hf20_2); (try simp only [Nat.reduceMul, Nat.zero_mul, Nat.zero_add, Nat.reduceAdd] at hf20_2); have hx20_3 := hcc20 3 _ rfl; (try simp only [show (k72).sz = 4 from rfl, Nat.mul_one, Nat.add_zero] at hx20_3); (try rw [show ((0 : Int)).toNat = 0 from rfl] at hx20_3); (try simp only [Nat.reduceMul, Nat.zero_mul, Nat.zero_add, Nat.reduceAdd] at hx20_3); have hf20_3 := hfr20 3; (try simp only [show (k72).sz = 4 from rfl, Nat.mul_one, Nat.add_zero] at hf20_3); (try rw [show ((0 : Int)).toNat = 0 from rfl] at hf20_3); (try simp only [Nat.reduceMul, Nat.zero_mul, Nat.zero_add, Nat.reduceAdd] at hf20_3); clear hcl20 hcc20 hfr20; (try clear hM20)) | ((with_reducible refine gate_store (t := 72) (p := 44) rfl ?_); (try (rw [drewN_self w18]; generalize hq_ : World.drewN w18 _ = w18; have n0_ := am_ (Kd.R_at hq_ HO147.out); have n1_ := am_ (below_at hq_ HB.out); clear hq_ HO147 HB; have HO147 := n0_; have HB := n1_; clear n0_ n1_; (try (have HX20 := am_ (show Kd.R k72 72 w18 w.heap.size (fun _ => True) (.slice (some ⟨go17, 0, none⟩) y145.length co17) y145 from (ra_ HO147.out)))); (try (obtain ⟨ce20, hcl20, hM20, hcc20, hfr20⟩ := Kd.R_elem HX20.out z72 (0 : Int) (by omega) (by have h_ : (0 : Int) < ((y145.length : Int) : Int) := od_; first | exact h_ | (have e_ := (Kd.R_reads' HO147.out).1; omega) | simpa using h_))); (try (obtain rfl := k72_openM hM20)); (try (have HP20 := Kd.R_seg HX20.out (0 : Int) (by omega) (by have h_ : (0 : Int) < ((y145.length : Int) : Int) := od_; first | exact h_ | (have e_ := (Kd.R_reads' HO147.out).1; omega) | simpa using h_) (seg := [.int .i64 0, .int .i64 0, .int .i64 a1, .int .i64 a2]) (j := 0) hcl20 hcc20 (show 4 ≤ 4 from by decide) (x' := (⟨0, 0, a1, a2⟩ : S72)) (k72_mkM _ _ _ (⟨0, 0, a1, a2⟩ : S72) ) (fun _ hk => hk))); (try (have hx20_0 := hcc20 0 _ rfl)); (try (try simp only [show (k72).sz = 4 from rfl, Nat.mul_one, Nat.add_zero] at hx20_0)); (try (try rw [show ((0 : Int)).toNat = 0 from rfl] at hx20_0)); (try (try simp only [Nat.reduceMul, Nat.zero_mul, Nat.zero_add, Nat.reduceAdd] at hx20_0)); (try (have hf20_0 := hfr20 0)); (try (try simp only [show (k72).sz = 4 from rfl, Nat.mul_one, Nat.add_zero] at hf20_0)); (try (try rw [show ((0 : Int)).toNat = 0 from rfl] at hf20_0)); (try (try simp only [Nat.reduceMul, Nat.zero_mul, Nat.zero_add, Nat.reduceAdd] at hf20_0)); (try (have hx20_1 := hcc20 1 _ rfl)); (try (try simp only [show (k72).sz = 4 from rfl, Nat.mul_one, Nat.add_zero] at hx20_1)); (try (try rw [show ((0 : Int)).toNat = 0 from rfl] at hx20_1)); (try (try simp only [Nat.reduceMul, Nat.zero_mul, Nat.zero_add, Nat.reduceAdd] at hx20_1)); (try (have hf20_1 := hfr20 1)); (try (try simp only [show (k72).sz = 4 from rfl, Nat.mul_one, Nat.add_zero] at hf20_1)); (try (try rw [show ((0 : Int)).toNat = 0 from rfl] at hf20_1)); (try (try simp only [Nat.reduceMul, Nat.zero_mul, Nat.zero_add, Nat.reduceAdd] at hf20_1)); (try (have hx20_2 := hcc20 2 _ rfl)); (try (try simp only [show (k72).sz = 4 from rfl, Nat.mul_one, Nat.add_zero] at hx20_2)); (try (try rw [show ((0 : Int)).toNat = 0 from rfl] at hx20_2)); (try (try simp only [Nat.reduceMul, Nat.zero_mul, Nat.zero_add, Nat.reduceAdd] at hx20_2)); (try (have hf20_2 := hfr20 2)); (try (try simp only [show (k72).sz = 4 from rfl, Nat.mul_one, Nat.add_zero] at hf20_2)); (try (try rw [show ((0 : Int)).toNat = 0 from rfl] at hf20_2)); (try (try simp only [Nat.reduceMul, Nat.zero_mul, Nat.zero_add, Nat.reduceAdd] at hf20_2)); (try (have hx20_3 := hcc20 3 _ rfl)); (try (try simp only [show (k72).sz = 4 from rfl, Nat.mul_one, Nat.add_zero] at hx20_3)); (try (try rw [show ((0 : Int)).toNat = 0 from rfl] at hx20_3)); (try (try simp only [Nat.reduceMul, Nat.zero_mul, Nat.zero_add, Nat.reduceAdd] at hx20_3)); (try (have hf20_3 := hfr20 3)); (try (try simp only [show (k72).sz = 4 from rfl, Nat.mul_one, Nat.add_zero] at hf20_3)); (try (try rw [show ((0 : Int)).toNat = 0 from rfl] at hf20_3)); (try (try simp only [Nat.reduceMul, Nat.zero_mul, Nat.zero_add, Nat.reduceAdd] at hf20_3)); (try (clear hcl20 hcc20 hfr20; (try clear hM20))))); refine se_ 72 44 ((((w18.setCell ⟨go17, 0, none⟩ (.int .i64 0)).setCell ⟨go17, 1, none⟩ (.int .i64 0)).setCell ⟨go17, 2, none⟩ (.int .i64 a1)).setCell ⟨go17, 3, none⟩ (.int .i64 a2)) ?_; intro w21 hw; have hg : w18.grownBy w21 (some go17) := (by rw [hw]; exact HP20.2); have hp_ : Kd.R k72 72 w21 w.heap.size (fun _ => True) (.slice (some ⟨go17, 0, none⟩) y145.length co17) y148 := (by rw [hw, Ny148.out]; exact HP20.1); clear HP20; have n0_ := am_ (hp_); have n1_ := am_ ((by rw [hw]; exact below_set (below_set (below_set (below_set (HB.out) GB17.out) GB17.out) GB17.out) GB17.out : Below w.heap.size w w21)); replace HO147 := n0_; replace HB := n1_; clear n0_ n1_; clear hg hw hp_))
    repeat (go_quiet (first | ((with_reducible refine gate_dst (N := 39) rfl ?_); refine Kd.R_make k72 _ 72 rfl (N := 39) rfl 36 _ _ rfl (l0.length : Int) rfl rfl Try.underlying36 (.agg #[(.int .i64 0), (.int .i64 0), (.int .i64 0), (.int .i64 0)]) 32 info72 rfl (by decide) (by omega) z72 (ok := fun _ => True) (okp := fun _ => True) (k72_mkM _ _ _ z72 ) (fun _ hk => hk) trivial od_ (Nat.le_trans (Nat.mul_le_mul_right _ (od_ : (l0.length : Int).toNat ≤ 8796093022208)) (by omega)) (Below.refl _ _) (Nat.le_refl _) ?_; intro v146 w18 ho19 hb hg_ hnew_; clear hg_ hnew_; (first | rw [← Ny145.out] at ho19 | (simp only [Int.reduceToNat] at ho19; rw [← Ny145.out] at ho19)); have n0_ := am_ (Kd.R_lower ho19 (below_size (bw_ HB.out))); have n1_ := am_ (below_step (bw_ HB.out) hb); have HO147 := n0_; replace HB := n1_; clear n0_ n1_; clear hb ho19; have p17 : 0 ≤ (0 : Int) := (by omega); have q17 : (0 : Int) < ((y145.length : Int) : Int) := od_; have qi17 : (0 < y145.length) = True := eq_true (by omega); obtain ⟨go17, co17, eo17, gb17, gl17, cl17, HG17⟩ := Kd.R_form HO147.out (by omega); (first | cases eo17 | (injection eo17 with ea_ en_ ec_; (first | subst ea_ | (injection ea_ with ea_; subst ea_)); subst ec_; clear en_)); have GB17 := am_ gb17; have GG17 := am_ HG17; clear gb17 gl17 HG17; obtain ⟨ce17, hcl17, hM17, hcc17, hfr17⟩ := Kd.R_elem HO147.out z72 (0 : Int) p17 q17; obtain rfl := k72_openM hM17; have hx17_0 : w18.cell? ⟨go17, (0 : Int).toNat * 4, none⟩ = some (.int .i64 ((rd_T72 y145 0).f0)) := hcc17 0 _ rfl; have hx17_1 : w18.cell? ⟨go17, (0 : Int).toNat * 4 + 1, none⟩ = some (.int .i64 ((rd_T72 y145 0).f1)) := hcc17 1 _ rfl; have hx17_2 : w18.cell? ⟨go17, (0 : Int).toNat * 4 + 2, none⟩ = some (.int .i64 ((rd_T72 y145 0).f2)) := hcc17 2 _ rfl; have hx17_3 : w18.cell? ⟨go17, (0 : Int).toNat * 4 + 3, none⟩ = some (.int .i64 ((rd_T72 y145 0).f3)) := hcc17 3 _ rfl; have hf17_0 : w18.frozen? ⟨go17, (0 : Int).toNat * 4, none⟩ = false := hfr17 0; have hf17_1 : w18.frozen? ⟨go17, (0 : Int).toNat * 4 + 1, none⟩ = false := hfr17 1; have hf17_2 : w18.frozen? ⟨go17, (0 : Int).toNat * 4 + 2, none⟩ = false := hfr17 2; have hf17_3 : w18.frozen? ⟨go17, (0 : Int).toNat * 4 + 3, none⟩ = false := hfr17 3; clear hcl17 hcc17 hfr17; (try clear hM17); (try rw [show ((0 : Int)).toNat = 0 from rfl] at hx17_0); (try simp only [Nat.reduceMul, Nat.zero_mul, Nat.zero_add, Nat.reduceAdd] at hx17_0); (try rw [show ((0 : Int)).toNat = 0 from rfl] at hf17_0); (try simp only [Nat.reduceMul, Nat.zero_mul, Nat.zero_add, Nat.reduceAdd] at hf17_0); (try rw [show ((0 : Int)).toNat = 0 from rfl] at hx17_1); (try simp only [Nat.reduceMul, Nat.zero_mul, Nat.zero_add, Nat.reduceAdd] at hx17_1); (try rw [show ((0 : Int)).toNat = 0 from rfl] at hf17_1); (try simp only [Nat.reduceMul, Nat.zero_mul, Nat.zero_add, Nat.reduceAdd] at hf17_1); (try rw [show ((0 : Int)).toNat = 0 from rfl] at hx17_2); (try simp only [Nat.reduceMul, Nat.zero_mul, Nat.zero_add, Nat.reduceAdd] at hx17_2); (try rw [show ((0 : Int)).toNat = 0 from rfl] at hf17_2); (try simp only [Nat.reduceMul, Nat.zero_mul, Nat.zero_add, Nat.reduceAdd] at hf17_2); (try rw [show ((0 : Int)).toNat = 0 from rfl] at hx17_3); (try simp only [Nat.reduceMul, Nat.zero_mul, Nat.zero_add, Nat.reduceAdd] at hx17_3); (try rw [show ((0 : Int)).toNat = 0 from rfl] at hf17_3); (try simp only [Nat.reduceMul, Nat.zero_mul, Nat.zero_add, Nat.reduceAdd] at hf17_3); replace p17 := eq_true p17; replace q17 := eq_true q17; have HX20 := am_ (show Kd.R k72 72 w18 w.heap.size (fun _ => True) (.slice (some ⟨go17, 0, none⟩) y145.length co17) y145 from (ra_ HO147.out)); obtain ⟨ce20, hcl20, hM20, hcc20, hfr20⟩ := Kd.R_elem HX20.out z72 (0 : Int) (by omega) (by have h_ : (0 : Int) < ((y145.length : Int) : Int) := od_; first | exact h_ | (have e_ := (Kd.R_reads' HO147.out).1; omega) | simpa using h_); obtain rfl := k72_openM hM20; have HP20 := Kd.R_seg HX20.out (0 : Int) (by omega) (by have h_ : (0 : Int) < ((y145.length : Int) : Int) := od_; first | exact h_ | (have e_ := (Kd.R_reads' HO147.out).1; omega) | simpa using h_) (seg := [.int .i64 0, .int .i64 0, .int .i64 a1, .int .i64 a2]) (j := 0) hcl20 hcc20 (show 4 ≤ 4 from by decide) (x' := (⟨0, 0, a1, a2⟩ : S72)) (k72_mkM _ _ _ (⟨0, 0, a1, a2⟩ : S72) ) (fun _ hk => hk); have hx20_0 := hcc20 0 _ rfl; (try simp only [show (k72).sz = 4 from rfl, Nat.mul_one, Nat.add_zero] at hx20_0); (try rw [show ((0 : Int)).toNat = 0 from rfl] at hx20_0); (try simp only [Nat.reduceMul, Nat.zero_mul, Nat.zero_add, Nat.reduceAdd] at hx20_0); have hf20_0 := hfr20 0; (try simp only [show (k72).sz = 4 from rfl, Nat.mul_one, Nat.add_zero] at hf20_0); (try rw [show ((0 : Int)).toNat = 0 from rfl] at hf20_0); (try simp only [Nat.reduceMul, Nat.zero_mul, Nat.zero_add, Nat.reduceAdd] at hf20_0); have hx20_1 := hcc20 1 _ rfl; (try simp only [show (k72).sz = 4 from rfl, Nat.mul_one, Nat.add_zero] at hx20_1); (try rw [show ((0 : Int)).toNat = 0 from rfl] at hx20_1); (try simp only [Nat.reduceMul, Nat.zero_mul, Nat.zero_add, Nat.reduceAdd] at hx20_1); have hf20_1 := hfr20 1; (try simp only [show (k72).sz = 4 from rfl, Nat.mul_one, Nat.add_zero] at hf20_1); (try rw [show ((0 : Int)).toNat = 0 from rfl] at hf20_1); (try simp only [Nat.reduceMul, Nat.zero_mul, Nat.zero_add, Nat.reduceAdd] at hf20_1); have hx20_2 := hcc20 2 _ rfl; (try simp only [show (k72).sz = 4 from rfl, Nat.mul_one, Nat.add_zero] at hx20_2); (try rw [show ((0 : Int)).toNat = 0 from rfl] at hx20_2); (try simp only [Nat.reduceMul, Nat.zero_mul, Nat.zero_add, Nat.reduceAdd] at hx20_2); have hf20_2 := hfr20 2; (try simp only [show (k72).sz = 4 from rfl, Nat.mul_one, Nat.add_zero] at hf20_2); (try rw [show ((0 : Int)).toNat = 0 from rfl] at hf20_2); (try simp only [Nat.reduceMul, Nat.zero_mul, Nat.zero_add, Nat.reduceAdd] at hf20_2); have hx20_3 := hcc20 3 _ rfl; (try simp only [show (k72).sz = 4 from rfl, Nat.mul_one, Nat.add_zero] at hx20_3); (try rw [show ((0 : Int)).toNat = 0 from rfl] at hx20_3); (try simp only [Nat.reduceMul, Nat.zero_mul, Nat.zero_add, Nat.reduceAdd] at hx20_3); have hf20_3 := hfr20 3; (try simp only [show (k72).sz = 4 from rfl, Nat.mul_one, Nat.add_zero] at hf20_3); (try rw [show ((0 : Int)).toNat = 0 from rfl] at hf20_3); (try simp only [Nat.reduceMul, Nat.zero_mul, Nat.zero_add, Nat.reduceAdd] at hf20_3); clear hcl20 hcc20 hfr20; (try clear hM20)) | ((with_reducible refine gate_store (t := 72) (p := 44) rfl ?_); (try (rw [drewN_self w18]; generalize hq_ : World.drewN w18 _ = w18; have n0_ := am_ (Kd.R_at hq_ HO147.out); have n1_ := am_ (below_at hq_ HB.out); clear hq_ HO147 HB; have HO147 := n0_; have HB := n1_; clear n0_ n1_; (try (have HX20 := am_ (show Kd.R k72 72 w18 w.heap.size (fun _ => True) (.slice (some ⟨go17, 0, none⟩) y145.length co17) y145 from (ra_ HO147.out)))); (try (obtain ⟨ce20, hcl20, hM20, hcc20, hfr20⟩ := Kd.R_elem HX20.out z72 (0 : Int) (by omega) (by have h_ : (0 : Int) < ((y145.length : Int) : Int) := od_; first | exact h_ | (have e_ := (Kd.R_reads' HO147.out).1; omega) | simpa using h_))); (try (obtain rfl := k72_openM hM20)); (try (have HP20 := Kd.R_seg HX20.out (0 : Int) (by omega) (by have h_ : (0 : Int) < ((y145.length : Int) : Int) := od_; first | exact h_ | (have e_ := (Kd.R_reads' HO147.out).1; omega) | simpa using h_) (seg := [.int .i64 0, .int .i64 0, .int .i64 a1, .int .i64 a2]) (j := 0) hcl20 hcc20 (show 4 ≤ 4 from by decide) (x' := (⟨0, 0, a1, a2⟩ : S72)) (k72_mkM _ _ _ (⟨0, 0, a1, a2⟩ : S72) ) (fun _ hk => hk))); (try (have hx20_0 := hcc20 0 _ rfl)); (try (try simp only [show (k72).sz = 4 from rfl, Nat.mul_one, Nat.add_zero] at hx20_0)); (try (try rw [show ((0 : Int)).toNat = 0 from rfl] at hx20_0)); (try (try simp only [Nat.reduceMul, Nat.zero_mul, Nat.zero_add, Nat.reduceAdd] at hx20_0)); (try (have hf20_0 := hfr20 0)); (try (try simp only [show (k72).sz = 4 from rfl, Nat.mul_one, Nat.add_zero] at hf20_0)); (try (try rw [show ((0 : Int)).toNat = 0 from rfl] at hf20_0)); (try (try simp only [Nat.reduceMul, Nat.zero_mul, Nat.zero_add, Nat.reduceAdd] at hf20_0)); (try (have hx20_1 := hcc20 1 _ rfl)); (try (try simp only [show (k72).sz = 4 from rfl, Nat.mul_one, Nat.add_zero] at hx20_1)); (try (try rw [show ((0 : Int)).toNat = 0 from rfl] at hx20_1)); (try (try simp only [Nat.reduceMul, Nat.zero_mul, Nat.zero_add, Nat.reduceAdd] at hx20_1)); (try (have hf20_1 := hfr20 1)); (try (try simp only [show (k72).sz = 4 from rfl, Nat.mul_one, Nat.add_zero] at hf20_1)); (try (try rw [show ((0 : Int)).toNat = 0 from rfl] at hf20_1)); (try (try simp only [Nat.reduceMul, Nat.zero_mul, Nat.zero_add, Nat.reduceAdd] at hf20_1)); (try (have hx20_2 := hcc20 2 _ rfl)); (try (try simp only [show (k72).sz = 4 from rfl, Nat.mul_one, Nat.add_zero] at hx20_2)); (try (try rw [show ((0 : Int)).toNat = 0 from rfl] at hx20_2)); (try (try simp only [Nat.reduceMul, Nat.zero_mul, Nat.zero_add, Nat.reduceAdd] at hx20_2)); (try (have hf20_2 := hfr20 2)); (try (try simp only [show (k72).sz = 4 from rfl, Nat.mul_one, Nat.add_zero] at hf20_2)); (try (try rw [show ((0 : Int)).toNat = 0 from rfl] at hf20_2)); (try (try simp only [Nat.reduceMul, Nat.zero_mul, Nat.zero_add, Nat.reduceAdd] at hf20_2)); (try (have hx20_3 := hcc20 3 _ rfl)); (try (try simp only [show (k72).sz = 4 from rfl, Nat.mul_one, Nat.add_zero] at hx20_3)); (try (try rw [show ((0 : Int)).toNat = 0 from rfl] at hx20_3)); (try (try simp only [Nat.reduceMul, Nat.zero_mul, Nat.zero_add, Nat.reduceAdd] at hx20_3)); (try (have hf20_3 := hfr20 3)); (try (try simp only [show (k72).sz = 4 from rfl, Nat.mul_one, Nat.add_zero] at hf20_3)); (try (try rw [show ((0 : Int)).toNat = 0 from rfl] at hf20_3)); (try (try simp only [Nat.reduceMul, Nat.zero_mul, Nat.zero_add, Nat.reduceAdd] at hf20_3)); (try (clear hcl20 hcc20 hfr20; (try clear hM20))))); refine se_ 72 44 ((((w18.setCell ⟨go17, 0, none⟩ (.int .i64 0)).setCell ⟨go17, 1, none⟩ (.int .i64 0)).setCell ⟨go17, 2, none⟩ (.int .i64 a1)).setCell ⟨go17, 3, none⟩ (.int .i64 a2)) ?_; intro w21 hw; have hg : w18.grownBy w21 (some go17) := (by rw [hw]; exact HP20.2); have hp_ : Kd.R k72 72 w21 w.heap.size (fun _ => True) (.slice (some ⟨go17, 0, none⟩) y145.length co17) y148 := (by rw [hw, Ny148.out]; exact HP20.1); clear HP20; have n0_ := am_ (hp_); have n1_ := am_ ((by rw [hw]; exact below_set (below_set (below_set (below_set (HB.out) GB17.out) GB17.out) GB17.out) GB17.out : Below w.heap.size w w21)); replace HO147 := n0_; replace HB := n1_; clear n0_ n1_; clear hg hw hp_)); try go_wp2_with (first | ((with_reducible refine gate_dst (N := 39) rfl ?_); refine Kd.R_make k72 _ 72 rfl (N := 39) rfl 36 _ _ rfl (l0.length : Int) rfl rfl Try.underlying36 (.agg #[(.int .i64 0), (.int .i64 0), (.int .i64 0), (.int .i64 0)]) 32 info72 rfl (by decide) (by omega) z72 (ok := fun _ => True) (okp := fun _ => True) (k72_mkM _ _ _ z72 ) (fun _ hk => hk) trivial od_ (Nat.le_trans (Nat.mul_le_mul_right _ (od_ : (l0.length : Int).toNat ≤ 8796093022208)) (by omega)) (Below.refl _ _) (Nat.le_refl _) ?_; intro v146 w18 ho19 hb hg_ hnew_; clear hg_ hnew_; (first | rw [← Ny145.out] at ho19 | (simp only [Int.reduceToNat] at ho19; rw [← Ny145.out] at ho19)); have n0_ := am_ (Kd.R_lower ho19 (below_size (bw_ HB.out))); have n1_ := am_ (below_step (bw_ HB.out) hb); have HO147 := n0_; replace HB := n1_; clear n0_ n1_; clear hb ho19; have p17 : 0 ≤ (0 : Int) := (by omega); have q17 : (0 : Int) < ((y145.length : Int) : Int) := od_; have qi17 : (0 < y145.length) = True := eq_true (by omega); obtain ⟨go17, co17, eo17, gb17, gl17, cl17, HG17⟩ := Kd.R_form HO147.out (by omega); (first | cases eo17 | (injection eo17 with ea_ en_ ec_; (first | subst ea_ | (injection ea_ with ea_; subst ea_)); subst ec_; clear en_)); have GB17 := am_ gb17; have GG17 := am_ HG17; clear gb17 gl17 HG17; obtain ⟨ce17, hcl17, hM17, hcc17, hfr17⟩ := Kd.R_elem HO147.out z72 (0 : Int) p17 q17; obtain rfl := k72_openM hM17; have hx17_0 : w18.cell? ⟨go17, (0 : Int).toNat * 4, none⟩ = some (.int .i64 ((rd_T72 y145 0).f0)) := hcc17 0 _ rfl; have hx17_1 : w18.cell? ⟨go17, (0 : Int).toNat * 4 + 1, none⟩ = some (.int .i64 ((rd_T72 y145 0).f1)) := hcc17 1 _ rfl; have hx17_2 : w18.cell? ⟨go17, (0 : Int).toNat * 4 + 2, none⟩ = some (.int .i64 ((rd_T72 y145 0).f2)) := hcc17 2 _ rfl; have hx17_3 : w18.cell? ⟨go17, (0 : Int).toNat * 4 + 3, none⟩ = some (.int .i64 ((rd_T72 y145 0).f3)) := hcc17 3 _ rfl; have hf17_0 : w18.frozen? ⟨go17, (0 : Int).toNat * 4, none⟩ = false := hfr17 0; have hf17_1 : w18.frozen? ⟨go17, (0 : Int).toNat * 4 + 1, none⟩ = false := hfr17 1; have hf17_2 : w18.frozen? ⟨go17, (0 : Int).toNat * 4 + 2, none⟩ = false := hfr17 2; have hf17_3 : w18.frozen? ⟨go17, (0 : Int).toNat * 4 + 3, none⟩ = false := hfr17 3; clear hcl17 hcc17 hfr17; (try clear hM17); (try rw [show ((0 : Int)).toNat = 0 from rfl] at hx17_0); (try simp only [Nat.reduceMul, Nat.zero_mul, Nat.zero_add, Nat.reduceAdd] at hx17_0); (try rw [show ((0 : Int)).toNat = 0 from rfl] at hf17_0); (try simp only [Nat.reduceMul, Nat.zero_mul, Nat.zero_add, Nat.reduceAdd] at hf17_0); (try rw [show ((0 : Int)).toNat = 0 from rfl] at hx17_1); (try simp only [Nat.reduceMul, Nat.zero_mul, Nat.zero_add, Nat.reduceAdd] at hx17_1); (try rw [show ((0 : Int)).toNat = 0 from rfl] at hf17_1); (try simp only [Nat.reduceMul, Nat.zero_mul, Nat.zero_add, Nat.reduceAdd] at hf17_1); (try rw [show ((0 : Int)).toNat = 0 from rfl] at hx17_2); (try simp only [Nat.reduceMul, Nat.zero_mul, Nat.zero_add, Nat.reduceAdd] at hx17_2); (try rw [show ((0 : Int)).toNat = 0 from rfl] at hf17_2); (try simp only [Nat.reduceMul, Nat.zero_mul, Nat.zero_add, Nat.reduceAdd] at hf17_2); (try rw [show ((0 : Int)).toNat = 0 from rfl] at hx17_3); (try simp only [Nat.reduceMul, Nat.zero_mul, Nat.zero_add, Nat.reduceAdd] at hx17_3); (try rw [show ((0 : Int)).toNat = 0 from rfl] at hf17_3); (try simp only [Nat.reduceMul, Nat.zero_mul, Nat.zero_add, Nat.reduceAdd] at hf17_3); replace p17 := eq_true p17; replace q17 := eq_true q17; have HX20 := am_ (show Kd.R k72 72 w18 w.heap.size (fun _ => True) (.slice (some ⟨go17, 0, none⟩) y145.length co17) y145 from (ra_ HO147.out)); obtain ⟨ce20, hcl20, hM20, hcc20, hfr20⟩ := Kd.R_elem HX20.out z72 (0 : Int) (by omega) (by have h_ : (0 : Int) < ((y145.length : Int) : Int) := od_; first | exact h_ | (have e_ := (Kd.R_reads' HO147.out).1; omega) | simpa using h_); obtain rfl := k72_openM hM20; have HP20 := Kd.R_seg HX20.out (0 : Int) (by omega) (by have h_ : (0 : Int) < ((y145.length : Int) : Int) := od_; first | exact h_ | (have e_ := (Kd.R_reads' HO147.out).1; omega) | simpa using h_) (seg := [.int .i64 0, .int .i64 0, .int .i64 a1, .int .i64 a2]) (j := 0) hcl20 hcc20 (show 4 ≤ 4 from by decide) (x' := (⟨0, 0, a1, a2⟩ : S72)) (k72_mkM _ _ _ (⟨0, 0, a1, a2⟩ : S72) ) (fun _ hk => hk); have hx20_0 := hcc20 0 _ rfl; (try simp only [show (k72).sz = 4 from rfl, Nat.mul_one, Nat.add_zero] at hx20_0); (try rw [show ((0 : Int)).toNat = 0 from rfl] at hx20_0); (try simp only [Nat.reduceMul, Nat.zero_mul, Nat.zero_add, Nat.reduceAdd] at hx20_0); have hf20_0 := hfr20 0; (try simp only [show (k72).sz = 4 from rfl, Nat.mul_one, Nat.add_zero] at hf20_0); (try rw [show ((0 : Int)).toNat = 0 from rfl] at hf20_0); (try simp only [Nat.reduceMul, Nat.zero_mul, Nat.zero_add, Nat.reduceAdd] at hf20_0); have hx20_1 := hcc20 1 _ rfl; (try simp only [show (k72).sz = 4 from rfl, Nat.mul_one, Nat.add_zero] at hx20_1); (try rw [show ((0 : Int)).toNat = 0 from rfl] at hx20_1); (try simp only [Nat.reduceMul, Nat.zero_mul, Nat.zero_add, Nat.reduceAdd] at hx20_1); have hf20_1 := hfr20 1; (try simp only [show (k72).sz = 4 from rfl, Nat.mul_one, Nat.add_zero] at hf20_1); (try rw [show ((0 : Int)).toNat = 0 from rfl] at hf20_1); (try simp only [Nat.reduceMul, Nat.zero_mul, Nat.zero_add, Nat.reduceAdd] at hf20_1); have hx20_2 := hcc20 2 _ rfl; (try simp only [show (k72).sz = 4 from rfl, Nat.mul_one, Nat.add_zero] at hx20_2); (try rw [show ((0 : Int)).toNat = 0 from rfl] at hx20_2); (try simp only [Nat.reduceMul, Nat.zero_mul, Nat.zero_add, Nat.reduceAdd] at hx20_2); have hf20_2 := hfr20 2; (try simp only [show (k72).sz = 4 from rfl, Nat.mul_one, Nat.add_zero] at hf20_2); (try rw [show ((0 : Int)).toNat = 0 from rfl] at hf20_2); (try simp only [Nat.reduceMul, Nat.zero_mul, Nat.zero_add, Nat.reduceAdd] at hf20_2); have hx20_3 := hcc20 3 _ rfl; (try simp only [show (k72).sz = 4 from rfl, Nat.mul_one, Nat.add_zero] at hx20_3); (try rw [show ((0 : Int)).toNat = 0 from rfl] at hx20_3); (try simp only [Nat.reduceMul, Nat.zero_mul, Nat.zero_add, Nat.reduceAdd] at hx20_3); have hf20_3 := hfr20 3; (try simp only [show (k72).sz = 4 from rfl, Nat.mul_one, Nat.add_zero] at hf20_3); (try rw [show ((0 : Int)).toNat = 0 from rfl] at hf20_3); (try simp only [Nat.reduceMul, Nat.zero_mul, Nat.zero_add, Nat.reduceAdd] at hf20_3); clear hcl20 hcc20 hfr20; (try clear hM20)) | ((with_reducible refine gate_store (t := 72) (p := 44) rfl ?_); (try (rw [drewN_self w18]; generalize hq_ : World.drewN w18 _ = w18; have n0_ := am_ (Kd.R_at hq_ HO147.out); have n1_ := am_ (below_at hq_ HB.out); clear hq_ HO147 HB; have HO147 := n0_; have HB := n1_; clear n0_ n1_; (try (have HX20 := am_ (show Kd.R k72 72 w18 w.heap.size (fun _ => True) (.slice (some ⟨go17, 0, none⟩) y145.length co17) y145 from (ra_ HO147.out)))); (try (obtain ⟨ce20, hcl20, hM20, hcc20, hfr20⟩ := Kd.R_elem HX20.out z72 (0 : Int) (by omega) (by have h_ : (0 : Int) < ((y145.length : Int) : Int) := od_; first | exact h_ | (have e_ := (Kd.R_reads' HO147.out).1; omega) | simpa using h_))); (try (obtain rfl := k72_openM hM20)); (try (have HP20 := Kd.R_seg HX20.out (0 : Int) (by omega) (by have h_ : (0 : Int) < ((y145.length : Int) : Int) := od_; first | exact h_ | (have e_ := (Kd.R_reads' HO147.out).1; omega) | simpa using h_) (seg := [.int .i64 0, .int .i64 0, .int .i64 a1, .int .i64 a2]) (j := 0) hcl20 hcc20 (show 4 ≤ 4 from by decide) (x' := (⟨0, 0, a1, a2⟩ : S72)) (k72_mkM _ _ _ (⟨0, 0, a1, a2⟩ : S72) ) (fun _ hk => hk))); (try (have hx20_0 := hcc20 0 _ rfl)); (try (try simp only [show (k72).sz = 4 from rfl, Nat.mul_one, Nat.add_zero] at hx20_0)); (try (try rw [show ((0 : Int)).toNat = 0 from rfl] at hx20_0)); (try (try simp only [Nat.reduceMul, Nat.zero_mul, Nat.zero_add, Nat.reduceAdd] at hx20_0)); (try (have hf20_0 := hfr20 0)); (try (try simp only [show (k72).sz = 4 from rfl, Nat.mul_one, Nat.add_zero] at hf20_0)); (try (try rw [show ((0 : Int)).toNat = 0 from rfl] at hf20_0)); (try (try simp only [Nat.reduceMul, Nat.zero_mul, Nat.zero_add, Nat.reduceAdd] at hf20_0)); (try (have hx20_1 := hcc20 1 _ rfl)); (try (try simp only [show (k72).sz = 4 from rfl, Nat.mul_one, Nat.add_zero] at hx20_1)); (try (try rw [show ((0 : Int)).toNat = 0 from rfl] at hx20_1)); (try (try simp only [Nat.reduceMul, Nat.zero_mul, Nat.zero_add, Nat.reduceAdd] at hx20_1)); (try (have hf20_1 := hfr20 1)); (try (try simp only [show (k72).sz = 4 from rfl, Nat.mul_one, Nat.add_zero] at hf20_1)); (try (try rw [show ((0 : Int)).toNat = 0 from rfl] at hf20_1)); (try (try simp only [Nat.reduceMul, Nat.zero_mul, Nat.zero_add, Nat.reduceAdd] at hf20_1)); (try (have hx20_2 := hcc20 2 _ rfl)); (try (try simp only [show (k72).sz = 4 from rfl, Nat.mul_one, Nat.add_zero] at hx20_2)); (try (try rw [show ((0 : Int)).toNat = 0 from rfl] at hx20_2)); (try (try simp only [Nat.reduceMul, Nat.zero_mul, Nat.zero_add, Nat.reduceAdd] at hx20_2)); (try (have hf20_2 := hfr20 2)); (try (try simp only [show (k72).sz = 4 from rfl, Nat.mul_one, Nat.add_zero] at hf20_2)); (try (try rw [show ((0 : Int)).toNat = 0 from rfl] at hf20_2)); (try (try simp only [Nat.reduceMul, Nat.zero_mul, Nat.zero_add, Nat.reduceAdd] at hf20_2)); (try (have hx20_3 := hcc20 3 _ rfl)); (try (try simp only [show (k72).sz = 4 from rfl, Nat.mul_one, Nat.add_zero] at hx20_3)); (try (try rw [show ((0 : Int)).toNat = 0 from rfl] at hx20_3)); (try (try simp only [Nat.reduceMul, Nat.zero_mul, Nat.zero_add, Nat.reduceAdd] at hx20_3)); (try (have hf20_3 := hfr20 3)); (try (try simp only [show (k72).sz = 4 from rfl, Nat.mul_one, Nat.add_zero] at hf20_3)); (try (try rw [show ((0 : Int)).toNat = 0 from rfl] at hf20_3)); (try (try simp only [Nat.reduceMul, Nat.zero_mul, Nat.zero_add, Nat.reduceAdd] at hf20_3)); (try (clear hcl20 hcc20 hfr20; (try clear hM20))))); refine se_ 72 44 ((((w18.setCell ⟨go17, 0, none⟩ (.int .i64 0)).setCell ⟨go17, 1, none⟩ (.int .i64 0)).setCell ⟨go17, 2, none⟩ (.int .i64 a1)).setCell ⟨go17, 3, none⟩ (.int .i64 a2)) ?_; intro w21 hw; have hg : w18.grownBy w21 (some go17) := (by rw [hw]; exact HP20.2); have hp_ : Kd.R k72 72 w21 w.heap.size (fun _ => True) (.slice (some ⟨go17, 0, none⟩) y145.length co17) y148 := (by rw [hw, Ny148.out]; exact HP20.1); clear HP20; have n0_ := am_ (hp_); have n1_ := am_ ((by rw [hw]; exact below_set (below_set (below_set (below_set (HB.out) GB17.out) GB17.out) GB17.out) GB17.out : Below w.heap.size w w21)); replace HO147 := n0_; replace HB := n1_; clear n0_ n1_; clear hg hw hp_)))
    go_loopg [47] kj3 (fun kq v47 w' => ∃ (x8_2 : List (S72)) (x47_2 : Int), v47 = .int .i64 x47_2 ∧ Aside0 (spec_LayOut.l0 kq l0 x8_2 l0 (l0.length : Int) x47_2 = some (r1, r2)) ∧ Aside0 (kq ≤ kj3) ∧ Aside0 (Kd.R k72 72 w' w.heap.size (fun _ => True) (.slice (some ⟨go17, 0, none⟩) y145.length co17) x8_2) ∧ Aside0 (Below w.heap.size w w'))
    case atStart => exact ⟨(y148), (0), sq_, H', ⟨Nat.le_refl _⟩, ⟨ra_ HO147.out⟩, ⟨bw_ HB.out⟩⟩
    case round =>
     clear H'
     try clear c13
     try clear c14
     try clear c14b0
     try clear c14b1
     try clear c15
     try clear c15b0
     try clear c15b1
     try clear c16
     try clear c16b0
     try clear c16b1
     try clear p17
     try clear q17
     try clear qi17
     try clear hx17_0
     try clear hx17_1
     try clear hx17_2
     try clear hx17_3
     try clear hx20_0
     try clear hx20_1
     try clear hx20_2
     try clear hx20_3
     try clear p17
     try clear q17
     obtain ⟨x8_2, x47_2, rfl, HA, HK2, HO_8, HB⟩ := hrel
     have hl8_2 := (Kd.R_reads' HO_8.out).1
     rw [hl8_2] at HO_8
     (try simp only [hl8_2])
     cases gk with
     | zero => exact absurd HA.out (by simp [spec_LayOut.l0])
     | succ k2 =>
      have H := HA.out
      clear HA
      simp only [spec_LayOut.l0] at H
      by_cases c22 : x47_2 < (l0.length : Int)
      ·rw [if_pos c22] at H
       have c22b0 : decide (x47_2 < (l0.length : Int)) = true := decide_eq_true c22
       (try rw [hl8_2] at c22b0)
       clear c22
       obtain ⟨c23, H⟩ := ifn_ H
       have c23b0 : decide (0 ≤ x47_2) = true := decide_eq_true c23
       clear c23
       obtain ⟨c24, H⟩ := ifn_ H
       have c24b0 : decide (x47_2 < (l0.length : Int)) = true := decide_eq_true c24
       (try rw [hl8_2] at c24b0)
       clear c24
       have H' := am_ H
       clear H
       have p149 : 0 ≤ (x47_2 : Int) := od_
       have q149 : x47_2 < (l0.length : Int) := od_
       obtain ⟨ad149, e149, hx149_0, hx149_1, hx149_2, hx149_3, hx149_4⟩ := at_T74 HR0.out x47_2 p149 q149
       cases e149
       (try replace hx149_0 := hc_ HB.out hx149_0)
       (try replace hx149_1 := hc_ HB.out hx149_1)
       (try replace hx149_2 := hc_ HB.out hx149_2)
       (try replace hx149_3 := hc_ HB.out hx149_3)
       (try replace hx149_4 := hc_ HB.out hx149_4)
       replace p149 := eq_true p149
       replace q149 := eq_true q149
       go_wp2_with (first | ((with_reducible refine gate_dst (N := 10) rfl ?_); refine bx_ 10 #[.int .i64 0, .int .i64 0, .int .i64 0, .int .i64 0, .int .i64 0] 74 ?_; intro gb150 hg w25 hbox hb; have n0_ := am_ (Kd.R_below (ra_ HO_8.out) hb); have n1_ := am_ (below_step (bw_ HB.out) hb); have n2_ := am_ (hbox); have n3_ := am_ (gs_ hg (bw_ HB.out)); have n4_ := am_ (gs_ hg (bw_ HB.out)); replace HO_8 := n0_; replace HB := n1_; have BK150 := n2_; have GW150 := n3_; have GE150 := n4_; clear n0_ n1_ n2_ n3_ n4_; clear hb hbox hg; have hcz26_0 := cz_ BK150.out 0; have hcz26_1 := cz_ BK150.out 1; have hcz26_2 := cz_ BK150.out 2; have hcz26_3 := cz_ BK150.out 3; have hcz26_4 := cz_ BK150.out 4; have hfz26_0 := blk_frozen BK150.out 0; have hfz26_1 := blk_frozen BK150.out 1; have hfz26_2 := blk_frozen BK150.out 2; have hfz26_3 := blk_frozen BK150.out 3; have hfz26_4 := blk_frozen BK150.out 4))
       repeat (go_quiet (first | ((with_reducible refine gate_dst (N := 10) rfl ?_); refine bx_ 10 #[.int .i64 0, .int .i64 0, .int .i64 0, .int .i64 0, .int .i64 0] 74 ?_; intro gb150 hg w25 hbox hb; have n0_ := am_ (Kd.R_below (ra_ HO_8.out) hb); have n1_ := am_ (below_step (bw_ HB.out) hb); have n2_ := am_ (hbox); have n3_ := am_ (gs_ hg (bw_ HB.out)); have n4_ := am_ (gs_ hg (bw_ HB.out)); replace HO_8 := n0_; replace HB := n1_; have BK150 := n2_; have GW150 := n3_; have GE150 := n4_; clear n0_ n1_ n2_ n3_ n4_; clear hb hbox hg; have hcz26_0 := cz_ BK150.out 0; have hcz26_1 := cz_ BK150.out 1; have hcz26_2 := cz_ BK150.out 2; have hcz26_3 := cz_ BK150.out 3; have hcz26_4 := cz_ BK150.out 4; have hfz26_0 := blk_frozen BK150.out 0; have hfz26_1 := blk_frozen BK150.out 1; have hfz26_2 := blk_frozen BK150.out 2; have hfz26_3 := blk_frozen BK150.out 3; have hfz26_4 := blk_frozen BK150.out 4)); try go_wp2_with (first | ((with_reducible refine gate_dst (N := 10) rfl ?_); refine bx_ 10 #[.int .i64 0, .int .i64 0, .int .i64 0, .int .i64 0, .int .i64 0] 74 ?_; intro gb150 hg w25 hbox hb; have n0_ := am_ (Kd.R_below (ra_ HO_8.out) hb); have n1_ := am_ (below_step (bw_ HB.out) hb); have n2_ := am_ (hbox); have n3_ := am_ (gs_ hg (bw_ HB.out)); have n4_ := am_ (gs_ hg (bw_ HB.out)); replace HO_8 := n0_; replace HB := n1_; have BK150 := n2_; have GW150 := n3_; have GE150 := n4_; clear n0_ n1_ n2_ n3_ n4_; clear hb hbox hg; have hcz26_0 := cz_ BK150.out 0; have hcz26_1 := cz_ BK150.out 1; have hcz26_2 := cz_ BK150.out 2; have hcz26_3 := cz_ BK150.out 3; have hcz26_4 := cz_ BK150.out 4; have hfz26_0 := blk_frozen BK150.out 0; have hfz26_1 := blk_frozen BK150.out 1; have hfz26_2 := blk_frozen BK150.out 2; have hfz26_3 := blk_frozen BK150.out 3; have hfz26_4 := blk_frozen BK150.out 4)))
       go_loopg [11, 12, 13, 54] k2 (fun kq v11 v12 v13 v54 w' => ∃ (x11_3 : List Int) (x12_3 : List Int) (x13_3 : List Int) (x54_3 : Int), v54 = .int .i64 x54_3 ∧ Aside0 (spec_LayOut.l1 kq l0 x8_2 x47_2 x11_3 x12_3 x13_3 l0 (l0.length : Int) x47_2 l0 (l0.length : Int) x54_3 ((rd_T74 l0 x47_2).f0) ((rd_T74 l0 x47_2).f1) ((rd_T74 l0 x47_2).f2) ((rd_T74 l0 x47_2).f3) ((rd_T74 l0 x47_2).f4) = some (r1, r2)) ∧ Aside0 (kq ≤ k2) ∧ Aside0 (Kd.R k72 72 w' w.heap.size (fun _ => True) (.slice (some ⟨go17, 0, none⟩) x8_2.length co17) x8_2) ∧ Aside0 (Kd.R (Kd.int .i64) 3 w' w.heap.size (fun k_ => nb k_ v12 ∧ nb k_ v13) v11 x11_3) ∧ Aside0 (Kd.R (Kd.int .i64) 3 w' w.heap.size (fun k_ => nb k_ v11 ∧ nb k_ v13) v12 x12_3) ∧ Aside0 (Kd.R (Kd.int .i64) 3 w' w.heap.size (fun k_ => nb k_ v11 ∧ nb k_ v12) v13 x13_3) ∧ Aside0 (w'.heap[gb150]? = some (.cells #[.int .i64 ((rd_T74 l0 x47_2).f0), .int .i64 ((rd_T74 l0 x47_2).f1), .int .i64 ((rd_T74 l0 x47_2).f2), .int .i64 ((rd_T74 l0 x47_2).f3), .int .i64 ((rd_T74 l0 x47_2).f4)] 74 (0, 0))) ∧ Aside0 (Below w.heap.size w w'))
       case atStart => exact ⟨(([] : List Int)), (([] : List Int)), (([] : List Int)), (0), sq_, H', ⟨Nat.le_refl _⟩, ⟨by (try simp only [hl8_2]); (with_reducible repeat (first | apply Kd.R_alloc | apply Kd.R_drewN | apply Kd.R_drew)); exact Kd.R_mono (Kd.R_far (p := ⟨gb150, 4, none⟩) (Kd.R_far (p := ⟨gb150, 3, none⟩) (Kd.R_far (p := ⟨gb150, 2, none⟩) (Kd.R_far (p := ⟨gb150, 1, none⟩) (Kd.R_far (p := ⟨gb150, 0, none⟩) (Kd.R_types HO_8.out BK150.out (by decide)) (fun _ hk => hk.2) (.int .i64 ((rd_T74 l0 x47_2).f0))) (fun _ hk => hk.2) (.int .i64 ((rd_T74 l0 x47_2).f1))) (fun _ hk => hk.2) (.int .i64 ((rd_T74 l0 x47_2).f2))) (fun _ hk => hk.2) (.int .i64 ((rd_T74 l0 x47_2).f3))) (fun _ hk => hk.2) (.int .i64 ((rd_T74 l0 x47_2).f4))) (fun _ hk => trivial)⟩, ⟨by (try simp only [hl8_2]); first | exact Kd.R_nil _ _ _ _ _ | exact Kd.N_nil _ _ _ _ _ | exact Kd.V_nil _ _ _ _ _ | exact Kd.Q_nil _ _ _ _ _ | exact Kd.S_nil _ _ _ _ _⟩, ⟨by (try simp only [hl8_2]); first | exact Kd.R_nil _ _ _ _ _ | exact Kd.N_nil _ _ _ _ _ | exact Kd.V_nil _ _ _ _ _ | exact Kd.Q_nil _ _ _ _ _ | exact Kd.S_nil _ _ _ _ _⟩, ⟨by (try simp only [hl8_2]); first | exact Kd.R_nil _ _ _ _ _ | exact Kd.N_nil _ _ _ _ _ | exact Kd.V_nil _ _ _ _ _ | exact Kd.Q_nil _ _ _ _ _ | exact Kd.S_nil _ _ _ _ _⟩, ⟨by (try simp only [hl8_2]); (with_reducible repeat (first | refine blk_drewN ?_ _ | refine blk_drew ?_ | refine blk_alloc ?_ _)); refine blk_put (cs := #[.int .i64 ((rd_T74 l0 x47_2).f0), .int .i64 ((rd_T74 l0 x47_2).f1), .int .i64 ((rd_T74 l0 x47_2).f2), .int .i64 ((rd_T74 l0 x47_2).f3), .int .i64 0]) ?_ 4 _ rfl; (with_reducible repeat (first | refine blk_drewN ?_ _ | refine blk_drew ?_ | refine blk_alloc ?_ _)); refine blk_put (cs := #[.int .i64 ((rd_T74 l0 x47_2).f0), .int .i64 ((rd_T74 l0 x47_2).f1), .int .i64 ((rd_T74 l0 x47_2).f2), .int .i64 0, .int .i64 0]) ?_ 3 _ rfl; (with_reducible repeat (first | refine blk_drewN ?_ _ | refine blk_drew ?_ | refine blk_alloc ?_ _)); refine blk_put (cs := #[.int .i64 ((rd_T74 l0 x47_2).f0), .int .i64 ((rd_T74 l0 x47_2).f1), .int .i64 0, .int .i64 0, .int .i64 0]) ?_ 2 _ rfl; (with_reducible repeat (first | refine blk_drewN ?_ _ | refine blk_drew ?_ | refine blk_alloc ?_ _)); refine blk_put (cs := #[.int .i64 ((rd_T74 l0 x47_2).f0), .int .i64 0, .int .i64 0, .int .i64 0, .int .i64 0]) ?_ 1 _ rfl; (with_reducible repeat (first | refine blk_drewN ?_ _ | refine blk_drew ?_ | refine blk_alloc ?_ _)); refine blk_put (cs := #[.int .i64 0, .int .i64 0, .int .i64 0, .int .i64 0, .int .i64 0]) ?_ 0 _ rfl; (with_reducible repeat (first | refine blk_drewN ?_ _ | refine blk_drew ?_ | refine blk_alloc ?_ _)); exact BK150.out⟩, ⟨bw_ HB.out⟩⟩
       case round =>
        clear H'
        try clear c13
        try clear c14
        try clear c14b0
        try clear c14b1
        try clear c15
        try clear c15b0
        try clear c15b1
        try clear c16
        try clear c16b0
        try clear c16b1
        try clear p17
        try clear q17
        try clear qi17
        try clear c22
        try clear c22b0
        try clear c23
        try clear c23b0
        try clear c24
        try clear c24b0
        try clear hcz26_0
        try clear hcz26_1
        try clear hcz26_2
        try clear hcz26_3
        try clear hcz26_4
        try clear hfz26_0
        try clear hfz26_1
        try clear hfz26_2
        try clear hfz26_3
        try clear hfz26_4
        try clear hx149_0
        try clear hx149_1
        try clear hx149_2
        try clear hx149_3
        try clear hx149_4
        try clear hx17_0
        try clear hx17_1
        try clear hx17_2
        try clear hx17_3
        try clear hx20_0
        try clear hx20_1
        try clear hx20_2
        try clear hx20_3
        try clear p149
        try clear p17
        try clear q149
        try clear q17
        obtain ⟨x11_3, x12_3, x13_3, x54_3, rfl, HA, HK3, HO_8, HO_11, HO_12, HO_13, BK150, HB⟩ := hrel
        cases gk with
        | zero => exact absurd HA.out (by simp [spec_LayOut.l1])
        | succ k3 =>
         have H := HA.out
         clear HA
         simp only [spec_LayOut.l1] at H
         by_cases c27 : x54_3 < (l0.length : Int)
         ·rw [if_pos c27] at H
          have c27b0 : decide (x54_3 < (l0.length : Int)) = true := decide_eq_true c27
          (try rw [hl8_2] at c27b0)
          clear c27
          obtain ⟨c28, H⟩ := ifn_ H
          have c28b0 : decide (0 ≤ x54_3) = true := decide_eq_true c28
          clear c28
          obtain ⟨c29, H⟩ := ifn_ H
          have c29b0 : decide (x54_3 < (l0.length : Int)) = true := decide_eq_true c29
          (try rw [hl8_2] at c29b0)
          clear c29
          by_cases c30 : x54_3 > 0
          ·rw [if_pos c30] at H
           have c30b0 : decide (0 < x54_3) = true := decide_eq_true c30
           clear c30
           by_cases c31 : ((rd_T74 l0 x54_3).f0) = x47_2
           ·rw [if_pos c31] at H
            have c31b0 : (((rd_T74 l0 x54_3).f0) == x47_2) = true := beq_iff_eq.mpr c31
            have c31b1 : (((rd_T74 l0 x54_3).f0) != x47_2) = false := bne_eq_false_iff_eq.mpr c31
            clear c31
            obtain ⟨c32, H⟩ := ifn_ H
            have LMc32 := am_ c32
            clear c32
            obtain ⟨y153, hy153⟩ : ∃ y_ : List Int, y_ = (x11_3 ++ [x54_3]) := ⟨_, rfl⟩
            replace H : (if x12_3.length < 17592186044416 then (if x13_3.length < 17592186044416 then (spec_LayOut.l1 k3 l0 x8_2 x47_2 y153 (x12_3 ++ [(rd_T74 l0 x54_3).f2]) (x13_3 ++ [(rd_T74 l0 x54_3).f3]) l0 (l0.length : Int) x47_2 l0 (l0.length : Int) (wrap64 (x54_3 + 1)) ((rd_T74 l0 x47_2).f0) ((rd_T74 l0 x47_2).f1) ((rd_T74 l0 x47_2).f2) ((rd_T74 l0 x47_2).f3) ((rd_T74 l0 x47_2).f4)) else (none)) else (none)) = some (r1, r2) := by first | (rw [hy153]; with_reducible exact H) | (have H2_ := (Option.bind_some _ _).symm.trans H; rw [hy153]; with_reducible exact H2_) | (have H2_ := (Option.bind_some _ _).symm.trans H; with_reducible exact H2_) | with_reducible exact H | (rw [hy153]; exact H) | exact H
            have Ny153 := am_ hy153
            clear hy153
            obtain ⟨c33, H⟩ := ifn_ H
            have LMc33 := am_ c33
            clear c33
            obtain ⟨y156, hy156⟩ : ∃ y_ : List Int, y_ = (x12_3 ++ [(rd_T74 l0 x54_3).f2]) := ⟨_, rfl⟩
            replace H : (if x13_3.length < 17592186044416 then (spec_LayOut.l1 k3 l0 x8_2 x47_2 y153 y156 (x13_3 ++ [(rd_T74 l0 x54_3).f3]) l0 (l0.length : Int) x47_2 l0 (l0.length : Int) (wrap64 (x54_3 + 1)) ((rd_T74 l0 x47_2).f0) ((rd_T74 l0 x47_2).f1) ((rd_T74 l0 x47_2).f2) ((rd_T74 l0 x47_2).f3) ((rd_T74 l0 x47_2).f4)) else (none)) = some (r1, r2) := by first | (rw [hy156]; with_reducible exact H) | (have H2_ := (Option.bind_some _ _).symm.trans H; rw [hy156]; with_reducible exact H2_) | (have H2_ := (Option.bind_some _ _).symm.trans H; with_reducible exact H2_) | with_reducible exact H | (rw [hy156]; exact H) | exact H
            have Ny156 := am_ hy156
            clear hy156
            obtain ⟨c34, H⟩ := ifn_ H
            have LMc34 := am_ c34
            clear c34
            obtain ⟨y159, hy159⟩ : ∃ y_ : List Int, y_ = (x13_3 ++ [(rd_T74 l0 x54_3).f3]) := ⟨_, rfl⟩
            replace H : (spec_LayOut.l1 k3 l0 x8_2 x47_2 y153 y156 y159 l0 (l0.length : Int) x47_2 l0 (l0.length : Int) (wrap64 (x54_3 + 1)) ((rd_T74 l0 x47_2).f0) ((rd_T74 l0 x47_2).f1) ((rd_T74 l0 x47_2).f2) ((rd_T74 l0 x47_2).f3) ((rd_T74 l0 x47_2).f4)) = some (r1, r2) := by first | (rw [hy159]; with_reducible exact H) | (have H2_ := (Option.bind_some _ _).symm.trans H; rw [hy159]; with_reducible exact H2_) | (have H2_ := (Option.bind_some _ _).symm.trans H; with_reducible exact H2_) | with_reducible exact H | (rw [hy159]; exact H) | exact H
            have Ny159 := am_ hy159
            clear hy159
            have H' := am_ H
            clear H
            have p151 : 0 ≤ (x54_3 : Int) := od_
            have q151 : x54_3 < (l0.length : Int) := od_
            obtain ⟨ad151, e151, hx151_0, hx151_1, hx151_2, hx151_3, hx151_4⟩ := at_T74 HR0.out x54_3 p151 q151
            obtain rfl : ad149 = ad151 := (by injection e151)
            (try replace hx151_0 := hc_ HB.out hx151_0)
            (try replace hx151_1 := hc_ HB.out hx151_1)
            (try replace hx151_2 := hc_ HB.out hx151_2)
            (try replace hx151_3 := hc_ HB.out hx151_3)
            (try replace hx151_4 := hc_ HB.out hx151_4)
            replace p151 := eq_true p151
            replace q151 := eq_true q151
            go_wp2_with (first | ((with_reducible refine gate_dst (N := 15) rfl ?_); refine bx_ 15 #[.int .i64 0, .int .i64 0, .int .i64 0, .int .i64 0, .int .i64 0] 74 ?_; intro gb152 hg w35 hbox hb; have n0_ := am_ (Kd.R_below (ra_ HO_8.out) hb); have n1_ := am_ (Kd.R_below (ra_ HO_11.out) hb); have n2_ := am_ (Kd.R_below (ra_ HO_12.out) hb); have n3_ := am_ (Kd.R_below (ra_ HO_13.out) hb); have n4_ := am_ (blk_below (bk_ BK150.out) hb); have n5_ := am_ (below_step (bw_ HB.out) hb); have n6_ := am_ (hbox); have n7_ := am_ (gs_ hg (bw_ HB.out)); have n8_ := am_ (gs_ hg (bw_ HB.out)); have n9_ := am_ (nl_ hg (bk_ BK150.out)); have n10_ := am_ (ng_ hg (bk_ BK150.out)); replace HO_8 := n0_; replace HO_11 := n1_; replace HO_12 := n2_; replace HO_13 := n3_; replace BK150 := n4_; replace HB := n5_; have BK152 := n6_; have GW152 := n7_; have GE152 := n8_; have NB150_152 := n9_; have NB152_150 := n10_; clear n0_ n1_ n2_ n3_ n4_ n5_ n6_ n7_ n8_ n9_ n10_; clear hb hbox hg; have hnb36 := NB152_150.out; have hnc36 := NB150_152.out; have hcz37_0 := cz_ BK152.out 0; have hcz37_1 := cz_ BK152.out 1; have hcz37_2 := cz_ BK152.out 2; have hcz37_3 := cz_ BK152.out 3; have hcz37_4 := cz_ BK152.out 4; have hfz37_0 := blk_frozen BK152.out 0; have hfz37_1 := blk_frozen BK152.out 1; have hfz37_2 := blk_frozen BK152.out 2; have hfz37_3 := blk_frozen BK152.out 3; have hfz37_4 := blk_frozen BK152.out 4) | ((with_reducible refine gate_builtin (b := .append) (xs := #[.tmp 67, .tmp 69]) rfl ?_); at_builtin; refine Kd.R_append (Kd.int .i64) (w0 := w) w.heap.size rfl (.tmp 67) (.tmp 69) 24 3 (.int .i64 0) 8 rfl Try.underlying24 info3 rfl (by decide) (by omega) u11 x11_3 x54_3 [.int .i64 x54_3] (fun k_ => nb k_ u12 ∧ nb k_ u13) (fun _ => False) rfl (by first | (go_simp; done) | (go_simp; rfl)) ?aP (fun _ hk => hk.elim) ?aF ?aO ?aB ?aS ?aL ?_; (case aP => exact rfl); (case aB => exact (bw_ HB.out)); (case aF => exact (fun k_ hk => ⟨Kd.fresh' (Kd.R_lt (ra_ ((Kd.R_mono (Kd.R_far (p := ⟨gb152, 4, none⟩) (Kd.R_far (p := ⟨gb152, 3, none⟩) (Kd.R_far (p := ⟨gb152, 2, none⟩) (Kd.R_far (p := ⟨gb152, 1, none⟩) (Kd.R_far (p := ⟨gb152, 0, none⟩) (Kd.R_types HO_12.out BK152.out (by decide)) (fun _ hk => hk.2) (.int .i64 ((rd_T74 l0 x54_3).f0))) (fun _ hk => hk.2) (.int .i64 ((rd_T74 l0 x54_3).f1))) (fun _ hk => hk.2) (.int .i64 ((rd_T74 l0 x54_3).f2))) (fun _ hk => hk.2) (.int .i64 ((rd_T74 l0 x54_3).f3))) (fun _ hk => hk.2) (.int .i64 ((rd_T74 l0 x54_3).f4))) (fun _ h_ => h_.1))))) k_ hk, Kd.fresh' (Kd.R_lt (ra_ ((Kd.R_mono (Kd.R_far (p := ⟨gb152, 4, none⟩) (Kd.R_far (p := ⟨gb152, 3, none⟩) (Kd.R_far (p := ⟨gb152, 2, none⟩) (Kd.R_far (p := ⟨gb152, 1, none⟩) (Kd.R_far (p := ⟨gb152, 0, none⟩) (Kd.R_types HO_13.out BK152.out (by decide)) (fun _ hk => hk.2) (.int .i64 ((rd_T74 l0 x54_3).f0))) (fun _ hk => hk.2) (.int .i64 ((rd_T74 l0 x54_3).f1))) (fun _ hk => hk.2) (.int .i64 ((rd_T74 l0 x54_3).f2))) (fun _ hk => hk.2) (.int .i64 ((rd_T74 l0 x54_3).f3))) (fun _ hk => hk.2) (.int .i64 ((rd_T74 l0 x54_3).f4))) (fun _ h_ => h_.1))))) k_ hk⟩)); (case aO => exact (ra_ (Kd.R_mono (Kd.R_far (p := ⟨gb152, 4, none⟩) (Kd.R_far (p := ⟨gb152, 3, none⟩) (Kd.R_far (p := ⟨gb152, 2, none⟩) (Kd.R_far (p := ⟨gb152, 1, none⟩) (Kd.R_far (p := ⟨gb152, 0, none⟩) (Kd.R_types HO_11.out BK152.out (by decide)) (fun _ hk => hk.2) (.int .i64 ((rd_T74 l0 x54_3).f0))) (fun _ hk => hk.2) (.int .i64 ((rd_T74 l0 x54_3).f1))) (fun _ hk => hk.2) (.int .i64 ((rd_T74 l0 x54_3).f2))) (fun _ hk => hk.2) (.int .i64 ((rd_T74 l0 x54_3).f3))) (fun _ hk => hk.2) (.int .i64 ((rd_T74 l0 x54_3).f4))) (fun _ hk => ⟨hk.1.1, hk.1.2⟩)))); (case aS => exact (below_size (bw_ HB.out))); (case aL => have := LMc32.out; omega); intro v154 w38 ho hb hg hat; rw [← Ny153.out] at ho; have n0_ := am_ (Kd.R_over' (ra_ ((Kd.R_mono (Kd.R_far (p := ⟨gb152, 4, none⟩) (Kd.R_far (p := ⟨gb152, 3, none⟩) (Kd.R_far (p := ⟨gb152, 2, none⟩) (Kd.R_far (p := ⟨gb152, 1, none⟩) (Kd.R_far (p := ⟨gb152, 0, none⟩) (Kd.R_types HO_8.out BK152.out (by decide)) (fun _ hk => hk.2) (.int .i64 ((rd_T74 l0 x54_3).f0))) (fun _ hk => hk.2) (.int .i64 ((rd_T74 l0 x54_3).f1))) (fun _ hk => hk.2) (.int .i64 ((rd_T74 l0 x54_3).f2))) (fun _ hk => hk.2) (.int .i64 ((rd_T74 l0 x54_3).f3))) (fun _ hk => hk.2) (.int .i64 ((rd_T74 l0 x54_3).f4))) (fun _ h_ => h_.1)))) (Kd.R_typed (ra_ ((Kd.R_mono (Kd.R_far (p := ⟨gb152, 4, none⟩) (Kd.R_far (p := ⟨gb152, 3, none⟩) (Kd.R_far (p := ⟨gb152, 2, none⟩) (Kd.R_far (p := ⟨gb152, 1, none⟩) (Kd.R_far (p := ⟨gb152, 0, none⟩) (Kd.R_types HO_11.out BK152.out (by decide)) (fun _ hk => hk.2) (.int .i64 ((rd_T74 l0 x54_3).f0))) (fun _ hk => hk.2) (.int .i64 ((rd_T74 l0 x54_3).f1))) (fun _ hk => hk.2) (.int .i64 ((rd_T74 l0 x54_3).f2))) (fun _ hk => hk.2) (.int .i64 ((rd_T74 l0 x54_3).f3))) (fun _ hk => hk.2) (.int .i64 ((rd_T74 l0 x54_3).f4))) (fun _ h_ => h_.1))))) (by decide) hg); have n1_ := am_ (Kd.R_after (ok := (fun k_ => nb k_ u13)) (ra_ (Kd.R_mono (Kd.R_far (p := ⟨gb152, 4, none⟩) (Kd.R_far (p := ⟨gb152, 3, none⟩) (Kd.R_far (p := ⟨gb152, 2, none⟩) (Kd.R_far (p := ⟨gb152, 1, none⟩) (Kd.R_far (p := ⟨gb152, 0, none⟩) (Kd.R_types HO_12.out BK152.out (by decide)) (fun _ hk => hk.2) (.int .i64 ((rd_T74 l0 x54_3).f0))) (fun _ hk => hk.2) (.int .i64 ((rd_T74 l0 x54_3).f1))) (fun _ hk => hk.2) (.int .i64 ((rd_T74 l0 x54_3).f2))) (fun _ hk => hk.2) (.int .i64 ((rd_T74 l0 x54_3).f3))) (fun _ hk => hk.2) (.int .i64 ((rd_T74 l0 x54_3).f4))) (fun _ hk => ⟨hk.1.2, hk.1.1⟩))) hg hat); have n2_ := am_ (Kd.R_after (ok := (fun k_ => nb k_ u12)) (ra_ (Kd.R_mono (Kd.R_far (p := ⟨gb152, 4, none⟩) (Kd.R_far (p := ⟨gb152, 3, none⟩) (Kd.R_far (p := ⟨gb152, 2, none⟩) (Kd.R_far (p := ⟨gb152, 1, none⟩) (Kd.R_far (p := ⟨gb152, 0, none⟩) (Kd.R_types HO_13.out BK152.out (by decide)) (fun _ hk => hk.2) (.int .i64 ((rd_T74 l0 x54_3).f0))) (fun _ hk => hk.2) (.int .i64 ((rd_T74 l0 x54_3).f1))) (fun _ hk => hk.2) (.int .i64 ((rd_T74 l0 x54_3).f2))) (fun _ hk => hk.2) (.int .i64 ((rd_T74 l0 x54_3).f3))) (fun _ hk => hk.2) (.int .i64 ((rd_T74 l0 x54_3).f4))) (fun _ hk => ⟨hk.1.2, hk.1.1⟩))) hg hat); have n3_ := am_ (blk_grown (g := gb150) (o := .cells #[.int .i64 ((rd_T74 l0 x47_2).f0), .int .i64 ((rd_T74 l0 x47_2).f1), .int .i64 ((rd_T74 l0 x47_2).f2), .int .i64 ((rd_T74 l0 x47_2).f3), .int .i64 ((rd_T74 l0 x47_2).f4)] 74 (0, 0)) (by (with_reducible repeat (first | refine blk_drewN ?_ _ | refine blk_drew ?_ | refine blk_alloc ?_ _)); refine blk_far ?_ NB150_152.out _; (with_reducible repeat (first | refine blk_drewN ?_ _ | refine blk_drew ?_ | refine blk_alloc ?_ _)); refine blk_far ?_ NB150_152.out _; (with_reducible repeat (first | refine blk_drewN ?_ _ | refine blk_drew ?_ | refine blk_alloc ?_ _)); refine blk_far ?_ NB150_152.out _; (with_reducible repeat (first | refine blk_drewN ?_ _ | refine blk_drew ?_ | refine blk_alloc ?_ _)); refine blk_far ?_ NB150_152.out _; (with_reducible repeat (first | refine blk_drewN ?_ _ | refine blk_drew ?_ | refine blk_alloc ?_ _)); refine blk_far ?_ NB150_152.out _; (with_reducible repeat (first | refine blk_drewN ?_ _ | refine blk_drew ?_ | refine blk_alloc ?_ _)); exact BK150.out) hg (Kd.R_ne HO_11.out BK150.out (by decide))); have n4_ := am_ (blk_grown (g := gb152) (o := .cells #[.int .i64 ((rd_T74 l0 x54_3).f0), .int .i64 ((rd_T74 l0 x54_3).f1), .int .i64 ((rd_T74 l0 x54_3).f2), .int .i64 ((rd_T74 l0 x54_3).f3), .int .i64 ((rd_T74 l0 x54_3).f4)] 74 (0, 0)) (by (with_reducible repeat (first | refine blk_drewN ?_ _ | refine blk_drew ?_ | refine blk_alloc ?_ _)); refine blk_put (cs := #[.int .i64 ((rd_T74 l0 x54_3).f0), .int .i64 ((rd_T74 l0 x54_3).f1), .int .i64 ((rd_T74 l0 x54_3).f2), .int .i64 ((rd_T74 l0 x54_3).f3), .int .i64 0]) ?_ 4 _ rfl; (with_reducible repeat (first | refine blk_drewN ?_ _ | refine blk_drew ?_ | refine blk_alloc ?_ _)); refine blk_put (cs := #[.int .i64 ((rd_T74 l0 x54_3).f0), .int .i64 ((rd_T74 l0 x54_3).f1), .int .i64 ((rd_T74 l0 x54_3).f2), .int .i64 0, .int .i64 0]) ?_ 3 _ rfl; (with_reducible repeat (first | refine blk_drewN ?_ _ | refine blk_drew ?_ | refine blk_alloc ?_ _)); refine blk_put (cs := #[.int .i64 ((rd_T74 l0 x54_3).f0), .int .i64 ((rd_T74 l0 x54_3).f1), .int .i64 0, .int .i64 0, .int .i64 0]) ?_ 2 _ rfl; (with_reducible repeat (first | refine blk_drewN ?_ _ | refine blk_drew ?_ | refine blk_alloc ?_ _)); refine blk_put (cs := #[.int .i64 ((rd_T74 l0 x54_3).f0), .int .i64 0, .int .i64 0, .int .i64 0, .int .i64 0]) ?_ 1 _ rfl; (with_reducible repeat (first | refine blk_drewN ?_ _ | refine blk_drew ?_ | refine blk_alloc ?_ _)); refine blk_put (cs := #[.int .i64 0, .int .i64 0, .int .i64 0, .int .i64 0, .int .i64 0]) ?_ 0 _ rfl; (with_reducible repeat (first | refine blk_drewN ?_ _ | refine blk_drew ?_ | refine blk_alloc ?_ _)); exact BK152.out) hg (Kd.R_ne HO_11.out BK152.out (by decide))); have n5_ := am_ (hb); have n6_ := am_ (ho); clear HO_11; replace HO_8 := n0_; replace HO_12 := n1_; replace HO_13 := n2_; replace BK150 := n3_; replace BK152 := n4_; replace HB := n5_; have HO155 := n6_; clear n0_ n1_ n2_ n3_ n4_ n5_ n6_; clear ho hb hg hat; have hcz39_0 := cz_ BK152.out 0; have hcz39_1 := cz_ BK152.out 1; have hcz39_2 := cz_ BK152.out 2; have hcz39_3 := cz_ BK152.out 3; have hcz39_4 := cz_ BK152.out 4; have hfz39_0 := blk_frozen BK152.out 0; have hfz39_1 := blk_frozen BK152.out 1; have hfz39_2 := blk_frozen BK152.out 2; have hfz39_3 := blk_frozen BK152.out 3; have hfz39_4 := blk_frozen BK152.out 4) | ((with_reducible refine gate_builtin (b := .append) (xs := #[.tmp 71, .tmp 74]) rfl ?_); at_builtin; refine Kd.R_append (Kd.int .i64) (w0 := w) w.heap.size rfl (.tmp 71) (.tmp 74) 24 3 (.int .i64 0) 8 rfl Try.underlying24 info3 rfl (by decide) (by omega) u12 x12_3 ((rd_T74 l0 x54_3).f2) [.int .i64 ((rd_T74 l0 x54_3).f2)] (fun k_ => nb k_ u13 ∧ nb k_ v154) (fun _ => False) rfl rfl ?aP (fun _ hk => hk.elim) ?aF ?aO ?aB ?aS ?aL ?_; (case aP => exact rfl); (case aB => exact (bw_ HB.out)); (case aF => exact (fun k_ hk => ⟨Kd.fresh' (Kd.R_lt (ra_ HO_13.out)) k_ hk, Kd.fresh' (Kd.R_lt (ra_ HO155.out)) k_ hk⟩)); (case aO => exact (ra_ HO_12.out)); (case aS => exact (below_size (bw_ HB.out))); (case aL => have := LMc33.out; omega); intro v157 w40 ho hb hg hat; rw [← Ny156.out] at ho; have n0_ := am_ (Kd.R_over' (ra_ HO_8.out) (Kd.R_typed (ra_ HO_12.out)) (by decide) hg); have n1_ := am_ (Kd.R_after (ok := (fun k_ => nb k_ v154)) (ra_ (Kd.R_mono HO_13.out (fun _ hk => ⟨hk.2, hk.1⟩))) hg hat); have n2_ := am_ (blk_grown (bk_ BK150.out) hg (Kd.R_ne HO_12.out BK150.out (by decide))); have n3_ := am_ (blk_grown (bk_ BK152.out) hg (Kd.R_ne HO_12.out BK152.out (by decide))); have n4_ := am_ (Kd.R_after (ok := (fun k_ => nb k_ u13)) (ra_ (Kd.R_mono HO155.out (fun _ hk => ⟨hk.2, hk.1⟩))) hg hat); have n5_ := am_ (hb); have n6_ := am_ (ho); clear HO_12; replace HO_8 := n0_; replace HO_13 := n1_; replace BK150 := n2_; replace BK152 := n3_; replace HO155 := n4_; replace HB := n5_; have HO158 := n6_; clear n0_ n1_ n2_ n3_ n4_ n5_ n6_; clear ho hb hg hat; have hcz41_0 := cz_ BK152.out 0; have hcz41_1 := cz_ BK152.out 1; have hcz41_2 := cz_ BK152.out 2; have hcz41_3 := cz_ BK152.out 3; have hcz41_4 := cz_ BK152.out 4; have hfz41_0 := blk_frozen BK152.out 0; have hfz41_1 := blk_frozen BK152.out 1; have hfz41_2 := blk_frozen BK152.out 2; have hfz41_3 := blk_frozen BK152.out 3; have hfz41_4 := blk_frozen BK152.out 4) | ((with_reducible refine gate_builtin (b := .append) (xs := #[.tmp 76, .tmp 79]) rfl ?_); at_builtin; refine Kd.R_append (Kd.int .i64) (w0 := w) w.heap.size rfl (.tmp 76) (.tmp 79) 24 3 (.int .i64 0) 8 rfl Try.underlying24 info3 rfl (by decide) (by omega) u13 x13_3 ((rd_T74 l0 x54_3).f3) [.int .i64 ((rd_T74 l0 x54_3).f3)] (fun k_ => nb k_ v154 ∧ nb k_ v157) (fun _ => False) rfl rfl ?aP (fun _ hk => hk.elim) ?aF ?aO ?aB ?aS ?aL ?_; (case aP => exact rfl); (case aB => exact (bw_ HB.out)); (case aF => exact (fun k_ hk => ⟨Kd.fresh' (Kd.R_lt (ra_ HO155.out)) k_ hk, Kd.fresh' (Kd.R_lt (ra_ HO158.out)) k_ hk⟩)); (case aO => exact (ra_ HO_13.out)); (case aS => exact (below_size (bw_ HB.out))); (case aL => have := LMc34.out; omega); intro v160 w42 ho hb hg hat; rw [← Ny159.out] at ho; have n0_ := am_ (Kd.R_over' (ra_ HO_8.out) (Kd.R_typed (ra_ HO_13.out)) (by decide) hg); have n1_ := am_ (blk_grown (bk_ BK150.out) hg (Kd.R_ne HO_13.out BK150.out (by decide))); have n2_ := am_ (blk_grown (bk_ BK152.out) hg (Kd.R_ne HO_13.out BK152.out (by decide))); have n3_ := am_ (Kd.R_after (ok := (fun k_ => nb k_ v157)) (ra_ (Kd.R_mono HO155.out (fun _ hk => ⟨hk.2, hk.1⟩))) hg hat); have n4_ := am_ (Kd.R_after (ok := (fun k_ => nb k_ v154)) (ra_ (Kd.R_mono HO158.out (fun _ hk => ⟨hk.2, hk.1⟩))) hg hat); have n5_ := am_ (hb); have n6_ := am_ (ho); clear HO_13; replace HO_8 := n0_; replace BK150 := n1_; replace BK152 := n2_; replace HO155 := n3_; replace HO158 := n4_; replace HB := n5_; have HO161 := n6_; clear n0_ n1_ n2_ n3_ n4_ n5_ n6_; clear ho hb hg hat))
            repeat (go_quiet (first | ((with_reducible refine gate_dst (N := 15) rfl ?_); refine bx_ 15 #[.int .i64 0, .int .i64 0, .int .i64 0, .int .i64 0, .int .i64 0] 74 ?_; intro gb152 hg w35 hbox hb; have n0_ := am_ (Kd.R_below (ra_ HO_8.out) hb); have n1_ := am_ (Kd.R_below (ra_ HO_11.out) hb); have n2_ := am_ (Kd.R_below (ra_ HO_12.out) hb); have n3_ := am_ (Kd.R_below (ra_ HO_13.out) hb); have n4_ := am_ (blk_below (bk_ BK150.out) hb); have n5_ := am_ (below_step (bw_ HB.out) hb); have n6_ := am_ (hbox); have n7_ := am_ (gs_ hg (bw_ HB.out)); have n8_ := am_ (gs_ hg (bw_ HB.out)); have n9_ := am_ (nl_ hg (bk_ BK150.out)); have n10_ := am_ (ng_ hg (bk_ BK150.out)); replace HO_8 := n0_; replace HO_11 := n1_; replace HO_12 := n2_; replace HO_13 := n3_; replace BK150 := n4_; replace HB := n5_; have BK152 := n6_; have GW152 := n7_; have GE152 := n8_; have NB150_152 := n9_; have NB152_150 := n10_; clear n0_ n1_ n2_ n3_ n4_ n5_ n6_ n7_ n8_ n9_ n10_; clear hb hbox hg; have hnb36 := NB152_150.out; have hnc36 := NB150_152.out; have hcz37_0 := cz_ BK152.out 0; have hcz37_1 := cz_ BK152.out 1; have hcz37_2 := cz_ BK152.out 2; have hcz37_3 := cz_ BK152.out 3; have hcz37_4 := cz_ BK152.out 4; have hfz37_0 := blk_frozen BK152.out 0; have hfz37_1 := blk_frozen BK152.out 1; have hfz37_2 := blk_frozen BK152.out 2; have hfz37_3 := blk_frozen BK152.out 3; have hfz37_4 := blk_frozen BK152.out 4) | ((with_reducible refine gate_builtin (b := .append) (xs := #[.tmp 67, .tmp 69]) rfl ?_); at_builtin; refine Kd.R_append (Kd.int .i64) (w0 := w) w.heap.size rfl (.tmp 67) (.tmp 69) 24 3 (.int .i64 0) 8 rfl Try.underlying24 info3 rfl (by decide) (by omega) u11 x11_3 x54_3 [.int .i64 x54_3] (fun k_ => nb k_ u12 ∧ nb k_ u13) (fun _ => False) rfl (by first | (go_simp; done) | (go_simp; rfl)) ?aP (fun _ hk => hk.elim) ?aF ?aO ?aB ?aS ?aL ?_; (case aP => exact rfl); (case aB => exact (bw_ HB.out)); (case aF => exact (fun k_ hk => ⟨Kd.fresh' (Kd.R_lt (ra_ ((Kd.R_mono (Kd.R_far (p := ⟨gb152, 4, none⟩) (Kd.R_far (p := ⟨gb152, 3, none⟩) (Kd.R_far (p := ⟨gb152, 2, none⟩) (Kd.R_far (p := ⟨gb152, 1, none⟩) (Kd.R_far (p := ⟨gb152, 0, none⟩) (Kd.R_types HO_12.out BK152.out (by decide)) (fun _ hk => hk.2) (.int .i64 ((rd_T74 l0 x54_3).f0))) (fun _ hk => hk.2) (.int .i64 ((rd_T74 l0 x54_3).f1))) (fun _ hk => hk.2) (.int .i64 ((rd_T74 l0 x54_3).f2))) (fun _ hk => hk.2) (.int .i64 ((rd_T74 l0 x54_3).f3))) (fun _ hk => hk.2) (.int .i64 ((rd_T74 l0 x54_3).f4))) (fun _ h_ => h_.1))))) k_ hk, Kd.fresh' (Kd.R_lt (ra_ ((Kd.R_mono (Kd.R_far (p := ⟨gb152, 4, none⟩) (Kd.R_far (p := ⟨gb152, 3, none⟩) (Kd.R_far (p := ⟨gb152, 2, none⟩) (Kd.R_far (p := ⟨gb152, 1, none⟩) (Kd.R_far (p := ⟨gb152, 0, none⟩) (Kd.R_types HO_13.out BK152.out (by decide)) (fun _ hk => hk.2) (.int .i64 ((rd_T74 l0 x54_3).f0))) (fun _ hk => hk.2) (.int .i64 ((rd_T74 l0 x54_3).f1))) (fun _ hk => hk.2) (.int .i64 ((rd_T74 l0 x54_3).f2))) (fun _ hk => hk.2) (.int .i64 ((rd_T74 l0 x54_3).f3))) (fun _ hk => hk.2) (.int .i64 ((rd_T74 l0 x54_3).f4))) (fun _ h_ => h_.1))))) k_ hk⟩)); (case aO => exact (ra_ (Kd.R_mono (Kd.R_far (p := ⟨gb152, 4, none⟩) (Kd.R_far (p := ⟨gb152, 3, none⟩) (Kd.R_far (p := ⟨gb152, 2, none⟩) (Kd.R_far (p := ⟨gb152, 1, none⟩) (Kd.R_far (p := ⟨gb152, 0, none⟩) (Kd.R_types HO_11.out BK152.out (by decide)) (fun _ hk => hk.2) (.int .i64 ((rd_T74 l0 x54_3).f0))) (fun _ hk => hk.2) (.int .i64 ((rd_T74 l0 x54_3).f1))) (fun _ hk => hk.2) (.int .i64 ((rd_T74 l0 x54_3).f2))) (fun _ hk => hk.2) (.int .i64 ((rd_T74 l0 x54_3).f3))) (fun _ hk => hk.2) (.int .i64 ((rd_T74 l0 x54_3).f4))) (fun _ hk => ⟨hk.1.1, hk.1.2⟩)))); (case aS => exact (below_size (bw_ HB.out))); (case aL => have := LMc32.out; omega); intro v154 w38 ho hb hg hat; rw [← Ny153.out] at ho; have n0_ := am_ (Kd.R_over' (ra_ ((Kd.R_mono (Kd.R_far (p := ⟨gb152, 4, none⟩) (Kd.R_far (p := ⟨gb152, 3, none⟩) (Kd.R_far (p := ⟨gb152, 2, none⟩) (Kd.R_far (p := ⟨gb152, 1, none⟩) (Kd.R_far (p := ⟨gb152, 0, none⟩) (Kd.R_types HO_8.out BK152.out (by decide)) (fun _ hk => hk.2) (.int .i64 ((rd_T74 l0 x54_3).f0))) (fun _ hk => hk.2) (.int .i64 ((rd_T74 l0 x54_3).f1))) (fun _ hk => hk.2) (.int .i64 ((rd_T74 l0 x54_3).f2))) (fun _ hk => hk.2) (.int .i64 ((rd_T74 l0 x54_3).f3))) (fun _ hk => hk.2) (.int .i64 ((rd_T74 l0 x54_3).f4))) (fun _ h_ => h_.1)))) (Kd.R_typed (ra_ ((Kd.R_mono (Kd.R_far (p := ⟨gb152, 4, none⟩) (Kd.R_far (p := ⟨gb152, 3, none⟩) (Kd.R_far (p := ⟨gb152, 2, none⟩) (Kd.R_far (p := ⟨gb152, 1, none⟩) (Kd.R_far (p := ⟨gb152, 0, none⟩) (Kd.R_types HO_11.out BK152.out (by decide)) (fun _ hk => hk.2) (.int .i64 ((rd_T74 l0 x54_3).f0))) (fun _ hk => hk.2) (.int .i64 ((rd_T74 l0 x54_3).f1))) (fun _ hk => hk.2) (.int .i64 ((rd_T74 l0 x54_3).f2))) (fun _ hk => hk.2) (.int .i64 ((rd_T74 l0 x54_3).f3))) (fun _ hk => hk.2) (.int .i64 ((rd_T74 l0 x54_3).f4))) (fun _ h_ => h_.1))))) (by decide) hg); have n1_ := am_ (Kd.R_after (ok := (fun k_ => nb k_ u13)) (ra_ (Kd.R_mono (Kd.R_far (p := ⟨gb152, 4, none⟩) (Kd.R_far (p := ⟨gb152, 3, none⟩) (Kd.R_far (p := ⟨gb152, 2, none⟩) (Kd.R_far (p := ⟨gb152, 1, none⟩) (Kd.R_far (p := ⟨gb152, 0, none⟩) (Kd.R_types HO_12.out BK152.out (by decide)) (fun _ hk => hk.2) (.int .i64 ((rd_T74 l0 x54_3).f0))) (fun _ hk => hk.2) (.int .i64 ((rd_T74 l0 x54_3).f1))) (fun _ hk => hk.2) (.int .i64 ((rd_T74 l0 x54_3).f2))) (fun _ hk => hk.2) (.int .i64 ((rd_T74 l0 x54_3).f3))) (fun _ hk => hk.2) (.int .i64 ((rd_T74 l0 x54_3).f4))) (fun _ hk => ⟨hk.1.2, hk.1.1⟩))) hg hat); have n2_ := am_ (Kd.R_after (ok := (fun k_ => nb k_ u12)) (ra_ (Kd.R_mono (Kd.R_far (p := ⟨gb152, 4, none⟩) (Kd.R_far (p := ⟨gb152, 3, none⟩) (Kd.R_far (p := ⟨gb152, 2, none⟩) (Kd.R_far (p := ⟨gb152, 1, none⟩) (Kd.R_far (p := ⟨gb152, 0, none⟩) (Kd.R_types HO_13.out BK152.out (by decide)) (fun _ hk => hk.2) (.int .i64 ((rd_T74 l0 x54_3).f0))) (fun _ hk => hk.2) (.int .i64 ((rd_T74 l0 x54_3).f1))) (fun _ hk => hk.2) (.int .i64 ((rd_T74 l0 x54_3).f2))) (fun _ hk => hk.2) (.int .i64 ((rd_T74 l0 x54_3).f3))) (fun _ hk => hk.2) (.int .i64 ((rd_T74 l0 x54_3).f4))) (fun _ hk => ⟨hk.1.2, hk.1.1⟩))) hg hat); have n3_ := am_ (blk_grown (g := gb150) (o := .cells #[.int .i64 ((rd_T74 l0 x47_2).f0), .int .i64 ((rd_T74 l0 x47_2).f1), .int .i64 ((rd_T74 l0 x47_2).f2), .int .i64 ((rd_T74 l0 x47_2).f3), .int .i64 ((rd_T74 l0 x47_2).f4)] 74 (0, 0)) (by (with_reducible repeat (first | refine blk_drewN ?_ _ | refine blk_drew ?_ | refine blk_alloc ?_ _)); refine blk_far ?_ NB150_152.out _; (with_reducible repeat (first | refine blk_drewN ?_ _ | refine blk_drew ?_ | refine blk_alloc ?_ _)); refine blk_far ?_ NB150_152.out _; (with_reducible repeat (first | refine blk_drewN ?_ _ | refine blk_drew ?_ | refine blk_alloc ?_ _)); refine blk_far ?_ NB150_152.out _; (with_reducible repeat (first | refine blk_drewN ?_ _ | refine blk_drew ?_ | refine blk_alloc ?_ _)); refine blk_far ?_ NB150_152.out _; (with_reducible repeat (first | refine blk_drewN ?_ _ | refine blk_drew ?_ | refine blk_alloc ?_ _)); refine blk_far ?_ NB150_152.out _; (with_reducible repeat (first | refine blk_drewN ?_ _ | refine blk_drew ?_ | refine blk_alloc ?_ _)); exact BK150.out) hg (Kd.R_ne HO_11.out BK150.out (by decide))); have n4_ := am_ (blk_grown (g := gb152) (o := .cells #[.int .i64 ((rd_T74 l0 x54_3).f0), .int .i64 ((rd_T74 l0 x54_3).f1), .int .i64 ((rd_T74 l0 x54_3).f2), .int .i64 ((rd_T74 l0 x54_3).f3), .int .i64 ((rd_T74 l0 x54_3).f4)] 74 (0, 0)) (by (with_reducible repeat (first | refine blk_drewN ?_ _ | refine blk_drew ?_ | refine blk_alloc ?_ _)); refine blk_put (cs := #[.int .i64 ((rd_T74 l0 x54_3).f0), .int .i64 ((rd_T74 l0 x54_3).f1), .int .i64 ((rd_T74 l0 x54_3).f2), .int .i64 ((rd_T74 l0 x54_3).f3), .int .i64 0]) ?_ 4 _ rfl; (with_reducible repeat (first | refine blk_drewN ?_ _ | refine blk_drew ?_ | refine blk_alloc ?_ _)); refine blk_put (cs := #[.int .i64 ((rd_T74 l0 x54_3).f0), .int .i64 ((rd_T74 l0 x54_3).f1), .int .i64 ((rd_T74 l0 x54_3).f2), .int .i64 0, .int .i64 0]) ?_ 3 _ rfl; (with_reducible repeat (first | refine blk_drewN ?_ _ | refine blk_drew ?_ | refine blk_alloc ?_ _)); refine blk_put (cs := #[.int .i64 ((rd_T74 l0 x54_3).f0), .int .i64 ((rd_T74 l0 x54_3).f1), .int .i64 0, .int .i64 0, .int .i64 0]) ?_ 2 _ rfl; (with_reducible repeat (first | refine blk_drewN ?_ _ | refine blk_drew ?_ | refine blk_alloc ?_ _)); refine blk_put (cs := #[.int .i64 ((rd_T74 l0 x54_3).f0), .int .i64 0, .int .i64 0, .int .i64 0, .int .i64 0]) ?_ 1 _ rfl; (with_reducible repeat (first | refine blk_drewN ?_ _ | refine blk_drew ?_ | refine blk_alloc ?_ _)); refine blk_put (cs := #[.int .i64 0, .int .i64 0, .int .i64 0, .int .i64 0, .int .i64 0]) ?_ 0 _ rfl; (with_reducible repeat (first | refine blk_drewN ?_ _ | refine blk_drew ?_ | refine blk_alloc ?_ _)); exact BK152.out) hg (Kd.R_ne HO_11.out BK152.out (by decide))); have n5_ := am_ (hb); have n6_ := am_ (ho); clear HO_11; replace HO_8 := n0_; replace HO_12 := n1_; replace HO_13 := n2_; replace BK150 := n3_; replace BK152 := n4_; replace HB := n5_; have HO155 := n6_; clear n0_ n1_ n2_ n3_ n4_ n5_ n6_; clear ho hb hg hat; have hcz39_0 := cz_ BK152.out 0; have hcz39_1 := cz_ BK152.out 1; have hcz39_2 := cz_ BK152.out 2; have hcz39_3 := cz_ BK152.out 3; have hcz39_4 := cz_ BK152.out 4; have hfz39_0 := blk_frozen BK152.out 0; have hfz39_1 := blk_frozen BK152.out 1; have hfz39_2 := blk_frozen BK152.out 2; have hfz39_3 := blk_frozen BK152.out 3; have hfz39_4 := blk_frozen BK152.out 4) | ((with_reducible refine gate_builtin (b := .append) (xs := #[.tmp 71, .tmp 74]) rfl ?_); at_builtin; refine Kd.R_append (Kd.int .i64) (w0 := w) w.heap.size rfl (.tmp 71) (.tmp 74) 24 3 (.int .i64 0) 8 rfl Try.underlying24 info3 rfl (by decide) (by omega) u12 x12_3 ((rd_T74 l0 x54_3).f2) [.int .i64 ((rd_T74 l0 x54_3).f2)] (fun k_ => nb k_ u13 ∧ nb k_ v154) (fun _ => False) rfl rfl ?aP (fun _ hk => hk.elim) ?aF ?aO ?aB ?aS ?aL ?_; (case aP => exact rfl); (case aB => exact (bw_ HB.out)); (case aF => exact (fun k_ hk => ⟨Kd.fresh' (Kd.R_lt (ra_ HO_13.out)) k_ hk, Kd.fresh' (Kd.R_lt (ra_ HO155.out)) k_ hk⟩)); (case aO => exact (ra_ HO_12.out)); (case aS => exact (below_size (bw_ HB.out))); (case aL => have := LMc33.out; omega); intro v157 w40 ho hb hg hat; rw [← Ny156.out] at ho; have n0_ := am_ (Kd.R_over' (ra_ HO_8.out) (Kd.R_typed (ra_ HO_12.out)) (by decide) hg); have n1_ := am_ (Kd.R_after (ok := (fun k_ => nb k_ v154)) (ra_ (Kd.R_mono HO_13.out (fun _ hk => ⟨hk.2, hk.1⟩))) hg hat); have n2_ := am_ (blk_grown (bk_ BK150.out) hg (Kd.R_ne HO_12.out BK150.out (by decide))); have n3_ := am_ (blk_grown (bk_ BK152.out) hg (Kd.R_ne HO_12.out BK152.out (by decide))); have n4_ := am_ (Kd.R_after (ok := (fun k_ => nb k_ u13)) (ra_ (Kd.R_mono HO155.out (fun _ hk => ⟨hk.2, hk.1⟩))) hg hat); have n5_ := am_ (hb); have n6_ := am_ (ho); clear HO_12; replace HO_8 := n0_; replace HO_13 := n1_; replace BK150 := n2_; replace BK152 := n3_; replace HO155 := n4_; replace HB := n5_; have HO158 := n6_; clear n0_ n1_ n2_ n3_ n4_ n5_ n6_; clear ho hb hg hat; have hcz41_0 := cz_ BK152.out 0; have hcz41_1 := cz_ BK152.out 1; have hcz41_2 := cz_ BK152.out 2; have hcz41_3 := cz_ BK152.out 3; have hcz41_4 := cz_ BK152.out 4; have hfz41_0 := blk_frozen BK152.out 0; have hfz41_1 := blk_frozen BK152.out 1; have hfz41_2 := blk_frozen BK152.out 2; have hfz41_3 := blk_frozen BK152.out 3; have hfz41_4 := blk_frozen BK152.out 4) | ((with_reducible refine gate_builtin (b := .append) (xs := #[.tmp 76, .tmp 79]) rfl ?_); at_builtin; refine Kd.R_append (Kd.int .i64) (w0 := w) w.heap.size rfl (.tmp 76) (.tmp 79) 24 3 (.int .i64 0) 8 rfl Try.underlying24 info3 rfl (by decide) (by omega) u13 x13_3 ((rd_T74 l0 x54_3).f3) [.int .i64 ((rd_T74 l0 x54_3).f3)] (fun k_ => nb k_ v154 ∧ nb k_ v157) (fun _ => False) rfl rfl ?aP (fun _ hk => hk.elim) ?aF ?aO ?aB ?aS ?aL ?_; (case aP => exact rfl); (case aB => exact (bw_ HB.out)); (case aF => exact (fun k_ hk => ⟨Kd.fresh' (Kd.R_lt (ra_ HO155.out)) k_ hk, Kd.fresh' (Kd.R_lt (ra_ HO158.out)) k_ hk⟩)); (case aO => exact (ra_ HO_13.out)); (case aS => exact (below_size (bw_ HB.out))); (case aL => have := LMc34.out; omega); intro v160 w42 ho hb hg hat; rw [← Ny159.out] at ho; have n0_ := am_ (Kd.R_over' (ra_ HO_8.out) (Kd.R_typed (ra_ HO_13.out)) (by decide) hg); have n1_ := am_ (blk_grown (bk_ BK150.out) hg (Kd.R_ne HO_13.out BK150.out (by decide))); have n2_ := am_ (blk_grown (bk_ BK152.out) hg (Kd.R_ne HO_13.out BK152.out (by decide))); have n3_ := am_ (Kd.R_after (ok := (fun k_ => nb k_ v157)) (ra_ (Kd.R_mono HO155.out (fun _ hk => ⟨hk.2, hk.1⟩))) hg hat); have n4_ := am_ (Kd.R_after (ok := (fun k_ => nb k_ v154)) (ra_ (Kd.R_mono HO158.out (fun _ hk => ⟨hk.2, hk.1⟩))) hg hat); have n5_ := am_ (hb); have n6_ := am_ (ho); clear HO_13; replace HO_8 := n0_; replace BK150 := n1_; replace BK152 := n2_; replace HO155 := n3_; replace HO158 := n4_; replace HB := n5_; have HO161 := n6_; clear n0_ n1_ n2_ n3_ n4_ n5_ n6_; clear ho hb hg hat)); try go_wp2_with (first | ((with_reducible refine gate_dst (N := 15) rfl ?_); refine bx_ 15 #[.int .i64 0, .int .i64 0, .int .i64 0, .int .i64 0, .int .i64 0] 74 ?_; intro gb152 hg w35 hbox hb; have n0_ := am_ (Kd.R_below (ra_ HO_8.out) hb); have n1_ := am_ (Kd.R_below (ra_ HO_11.out) hb); have n2_ := am_ (Kd.R_below (ra_ HO_12.out) hb); have n3_ := am_ (Kd.R_below (ra_ HO_13.out) hb); have n4_ := am_ (blk_below (bk_ BK150.out) hb); have n5_ := am_ (below_step (bw_ HB.out) hb); have n6_ := am_ (hbox); have n7_ := am_ (gs_ hg (bw_ HB.out)); have n8_ := am_ (gs_ hg (bw_ HB.out)); have n9_ := am_ (nl_ hg (bk_ BK150.out)); have n10_ := am_ (ng_ hg (bk_ BK150.out)); replace HO_8 := n0_; replace HO_11 := n1_; replace HO_12 := n2_; replace HO_13 := n3_; replace BK150 := n4_; replace HB := n5_; have BK152 := n6_; have GW152 := n7_; have GE152 := n8_; have NB150_152 := n9_; have NB152_150 := n10_; clear n0_ n1_ n2_ n3_ n4_ n5_ n6_ n7_ n8_ n9_ n10_; clear hb hbox hg; have hnb36 := NB152_150.out; have hnc36 := NB150_152.out; have hcz37_0 := cz_ BK152.out 0; have hcz37_1 := cz_ BK152.out 1; have hcz37_2 := cz_ BK152.out 2; have hcz37_3 := cz_ BK152.out 3; have hcz37_4 := cz_ BK152.out 4; have hfz37_0 := blk_frozen BK152.out 0; have hfz37_1 := blk_frozen BK152.out 1; have hfz37_2 := blk_frozen BK152.out 2; have hfz37_3 := blk_frozen BK152.out 3; have hfz37_4 := blk_frozen BK152.out 4) | ((with_reducible refine gate_builtin (b := .append) (xs := #[.tmp 67, .tmp 69]) rfl ?_); at_builtin; refine Kd.R_append (Kd.int .i64) (w0 := w) w.heap.size rfl (.tmp 67) (.tmp 69) 24 3 (.int .i64 0) 8 rfl Try.underlying24 info3 rfl (by decide) (by omega) u11 x11_3 x54_3 [.int .i64 x54_3] (fun k_ => nb k_ u12 ∧ nb k_ u13) (fun _ => False) rfl (by first | (go_simp; done) | (go_simp; rfl)) ?aP (fun _ hk => hk.elim) ?aF ?aO ?aB ?aS ?aL ?_; (case aP => exact rfl); (case aB => exact (bw_ HB.out)); (case aF => exact (fun k_ hk => ⟨Kd.fresh' (Kd.R_lt (ra_ ((Kd.R_mono (Kd.R_far (p := ⟨gb152, 4, none⟩) (Kd.R_far (p := ⟨gb152, 3, none⟩) (Kd.R_far (p := ⟨gb152, 2, none⟩) (Kd.R_far (p := ⟨gb152, 1, none⟩) (Kd.R_far (p := ⟨gb152, 0, none⟩) (Kd.R_types HO_12.out BK152.out (by decide)) (fun _ hk => hk.2) (.int .i64 ((rd_T74 l0 x54_3).f0))) (fun _ hk => hk.2) (.int .i64 ((rd_T74 l0 x54_3).f1))) (fun _ hk => hk.2) (.int .i64 ((rd_T74 l0 x54_3).f2))) (fun _ hk => hk.2) (.int .i64 ((rd_T74 l0 x54_3).f3))) (fun _ hk => hk.2) (.int .i64 ((rd_T74 l0 x54_3).f4))) (fun _ h_ => h_.1))))) k_ hk, Kd.fresh' (Kd.R_lt (ra_ ((Kd.R_mono (Kd.R_far (p := ⟨gb152, 4, none⟩) (Kd.R_far (p := ⟨gb152, 3, none⟩) (Kd.R_far (p := ⟨gb152, 2, none⟩) (Kd.R_far (p := ⟨gb152, 1, none⟩) (Kd.R_far (p := ⟨gb152, 0, none⟩) (Kd.R_types HO_13.out BK152.out (by decide)) (fun _ hk => hk.2) (.int .i64 ((rd_T74 l0 x54_3).f0))) (fun _ hk => hk.2) (.int .i64 ((rd_T74 l0 x54_3).f1))) (fun _ hk => hk.2) (.int .i64 ((rd_T74 l0 x54_3).f2))) (fun _ hk => hk.2) (.int .i64 ((rd_T74 l0 x54_3).f3))) (fun _ hk => hk.2) (.int .i64 ((rd_T74 l0 x54_3).f4))) (fun _ h_ => h_.1))))) k_ hk⟩)); (case aO => exact (ra_ (Kd.R_mono (Kd.R_far (p := ⟨gb152, 4, none⟩) (Kd.R_far (p := ⟨gb152, 3, none⟩) (Kd.R_far (p := ⟨gb152, 2, none⟩) (Kd.R_far (p := ⟨gb152, 1, none⟩) (Kd.R_far (p := ⟨gb152, 0, none⟩) (Kd.R_types HO_11.out BK152.out (by decide)) (fun _ hk => hk.2) (.int .i64 ((rd_T74 l0 x54_3).f0))) (fun _ hk => hk.2) (.int .i64 ((rd_T74 l0 x54_3).f1))) (fun _ hk => hk.2) (.int .i64 ((rd_T74 l0 x54_3).f2))) (fun _ hk => hk.2) (.int .i64 ((rd_T74 l0 x54_3).f3))) (fun _ hk => hk.2) (.int .i64 ((rd_T74 l0 x54_3).f4))) (fun _ hk => ⟨hk.1.1, hk.1.2⟩)))); (case aS => exact (below_size (bw_ HB.out))); (case aL => have := LMc32.out; omega); intro v154 w38 ho hb hg hat; rw [← Ny153.out] at ho; have n0_ := am_ (Kd.R_over' (ra_ ((Kd.R_mono (Kd.R_far (p := ⟨gb152, 4, none⟩) (Kd.R_far (p := ⟨gb152, 3, none⟩) (Kd.R_far (p := ⟨gb152, 2, none⟩) (Kd.R_far (p := ⟨gb152, 1, none⟩) (Kd.R_far (p := ⟨gb152, 0, none⟩) (Kd.R_types HO_8.out BK152.out (by decide)) (fun _ hk => hk.2) (.int .i64 ((rd_T74 l0 x54_3).f0))) (fun _ hk => hk.2) (.int .i64 ((rd_T74 l0 x54_3).f1))) (fun _ hk => hk.2) (.int .i64 ((rd_T74 l0 x54_3).f2))) (fun _ hk => hk.2) (.int .i64 ((rd_T74 l0 x54_3).f3))) (fun _ hk => hk.2) (.int .i64 ((rd_T74 l0 x54_3).f4))) (fun _ h_ => h_.1)))) (Kd.R_typed (ra_ ((Kd.R_mono (Kd.R_far (p := ⟨gb152, 4, none⟩) (Kd.R_far (p := ⟨gb152, 3, none⟩) (Kd.R_far (p := ⟨gb152, 2, none⟩) (Kd.R_far (p := ⟨gb152, 1, none⟩) (Kd.R_far (p := ⟨gb152, 0, none⟩) (Kd.R_types HO_11.out BK152.out (by decide)) (fun _ hk => hk.2) (.int .i64 ((rd_T74 l0 x54_3).f0))) (fun _ hk => hk.2) (.int .i64 ((rd_T74 l0 x54_3).f1))) (fun _ hk => hk.2) (.int .i64 ((rd_T74 l0 x54_3).f2))) (fun _ hk => hk.2) (.int .i64 ((rd_T74 l0 x54_3).f3))) (fun _ hk => hk.2) (.int .i64 ((rd_T74 l0 x54_3).f4))) (fun _ h_ => h_.1))))) (by decide) hg); have n1_ := am_ (Kd.R_after (ok := (fun k_ => nb k_ u13)) (ra_ (Kd.R_mono (Kd.R_far (p := ⟨gb152, 4, none⟩) (Kd.R_far (p := ⟨gb152, 3, none⟩) (Kd.R_far (p := ⟨gb152, 2, none⟩) (Kd.R_far (p := ⟨gb152, 1, none⟩) (Kd.R_far (p := ⟨gb152, 0, none⟩) (Kd.R_types HO_12.out BK152.out (by decide)) (fun _ hk => hk.2) (.int .i64 ((rd_T74 l0 x54_3).f0))) (fun _ hk => hk.2) (.int .i64 ((rd_T74 l0 x54_3).f1))) (fun _ hk => hk.2) (.int .i64 ((rd_T74 l0 x54_3).f2))) (fun _ hk => hk.2) (.int .i64 ((rd_T74 l0 x54_3).f3))) (fun _ hk => hk.2) (.int .i64 ((rd_T74 l0 x54_3).f4))) (fun _ hk => ⟨hk.1.2, hk.1.1⟩))) hg hat); have n2_ := am_ (Kd.R_after (ok := (fun k_ => nb k_ u12)) (ra_ (Kd.R_mono (Kd.R_far (p := ⟨gb152, 4, none⟩) (Kd.R_far (p := ⟨gb152, 3, none⟩) (Kd.R_far (p := ⟨gb152, 2, none⟩) (Kd.R_far (p := ⟨gb152, 1, none⟩) (Kd.R_far (p := ⟨gb152, 0, none⟩) (Kd.R_types HO_13.out BK152.out (by decide)) (fun _ hk => hk.2) (.int .i64 ((rd_T74 l0 x54_3).f0))) (fun _ hk => hk.2) (.int .i64 ((rd_T74 l0 x54_3).f1))) (fun _ hk => hk.2) (.int .i64 ((rd_T74 l0 x54_3).f2))) (fun _ hk => hk.2) (.int .i64 ((rd_T74 l0 x54_3).f3))) (fun _ hk => hk.2) (.int .i64 ((rd_T74 l0 x54_3).f4))) (fun _ hk => ⟨hk.1.2, hk.1.1⟩))) hg hat); have n3_ := am_ (blk_grown (g := gb150) (o := .cells #[.int .i64 ((rd_T74 l0 x47_2).f0), .int .i64 ((rd_T74 l0 x47_2).f1), .int .i64 ((rd_T74 l0 x47_2).f2), .int .i64 ((rd_T74 l0 x47_2).f3), .int .i64 ((rd_T74 l0 x47_2).f4)] 74 (0, 0)) (by (with_reducible repeat (first | refine blk_drewN ?_ _ | refine blk_drew ?_ | refine blk_alloc ?_ _)); refine blk_far ?_ NB150_152.out _; (with_reducible repeat (first | refine blk_drewN ?_ _ | refine blk_drew ?_ | refine blk_alloc ?_ _)); refine blk_far ?_ NB150_152.out _; (with_reducible repeat (first | refine blk_drewN ?_ _ | refine blk_drew ?_ | refine blk_alloc ?_ _)); refine blk_far ?_ NB150_152.out _; (with_reducible repeat (first | refine blk_drewN ?_ _ | refine blk_drew ?_ | refine blk_alloc ?_ _)); refine blk_far ?_ NB150_152.out _; (with_reducible repeat (first | refine blk_drewN ?_ _ | refine blk_drew ?_ | refine blk_alloc ?_ _)); refine blk_far ?_ NB150_152.out _; (with_reducible repeat (first | refine blk_drewN ?_ _ | refine blk_drew ?_ | refine blk_alloc ?_ _)); exact BK150.out) hg (Kd.R_ne HO_11.out BK150.out (by decide))); have n4_ := am_ (blk_grown (g := gb152) (o := .cells #[.int .i64 ((rd_T74 l0 x54_3).f0), .int .i64 ((rd_T74 l0 x54_3).f1), .int .i64 ((rd_T74 l0 x54_3).f2), .int .i64 ((rd_T74 l0 x54_3).f3), .int .i64 ((rd_T74 l0 x54_3).f4)] 74 (0, 0)) (by (with_reducible repeat (first | refine blk_drewN ?_ _ | refine blk_drew ?_ | refine blk_alloc ?_ _)); refine blk_put (cs := #[.int .i64 ((rd_T74 l0 x54_3).f0), .int .i64 ((rd_T74 l0 x54_3).f1), .int .i64 ((rd_T74 l0 x54_3).f2), .int .i64 ((rd_T74 l0 x54_3).f3), .int .i64 0]) ?_ 4 _ rfl; (with_reducible repeat (first | refine blk_drewN ?_ _ | refine blk_drew ?_ | refine blk_alloc ?_ _)); refine blk_put (cs := #[.int .i64 ((rd_T74 l0 x54_3).f0), .int .i64 ((rd_T74 l0 x54_3).f1), .int .i64 ((rd_T74 l0 x54_3).f2), .int .i64 0, .int .i64 0]) ?_ 3 _ rfl; (with_reducible repeat (first | refine blk_drewN ?_ _ | refine blk_drew ?_ | refine blk_alloc ?_ _)); refine blk_put (cs := #[.int .i64 ((rd_T74 l0 x54_3).f0), .int .i64 ((rd_T74 l0 x54_3).f1), .int .i64 0, .int .i64 0, .int .i64 0]) ?_ 2 _ rfl; (with_reducible repeat (first | refine blk_drewN ?_ _ | refine blk_drew ?_ | refine blk_alloc ?_ _)); refine blk_put (cs := #[.int .i64 ((rd_T74 l0 x54_3).f0), .int .i64 0, .int .i64 0, .int .i64 0, .int .i64 0]) ?_ 1 _ rfl; (with_reducible repeat (first | refine blk_drewN ?_ _ | refine blk_drew ?_ | refine blk_alloc ?_ _)); refine blk_put (cs := #[.int .i64 0, .int .i64 0, .int .i64 0, .int .i64 0, .int .i64 0]) ?_ 0 _ rfl; (with_reducible repeat (first | refine blk_drewN ?_ _ | refine blk_drew ?_ | refine blk_alloc ?_ _)); exact BK152.out) hg (Kd.R_ne HO_11.out BK152.out (by decide))); have n5_ := am_ (hb); have n6_ := am_ (ho); clear HO_11; replace HO_8 := n0_; replace HO_12 := n1_; replace HO_13 := n2_; replace BK150 := n3_; replace BK152 := n4_; replace HB := n5_; have HO155 := n6_; clear n0_ n1_ n2_ n3_ n4_ n5_ n6_; clear ho hb hg hat; have hcz39_0 := cz_ BK152.out 0; have hcz39_1 := cz_ BK152.out 1; have hcz39_2 := cz_ BK152.out 2; have hcz39_3 := cz_ BK152.out 3; have hcz39_4 := cz_ BK152.out 4; have hfz39_0 := blk_frozen BK152.out 0; have hfz39_1 := blk_frozen BK152.out 1; have hfz39_2 := blk_frozen BK152.out 2; have hfz39_3 := blk_frozen BK152.out 3; have hfz39_4 := blk_frozen BK152.out 4) | ((with_reducible refine gate_builtin (b := .append) (xs := #[.tmp 71, .tmp 74]) rfl ?_); at_builtin; refine Kd.R_append (Kd.int .i64) (w0 := w) w.heap.size rfl (.tmp 71) (.tmp 74) 24 3 (.int .i64 0) 8 rfl Try.underlying24 info3 rfl (by decide) (by omega) u12 x12_3 ((rd_T74 l0 x54_3).f2) [.int .i64 ((rd_T74 l0 x54_3).f2)] (fun k_ => nb k_ u13 ∧ nb k_ v154) (fun _ => False) rfl rfl ?aP (fun _ hk => hk.elim) ?aF ?aO ?aB ?aS ?aL ?_; (case aP => exact rfl); (case aB => exact (bw_ HB.out)); (case aF => exact (fun k_ hk => ⟨Kd.fresh' (Kd.R_lt (ra_ HO_13.out)) k_ hk, Kd.fresh' (Kd.R_lt (ra_ HO155.out)) k_ hk⟩)); (case aO => exact (ra_ HO_12.out)); (case aS => exact (below_size (bw_ HB.out))); (case aL => have := LMc33.out; omega); intro v157 w40 ho hb hg hat; rw [← Ny156.out] at ho; have n0_ := am_ (Kd.R_over' (ra_ HO_8.out) (Kd.R_typed (ra_ HO_12.out)) (by decide) hg); have n1_ := am_ (Kd.R_after (ok := (fun k_ => nb k_ v154)) (ra_ (Kd.R_mono HO_13.out (fun _ hk => ⟨hk.2, hk.1⟩))) hg hat); have n2_ := am_ (blk_grown (bk_ BK150.out) hg (Kd.R_ne HO_12.out BK150.out (by decide))); have n3_ := am_ (blk_grown (bk_ BK152.out) hg (Kd.R_ne HO_12.out BK152.out (by decide))); have n4_ := am_ (Kd.R_after (ok := (fun k_ => nb k_ u13)) (ra_ (Kd.R_mono HO155.out (fun _ hk => ⟨hk.2, hk.1⟩))) hg hat); have n5_ := am_ (hb); have n6_ := am_ (ho); clear HO_12; replace HO_8 := n0_; replace HO_13 := n1_; replace BK150 := n2_; replace BK152 := n3_; replace HO155 := n4_; replace HB := n5_; have HO158 := n6_; clear n0_ n1_ n2_ n3_ n4_ n5_ n6_; clear ho hb hg hat; have hcz41_0 := cz_ BK152.out 0; have hcz41_1 := cz_ BK152.out 1; have hcz41_2 := cz_ BK152.out 2; have hcz41_3 := cz_ BK152.out 3; have hcz41_4 := cz_ BK152.out 4; have hfz41_0 := blk_frozen BK152.out 0; have hfz41_1 := blk_frozen BK152.out 1; have hfz41_2 := blk_frozen BK152.out 2; have hfz41_3 := blk_frozen BK152.out 3; have hfz41_4 := blk_frozen BK152.out 4) | ((with_reducible refine gate_builtin (b := .append) (xs := #[.tmp 76, .tmp 79]) rfl ?_); at_builtin; refine Kd.R_append (Kd.int .i64) (w0 := w) w.heap.size rfl (.tmp 76) (.tmp 79) 24 3 (.int .i64 0) 8 rfl Try.underlying24 info3 rfl (by decide) (by omega) u13 x13_3 ((rd_T74 l0 x54_3).f3) [.int .i64 ((rd_T74 l0 x54_3).f3)] (fun k_ => nb k_ v154 ∧ nb k_ v157) (fun _ => False) rfl rfl ?aP (fun _ hk => hk.elim) ?aF ?aO ?aB ?aS ?aL ?_; (case aP => exact rfl); (case aB => exact (bw_ HB.out)); (case aF => exact (fun k_ hk => ⟨Kd.fresh' (Kd.R_lt (ra_ HO155.out)) k_ hk, Kd.fresh' (Kd.R_lt (ra_ HO158.out)) k_ hk⟩)); (case aO => exact (ra_ HO_13.out)); (case aS => exact (below_size (bw_ HB.out))); (case aL => have := LMc34.out; omega); intro v160 w42 ho hb hg hat; rw [← Ny159.out] at ho; have n0_ := am_ (Kd.R_over' (ra_ HO_8.out) (Kd.R_typed (ra_ HO_13.out)) (by decide) hg); have n1_ := am_ (blk_grown (bk_ BK150.out) hg (Kd.R_ne HO_13.out BK150.out (by decide))); have n2_ := am_ (blk_grown (bk_ BK152.out) hg (Kd.R_ne HO_13.out BK152.out (by decide))); have n3_ := am_ (Kd.R_after (ok := (fun k_ => nb k_ v157)) (ra_ (Kd.R_mono HO155.out (fun _ hk => ⟨hk.2, hk.1⟩))) hg hat); have n4_ := am_ (Kd.R_after (ok := (fun k_ => nb k_ v154)) (ra_ (Kd.R_mono HO158.out (fun _ hk => ⟨hk.2, hk.1⟩))) hg hat); have n5_ := am_ (hb); have n6_ := am_ (ho); clear HO_13; replace HO_8 := n0_; replace BK150 := n1_; replace BK152 := n2_; replace HO155 := n3_; replace HO158 := n4_; replace HB := n5_; have HO161 := n6_; clear n0_ n1_ n2_ n3_ n4_ n5_ n6_; clear ho hb hg hat)))
            go_roundg k3
            case measure => have := HJ3.out; have := HK2.out; have := HK3.out; omega
            case rel => exact ⟨(y153), (y156), (y159), (wrap64 (x54_3 + 1)), sq_, H', ⟨by have := HJ3.out; have := HK2.out; have := HK3.out; omega⟩, ⟨by (try simp only [hl8_2]); (with_reducible repeat (first | apply Kd.R_alloc | apply Kd.R_drewN | apply Kd.R_drew)); exact HO_8.out⟩, ⟨by (try simp only [hl8_2]); (with_reducible repeat (first | apply Kd.R_alloc | apply Kd.R_drewN | apply Kd.R_drew)); exact HO155.out⟩, ⟨by (try simp only [hl8_2]); (with_reducible repeat (first | apply Kd.R_alloc | apply Kd.R_drewN | apply Kd.R_drew)); exact HO158.out⟩, ⟨by (try simp only [hl8_2]); (with_reducible repeat (first | apply Kd.R_alloc | apply Kd.R_drewN | apply Kd.R_drew)); exact HO161.out⟩, ⟨by (try simp only [hl8_2]); (with_reducible repeat (first | refine blk_drewN ?_ _ | refine blk_drew ?_ | refine blk_alloc ?_ _)); exact BK150.out⟩, ⟨bw_ HB.out⟩⟩
           ·rw [if_neg c31] at H
            have c31b0 : (((rd_T74 l0 x54_3).f0) == x47_2) = false := beq_eq_false_iff_ne.mpr c31
            have c31b1 : (((rd_T74 l0 x54_3).f0) != x47_2) = true := bne_iff_ne.mpr c31
            have H' := am_ H
            clear H
            have p151 : 0 ≤ (x54_3 : Int) := od_
            have q151 : x54_3 < (l0.length : Int) := od_
            obtain ⟨ad151, e151, hx151_0, hx151_1, hx151_2, hx151_3, hx151_4⟩ := at_T74 HR0.out x54_3 p151 q151
            obtain rfl : ad149 = ad151 := (by injection e151)
            (try replace hx151_0 := hc_ HB.out hx151_0)
            (try replace hx151_1 := hc_ HB.out hx151_1)
            (try replace hx151_2 := hc_ HB.out hx151_2)
            (try replace hx151_3 := hc_ HB.out hx151_3)
            (try replace hx151_4 := hc_ HB.out hx151_4)
            replace p151 := eq_true p151
            replace q151 := eq_true q151
            go_wp2_with (first | ((with_reducible refine gate_dst (N := 15) rfl ?_); refine bx_ 15 #[.int .i64 0, .int .i64 0, .int .i64 0, .int .i64 0, .int .i64 0] 74 ?_; intro gb152 hg w43 hbox hb; have n0_ := am_ (Kd.R_below (ra_ HO_8.out) hb); have n1_ := am_ (Kd.R_below (ra_ HO_11.out) hb); have n2_ := am_ (Kd.R_below (ra_ HO_12.out) hb); have n3_ := am_ (Kd.R_below (ra_ HO_13.out) hb); have n4_ := am_ (blk_below (bk_ BK150.out) hb); have n5_ := am_ (below_step (bw_ HB.out) hb); have n6_ := am_ (hbox); have n7_ := am_ (gs_ hg (bw_ HB.out)); have n8_ := am_ (gs_ hg (bw_ HB.out)); have n9_ := am_ (nl_ hg (bk_ BK150.out)); have n10_ := am_ (ng_ hg (bk_ BK150.out)); replace HO_8 := n0_; replace HO_11 := n1_; replace HO_12 := n2_; replace HO_13 := n3_; replace BK150 := n4_; replace HB := n5_; have BK152 := n6_; have GW152 := n7_; have GE152 := n8_; have NB150_152 := n9_; have NB152_150 := n10_; clear n0_ n1_ n2_ n3_ n4_ n5_ n6_ n7_ n8_ n9_ n10_; clear hb hbox hg; have hnb44 := NB152_150.out; have hnc44 := NB150_152.out; have hcz45_0 := cz_ BK152.out 0; have hcz45_1 := cz_ BK152.out 1; have hcz45_2 := cz_ BK152.out 2; have hcz45_3 := cz_ BK152.out 3; have hcz45_4 := cz_ BK152.out 4; have hfz45_0 := blk_frozen BK152.out 0; have hfz45_1 := blk_frozen BK152.out 1; have hfz45_2 := blk_frozen BK152.out 2; have hfz45_3 := blk_frozen BK152.out 3; have hfz45_4 := blk_frozen BK152.out 4))
            repeat (go_quiet (first | ((with_reducible refine gate_dst (N := 15) rfl ?_); refine bx_ 15 #[.int .i64 0, .int .i64 0, .int .i64 0, .int .i64 0, .int .i64 0] 74 ?_; intro gb152 hg w43 hbox hb; have n0_ := am_ (Kd.R_below (ra_ HO_8.out) hb); have n1_ := am_ (Kd.R_below (ra_ HO_11.out) hb); have n2_ := am_ (Kd.R_below (ra_ HO_12.out) hb); have n3_ := am_ (Kd.R_below (ra_ HO_13.out) hb); have n4_ := am_ (blk_below (bk_ BK150.out) hb); have n5_ := am_ (below_step (bw_ HB.out) hb); have n6_ := am_ (hbox); have n7_ := am_ (gs_ hg (bw_ HB.out)); have n8_ := am_ (gs_ hg (bw_ HB.out)); have n9_ := am_ (nl_ hg (bk_ BK150.out)); have n10_ := am_ (ng_ hg (bk_ BK150.out)); replace HO_8 := n0_; replace HO_11 := n1_; replace HO_12 := n2_; replace HO_13 := n3_; replace BK150 := n4_; replace HB := n5_; have BK152 := n6_; have GW152 := n7_; have GE152 := n8_; have NB150_152 := n9_; have NB152_150 := n10_; clear n0_ n1_ n2_ n3_ n4_ n5_ n6_ n7_ n8_ n9_ n10_; clear hb hbox hg; have hnb44 := NB152_150.out; have hnc44 := NB150_152.out; have hcz45_0 := cz_ BK152.out 0; have hcz45_1 := cz_ BK152.out 1; have hcz45_2 := cz_ BK152.out 2; have hcz45_3 := cz_ BK152.out 3; have hcz45_4 := cz_ BK152.out 4; have hfz45_0 := blk_frozen BK152.out 0; have hfz45_1 := blk_frozen BK152.out 1; have hfz45_2 := blk_frozen BK152.out 2; have hfz45_3 := blk_frozen BK152.out 3; have hfz45_4 := blk_frozen BK152.out 4)); try go_wp2_with (first | ((with_reducible refine gate_dst (N := 15) rfl ?_); refine bx_ 15 #[.int .i64 0, .int .i64 0, .int .i64 0, .int .i64 0, .int .i64 0] 74 ?_; intro gb152 hg w43 hbox hb; have n0_ := am_ (Kd.R_below (ra_ HO_8.out) hb); have n1_ := am_ (Kd.R_below (ra_ HO_11.out) hb); have n2_ := am_ (Kd.R_below (ra_ HO_12.out) hb); have n3_ := am_ (Kd.R_below (ra_ HO_13.out) hb); have n4_ := am_ (blk_below (bk_ BK150.out) hb); have n5_ := am_ (below_step (bw_ HB.out) hb); have n6_ := am_ (hbox); have n7_ := am_ (gs_ hg (bw_ HB.out)); have n8_ := am_ (gs_ hg (bw_ HB.out)); have n9_ := am_ (nl_ hg (bk_ BK150.out)); have n10_ := am_ (ng_ hg (bk_ BK150.out)); replace HO_8 := n0_; replace HO_11 := n1_; replace HO_12 := n2_; replace HO_13 := n3_; replace BK150 := n4_; replace HB := n5_; have BK152 := n6_; have GW152 := n7_; have GE152 := n8_; have NB150_152 := n9_; have NB152_150 := n10_; clear n0_ n1_ n2_ n3_ n4_ n5_ n6_ n7_ n8_ n9_ n10_; clear hb hbox hg; have hnb44 := NB152_150.out; have hnc44 := NB150_152.out; have hcz45_0 := cz_ BK152.out 0; have hcz45_1 := cz_ BK152.out 1; have hcz45_2 := cz_ BK152.out 2; have hcz45_3 := cz_ BK152.out 3; have hcz45_4 := cz_ BK152.out 4; have hfz45_0 := blk_frozen BK152.out 0; have hfz45_1 := blk_frozen BK152.out 1; have hfz45_2 := blk_frozen BK152.out 2; have hfz45_3 := blk_frozen BK152.out 3; have hfz45_4 := blk_frozen BK152.out 4)))
            go_roundg k3
            case measure => have := HJ3.out; have := HK2.out; have := HK3.out; omega
            case rel => exact ⟨(x11_3), (x12_3), (x13_3), (wrap64 (x54_3 + 1)), sq_, H', ⟨by have := HJ3.out; have := HK2.out; have := HK3.out; omega⟩, ⟨by (try simp only [hl8_2]); (with_reducible repeat (first | apply Kd.R_alloc | apply Kd.R_drewN | apply Kd.R_drew)); exact Kd.R_mono (Kd.R_far (p := ⟨gb152, 4, none⟩) (Kd.R_far (p := ⟨gb152, 3, none⟩) (Kd.R_far (p := ⟨gb152, 2, none⟩) (Kd.R_far (p := ⟨gb152, 1, none⟩) (Kd.R_far (p := ⟨gb152, 0, none⟩) (Kd.R_types HO_8.out BK152.out (by decide)) (fun _ hk => hk.2) (.int .i64 ((rd_T74 l0 x54_3).f0))) (fun _ hk => hk.2) (.int .i64 ((rd_T74 l0 x54_3).f1))) (fun _ hk => hk.2) (.int .i64 ((rd_T74 l0 x54_3).f2))) (fun _ hk => hk.2) (.int .i64 ((rd_T74 l0 x54_3).f3))) (fun _ hk => hk.2) (.int .i64 ((rd_T74 l0 x54_3).f4))) (fun _ hk => trivial)⟩, ⟨by (try simp only [hl8_2]); (with_reducible repeat (first | apply Kd.R_alloc | apply Kd.R_drewN | apply Kd.R_drew)); exact Kd.R_mono (Kd.R_far (p := ⟨gb152, 4, none⟩) (Kd.R_far (p := ⟨gb152, 3, none⟩) (Kd.R_far (p := ⟨gb152, 2, none⟩) (Kd.R_far (p := ⟨gb152, 1, none⟩) (Kd.R_far (p := ⟨gb152, 0, none⟩) (Kd.R_types HO_11.out BK152.out (by decide)) (fun _ hk => hk.2) (.int .i64 ((rd_T74 l0 x54_3).f0))) (fun _ hk => hk.2) (.int .i64 ((rd_T74 l0 x54_3).f1))) (fun _ hk => hk.2) (.int .i64 ((rd_T74 l0 x54_3).f2))) (fun _ hk => hk.2) (.int .i64 ((rd_T74 l0 x54_3).f3))) (fun _ hk => hk.2) (.int .i64 ((rd_T74 l0 x54_3).f4))) (fun _ hk => ⟨hk.1.1, hk.1.2⟩)⟩, ⟨by (try simp only [hl8_2]); (with_reducible repeat (first | apply Kd.R_alloc | apply Kd.R_drewN | apply Kd.R_drew)); exact Kd.R_mono (Kd.R_far (p := ⟨gb152, 4, none⟩) (Kd.R_far (p := ⟨gb152, 3, none⟩) (Kd.R_far (p := ⟨gb152, 2, none⟩) (Kd.R_far (p := ⟨gb152, 1, none⟩) (Kd.R_far (p := ⟨gb152, 0, none⟩) (Kd.R_types HO_12.out BK152.out (by decide)) (fun _ hk => hk.2) (.int .i64 ((rd_T74 l0 x54_3).f0))) (fun _ hk => hk.2) (.int .i64 ((rd_T74 l0 x54_3).f1))) (fun _ hk => hk.2) (.int .i64 ((rd_T74 l0 x54_3).f2))) (fun _ hk => hk.2) (.int .i64 ((rd_T74 l0 x54_3).f3))) (fun _ hk => hk.2) (.int .i64 ((rd_T74 l0 x54_3).f4))) (fun _ hk => ⟨hk.1.1, hk.1.2⟩)⟩, ⟨by (try simp only [hl8_2]); (with_reducible repeat (first | apply Kd.R_alloc | apply Kd.R_drewN | apply Kd.R_drew)); exact Kd.R_mono (Kd.R_far (p := ⟨gb152, 4, none⟩) (Kd.R_far (p := ⟨gb152, 3, none⟩) (Kd.R_far (p := ⟨gb152, 2, none⟩) (Kd.R_far (p := ⟨gb152, 1, none⟩) (Kd.R_far (p := ⟨gb152, 0, none⟩) (Kd.R_types HO_13.out BK152.out (by decide)) (fun _ hk => hk.2) (.int .i64 ((rd_T74 l0 x54_3).f0))) (fun _ hk => hk.2) (.int .i64 ((rd_T74 l0 x54_3).f1))) (fun _ hk => hk.2) (.int .i64 ((rd_T74 l0 x54_3).f2))) (fun _ hk => hk.2) (.int .i64 ((rd_T74 l0 x54_3).f3))) (fun _ hk => hk.2) (.int .i64 ((rd_T74 l0 x54_3).f4))) (fun _ hk => ⟨hk.1.1, hk.1.2⟩)⟩, ⟨by (try simp only [hl8_2]); (with_reducible repeat (first | refine blk_drewN ?_ _ | refine blk_drew ?_ | refine blk_alloc ?_ _)); refine blk_far ?_ NB150_152.out _; (with_reducible repeat (first | refine blk_drewN ?_ _ | refine blk_drew ?_ | refine blk_alloc ?_ _)); refine blk_far ?_ NB150_152.out _; (with_reducible repeat (first | refine blk_drewN ?_ _ | refine blk_drew ?_ | refine blk_alloc ?_ _)); refine blk_far ?_ NB150_152.out _; (with_reducible repeat (first | refine blk_drewN ?_ _ | refine blk_drew ?_ | refine blk_alloc ?_ _)); refine blk_far ?_ NB150_152.out _; (with_reducible repeat (first | refine blk_drewN ?_ _ | refine blk_drew ?_ | refine blk_alloc ?_ _)); refine blk_far ?_ NB150_152.out _; (with_reducible repeat (first | refine blk_drewN ?_ _ | refine blk_drew ?_ | refine blk_alloc ?_ _)); exact BK150.out⟩, ⟨bw_ HB.out⟩⟩
          ·rw [if_neg c30] at H
           have c30b0 : decide (0 < x54_3) = false := decide_eq_false c30
           clear c30
           have H' := am_ H
           clear H
           have p151 : 0 ≤ (x54_3 : Int) := od_
           have q151 : x54_3 < (l0.length : Int) := od_
           obtain ⟨ad151, e151, hx151_0, hx151_1, hx151_2, hx151_3, hx151_4⟩ := at_T74 HR0.out x54_3 p151 q151
           obtain rfl : ad149 = ad151 := (by injection e151)
           (try replace hx151_0 := hc_ HB.out hx151_0)
           (try replace hx151_1 := hc_ HB.out hx151_1)
           (try replace hx151_2 := hc_ HB.out hx151_2)
           (try replace hx151_3 := hc_ HB.out hx151_3)
           (try replace hx151_4 := hc_ HB.out hx151_4)
           replace p151 := eq_true p151
           replace q151 := eq_true q151
           go_wp2_with (first | ((with_reducible refine gate_dst (N := 15) rfl ?_); refine bx_ 15 #[.int .i64 0, .int .i64 0, .int .i64 0, .int .i64 0, .int .i64 0] 74 ?_; intro gb152 hg w46 hbox hb; have n0_ := am_ (Kd.R_below (ra_ HO_8.out) hb); have n1_ := am_ (Kd.R_below (ra_ HO_11.out) hb); have n2_ := am_ (Kd.R_below (ra_ HO_12.out) hb); have n3_ := am_ (Kd.R_below (ra_ HO_13.out) hb); have n4_ := am_ (blk_below (bk_ BK150.out) hb); have n5_ := am_ (below_step (bw_ HB.out) hb); have n6_ := am_ (hbox); have n7_ := am_ (gs_ hg (bw_ HB.out)); have n8_ := am_ (gs_ hg (bw_ HB.out)); have n9_ := am_ (nl_ hg (bk_ BK150.out)); have n10_ := am_ (ng_ hg (bk_ BK150.out)); replace HO_8 := n0_; replace HO_11 := n1_; replace HO_12 := n2_; replace HO_13 := n3_; replace BK150 := n4_; replace HB := n5_; have BK152 := n6_; have GW152 := n7_; have GE152 := n8_; have NB150_152 := n9_; have NB152_150 := n10_; clear n0_ n1_ n2_ n3_ n4_ n5_ n6_ n7_ n8_ n9_ n10_; clear hb hbox hg; have hnb47 := NB152_150.out; have hnc47 := NB150_152.out; have hcz48_0 := cz_ BK152.out 0; have hcz48_1 := cz_ BK152.out 1; have hcz48_2 := cz_ BK152.out 2; have hcz48_3 := cz_ BK152.out 3; have hcz48_4 := cz_ BK152.out 4; have hfz48_0 := blk_frozen BK152.out 0; have hfz48_1 := blk_frozen BK152.out 1; have hfz48_2 := blk_frozen BK152.out 2; have hfz48_3 := blk_frozen BK152.out 3; have hfz48_4 := blk_frozen BK152.out 4))
           repeat (go_quiet (first | ((with_reducible refine gate_dst (N := 15) rfl ?_); refine bx_ 15 #[.int .i64 0, .int .i64 0, .int .i64 0, .int .i64 0, .int .i64 0] 74 ?_; intro gb152 hg w46 hbox hb; have n0_ := am_ (Kd.R_below (ra_ HO_8.out) hb); have n1_ := am_ (Kd.R_below (ra_ HO_11.out) hb); have n2_ := am_ (Kd.R_below (ra_ HO_12.out) hb); have n3_ := am_ (Kd.R_below (ra_ HO_13.out) hb); have n4_ := am_ (blk_below (bk_ BK150.out) hb); have n5_ := am_ (below_step (bw_ HB.out) hb); have n6_ := am_ (hbox); have n7_ := am_ (gs_ hg (bw_ HB.out)); have n8_ := am_ (gs_ hg (bw_ HB.out)); have n9_ := am_ (nl_ hg (bk_ BK150.out)); have n10_ := am_ (ng_ hg (bk_ BK150.out)); replace HO_8 := n0_; replace HO_11 := n1_; replace HO_12 := n2_; replace HO_13 := n3_; replace BK150 := n4_; replace HB := n5_; have BK152 := n6_; have GW152 := n7_; have GE152 := n8_; have NB150_152 := n9_; have NB152_150 := n10_; clear n0_ n1_ n2_ n3_ n4_ n5_ n6_ n7_ n8_ n9_ n10_; clear hb hbox hg; have hnb47 := NB152_150.out; have hnc47 := NB150_152.out; have hcz48_0 := cz_ BK152.out 0; have hcz48_1 := cz_ BK152.out 1; have hcz48_2 := cz_ BK152.out 2; have hcz48_3 := cz_ BK152.out 3; have hcz48_4 := cz_ BK152.out 4; have hfz48_0 := blk_frozen BK152.out 0; have hfz48_1 := blk_frozen BK152.out 1; have hfz48_2 := blk_frozen BK152.out 2; have hfz48_3 := blk_frozen BK152.out 3; have hfz48_4 := blk_frozen BK152.out 4)); try go_wp2_with (first | ((with_reducible refine gate_dst (N := 15) rfl ?_); refine bx_ 15 #[.int .i64 0, .int .i64 0, .int .i64 0, .int .i64 0, .int .i64 0] 74 ?_; intro gb152 hg w46 hbox hb; have n0_ := am_ (Kd.R_below (ra_ HO_8.out) hb); have n1_ := am_ (Kd.R_below (ra_ HO_11.out) hb); have n2_ := am_ (Kd.R_below (ra_ HO_12.out) hb); have n3_ := am_ (Kd.R_below (ra_ HO_13.out) hb); have n4_ := am_ (blk_below (bk_ BK150.out) hb); have n5_ := am_ (below_step (bw_ HB.out) hb); have n6_ := am_ (hbox); have n7_ := am_ (gs_ hg (bw_ HB.out)); have n8_ := am_ (gs_ hg (bw_ HB.out)); have n9_ := am_ (nl_ hg (bk_ BK150.out)); have n10_ := am_ (ng_ hg (bk_ BK150.out)); replace HO_8 := n0_; replace HO_11 := n1_; replace HO_12 := n2_; replace HO_13 := n3_; replace BK150 := n4_; replace HB := n5_; have BK152 := n6_; have GW152 := n7_; have GE152 := n8_; have NB150_152 := n9_; have NB152_150 := n10_; clear n0_ n1_ n2_ n3_ n4_ n5_ n6_ n7_ n8_ n9_ n10_; clear hb hbox hg; have hnb47 := NB152_150.out; have hnc47 := NB150_152.out; have hcz48_0 := cz_ BK152.out 0; have hcz48_1 := cz_ BK152.out 1; have hcz48_2 := cz_ BK152.out 2; have hcz48_3 := cz_ BK152.out 3; have hcz48_4 := cz_ BK152.out 4; have hfz48_0 := blk_frozen BK152.out 0; have hfz48_1 := blk_frozen BK152.out 1; have hfz48_2 := blk_frozen BK152.out 2; have hfz48_3 := blk_frozen BK152.out 3; have hfz48_4 := blk_frozen BK152.out 4)))
           go_roundg k3
           case measure => have := HJ3.out; have := HK2.out; have := HK3.out; omega
           case rel => exact ⟨(x11_3), (x12_3), (x13_3), (wrap64 (x54_3 + 1)), sq_, H', ⟨by have := HJ3.out; have := HK2.out; have := HK3.out; omega⟩, ⟨by (try simp only [hl8_2]); (with_reducible repeat (first | apply Kd.R_alloc | apply Kd.R_drewN | apply Kd.R_drew)); exact Kd.R_mono (Kd.R_far (p := ⟨gb152, 4, none⟩) (Kd.R_far (p := ⟨gb152, 3, none⟩) (Kd.R_far (p := ⟨gb152, 2, none⟩) (Kd.R_far (p := ⟨gb152, 1, none⟩) (Kd.R_far (p := ⟨gb152, 0, none⟩) (Kd.R_types HO_8.out BK152.out (by decide)) (fun _ hk => hk.2) (.int .i64 ((rd_T74 l0 x54_3).f0))) (fun _ hk => hk.2) (.int .i64 ((rd_T74 l0 x54_3).f1))) (fun _ hk => hk.2) (.int .i64 ((rd_T74 l0 x54_3).f2))) (fun _ hk => hk.2) (.int .i64 ((rd_T74 l0 x54_3).f3))) (fun _ hk => hk.2) (.int .i64 ((rd_T74 l0 x54_3).f4))) (fun _ hk => trivial)⟩, ⟨by (try simp only [hl8_2]); (with_reducible repeat (first | apply Kd.R_alloc | apply Kd.R_drewN | apply Kd.R_drew)); exact Kd.R_mono (Kd.R_far (p := ⟨gb152, 4, none⟩) (Kd.R_far (p := ⟨gb152, 3, none⟩) (Kd.R_far (p := ⟨gb152, 2, none⟩) (Kd.R_far (p := ⟨gb152, 1, none⟩) (Kd.R_far (p := ⟨gb152, 0, none⟩) (Kd.R_types HO_11.out BK152.out (by decide)) (fun _ hk => hk.2) (.int .i64 ((rd_T74 l0 x54_3).f0))) (fun _ hk => hk.2) (.int .i64 ((rd_T74 l0 x54_3).f1))) (fun _ hk => hk.2) (.int .i64 ((rd_T74 l0 x54_3).f2))) (fun _ hk => hk.2) (.int .i64 ((rd_T74 l0 x54_3).f3))) (fun _ hk => hk.2) (.int .i64 ((rd_T74 l0 x54_3).f4))) (fun _ hk => ⟨hk.1.1, hk.1.2⟩)⟩, ⟨by (try simp only [hl8_2]); (with_reducible repeat (first | apply Kd.R_alloc | apply Kd.R_drewN | apply Kd.R_drew)); exact Kd.R_mono (Kd.R_far (p := ⟨gb152, 4, none⟩) (Kd.R_far (p := ⟨gb152, 3, none⟩) (Kd.R_far (p := ⟨gb152, 2, none⟩) (Kd.R_far (p := ⟨gb152, 1, none⟩) (Kd.R_far (p := ⟨gb152, 0, none⟩) (Kd.R_types HO_12.out BK152.out (by decide)) (fun _ hk => hk.2) (.int .i64 ((rd_T74 l0 x54_3).f0))) (fun _ hk => hk.2) (.int .i64 ((rd_T74 l0 x54_3).f1))) (fun _ hk => hk.2) (.int .i64 ((rd_T74 l0 x54_3).f2))) (fun _ hk => hk.2) (.int .i64 ((rd_T74 l0 x54_3).f3))) (fun _ hk => hk.2) (.int .i64 ((rd_T74 l0 x54_3).f4))) (fun _ hk => ⟨hk.1.1, hk.1.2⟩)⟩, ⟨by (try simp only [hl8_2]); (with_reducible repeat (first | apply Kd.R_alloc | apply Kd.R_drewN | apply Kd.R_drew)); exact Kd.R_mono (Kd.R_far (p := ⟨gb152, 4, none⟩) (Kd.R_far (p := ⟨gb152, 3, none⟩) (Kd.R_far (p := ⟨gb152, 2, none⟩) (Kd.R_far (p := ⟨gb152, 1, none⟩) (Kd.R_far (p := ⟨gb152, 0, none⟩) (Kd.R_types HO_13.out BK152.out (by decide)) (fun _ hk => hk.2) (.int .i64 ((rd_T74 l0 x54_3).f0))) (fun _ hk => hk.2) (.int .i64 ((rd_T74 l0 x54_3).f1))) (fun _ hk => hk.2) (.int .i64 ((rd_T74 l0 x54_3).f2))) (fun _ hk => hk.2) (.int .i64 ((rd_T74 l0 x54_3).f3))) (fun _ hk => hk.2) (.int .i64 ((rd_T74 l0 x54_3).f4))) (fun _ hk => ⟨hk.1.1, hk.1.2⟩)⟩, ⟨by (try simp only [hl8_2]); (with_reducible repeat (first | refine blk_drewN ?_ _ | refine blk_drew ?_ | refine blk_alloc ?_ _)); refine blk_far ?_ NB150_152.out _; (with_reducible repeat (first | refine blk_drewN ?_ _ | refine blk_drew ?_ | refine blk_alloc ?_ _)); refine blk_far ?_ NB150_152.out _; (with_reducible repeat (first | refine blk_drewN ?_ _ | refine blk_drew ?_ | refine blk_alloc ?_ _)); refine blk_far ?_ NB150_152.out _; (with_reducible repeat (first | refine blk_drewN ?_ _ | refine blk_drew ?_ | refine blk_alloc ?_ _)); refine blk_far ?_ NB150_152.out _; (with_reducible repeat (first | refine blk_drewN ?_ _ | refine blk_drew ?_ | refine blk_alloc ?_ _)); refine blk_far ?_ NB150_152.out _; (with_reducible repeat (first | refine blk_drewN ?_ _ | refine blk_drew ?_ | refine blk_alloc ?_ _)); exact BK150.out⟩, ⟨bw_ HB.out⟩⟩
         ·rw [if_neg c27] at H
          have c27b0 : decide (x54_3 < (l0.length : Int)) = false := decide_eq_false c27
          (try rw [hl8_2] at c27b0)
          clear c27
          obtain ⟨c49, H⟩ := ifn_ H
          have c49b0 : decide (0 ≤ x47_2) = true := decide_eq_true c49
          clear c49
          obtain ⟨c50, H⟩ := ifn_ H
          have c50b0 : decide (x47_2 < (x8_2.length : Int)) = true := decide_eq_true c50
          (try rw [hl8_2] at c50b0)
          clear c50
          obtain ⟨t165, A510, H⟩ := bE_ H
          have A51 := am_ A510
          clear A510
          obtain ⟨t167, A520, H⟩ := bE_ H
          have A52 := am_ A520
          clear A520
          by_cases c53 : ((rd_T74 l0 x47_2).f1) = 1
          ·rw [if_pos c53] at H
           have c53b0 : (((rd_T74 l0 x47_2).f1) == 1) = true := beq_iff_eq.mpr c53
           have c53b1 : (((rd_T74 l0 x47_2).f1) != 1) = false := bne_eq_false_iff_eq.mpr c53
           clear c53
           obtain ⟨t168, A540, H⟩ := bE_ H
           have A54 := am_ A540
           clear A540
           have H' := am_ H
           clear H
           have p162 : 0 ≤ (x47_2 : Int) := od_
           have q162 : x47_2 < (x8_2.length : Int) := od_
           obtain ⟨ad162, e162, hx162_0, hx162_1, hx162_2, hx162_3⟩ := at_T72 (Kd.R_reads' HO_8.out).2.2 x47_2 p162 q162
           obtain rfl : (⟨go17, 0, none⟩ : Addr) = ad162 := (by injection e162)
           (first | simp only [add_plain] at hx162_0 | simp only [add_at] at hx162_0 | simp only [Addr.add, Nat.zero_add] at hx162_0 | skip)
           (first | simp only [add_plain] at hx162_1 | simp only [add_at] at hx162_1 | simp only [Addr.add, Nat.zero_add] at hx162_1 | skip)
           (first | simp only [add_plain] at hx162_2 | simp only [add_at] at hx162_2 | simp only [Addr.add, Nat.zero_add] at hx162_2 | skip)
           (first | simp only [add_plain] at hx162_3 | simp only [add_at] at hx162_3 | simp only [Addr.add, Nat.zero_add] at hx162_3 | skip)
           replace p162 := eq_true p162
           replace q162 := eq_true q162
           have hcz55_0 := cz_ BK150.out 0
           have hcz55_1 := cz_ BK150.out 1
           have hcz55_2 := cz_ BK150.out 2
           have hcz55_3 := cz_ BK150.out 3
           have hcz55_4 := cz_ BK150.out 4
           have hfz55_0 := blk_frozen BK150.out 0
           have hfz55_1 := blk_frozen BK150.out 1
           have hfz55_2 := blk_frozen BK150.out 2
           have hfz55_3 := blk_frozen BK150.out 3
           have hfz55_4 := blk_frozen BK150.out 4
           have p163 : 0 ≤ (x47_2 : Int) := od_
           have q163 : x47_2 < (x8_2.length : Int) := od_
           obtain ⟨ad163, e163, hx163_0, hx163_1, hx163_2, hx163_3⟩ := at_T72 (Kd.R_reads' HO_8.out).2.2 x47_2 p163 q163
           obtain rfl : (⟨go17, 0, none⟩ : Addr) = ad163 := (by injection e163)
           (first | simp only [add_plain] at hx163_0 | simp only [add_at] at hx163_0 | simp only [Addr.add, Nat.zero_add] at hx163_0 | skip)
           (first | simp only [add_plain] at hx163_1 | simp only [add_at] at hx163_1 | simp only [Addr.add, Nat.zero_add] at hx163_1 | skip)
           (first | simp only [add_plain] at hx163_2 | simp only [add_at] at hx163_2 | simp only [Addr.add, Nat.zero_add] at hx163_2 | skip)
           (first | simp only [add_plain] at hx163_3 | simp only [add_at] at hx163_3 | simp only [Addr.add, Nat.zero_add] at hx163_3 | skip)
           replace p163 := eq_true p163
           replace q163 := eq_true q163
           have p164 : 0 ≤ (x47_2 : Int) := od_
           have q164 : x47_2 < (x8_2.length : Int) := od_
           obtain ⟨ad164, e164, hx164_0, hx164_1, hx164_2, hx164_3⟩ := at_T72 (Kd.R_reads' HO_8.out).2.2 x47_2 p164 q164
           obtain rfl : (⟨go17, 0, none⟩ : Addr) = ad164 := (by injection e164)
           (first | simp only [add_plain] at hx164_0 | simp only [add_at] at hx164_0 | simp only [Addr.add, Nat.zero_add] at hx164_0 | skip)
           (first | simp only [add_plain] at hx164_1 | simp only [add_at] at hx164_1 | simp only [Addr.add, Nat.zero_add] at hx164_1 | skip)
           (first | simp only [add_plain] at hx164_2 | simp only [add_at] at hx164_2 | simp only [Addr.add, Nat.zero_add] at hx164_2 | skip)
           (first | simp only [add_plain] at hx164_3 | simp only [add_at] at hx164_3 | simp only [Addr.add, Nat.zero_add] at hx164_3 | skip)
           replace p164 := eq_true p164
           replace q164 := eq_true q164
           go_wp2_with (first | (go_at_call 40; (try simp only [i64_w]); (with_reducible refine (spec_l18Least.calls (wrap64 (((rd_T72 x8_2 x47_2).f2) - (wrap64 (2 * ((rd_T74 l0 x47_2).f4))))) t165 _ A51.out).mono ?_); rintro e w' ⟨rfl, ⟨nd, rfl⟩⟩; (try first | exact ⟨rfl, _, World.drewN_drewN _ _ _⟩ | exact ⟨rfl, _, Eq.trans (World.drewN_drewN _ _ _) (congrArg (World.drewN _) (Nat.add_assoc _ _ _))⟩); have p166 : 0 ≤ (x47_2 : Int) := od_; have q166 : x47_2 < (x8_2.length : Int) := od_; obtain ⟨ad166, e166, hx166_0, hx166_1, hx166_2, hx166_3⟩ := at_T72 (Kd.R_reads' HO_8.out).2.2 x47_2 p166 q166; obtain rfl : (⟨go17, 0, none⟩ : Addr) = ad166 := (by injection e166); (first | simp only [add_plain] at hx166_0 | simp only [add_at] at hx166_0 | simp only [Addr.add, Nat.zero_add] at hx166_0 | skip); (first | simp only [add_plain] at hx166_1 | simp only [add_at] at hx166_1 | simp only [Addr.add, Nat.zero_add] at hx166_1 | skip); (first | simp only [add_plain] at hx166_2 | simp only [add_at] at hx166_2 | simp only [Addr.add, Nat.zero_add] at hx166_2 | skip); (first | simp only [add_plain] at hx166_3 | simp only [add_at] at hx166_3 | simp only [Addr.add, Nat.zero_add] at hx166_3 | skip); replace p166 := eq_true p166; replace q166 := eq_true q166) | (go_at_call 40; (try simp only [i64_w]); (with_reducible refine (spec_l18Least.calls (wrap64 (((rd_T72 x8_2 x47_2).f3) - (wrap64 (2 * ((rd_T74 l0 x47_2).f4))))) t167 _ A52.out).mono ?_); rintro e w' ⟨rfl, ⟨nd, rfl⟩⟩; (try first | exact ⟨rfl, _, World.drewN_drewN _ _ _⟩ | exact ⟨rfl, _, Eq.trans (World.drewN_drewN _ _ _) (congrArg (World.drewN _) (Nat.add_assoc _ _ _))⟩); obtain ⟨Ao56, co56, eo56⟩ := Kd.R_slice HO_12.out; subst eo56; obtain ⟨Ao57, co57, eo57⟩ := Kd.R_slice HO_13.out; subst eo57) | (go_at_call 41; (with_reducible refine (spec_l18Share.calls k3 t165 _ _ x12_3 _ _ x13_3 t168 _ ?side1 ?side2 ?side3 ?side4 A54.out).mono ?_); (case side1 => repeat (first | exact (Kd.R_reads' HO_12.out).2.2 | (with_reducible refine Kd.C_alloc ?_ _) | (with_reducible refine Kd.C_drewN ?_ _) | (with_reducible refine Kd.C_drew ?_))); (case side2 => exact (Kd.R_reads' HO_12.out).2.1); (case side3 => repeat (first | exact (Kd.R_reads' HO_13.out).2.2 | (with_reducible refine Kd.C_alloc ?_ _) | (with_reducible refine Kd.C_drewN ?_ _) | (with_reducible refine Kd.C_drew ?_))); (case side4 => exact (Kd.R_reads' HO_13.out).2.1); rintro e w58 ⟨v169, rfl, ho0, hb⟩; have n0_ := am_ (Kd.R_below (ra_ HO_8.out) hb); have n1_ := am_ (Kd.R_elder' (ra_ HO_11.out) (Kd.R_base ho0) hb); have n2_ := am_ (Kd.R_elder' (ra_ HO_12.out) (Kd.R_base ho0) hb); have n3_ := am_ (Kd.R_elder' (ra_ HO_13.out) (Kd.R_base ho0) hb); have n4_ := am_ (Kd.R_lower (Kd.R_new' (Kd.R_new' (Kd.R_new' ho0 (Kd.R_lt (ra_ HO_11.out))) (Kd.R_lt (ra_ HO_12.out))) (Kd.R_lt (ra_ HO_13.out))) (below_size (bw_ HB.out))); have n5_ := am_ (blk_below (bk_ BK150.out) hb); have n6_ := am_ (below_step (bw_ HB.out) hb); replace HO_8 := n0_; replace HO_11 := n1_; replace HO_12 := n2_; replace HO_13 := n3_; have HO170 := n4_; replace BK150 := n5_; replace HB := n6_; clear n0_ n1_ n2_ n3_ n4_ n5_ n6_; (try clear hb); (try clear hb2); (try clear hk); (try clear hi); (try clear ho0); obtain ⟨Ao59, co59, eo59⟩ := Kd.R_slice HO170.out; subst eo59))
           repeat (go_quiet (first | (go_at_call 40; (try simp only [i64_w]); (with_reducible refine (spec_l18Least.calls (wrap64 (((rd_T72 x8_2 x47_2).f2) - (wrap64 (2 * ((rd_T74 l0 x47_2).f4))))) t165 _ A51.out).mono ?_); rintro e w' ⟨rfl, ⟨nd, rfl⟩⟩; (try first | exact ⟨rfl, _, World.drewN_drewN _ _ _⟩ | exact ⟨rfl, _, Eq.trans (World.drewN_drewN _ _ _) (congrArg (World.drewN _) (Nat.add_assoc _ _ _))⟩); have p166 : 0 ≤ (x47_2 : Int) := od_; have q166 : x47_2 < (x8_2.length : Int) := od_; obtain ⟨ad166, e166, hx166_0, hx166_1, hx166_2, hx166_3⟩ := at_T72 (Kd.R_reads' HO_8.out).2.2 x47_2 p166 q166; obtain rfl : (⟨go17, 0, none⟩ : Addr) = ad166 := (by injection e166); (first | simp only [add_plain] at hx166_0 | simp only [add_at] at hx166_0 | simp only [Addr.add, Nat.zero_add] at hx166_0 | skip); (first | simp only [add_plain] at hx166_1 | simp only [add_at] at hx166_1 | simp only [Addr.add, Nat.zero_add] at hx166_1 | skip); (first | simp only [add_plain] at hx166_2 | simp only [add_at] at hx166_2 | simp only [Addr.add, Nat.zero_add] at hx166_2 | skip); (first | simp only [add_plain] at hx166_3 | simp only [add_at] at hx166_3 | simp only [Addr.add, Nat.zero_add] at hx166_3 | skip); replace p166 := eq_true p166; replace q166 := eq_true q166) | (go_at_call 40; (try simp only [i64_w]); (with_reducible refine (spec_l18Least.calls (wrap64 (((rd_T72 x8_2 x47_2).f3) - (wrap64 (2 * ((rd_T74 l0 x47_2).f4))))) t167 _ A52.out).mono ?_); rintro e w' ⟨rfl, ⟨nd, rfl⟩⟩; (try first | exact ⟨rfl, _, World.drewN_drewN _ _ _⟩ | exact ⟨rfl, _, Eq.trans (World.drewN_drewN _ _ _) (congrArg (World.drewN _) (Nat.add_assoc _ _ _))⟩); obtain ⟨Ao56, co56, eo56⟩ := Kd.R_slice HO_12.out; subst eo56; obtain ⟨Ao57, co57, eo57⟩ := Kd.R_slice HO_13.out; subst eo57) | (go_at_call 41; (with_reducible refine (spec_l18Share.calls k3 t165 _ _ x12_3 _ _ x13_3 t168 _ ?side1 ?side2 ?side3 ?side4 A54.out).mono ?_); (case side1 => repeat (first | exact (Kd.R_reads' HO_12.out).2.2 | (with_reducible refine Kd.C_alloc ?_ _) | (with_reducible refine Kd.C_drewN ?_ _) | (with_reducible refine Kd.C_drew ?_))); (case side2 => exact (Kd.R_reads' HO_12.out).2.1); (case side3 => repeat (first | exact (Kd.R_reads' HO_13.out).2.2 | (with_reducible refine Kd.C_alloc ?_ _) | (with_reducible refine Kd.C_drewN ?_ _) | (with_reducible refine Kd.C_drew ?_))); (case side4 => exact (Kd.R_reads' HO_13.out).2.1); rintro e w58 ⟨v169, rfl, ho0, hb⟩; have n0_ := am_ (Kd.R_below (ra_ HO_8.out) hb); have n1_ := am_ (Kd.R_elder' (ra_ HO_11.out) (Kd.R_base ho0) hb); have n2_ := am_ (Kd.R_elder' (ra_ HO_12.out) (Kd.R_base ho0) hb); have n3_ := am_ (Kd.R_elder' (ra_ HO_13.out) (Kd.R_base ho0) hb); have n4_ := am_ (Kd.R_lower (Kd.R_new' (Kd.R_new' (Kd.R_new' ho0 (Kd.R_lt (ra_ HO_11.out))) (Kd.R_lt (ra_ HO_12.out))) (Kd.R_lt (ra_ HO_13.out))) (below_size (bw_ HB.out))); have n5_ := am_ (blk_below (bk_ BK150.out) hb); have n6_ := am_ (below_step (bw_ HB.out) hb); replace HO_8 := n0_; replace HO_11 := n1_; replace HO_12 := n2_; replace HO_13 := n3_; have HO170 := n4_; replace BK150 := n5_; replace HB := n6_; clear n0_ n1_ n2_ n3_ n4_ n5_ n6_; (try clear hb); (try clear hb2); (try clear hk); (try clear hi); (try clear ho0); obtain ⟨Ao59, co59, eo59⟩ := Kd.R_slice HO170.out; subst eo59)); try go_wp2_with (first | (go_at_call 40; (try simp only [i64_w]); (with_reducible refine (spec_l18Least.calls (wrap64 (((rd_T72 x8_2 x47_2).f2) - (wrap64 (2 * ((rd_T74 l0 x47_2).f4))))) t165 _ A51.out).mono ?_); rintro e w' ⟨rfl, ⟨nd, rfl⟩⟩; (try first | exact ⟨rfl, _, World.drewN_drewN _ _ _⟩ | exact ⟨rfl, _, Eq.trans (World.drewN_drewN _ _ _) (congrArg (World.drewN _) (Nat.add_assoc _ _ _))⟩); have p166 : 0 ≤ (x47_2 : Int) := od_; have q166 : x47_2 < (x8_2.length : Int) := od_; obtain ⟨ad166, e166, hx166_0, hx166_1, hx166_2, hx166_3⟩ := at_T72 (Kd.R_reads' HO_8.out).2.2 x47_2 p166 q166; obtain rfl : (⟨go17, 0, none⟩ : Addr) = ad166 := (by injection e166); (first | simp only [add_plain] at hx166_0 | simp only [add_at] at hx166_0 | simp only [Addr.add, Nat.zero_add] at hx166_0 | skip); (first | simp only [add_plain] at hx166_1 | simp only [add_at] at hx166_1 | simp only [Addr.add, Nat.zero_add] at hx166_1 | skip); (first | simp only [add_plain] at hx166_2 | simp only [add_at] at hx166_2 | simp only [Addr.add, Nat.zero_add] at hx166_2 | skip); (first | simp only [add_plain] at hx166_3 | simp only [add_at] at hx166_3 | simp only [Addr.add, Nat.zero_add] at hx166_3 | skip); replace p166 := eq_true p166; replace q166 := eq_true q166) | (go_at_call 40; (try simp only [i64_w]); (with_reducible refine (spec_l18Least.calls (wrap64 (((rd_T72 x8_2 x47_2).f3) - (wrap64 (2 * ((rd_T74 l0 x47_2).f4))))) t167 _ A52.out).mono ?_); rintro e w' ⟨rfl, ⟨nd, rfl⟩⟩; (try first | exact ⟨rfl, _, World.drewN_drewN _ _ _⟩ | exact ⟨rfl, _, Eq.trans (World.drewN_drewN _ _ _) (congrArg (World.drewN _) (Nat.add_assoc _ _ _))⟩); obtain ⟨Ao56, co56, eo56⟩ := Kd.R_slice HO_12.out; subst eo56; obtain ⟨Ao57, co57, eo57⟩ := Kd.R_slice HO_13.out; subst eo57) | (go_at_call 41; (with_reducible refine (spec_l18Share.calls k3 t165 _ _ x12_3 _ _ x13_3 t168 _ ?side1 ?side2 ?side3 ?side4 A54.out).mono ?_); (case side1 => repeat (first | exact (Kd.R_reads' HO_12.out).2.2 | (with_reducible refine Kd.C_alloc ?_ _) | (with_reducible refine Kd.C_drewN ?_ _) | (with_reducible refine Kd.C_drew ?_))); (case side2 => exact (Kd.R_reads' HO_12.out).2.1); (case side3 => repeat (first | exact (Kd.R_reads' HO_13.out).2.2 | (with_reducible refine Kd.C_alloc ?_ _) | (with_reducible refine Kd.C_drewN ?_ _) | (with_reducible refine Kd.C_drew ?_))); (case side4 => exact (Kd.R_reads' HO_13.out).2.1); rintro e w58 ⟨v169, rfl, ho0, hb⟩; have n0_ := am_ (Kd.R_below (ra_ HO_8.out) hb); have n1_ := am_ (Kd.R_elder' (ra_ HO_11.out) (Kd.R_base ho0) hb); have n2_ := am_ (Kd.R_elder' (ra_ HO_12.out) (Kd.R_base ho0) hb); have n3_ := am_ (Kd.R_elder' (ra_ HO_13.out) (Kd.R_base ho0) hb); have n4_ := am_ (Kd.R_lower (Kd.R_new' (Kd.R_new' (Kd.R_new' ho0 (Kd.R_lt (ra_ HO_11.out))) (Kd.R_lt (ra_ HO_12.out))) (Kd.R_lt (ra_ HO_13.out))) (below_size (bw_ HB.out))); have n5_ := am_ (blk_below (bk_ BK150.out) hb); have n6_ := am_ (below_step (bw_ HB.out) hb); replace HO_8 := n0_; replace HO_11 := n1_; replace HO_12 := n2_; replace HO_13 := n3_; have HO170 := n4_; replace BK150 := n5_; replace HB := n6_; clear n0_ n1_ n2_ n3_ n4_ n5_ n6_; (try clear hb); (try clear hb2); (try clear hk); (try clear hi); (try clear ho0); obtain ⟨Ao59, co59, eo59⟩ := Kd.R_slice HO170.out; subst eo59)))
           go_loopg [16, 126] k3 (fun kq v16 v126 w' => ∃ (x8_4 : List (S72)) (x16_4 : Int) (x126_4 : Int), v16 = .int .i64 x16_4 ∧ v126 = .int .i64 x126_4 ∧ Aside0 (spec_LayOut.l2 kq l0 x8_4 x11_3 x16_4 (wrap64 (((rd_T72 x8_2 x47_2).f1) + ((rd_T74 l0 x47_2).f4))) t167 l0 (l0.length : Int) x47_2 t168 (t168.length : Int) x126_4 = some (r1, r2)) ∧ Aside0 (kq ≤ k3) ∧ Aside0 (Kd.R k72 72 w' w.heap.size (fun _ => True) (.slice (some ⟨go17, 0, none⟩) x8_2.length co17) x8_4) ∧ Aside0 (Kd.R (Kd.int .i64) 3 w' w.heap.size (fun k_ => nb k_ (.slice Ao59 t168.length co59)) u11 x11_3) ∧ Aside0 (Kd.R (Kd.int .i64) 3 w' w.heap.size (fun k_ => nb k_ u11) (.slice Ao59 t168.length co59) t168) ∧ Aside0 (w'.heap[gb150]? = some (.cells #[.int .i64 ((rd_T74 l0 x47_2).f0), .int .i64 ((rd_T74 l0 x47_2).f1), .int .i64 ((rd_T74 l0 x47_2).f2), .int .i64 ((rd_T74 l0 x47_2).f3), .int .i64 ((rd_T74 l0 x47_2).f4)] 74 (0, 0))) ∧ Aside0 (Below w.heap.size w w'))
           case atStart => exact ⟨(x8_2), (wrap64 (((rd_T72 x8_2 x47_2).f0) + ((rd_T74 l0 x47_2).f4))), (0), sq_, sq_, H', ⟨Nat.le_refl _⟩, ⟨by (try simp only [hl8_2]); (with_reducible repeat (first | apply Kd.R_alloc | apply Kd.R_drewN | apply Kd.R_drew)); exact HO_8.out⟩, ⟨by (try simp only [hl8_2]); (with_reducible repeat (first | apply Kd.R_alloc | apply Kd.R_drewN | apply Kd.R_drew)); exact Kd.R_mono HO_11.out (fun _ hk => hk.2)⟩, ⟨by (try simp only [hl8_2]); (with_reducible repeat (first | apply Kd.R_alloc | apply Kd.R_drewN | apply Kd.R_drew)); exact Kd.R_mono HO170.out (fun _ hk => hk.1.1.2)⟩, ⟨by (try simp only [hl8_2]); (with_reducible repeat (first | refine blk_drewN ?_ _ | refine blk_drew ?_ | refine blk_alloc ?_ _)); exact BK150.out⟩, ⟨bw_ HB.out⟩⟩
           case round =>
            clear H'
            try clear c13
            try clear c14
            try clear c14b0
            try clear c14b1
            try clear c15
            try clear c15b0
            try clear c15b1
            try clear c16
            try clear c16b0
            try clear c16b1
            try clear p17
            try clear q17
            try clear qi17
            try clear c22
            try clear c22b0
            try clear c23
            try clear c23b0
            try clear c24
            try clear c24b0
            try clear c27
            try clear c27b0
            try clear c49
            try clear c49b0
            try clear c50
            try clear c50b0
            try clear c53
            try clear c53b0
            try clear c53b1
            try clear hcz26_0
            try clear hcz26_1
            try clear hcz26_2
            try clear hcz26_3
            try clear hcz26_4
            try clear hcz55_0
            try clear hcz55_1
            try clear hcz55_2
            try clear hcz55_3
            try clear hcz55_4
            try clear hfz26_0
            try clear hfz26_1
            try clear hfz26_2
            try clear hfz26_3
            try clear hfz26_4
            try clear hfz55_0
            try clear hfz55_1
            try clear hfz55_2
            try clear hfz55_3
            try clear hfz55_4
            try clear hx149_0
            try clear hx149_1
            try clear hx149_2
            try clear hx149_3
            try clear hx149_4
            try clear hx162_0
            try clear hx162_1
            try clear hx162_2
            try clear hx162_3
            try clear hx163_0
            try clear hx163_1
            try clear hx163_2
            try clear hx163_3
            try clear hx164_0
            try clear hx164_1
            try clear hx164_2
            try clear hx164_3
            try clear hx166_0
            try clear hx166_1
            try clear hx166_2
            try clear hx166_3
            try clear hx17_0
            try clear hx17_1
            try clear hx17_2
            try clear hx17_3
            try clear hx20_0
            try clear hx20_1
            try clear hx20_2
            try clear hx20_3
            try clear p149
            try clear p162
            try clear p163
            try clear p164
            try clear p166
            try clear p17
            try clear q149
            try clear q162
            try clear q163
            try clear q164
            try clear q166
            try clear q17
            obtain ⟨x8_4, x16_4, x126_4, rfl, rfl, HA, HK4, HO_8, HO_11, HO_124, BK150, HB⟩ := hrel
            have hl8_4 := (Kd.R_reads' HO_8.out).1
            rw [hl8_4] at HO_8
            (try simp only [hl8_4])
            (try simp only [hl8_4] at BK150)
            (try simp only [hl8_4] at HO_11)
            (try simp only [hl8_4] at HO_124)
            cases gk with
            | zero => exact absurd HA.out (by simp [spec_LayOut.l2])
            | succ k4 =>
             have H := HA.out
             clear HA
             simp only [spec_LayOut.l2] at H
             by_cases c60 : x126_4 < (t168.length : Int)
             ·rw [if_pos c60] at H
              have c60b0 : decide (x126_4 < (t168.length : Int)) = true := decide_eq_true c60
              (try rw [hl8_2] at c60b0)
              (try rw [hl8_4] at c60b0)
              clear c60
              obtain ⟨c61, H⟩ := ifn_ H
              have c61b0 : decide (0 ≤ x126_4) = true := decide_eq_true c61
              clear c61
              obtain ⟨c62, H⟩ := ifn_ H
              have c62b0 : decide (x126_4 < (t168.length : Int)) = true := decide_eq_true c62
              (try rw [hl8_2] at c62b0)
              (try rw [hl8_4] at c62b0)
              clear c62
              obtain ⟨c63, H⟩ := ifn_ H
              have c63b0 : decide (x126_4 < (x11_3.length : Int)) = true := decide_eq_true c63
              (try rw [hl8_2] at c63b0)
              (try rw [hl8_4] at c63b0)
              clear c63
              obtain ⟨c64, H⟩ := ifn_ H
              have c64b0 : decide (0 ≤ (rd x11_3 x126_4)) = true := decide_eq_true c64
              clear c64
              obtain ⟨c65, H⟩ := ifn_ H
              have c65b0 : decide ((rd x11_3 x126_4) < (x8_4.length : Int)) = true := decide_eq_true c65
              (try rw [hl8_2] at c65b0)
              (try rw [hl8_4] at c65b0)
              clear c65
              obtain ⟨y173, hy173⟩ : ∃ y_ : List (S72), y_ = (x8_4.set ((rd x11_3 x126_4) : Int).toNat (⟨x16_4, (wrap64 (((rd_T72 x8_2 x47_2).f1) + ((rd_T74 l0 x47_2).f4))), rd t168 x126_4, t167⟩ : S72)) := ⟨_, rfl⟩
              replace H : (spec_LayOut.l2 k4 l0 y173 x11_3 (wrap64 (x16_4 + (rd t168 x126_4))) (wrap64 (((rd_T72 x8_2 x47_2).f1) + ((rd_T74 l0 x47_2).f4))) t167 l0 (l0.length : Int) x47_2 t168 (t168.length : Int) (wrap64 (x126_4 + 1))) = some (r1, r2) := by first | (rw [hy173]; with_reducible exact H) | (have H2_ := (Option.bind_some _ _).symm.trans H; rw [hy173]; with_reducible exact H2_) | (have H2_ := (Option.bind_some _ _).symm.trans H; with_reducible exact H2_) | with_reducible exact H | (rw [hy173]; exact H) | exact H
              have Ny173 := am_ hy173
              clear hy173
              have H' := am_ H
              clear H
              have p171 : 0 ≤ (x126_4 : Int) := od_
              have q171 : x126_4 < (t168.length : Int) := od_
              obtain ⟨ad171, e171, hx171_0⟩ := Kd.at_int (Kd.R_reads' HO_124.out).2.2 x126_4 p171 q171
              cases e171
              replace p171 := eq_true p171
              replace q171 := eq_true q171
              obtain ⟨Ao67, co67, eo67⟩ := Kd.R_slice HO_11.out
              subst eo67
              have p172 : 0 ≤ (x126_4 : Int) := od_
              have q172 : x126_4 < (x11_3.length : Int) := od_
              obtain ⟨ad172, e172, hx172_0⟩ := Kd.at_int (Kd.R_reads' HO_11.out).2.2 x126_4 p172 q172
              cases e172
              replace p172 := eq_true p172
              replace q172 := eq_true q172
              have p66 : 0 ≤ ((rd x11_3 x126_4) : Int) := od_
              have q66 : ((rd x11_3 x126_4) : Int) < ((x8_4.length : Int) : Int) := od_
              obtain ⟨ce66, hcl66, hM66, hcc66, hfr66⟩ := Kd.R_elem HO_8.out z72 ((rd x11_3 x126_4) : Int) p66 q66
              obtain rfl := k72_openM hM66
              have hx66_0 : wr.cell? ⟨go17, ((rd x11_3 x126_4) : Int).toNat * 4, none⟩ = some (.int .i64 ((rd_T72 x8_4 (rd x11_3 x126_4)).f0)) := hcc66 0 _ rfl
              have hx66_1 : wr.cell? ⟨go17, ((rd x11_3 x126_4) : Int).toNat * 4 + 1, none⟩ = some (.int .i64 ((rd_T72 x8_4 (rd x11_3 x126_4)).f1)) := hcc66 1 _ rfl
              have hx66_2 : wr.cell? ⟨go17, ((rd x11_3 x126_4) : Int).toNat * 4 + 2, none⟩ = some (.int .i64 ((rd_T72 x8_4 (rd x11_3 x126_4)).f2)) := hcc66 2 _ rfl
              have hx66_3 : wr.cell? ⟨go17, ((rd x11_3 x126_4) : Int).toNat * 4 + 3, none⟩ = some (.int .i64 ((rd_T72 x8_4 (rd x11_3 x126_4)).f3)) := hcc66 3 _ rfl
              have hf66_0 : wr.frozen? ⟨go17, ((rd x11_3 x126_4) : Int).toNat * 4, none⟩ = false := hfr66 0
              have hf66_1 : wr.frozen? ⟨go17, ((rd x11_3 x126_4) : Int).toNat * 4 + 1, none⟩ = false := hfr66 1
              have hf66_2 : wr.frozen? ⟨go17, ((rd x11_3 x126_4) : Int).toNat * 4 + 2, none⟩ = false := hfr66 2
              have hf66_3 : wr.frozen? ⟨go17, ((rd x11_3 x126_4) : Int).toNat * 4 + 3, none⟩ = false := hfr66 3
              clear hcl66 hcc66 hfr66; (try clear hM66)
              replace p66 := eq_true p66
              replace q66 := eq_true q66
              have HX68 := am_ (show Kd.R k72 72 wr w.heap.size (fun _ => True) (.slice (some ⟨go17, 0, none⟩) x8_4.length co17) x8_4 from (ra_ HO_8.out))
              obtain ⟨ce68, hcl68, hM68, hcc68, hfr68⟩ := Kd.R_elem HX68.out z72 ((rd x11_3 x126_4) : Int) od_ (by have h_ : ((rd x11_3 x126_4) : Int) < ((x8_4.length : Int) : Int) := od_; first | exact h_ | (have e_ := (Kd.R_reads' HO_8.out).1; omega) | simpa using h_)
              obtain rfl := k72_openM hM68
              have HP68 := Kd.R_seg HX68.out ((rd x11_3 x126_4) : Int) od_ (by have h_ : ((rd x11_3 x126_4) : Int) < ((x8_4.length : Int) : Int) := od_; first | exact h_ | (have e_ := (Kd.R_reads' HO_8.out).1; omega) | simpa using h_) (seg := [.int .i64 x16_4, .int .i64 (wrap64 (((rd_T72 x8_2 x47_2).f1) + ((rd_T74 l0 x47_2).f4))), .int .i64 (rd t168 x126_4), .int .i64 t167]) (j := 0) hcl68 hcc68 (show 4 ≤ 4 from by decide) (x' := (⟨x16_4, (wrap64 (((rd_T72 x8_2 x47_2).f1) + ((rd_T74 l0 x47_2).f4))), rd t168 x126_4, t167⟩ : S72)) (k72_mkM _ _ _ (⟨x16_4, (wrap64 (((rd_T72 x8_2 x47_2).f1) + ((rd_T74 l0 x47_2).f4))), rd t168 x126_4, t167⟩ : S72) ) (fun _ hk => hk)
              have hx68_0 := hcc68 0 _ rfl
              (try simp only [show (k72).sz = 4 from rfl, Nat.mul_one, Nat.add_zero] at hx68_0)
              have hf68_0 := hfr68 0
              (try simp only [show (k72).sz = 4 from rfl, Nat.mul_one, Nat.add_zero] at hf68_0)
              have hx68_1 := hcc68 1 _ rfl
              (try simp only [show (k72).sz = 4 from rfl, Nat.mul_one, Nat.add_zero] at hx68_1)
              have hf68_1 := hfr68 1
              (try simp only [show (k72).sz = 4 from rfl, Nat.mul_one, Nat.add_zero] at hf68_1)
              have hx68_2 := hcc68 2 _ rfl
              (try simp only [show (k72).sz = 4 from rfl, Nat.mul_one, Nat.add_zero] at hx68_2)
              have hf68_2 := hfr68 2
              (try simp only [show (k72).sz = 4 from rfl, Nat.mul_one, Nat.add_zero] at hf68_2)
              have hx68_3 := hcc68 3 _ rfl
              (try simp only [show (k72).sz = 4 from rfl, Nat.mul_one, Nat.add_zero] at hx68_3)
              have hf68_3 := hfr68 3
              (try simp only [show (k72).sz = 4 from rfl, Nat.mul_one, Nat.add_zero] at hf68_3)
              clear hcl68 hcc68 hfr68; (try clear hM68)
              go_wp2_with (first | ((with_reducible refine gate_store (t := 72) (p := 141) rfl ?_); (try (rw [drewN_self wr]; generalize hq_ : World.drewN wr _ = wr; have n0_ := am_ (Kd.R_at hq_ HO_8.out); have n1_ := am_ (Kd.R_at hq_ HO_11.out); have n2_ := am_ (Kd.R_at hq_ HO_124.out); have n3_ := am_ (blk_at hq_ BK150.out); have n4_ := am_ (below_at hq_ HB.out); clear hq_ HO_8 HO_11 HO_124 BK150 HB; have HO_8 := n0_; have HO_11 := n1_; have HO_124 := n2_; have BK150 := n3_; have HB := n4_; clear n0_ n1_ n2_ n3_ n4_; (try (have HX68 := am_ (show Kd.R k72 72 wr w.heap.size (fun _ => True) (.slice (some ⟨go17, 0, none⟩) x8_4.length co17) x8_4 from (ra_ HO_8.out)))); (try (obtain ⟨ce68, hcl68, hM68, hcc68, hfr68⟩ := Kd.R_elem HX68.out z72 ((rd x11_3 x126_4) : Int) od_ (by have h_ : ((rd x11_3 x126_4) : Int) < ((x8_4.length : Int) : Int) := od_; first | exact h_ | (have e_ := (Kd.R_reads' HO_8.out).1; omega) | simpa using h_))); (try (obtain rfl := k72_openM hM68)); (try (have HP68 := Kd.R_seg HX68.out ((rd x11_3 x126_4) : Int) od_ (by have h_ : ((rd x11_3 x126_4) : Int) < ((x8_4.length : Int) : Int) := od_; first | exact h_ | (have e_ := (Kd.R_reads' HO_8.out).1; omega) | simpa using h_) (seg := [.int .i64 x16_4, .int .i64 (wrap64 (((rd_T72 x8_2 x47_2).f1) + ((rd_T74 l0 x47_2).f4))), .int .i64 (rd t168 x126_4), .int .i64 t167]) (j := 0) hcl68 hcc68 (show 4 ≤ 4 from by decide) (x' := (⟨x16_4, (wrap64 (((rd_T72 x8_2 x47_2).f1) + ((rd_T74 l0 x47_2).f4))), rd t168 x126_4, t167⟩ : S72)) (k72_mkM _ _ _ (⟨x16_4, (wrap64 (((rd_T72 x8_2 x47_2).f1) + ((rd_T74 l0 x47_2).f4))), rd t168 x126_4, t167⟩ : S72) ) (fun _ hk => hk))); (try (have hx68_0 := hcc68 0 _ rfl)); (try (try simp only [show (k72).sz = 4 from rfl, Nat.mul_one, Nat.add_zero] at hx68_0)); (try (have hf68_0 := hfr68 0)); (try (try simp only [show (k72).sz = 4 from rfl, Nat.mul_one, Nat.add_zero] at hf68_0)); (try (have hx68_1 := hcc68 1 _ rfl)); (try (try simp only [show (k72).sz = 4 from rfl, Nat.mul_one, Nat.add_zero] at hx68_1)); (try (have hf68_1 := hfr68 1)); (try (try simp only [show (k72).sz = 4 from rfl, Nat.mul_one, Nat.add_zero] at hf68_1)); (try (have hx68_2 := hcc68 2 _ rfl)); (try (try simp only [show (k72).sz = 4 from rfl, Nat.mul_one, Nat.add_zero] at hx68_2)); (try (have hf68_2 := hfr68 2)); (try (try simp only [show (k72).sz = 4 from rfl, Nat.mul_one, Nat.add_zero] at hf68_2)); (try (have hx68_3 := hcc68 3 _ rfl)); (try (try simp only [show (k72).sz = 4 from rfl, Nat.mul_one, Nat.add_zero] at hx68_3)); (try (have hf68_3 := hfr68 3)); (try (try simp only [show (k72).sz = 4 from rfl, Nat.mul_one, Nat.add_zero] at hf68_3)); (try (clear hcl68 hcc68 hfr68; (try clear hM68))))); refine se_ 72 141 ((((wr.setCell ⟨go17, ((rd x11_3 x126_4) : Int).toNat * 4, none⟩ (.int .i64 x16_4)).setCell ⟨go17, ((rd x11_3 x126_4) : Int).toNat * 4 + 1, none⟩ (.int .i64 (wrap64 (((rd_T72 x8_2 x47_2).f1) + ((rd_T74 l0 x47_2).f4))))).setCell ⟨go17, ((rd x11_3 x126_4) : Int).toNat * 4 + 2, none⟩ (.int .i64 (rd t168 x126_4))).setCell ⟨go17, ((rd x11_3 x126_4) : Int).toNat * 4 + 3, none⟩ (.int .i64 t167)) ?_; intro w69 hw; have hg : wr.grownBy w69 (some go17) := (by rw [hw]; exact HP68.2); have hp_ : Kd.R k72 72 w69 w.heap.size (fun _ => True) (.slice (some ⟨go17, 0, none⟩) x8_4.length co17) y173 := (by rw [hw, Ny173.out]; exact HP68.1); clear HP68; have n0_ := am_ (hp_); have n1_ := am_ (Kd.R_over' (v := (.slice (some ⟨go17, 0, none⟩) x8_4.length co17)) (ra_ HO_11.out) (Kd.R_typed HO_8.out) (by decide) hg); have n2_ := am_ (Kd.R_over' (v := (.slice (some ⟨go17, 0, none⟩) x8_4.length co17)) (ra_ HO_124.out) (Kd.R_typed HO_8.out) (by decide) hg); have n3_ := am_ (blk_grown (bk_ BK150.out) hg (Kd.R_ne HO_8.out BK150.out (by decide))); have n4_ := am_ ((by rw [hw]; exact below_set (below_set (below_set (below_set (HB.out) GB17.out) GB17.out) GB17.out) GB17.out : Below w.heap.size w w69)); replace HO_8 := n0_; replace HO_11 := n1_; replace HO_124 := n2_; replace BK150 := n3_; replace HB := n4_; clear n0_ n1_ n2_ n3_ n4_; clear hg hw hp_))
              repeat (go_quiet (first | ((with_reducible refine gate_store (t := 72) (p := 141) rfl ?_); (try (rw [drewN_self wr]; generalize hq_ : World.drewN wr _ = wr; have n0_ := am_ (Kd.R_at hq_ HO_8.out); have n1_ := am_ (Kd.R_at hq_ HO_11.out); have n2_ := am_ (Kd.R_at hq_ HO_124.out); have n3_ := am_ (blk_at hq_ BK150.out); have n4_ := am_ (below_at hq_ HB.out); clear hq_ HO_8 HO_11 HO_124 BK150 HB; have HO_8 := n0_; have HO_11 := n1_; have HO_124 := n2_; have BK150 := n3_; have HB := n4_; clear n0_ n1_ n2_ n3_ n4_; (try (have HX68 := am_ (show Kd.R k72 72 wr w.heap.size (fun _ => True) (.slice (some ⟨go17, 0, none⟩) x8_4.length co17) x8_4 from (ra_ HO_8.out)))); (try (obtain ⟨ce68, hcl68, hM68, hcc68, hfr68⟩ := Kd.R_elem HX68.out z72 ((rd x11_3 x126_4) : Int) od_ (by have h_ : ((rd x11_3 x126_4) : Int) < ((x8_4.length : Int) : Int) := od_; first | exact h_ | (have e_ := (Kd.R_reads' HO_8.out).1; omega) | simpa using h_))); (try (obtain rfl := k72_openM hM68)); (try (have HP68 := Kd.R_seg HX68.out ((rd x11_3 x126_4) : Int) od_ (by have h_ : ((rd x11_3 x126_4) : Int) < ((x8_4.length : Int) : Int) := od_; first | exact h_ | (have e_ := (Kd.R_reads' HO_8.out).1; omega) | simpa using h_) (seg := [.int .i64 x16_4, .int .i64 (wrap64 (((rd_T72 x8_2 x47_2).f1) + ((rd_T74 l0 x47_2).f4))), .int .i64 (rd t168 x126_4), .int .i64 t167]) (j := 0) hcl68 hcc68 (show 4 ≤ 4 from by decide) (x' := (⟨x16_4, (wrap64 (((rd_T72 x8_2 x47_2).f1) + ((rd_T74 l0 x47_2).f4))), rd t168 x126_4, t167⟩ : S72)) (k72_mkM _ _ _ (⟨x16_4, (wrap64 (((rd_T72 x8_2 x47_2).f1) + ((rd_T74 l0 x47_2).f4))), rd t168 x126_4, t167⟩ : S72) ) (fun _ hk => hk))); (try (have hx68_0 := hcc68 0 _ rfl)); (try (try simp only [show (k72).sz = 4 from rfl, Nat.mul_one, Nat.add_zero] at hx68_0)); (try (have hf68_0 := hfr68 0)); (try (try simp only [show (k72).sz = 4 from rfl, Nat.mul_one, Nat.add_zero] at hf68_0)); (try (have hx68_1 := hcc68 1 _ rfl)); (try (try simp only [show (k72).sz = 4 from rfl, Nat.mul_one, Nat.add_zero] at hx68_1)); (try (have hf68_1 := hfr68 1)); (try (try simp only [show (k72).sz = 4 from rfl, Nat.mul_one, Nat.add_zero] at hf68_1)); (try (have hx68_2 := hcc68 2 _ rfl)); (try (try simp only [show (k72).sz = 4 from rfl, Nat.mul_one, Nat.add_zero] at hx68_2)); (try (have hf68_2 := hfr68 2)); (try (try simp only [show (k72).sz = 4 from rfl, Nat.mul_one, Nat.add_zero] at hf68_2)); (try (have hx68_3 := hcc68 3 _ rfl)); (try (try simp only [show (k72).sz = 4 from rfl, Nat.mul_one, Nat.add_zero] at hx68_3)); (try (have hf68_3 := hfr68 3)); (try (try simp only [show (k72).sz = 4 from rfl, Nat.mul_one, Nat.add_zero] at hf68_3)); (try (clear hcl68 hcc68 hfr68; (try clear hM68))))); refine se_ 72 141 ((((wr.setCell ⟨go17, ((rd x11_3 x126_4) : Int).toNat * 4, none⟩ (.int .i64 x16_4)).setCell ⟨go17, ((rd x11_3 x126_4) : Int).toNat * 4 + 1, none⟩ (.int .i64 (wrap64 (((rd_T72 x8_2 x47_2).f1) + ((rd_T74 l0 x47_2).f4))))).setCell ⟨go17, ((rd x11_3 x126_4) : Int).toNat * 4 + 2, none⟩ (.int .i64 (rd t168 x126_4))).setCell ⟨go17, ((rd x11_3 x126_4) : Int).toNat * 4 + 3, none⟩ (.int .i64 t167)) ?_; intro w69 hw; have hg : wr.grownBy w69 (some go17) := (by rw [hw]; exact HP68.2); have hp_ : Kd.R k72 72 w69 w.heap.size (fun _ => True) (.slice (some ⟨go17, 0, none⟩) x8_4.length co17) y173 := (by rw [hw, Ny173.out]; exact HP68.1); clear HP68; have n0_ := am_ (hp_); have n1_ := am_ (Kd.R_over' (v := (.slice (some ⟨go17, 0, none⟩) x8_4.length co17)) (ra_ HO_11.out) (Kd.R_typed HO_8.out) (by decide) hg); have n2_ := am_ (Kd.R_over' (v := (.slice (some ⟨go17, 0, none⟩) x8_4.length co17)) (ra_ HO_124.out) (Kd.R_typed HO_8.out) (by decide) hg); have n3_ := am_ (blk_grown (bk_ BK150.out) hg (Kd.R_ne HO_8.out BK150.out (by decide))); have n4_ := am_ ((by rw [hw]; exact below_set (below_set (below_set (below_set (HB.out) GB17.out) GB17.out) GB17.out) GB17.out : Below w.heap.size w w69)); replace HO_8 := n0_; replace HO_11 := n1_; replace HO_124 := n2_; replace BK150 := n3_; replace HB := n4_; clear n0_ n1_ n2_ n3_ n4_; clear hg hw hp_)); try go_wp2_with (first | ((with_reducible refine gate_store (t := 72) (p := 141) rfl ?_); (try (rw [drewN_self wr]; generalize hq_ : World.drewN wr _ = wr; have n0_ := am_ (Kd.R_at hq_ HO_8.out); have n1_ := am_ (Kd.R_at hq_ HO_11.out); have n2_ := am_ (Kd.R_at hq_ HO_124.out); have n3_ := am_ (blk_at hq_ BK150.out); have n4_ := am_ (below_at hq_ HB.out); clear hq_ HO_8 HO_11 HO_124 BK150 HB; have HO_8 := n0_; have HO_11 := n1_; have HO_124 := n2_; have BK150 := n3_; have HB := n4_; clear n0_ n1_ n2_ n3_ n4_; (try (have HX68 := am_ (show Kd.R k72 72 wr w.heap.size (fun _ => True) (.slice (some ⟨go17, 0, none⟩) x8_4.length co17) x8_4 from (ra_ HO_8.out)))); (try (obtain ⟨ce68, hcl68, hM68, hcc68, hfr68⟩ := Kd.R_elem HX68.out z72 ((rd x11_3 x126_4) : Int) od_ (by have h_ : ((rd x11_3 x126_4) : Int) < ((x8_4.length : Int) : Int) := od_; first | exact h_ | (have e_ := (Kd.R_reads' HO_8.out).1; omega) | simpa using h_))); (try (obtain rfl := k72_openM hM68)); (try (have HP68 := Kd.R_seg HX68.out ((rd x11_3 x126_4) : Int) od_ (by have h_ : ((rd x11_3 x126_4) : Int) < ((x8_4.length : Int) : Int) := od_; first | exact h_ | (have e_ := (Kd.R_reads' HO_8.out).1; omega) | simpa using h_) (seg := [.int .i64 x16_4, .int .i64 (wrap64 (((rd_T72 x8_2 x47_2).f1) + ((rd_T74 l0 x47_2).f4))), .int .i64 (rd t168 x126_4), .int .i64 t167]) (j := 0) hcl68 hcc68 (show 4 ≤ 4 from by decide) (x' := (⟨x16_4, (wrap64 (((rd_T72 x8_2 x47_2).f1) + ((rd_T74 l0 x47_2).f4))), rd t168 x126_4, t167⟩ : S72)) (k72_mkM _ _ _ (⟨x16_4, (wrap64 (((rd_T72 x8_2 x47_2).f1) + ((rd_T74 l0 x47_2).f4))), rd t168 x126_4, t167⟩ : S72) ) (fun _ hk => hk))); (try (have hx68_0 := hcc68 0 _ rfl)); (try (try simp only [show (k72).sz = 4 from rfl, Nat.mul_one, Nat.add_zero] at hx68_0)); (try (have hf68_0 := hfr68 0)); (try (try simp only [show (k72).sz = 4 from rfl, Nat.mul_one, Nat.add_zero] at hf68_0)); (try (have hx68_1 := hcc68 1 _ rfl)); (try (try simp only [show (k72).sz = 4 from rfl, Nat.mul_one, Nat.add_zero] at hx68_1)); (try (have hf68_1 := hfr68 1)); (try (try simp only [show (k72).sz = 4 from rfl, Nat.mul_one, Nat.add_zero] at hf68_1)); (try (have hx68_2 := hcc68 2 _ rfl)); (try (try simp only [show (k72).sz = 4 from rfl, Nat.mul_one, Nat.add_zero] at hx68_2)); (try (have hf68_2 := hfr68 2)); (try (try simp only [show (k72).sz = 4 from rfl, Nat.mul_one, Nat.add_zero] at hf68_2)); (try (have hx68_3 := hcc68 3 _ rfl)); (try (try simp only [show (k72).sz = 4 from rfl, Nat.mul_one, Nat.add_zero] at hx68_3)); (try (have hf68_3 := hfr68 3)); (try (try simp only [show (k72).sz = 4 from rfl, Nat.mul_one, Nat.add_zero] at hf68_3)); (try (clear hcl68 hcc68 hfr68; (try clear hM68))))); refine se_ 72 141 ((((wr.setCell ⟨go17, ((rd x11_3 x126_4) : Int).toNat * 4, none⟩ (.int .i64 x16_4)).setCell ⟨go17, ((rd x11_3 x126_4) : Int).toNat * 4 + 1, none⟩ (.int .i64 (wrap64 (((rd_T72 x8_2 x47_2).f1) + ((rd_T74 l0 x47_2).f4))))).setCell ⟨go17, ((rd x11_3 x126_4) : Int).toNat * 4 + 2, none⟩ (.int .i64 (rd t168 x126_4))).setCell ⟨go17, ((rd x11_3 x126_4) : Int).toNat * 4 + 3, none⟩ (.int .i64 t167)) ?_; intro w69 hw; have hg : wr.grownBy w69 (some go17) := (by rw [hw]; exact HP68.2); have hp_ : Kd.R k72 72 w69 w.heap.size (fun _ => True) (.slice (some ⟨go17, 0, none⟩) x8_4.length co17) y173 := (by rw [hw, Ny173.out]; exact HP68.1); clear HP68; have n0_ := am_ (hp_); have n1_ := am_ (Kd.R_over' (v := (.slice (some ⟨go17, 0, none⟩) x8_4.length co17)) (ra_ HO_11.out) (Kd.R_typed HO_8.out) (by decide) hg); have n2_ := am_ (Kd.R_over' (v := (.slice (some ⟨go17, 0, none⟩) x8_4.length co17)) (ra_ HO_124.out) (Kd.R_typed HO_8.out) (by decide) hg); have n3_ := am_ (blk_grown (bk_ BK150.out) hg (Kd.R_ne HO_8.out BK150.out (by decide))); have n4_ := am_ ((by rw [hw]; exact below_set (below_set (below_set (below_set (HB.out) GB17.out) GB17.out) GB17.out) GB17.out : Below w.heap.size w w69)); replace HO_8 := n0_; replace HO_11 := n1_; replace HO_124 := n2_; replace BK150 := n3_; replace HB := n4_; clear n0_ n1_ n2_ n3_ n4_; clear hg hw hp_)))
              (try simp only [← hl8_4])
              (try simp only [show (⟨go17, (x126_4 : Int).toNat, none⟩ : Addr) = Addr.add ⟨go17, 0, none⟩ (x126_4 : Int).toNat from by simp [Addr.add]])
              go_roundg k4
              case measure => have := HJ3.out; have := HK2.out; have := HK3.out; have := HK4.out; omega
              case rel => first | exact ⟨(y173), (wrap64 (x16_4 + (rd t168 x126_4))), (wrap64 (x126_4 + 1)), sq_, sq_, H', ⟨by have := HJ3.out; have := HK2.out; have := HK3.out; have := HK4.out; omega⟩, ⟨by (try simp only [hl8_2]); (try simp only [hl8_4]); (with_reducible repeat (first | apply Kd.R_alloc | apply Kd.R_drewN | apply Kd.R_drew)); exact HO_8.out⟩, ⟨by (try simp only [hl8_2]); (try simp only [hl8_4]); (with_reducible repeat (first | apply Kd.R_alloc | apply Kd.R_drewN | apply Kd.R_drew)); exact HO_11.out⟩, ⟨by (try simp only [hl8_2]); (try simp only [hl8_4]); (with_reducible repeat (first | apply Kd.R_alloc | apply Kd.R_drewN | apply Kd.R_drew)); exact HO_124.out⟩, ⟨by (try simp only [hl8_2]); (try simp only [hl8_4]); (with_reducible repeat (first | refine blk_drewN ?_ _ | refine blk_drew ?_ | refine blk_alloc ?_ _)); exact BK150.out⟩, ⟨bw_ HB.out⟩⟩ | (simp only [(show (⟨go17, (x126_4 : Int).toNat, none⟩ : Addr) = Addr.add ⟨go17, 0, none⟩ (x126_4 : Int).toNat from by simp [Addr.add]).symm]; exact ⟨(y173), (wrap64 (x16_4 + (rd t168 x126_4))), (wrap64 (x126_4 + 1)), sq_, sq_, H', ⟨by have := HJ3.out; have := HK2.out; have := HK3.out; have := HK4.out; omega⟩, ⟨by (try simp only [hl8_2]); (try simp only [hl8_4]); (with_reducible repeat (first | apply Kd.R_alloc | apply Kd.R_drewN | apply Kd.R_drew)); exact HO_8.out⟩, ⟨by (try simp only [hl8_2]); (try simp only [hl8_4]); (with_reducible repeat (first | apply Kd.R_alloc | apply Kd.R_drewN | apply Kd.R_drew)); exact HO_11.out⟩, ⟨by (try simp only [hl8_2]); (try simp only [hl8_4]); (with_reducible repeat (first | apply Kd.R_alloc | apply Kd.R_drewN | apply Kd.R_drew)); exact HO_124.out⟩, ⟨by (try simp only [hl8_2]); (try simp only [hl8_4]); (with_reducible repeat (first | refine blk_drewN ?_ _ | refine blk_drew ?_ | refine blk_alloc ?_ _)); exact BK150.out⟩, ⟨bw_ HB.out⟩⟩)
             ·rw [if_neg c60] at H
              have c60b0 : decide (x126_4 < (t168.length : Int)) = false := decide_eq_false c60
              (try rw [hl8_2] at c60b0)
              (try rw [hl8_4] at c60b0)
              clear c60
              have H' := am_ H
              clear H
              go_wp2
              repeat (go_quiet (fail); try go_wp2)
              (try simp only [← hl8_2, ← hl8_4])
              go_roundg k4
              case measure => have := HJ3.out; have := HK2.out; have := HK3.out; have := HK4.out; omega
              case rel => exact ⟨(x8_4), (wrap64 (x47_2 + 1)), sq_, H', ⟨by have := HJ3.out; have := HK2.out; have := HK3.out; have := HK4.out; omega⟩, ⟨by (try simp only [hl8_2]); (try simp only [hl8_4]); (with_reducible repeat (first | apply Kd.R_alloc | apply Kd.R_drewN | apply Kd.R_drew)); exact HO_8.out⟩, ⟨bw_ HB.out⟩⟩
          ·rw [if_neg c53] at H
           have c53b0 : (((rd_T74 l0 x47_2).f1) == 1) = false := beq_eq_false_iff_ne.mpr c53
           have c53b1 : (((rd_T74 l0 x47_2).f1) != 1) = true := bne_iff_ne.mpr c53
           obtain ⟨t174, A700, H⟩ := bE_ H
           have A70 := am_ A700
           clear A700
           have H' := am_ H
           clear H
           have p162 : 0 ≤ (x47_2 : Int) := od_
           have q162 : x47_2 < (x8_2.length : Int) := od_
           obtain ⟨ad162, e162, hx162_0, hx162_1, hx162_2, hx162_3⟩ := at_T72 (Kd.R_reads' HO_8.out).2.2 x47_2 p162 q162
           obtain rfl : (⟨go17, 0, none⟩ : Addr) = ad162 := (by injection e162)
           (first | simp only [add_plain] at hx162_0 | simp only [add_at] at hx162_0 | simp only [Addr.add, Nat.zero_add] at hx162_0 | skip)
           (first | simp only [add_plain] at hx162_1 | simp only [add_at] at hx162_1 | simp only [Addr.add, Nat.zero_add] at hx162_1 | skip)
           (first | simp only [add_plain] at hx162_2 | simp only [add_at] at hx162_2 | simp only [Addr.add, Nat.zero_add] at hx162_2 | skip)
           (first | simp only [add_plain] at hx162_3 | simp only [add_at] at hx162_3 | simp only [Addr.add, Nat.zero_add] at hx162_3 | skip)
           replace p162 := eq_true p162
           replace q162 := eq_true q162
           have hcz71_0 := cz_ BK150.out 0
           have hcz71_1 := cz_ BK150.out 1
           have hcz71_2 := cz_ BK150.out 2
           have hcz71_3 := cz_ BK150.out 3
           have hcz71_4 := cz_ BK150.out 4
           have hfz71_0 := blk_frozen BK150.out 0
           have hfz71_1 := blk_frozen BK150.out 1
           have hfz71_2 := blk_frozen BK150.out 2
           have hfz71_3 := blk_frozen BK150.out 3
           have hfz71_4 := blk_frozen BK150.out 4
           have p163 : 0 ≤ (x47_2 : Int) := od_
           have q163 : x47_2 < (x8_2.length : Int) := od_
           obtain ⟨ad163, e163, hx163_0, hx163_1, hx163_2, hx163_3⟩ := at_T72 (Kd.R_reads' HO_8.out).2.2 x47_2 p163 q163
           obtain rfl : (⟨go17, 0, none⟩ : Addr) = ad163 := (by injection e163)
           (first | simp only [add_plain] at hx163_0 | simp only [add_at] at hx163_0 | simp only [Addr.add, Nat.zero_add] at hx163_0 | skip)
           (first | simp only [add_plain] at hx163_1 | simp only [add_at] at hx163_1 | simp only [Addr.add, Nat.zero_add] at hx163_1 | skip)
           (first | simp only [add_plain] at hx163_2 | simp only [add_at] at hx163_2 | simp only [Addr.add, Nat.zero_add] at hx163_2 | skip)
           (first | simp only [add_plain] at hx163_3 | simp only [add_at] at hx163_3 | simp only [Addr.add, Nat.zero_add] at hx163_3 | skip)
           replace p163 := eq_true p163
           replace q163 := eq_true q163
           have p164 : 0 ≤ (x47_2 : Int) := od_
           have q164 : x47_2 < (x8_2.length : Int) := od_
           obtain ⟨ad164, e164, hx164_0, hx164_1, hx164_2, hx164_3⟩ := at_T72 (Kd.R_reads' HO_8.out).2.2 x47_2 p164 q164
           obtain rfl : (⟨go17, 0, none⟩ : Addr) = ad164 := (by injection e164)
           (first | simp only [add_plain] at hx164_0 | simp only [add_at] at hx164_0 | simp only [Addr.add, Nat.zero_add] at hx164_0 | skip)
           (first | simp only [add_plain] at hx164_1 | simp only [add_at] at hx164_1 | simp only [Addr.add, Nat.zero_add] at hx164_1 | skip)
           (first | simp only [add_plain] at hx164_2 | simp only [add_at] at hx164_2 | simp only [Addr.add, Nat.zero_add] at hx164_2 | skip)
           (first | simp only [add_plain] at hx164_3 | simp only [add_at] at hx164_3 | simp only [Addr.add, Nat.zero_add] at hx164_3 | skip)
           replace p164 := eq_true p164
           replace q164 := eq_true q164
           go_wp2_with (first | (go_at_call 40; (try simp only [i64_w]); (with_reducible refine (spec_l18Least.calls (wrap64 (((rd_T72 x8_2 x47_2).f2) - (wrap64 (2 * ((rd_T74 l0 x47_2).f4))))) t165 _ A51.out).mono ?_); rintro e w' ⟨rfl, ⟨nd, rfl⟩⟩; (try first | exact ⟨rfl, _, World.drewN_drewN _ _ _⟩ | exact ⟨rfl, _, Eq.trans (World.drewN_drewN _ _ _) (congrArg (World.drewN _) (Nat.add_assoc _ _ _))⟩); have p166 : 0 ≤ (x47_2 : Int) := od_; have q166 : x47_2 < (x8_2.length : Int) := od_; obtain ⟨ad166, e166, hx166_0, hx166_1, hx166_2, hx166_3⟩ := at_T72 (Kd.R_reads' HO_8.out).2.2 x47_2 p166 q166; obtain rfl : (⟨go17, 0, none⟩ : Addr) = ad166 := (by injection e166); (first | simp only [add_plain] at hx166_0 | simp only [add_at] at hx166_0 | simp only [Addr.add, Nat.zero_add] at hx166_0 | skip); (first | simp only [add_plain] at hx166_1 | simp only [add_at] at hx166_1 | simp only [Addr.add, Nat.zero_add] at hx166_1 | skip); (first | simp only [add_plain] at hx166_2 | simp only [add_at] at hx166_2 | simp only [Addr.add, Nat.zero_add] at hx166_2 | skip); (first | simp only [add_plain] at hx166_3 | simp only [add_at] at hx166_3 | simp only [Addr.add, Nat.zero_add] at hx166_3 | skip); replace p166 := eq_true p166; replace q166 := eq_true q166) | (go_at_call 40; (try simp only [i64_w]); (with_reducible refine (spec_l18Least.calls (wrap64 (((rd_T72 x8_2 x47_2).f3) - (wrap64 (2 * ((rd_T74 l0 x47_2).f4))))) t167 _ A52.out).mono ?_); rintro e w' ⟨rfl, ⟨nd, rfl⟩⟩; (try first | exact ⟨rfl, _, World.drewN_drewN _ _ _⟩ | exact ⟨rfl, _, Eq.trans (World.drewN_drewN _ _ _) (congrArg (World.drewN _) (Nat.add_assoc _ _ _))⟩); obtain ⟨Ao72, co72, eo72⟩ := Kd.R_slice HO_12.out; subst eo72; obtain ⟨Ao73, co73, eo73⟩ := Kd.R_slice HO_13.out; subst eo73) | (go_at_call 41; (with_reducible refine (spec_l18Share.calls k3 t167 _ _ x12_3 _ _ x13_3 t174 _ ?side1 ?side2 ?side3 ?side4 A70.out).mono ?_); (case side1 => repeat (first | exact (Kd.R_reads' HO_12.out).2.2 | (with_reducible refine Kd.C_alloc ?_ _) | (with_reducible refine Kd.C_drewN ?_ _) | (with_reducible refine Kd.C_drew ?_))); (case side2 => exact (Kd.R_reads' HO_12.out).2.1); (case side3 => repeat (first | exact (Kd.R_reads' HO_13.out).2.2 | (with_reducible refine Kd.C_alloc ?_ _) | (with_reducible refine Kd.C_drewN ?_ _) | (with_reducible refine Kd.C_drew ?_))); (case side4 => exact (Kd.R_reads' HO_13.out).2.1); rintro e w74 ⟨v175, rfl, ho0, hb⟩; have n0_ := am_ (Kd.R_below (ra_ HO_8.out) hb); have n1_ := am_ (Kd.R_elder' (ra_ HO_11.out) (Kd.R_base ho0) hb); have n2_ := am_ (Kd.R_elder' (ra_ HO_12.out) (Kd.R_base ho0) hb); have n3_ := am_ (Kd.R_elder' (ra_ HO_13.out) (Kd.R_base ho0) hb); have n4_ := am_ (Kd.R_lower (Kd.R_new' (Kd.R_new' (Kd.R_new' ho0 (Kd.R_lt (ra_ HO_11.out))) (Kd.R_lt (ra_ HO_12.out))) (Kd.R_lt (ra_ HO_13.out))) (below_size (bw_ HB.out))); have n5_ := am_ (blk_below (bk_ BK150.out) hb); have n6_ := am_ (below_step (bw_ HB.out) hb); replace HO_8 := n0_; replace HO_11 := n1_; replace HO_12 := n2_; replace HO_13 := n3_; have HO176 := n4_; replace BK150 := n5_; replace HB := n6_; clear n0_ n1_ n2_ n3_ n4_ n5_ n6_; (try clear hb); (try clear hb2); (try clear hk); (try clear hi); (try clear ho0); obtain ⟨Ao75, co75, eo75⟩ := Kd.R_slice HO176.out; subst eo75))
           repeat (go_quiet (first | (go_at_call 40; (try simp only [i64_w]); (with_reducible refine (spec_l18Least.calls (wrap64 (((rd_T72 x8_2 x47_2).f2) - (wrap64 (2 * ((rd_T74 l0 x47_2).f4))))) t165 _ A51.out).mono ?_); rintro e w' ⟨rfl, ⟨nd, rfl⟩⟩; (try first | exact ⟨rfl, _, World.drewN_drewN _ _ _⟩ | exact ⟨rfl, _, Eq.trans (World.drewN_drewN _ _ _) (congrArg (World.drewN _) (Nat.add_assoc _ _ _))⟩); have p166 : 0 ≤ (x47_2 : Int) := od_; have q166 : x47_2 < (x8_2.length : Int) := od_; obtain ⟨ad166, e166, hx166_0, hx166_1, hx166_2, hx166_3⟩ := at_T72 (Kd.R_reads' HO_8.out).2.2 x47_2 p166 q166; obtain rfl : (⟨go17, 0, none⟩ : Addr) = ad166 := (by injection e166); (first | simp only [add_plain] at hx166_0 | simp only [add_at] at hx166_0 | simp only [Addr.add, Nat.zero_add] at hx166_0 | skip); (first | simp only [add_plain] at hx166_1 | simp only [add_at] at hx166_1 | simp only [Addr.add, Nat.zero_add] at hx166_1 | skip); (first | simp only [add_plain] at hx166_2 | simp only [add_at] at hx166_2 | simp only [Addr.add, Nat.zero_add] at hx166_2 | skip); (first | simp only [add_plain] at hx166_3 | simp only [add_at] at hx166_3 | simp only [Addr.add, Nat.zero_add] at hx166_3 | skip); replace p166 := eq_true p166; replace q166 := eq_true q166) | (go_at_call 40; (try simp only [i64_w]); (with_reducible refine (spec_l18Least.calls (wrap64 (((rd_T72 x8_2 x47_2).f3) - (wrap64 (2 * ((rd_T74 l0 x47_2).f4))))) t167 _ A52.out).mono ?_); rintro e w' ⟨rfl, ⟨nd, rfl⟩⟩; (try first | exact ⟨rfl, _, World.drewN_drewN _ _ _⟩ | exact ⟨rfl, _, Eq.trans (World.drewN_drewN _ _ _) (congrArg (World.drewN _) (Nat.add_assoc _ _ _))⟩); obtain ⟨Ao72, co72, eo72⟩ := Kd.R_slice HO_12.out; subst eo72; obtain ⟨Ao73, co73, eo73⟩ := Kd.R_slice HO_13.out; subst eo73) | (go_at_call 41; (with_reducible refine (spec_l18Share.calls k3 t167 _ _ x12_3 _ _ x13_3 t174 _ ?side1 ?side2 ?side3 ?side4 A70.out).mono ?_); (case side1 => repeat (first | exact (Kd.R_reads' HO_12.out).2.2 | (with_reducible refine Kd.C_alloc ?_ _) | (with_reducible refine Kd.C_drewN ?_ _) | (with_reducible refine Kd.C_drew ?_))); (case side2 => exact (Kd.R_reads' HO_12.out).2.1); (case side3 => repeat (first | exact (Kd.R_reads' HO_13.out).2.2 | (with_reducible refine Kd.C_alloc ?_ _) | (with_reducible refine Kd.C_drewN ?_ _) | (with_reducible refine Kd.C_drew ?_))); (case side4 => exact (Kd.R_reads' HO_13.out).2.1); rintro e w74 ⟨v175, rfl, ho0, hb⟩; have n0_ := am_ (Kd.R_below (ra_ HO_8.out) hb); have n1_ := am_ (Kd.R_elder' (ra_ HO_11.out) (Kd.R_base ho0) hb); have n2_ := am_ (Kd.R_elder' (ra_ HO_12.out) (Kd.R_base ho0) hb); have n3_ := am_ (Kd.R_elder' (ra_ HO_13.out) (Kd.R_base ho0) hb); have n4_ := am_ (Kd.R_lower (Kd.R_new' (Kd.R_new' (Kd.R_new' ho0 (Kd.R_lt (ra_ HO_11.out))) (Kd.R_lt (ra_ HO_12.out))) (Kd.R_lt (ra_ HO_13.out))) (below_size (bw_ HB.out))); have n5_ := am_ (blk_below (bk_ BK150.out) hb); have n6_ := am_ (below_step (bw_ HB.out) hb); replace HO_8 := n0_; replace HO_11 := n1_; replace HO_12 := n2_; replace HO_13 := n3_; have HO176 := n4_; replace BK150 := n5_; replace HB := n6_; clear n0_ n1_ n2_ n3_ n4_ n5_ n6_; (try clear hb); (try clear hb2); (try clear hk); (try clear hi); (try clear ho0); obtain ⟨Ao75, co75, eo75⟩ := Kd.R_slice HO176.out; subst eo75)); try go_wp2_with (first | (go_at_call 40; (try simp only [i64_w]); (with_reducible refine (spec_l18Least.calls (wrap64 (((rd_T72 x8_2 x47_2).f2) - (wrap64 (2 * ((rd_T74 l0 x47_2).f4))))) t165 _ A51.out).mono ?_); rintro e w' ⟨rfl, ⟨nd, rfl⟩⟩; (try first | exact ⟨rfl, _, World.drewN_drewN _ _ _⟩ | exact ⟨rfl, _, Eq.trans (World.drewN_drewN _ _ _) (congrArg (World.drewN _) (Nat.add_assoc _ _ _))⟩); have p166 : 0 ≤ (x47_2 : Int) := od_; have q166 : x47_2 < (x8_2.length : Int) := od_; obtain ⟨ad166, e166, hx166_0, hx166_1, hx166_2, hx166_3⟩ := at_T72 (Kd.R_reads' HO_8.out).2.2 x47_2 p166 q166; obtain rfl : (⟨go17, 0, none⟩ : Addr) = ad166 := (by injection e166); (first | simp only [add_plain] at hx166_0 | simp only [add_at] at hx166_0 | simp only [Addr.add, Nat.zero_add] at hx166_0 | skip); (first | simp only [add_plain] at hx166_1 | simp only [add_at] at hx166_1 | simp only [Addr.add, Nat.zero_add] at hx166_1 | skip); (first | simp only [add_plain] at hx166_2 | simp only [add_at] at hx166_2 | simp only [Addr.add, Nat.zero_add] at hx166_2 | skip); (first | simp only [add_plain] at hx166_3 | simp only [add_at] at hx166_3 | simp only [Addr.add, Nat.zero_add] at hx166_3 | skip); replace p166 := eq_true p166; replace q166 := eq_true q166) | (go_at_call 40; (try simp only [i64_w]); (with_reducible refine (spec_l18Least.calls (wrap64 (((rd_T72 x8_2 x47_2).f3) - (wrap64 (2 * ((rd_T74 l0 x47_2).f4))))) t167 _ A52.out).mono ?_); rintro e w' ⟨rfl, ⟨nd, rfl⟩⟩; (try first | exact ⟨rfl, _, World.drewN_drewN _ _ _⟩ | exact ⟨rfl, _, Eq.trans (World.drewN_drewN _ _ _) (congrArg (World.drewN _) (Nat.add_assoc _ _ _))⟩); obtain ⟨Ao72, co72, eo72⟩ := Kd.R_slice HO_12.out; subst eo72; obtain ⟨Ao73, co73, eo73⟩ := Kd.R_slice HO_13.out; subst eo73) | (go_at_call 41; (with_reducible refine (spec_l18Share.calls k3 t167 _ _ x12_3 _ _ x13_3 t174 _ ?side1 ?side2 ?side3 ?side4 A70.out).mono ?_); (case side1 => repeat (first | exact (Kd.R_reads' HO_12.out).2.2 | (with_reducible refine Kd.C_alloc ?_ _) | (with_reducible refine Kd.C_drewN ?_ _) | (with_reducible refine Kd.C_drew ?_))); (case side2 => exact (Kd.R_reads' HO_12.out).2.1); (case side3 => repeat (first | exact (Kd.R_reads' HO_13.out).2.2 | (with_reducible refine Kd.C_alloc ?_ _) | (with_reducible refine Kd.C_drewN ?_ _) | (with_reducible refine Kd.C_drew ?_))); (case side4 => exact (Kd.R_reads' HO_13.out).2.1); rintro e w74 ⟨v175, rfl, ho0, hb⟩; have n0_ := am_ (Kd.R_below (ra_ HO_8.out) hb); have n1_ := am_ (Kd.R_elder' (ra_ HO_11.out) (Kd.R_base ho0) hb); have n2_ := am_ (Kd.R_elder' (ra_ HO_12.out) (Kd.R_base ho0) hb); have n3_ := am_ (Kd.R_elder' (ra_ HO_13.out) (Kd.R_base ho0) hb); have n4_ := am_ (Kd.R_lower (Kd.R_new' (Kd.R_new' (Kd.R_new' ho0 (Kd.R_lt (ra_ HO_11.out))) (Kd.R_lt (ra_ HO_12.out))) (Kd.R_lt (ra_ HO_13.out))) (below_size (bw_ HB.out))); have n5_ := am_ (blk_below (bk_ BK150.out) hb); have n6_ := am_ (below_step (bw_ HB.out) hb); replace HO_8 := n0_; replace HO_11 := n1_; replace HO_12 := n2_; replace HO_13 := n3_; have HO176 := n4_; replace BK150 := n5_; replace HB := n6_; clear n0_ n1_ n2_ n3_ n4_ n5_ n6_; (try clear hb); (try clear hb2); (try clear hk); (try clear hi); (try clear ho0); obtain ⟨Ao75, co75, eo75⟩ := Kd.R_slice HO176.out; subst eo75)))
           go_loopg [17, 151] k3 (fun kq v17 v151 w' => ∃ (x8_4 : List (S72)) (x17_4 : Int) (x151_4 : Int), v17 = .int .i64 x17_4 ∧ v151 = .int .i64 x151_4 ∧ Aside0 (spec_LayOut.l3 kq l0 x8_4 x11_3 (wrap64 (((rd_T72 x8_2 x47_2).f0) + ((rd_T74 l0 x47_2).f4))) x17_4 t165 l0 (l0.length : Int) x47_2 t174 (t174.length : Int) x151_4 = some (r1, r2)) ∧ Aside0 (kq ≤ k3) ∧ Aside0 (Kd.R k72 72 w' w.heap.size (fun _ => True) (.slice (some ⟨go17, 0, none⟩) x8_2.length co17) x8_4) ∧ Aside0 (Kd.R (Kd.int .i64) 3 w' w.heap.size (fun k_ => nb k_ (.slice Ao75 t174.length co75)) u11 x11_3) ∧ Aside0 (Kd.R (Kd.int .i64) 3 w' w.heap.size (fun k_ => nb k_ u11) (.slice Ao75 t174.length co75) t174) ∧ Aside0 (w'.heap[gb150]? = some (.cells #[.int .i64 ((rd_T74 l0 x47_2).f0), .int .i64 ((rd_T74 l0 x47_2).f1), .int .i64 ((rd_T74 l0 x47_2).f2), .int .i64 ((rd_T74 l0 x47_2).f3), .int .i64 ((rd_T74 l0 x47_2).f4)] 74 (0, 0))) ∧ Aside0 (Below w.heap.size w w'))
           case atStart => exact ⟨(x8_2), (wrap64 (((rd_T72 x8_2 x47_2).f1) + ((rd_T74 l0 x47_2).f4))), (0), sq_, sq_, H', ⟨Nat.le_refl _⟩, ⟨by (try simp only [hl8_2]); (with_reducible repeat (first | apply Kd.R_alloc | apply Kd.R_drewN | apply Kd.R_drew)); exact HO_8.out⟩, ⟨by (try simp only [hl8_2]); (with_reducible repeat (first | apply Kd.R_alloc | apply Kd.R_drewN | apply Kd.R_drew)); exact Kd.R_mono HO_11.out (fun _ hk => hk.2)⟩, ⟨by (try simp only [hl8_2]); (with_reducible repeat (first | apply Kd.R_alloc | apply Kd.R_drewN | apply Kd.R_drew)); exact Kd.R_mono HO176.out (fun _ hk => hk.1.1.2)⟩, ⟨by (try simp only [hl8_2]); (with_reducible repeat (first | refine blk_drewN ?_ _ | refine blk_drew ?_ | refine blk_alloc ?_ _)); exact BK150.out⟩, ⟨bw_ HB.out⟩⟩
           case round =>
            clear H'
            try clear c13
            try clear c14
            try clear c14b0
            try clear c14b1
            try clear c15
            try clear c15b0
            try clear c15b1
            try clear c16
            try clear c16b0
            try clear c16b1
            try clear p17
            try clear q17
            try clear qi17
            try clear c22
            try clear c22b0
            try clear c23
            try clear c23b0
            try clear c24
            try clear c24b0
            try clear c27
            try clear c27b0
            try clear c49
            try clear c49b0
            try clear c50
            try clear c50b0
            try clear c53
            try clear c53b0
            try clear c53b1
            try clear hcz26_0
            try clear hcz26_1
            try clear hcz26_2
            try clear hcz26_3
            try clear hcz26_4
            try clear hcz71_0
            try clear hcz71_1
            try clear hcz71_2
            try clear hcz71_3
            try clear hcz71_4
            try clear hfz26_0
            try clear hfz26_1
            try clear hfz26_2
            try clear hfz26_3
            try clear hfz26_4
            try clear hfz71_0
            try clear hfz71_1
            try clear hfz71_2
            try clear hfz71_3
            try clear hfz71_4
            try clear hx149_0
            try clear hx149_1
            try clear hx149_2
            try clear hx149_3
            try clear hx149_4
            try clear hx162_0
            try clear hx162_1
            try clear hx162_2
            try clear hx162_3
            try clear hx163_0
            try clear hx163_1
            try clear hx163_2
            try clear hx163_3
            try clear hx164_0
            try clear hx164_1
            try clear hx164_2
            try clear hx164_3
            try clear hx166_0
            try clear hx166_1
            try clear hx166_2
            try clear hx166_3
            try clear hx17_0
            try clear hx17_1
            try clear hx17_2
            try clear hx17_3
            try clear hx20_0
            try clear hx20_1
            try clear hx20_2
            try clear hx20_3
            try clear p149
            try clear p162
            try clear p163
            try clear p164
            try clear p166
            try clear p17
            try clear q149
            try clear q162
            try clear q163
            try clear q164
            try clear q166
            try clear q17
            obtain ⟨x8_4, x17_4, x151_4, rfl, rfl, HA, HK4, HO_8, HO_11, HO_149, BK150, HB⟩ := hrel
            have hl8_4 := (Kd.R_reads' HO_8.out).1
            rw [hl8_4] at HO_8
            (try simp only [hl8_4])
            (try simp only [hl8_4] at BK150)
            (try simp only [hl8_4] at HO_11)
            (try simp only [hl8_4] at HO_149)
            cases gk with
            | zero => exact absurd HA.out (by simp [spec_LayOut.l3])
            | succ k4 =>
             have H := HA.out
             clear HA
             simp only [spec_LayOut.l3] at H
             by_cases c76 : x151_4 < (t174.length : Int)
             ·rw [if_pos c76] at H
              have c76b0 : decide (x151_4 < (t174.length : Int)) = true := decide_eq_true c76
              (try rw [hl8_2] at c76b0)
              (try rw [hl8_4] at c76b0)
              clear c76
              obtain ⟨c77, H⟩ := ifn_ H
              have c77b0 : decide (0 ≤ x151_4) = true := decide_eq_true c77
              clear c77
              obtain ⟨c78, H⟩ := ifn_ H
              have c78b0 : decide (x151_4 < (t174.length : Int)) = true := decide_eq_true c78
              (try rw [hl8_2] at c78b0)
              (try rw [hl8_4] at c78b0)
              clear c78
              obtain ⟨c79, H⟩ := ifn_ H
              have c79b0 : decide (x151_4 < (x11_3.length : Int)) = true := decide_eq_true c79
              (try rw [hl8_2] at c79b0)
              (try rw [hl8_4] at c79b0)
              clear c79
              obtain ⟨c80, H⟩ := ifn_ H
              have c80b0 : decide (0 ≤ (rd x11_3 x151_4)) = true := decide_eq_true c80
              clear c80
              obtain ⟨c81, H⟩ := ifn_ H
              have c81b0 : decide ((rd x11_3 x151_4) < (x8_4.length : Int)) = true := decide_eq_true c81
              (try rw [hl8_2] at c81b0)
              (try rw [hl8_4] at c81b0)
              clear c81
              obtain ⟨y179, hy179⟩ : ∃ y_ : List (S72), y_ = (x8_4.set ((rd x11_3 x151_4) : Int).toNat (⟨(wrap64 (((rd_T72 x8_2 x47_2).f0) + ((rd_T74 l0 x47_2).f4))), x17_4, t165, rd t174 x151_4⟩ : S72)) := ⟨_, rfl⟩
              replace H : (spec_LayOut.l3 k4 l0 y179 x11_3 (wrap64 (((rd_T72 x8_2 x47_2).f0) + ((rd_T74 l0 x47_2).f4))) (wrap64 (x17_4 + (rd t174 x151_4))) t165 l0 (l0.length : Int) x47_2 t174 (t174.length : Int) (wrap64 (x151_4 + 1))) = some (r1, r2) := by first | (rw [hy179]; with_reducible exact H) | (have H2_ := (Option.bind_some _ _).symm.trans H; rw [hy179]; with_reducible exact H2_) | (have H2_ := (Option.bind_some _ _).symm.trans H; with_reducible exact H2_) | with_reducible exact H | (rw [hy179]; exact H) | exact H
              have Ny179 := am_ hy179
              clear hy179
              have H' := am_ H
              clear H
              have p177 : 0 ≤ (x151_4 : Int) := od_
              have q177 : x151_4 < (t174.length : Int) := od_
              obtain ⟨ad177, e177, hx177_0⟩ := Kd.at_int (Kd.R_reads' HO_149.out).2.2 x151_4 p177 q177
              cases e177
              replace p177 := eq_true p177
              replace q177 := eq_true q177
              obtain ⟨Ao83, co83, eo83⟩ := Kd.R_slice HO_11.out
              subst eo83
              have p178 : 0 ≤ (x151_4 : Int) := od_
              have q178 : x151_4 < (x11_3.length : Int) := od_
              obtain ⟨ad178, e178, hx178_0⟩ := Kd.at_int (Kd.R_reads' HO_11.out).2.2 x151_4 p178 q178
              cases e178
              replace p178 := eq_true p178
              replace q178 := eq_true q178
              have p82 : 0 ≤ ((rd x11_3 x151_4) : Int) := od_
              have q82 : ((rd x11_3 x151_4) : Int) < ((x8_4.length : Int) : Int) := od_
              obtain ⟨ce82, hcl82, hM82, hcc82, hfr82⟩ := Kd.R_elem HO_8.out z72 ((rd x11_3 x151_4) : Int) p82 q82
              obtain rfl := k72_openM hM82
              have hx82_0 : wr.cell? ⟨go17, ((rd x11_3 x151_4) : Int).toNat * 4, none⟩ = some (.int .i64 ((rd_T72 x8_4 (rd x11_3 x151_4)).f0)) := hcc82 0 _ rfl
              have hx82_1 : wr.cell? ⟨go17, ((rd x11_3 x151_4) : Int).toNat * 4 + 1, none⟩ = some (.int .i64 ((rd_T72 x8_4 (rd x11_3 x151_4)).f1)) := hcc82 1 _ rfl
              have hx82_2 : wr.cell? ⟨go17, ((rd x11_3 x151_4) : Int).toNat * 4 + 2, none⟩ = some (.int .i64 ((rd_T72 x8_4 (rd x11_3 x151_4)).f2)) := hcc82 2 _ rfl
              have hx82_3 : wr.cell? ⟨go17, ((rd x11_3 x151_4) : Int).toNat * 4 + 3, none⟩ = some (.int .i64 ((rd_T72 x8_4 (rd x11_3 x151_4)).f3)) := hcc82 3 _ rfl
              have hf82_0 : wr.frozen? ⟨go17, ((rd x11_3 x151_4) : Int).toNat * 4, none⟩ = false := hfr82 0
              have hf82_1 : wr.frozen? ⟨go17, ((rd x11_3 x151_4) : Int).toNat * 4 + 1, none⟩ = false := hfr82 1
              have hf82_2 : wr.frozen? ⟨go17, ((rd x11_3 x151_4) : Int).toNat * 4 + 2, none⟩ = false := hfr82 2
              have hf82_3 : wr.frozen? ⟨go17, ((rd x11_3 x151_4) : Int).toNat * 4 + 3, none⟩ = false := hfr82 3
              clear hcl82 hcc82 hfr82; (try clear hM82)
              replace p82 := eq_true p82
              replace q82 := eq_true q82
              have HX84 := am_ (show Kd.R k72 72 wr w.heap.size (fun _ => True) (.slice (some ⟨go17, 0, none⟩) x8_4.length co17) x8_4 from (ra_ HO_8.out))
              obtain ⟨ce84, hcl84, hM84, hcc84, hfr84⟩ := Kd.R_elem HX84.out z72 ((rd x11_3 x151_4) : Int) od_ (by have h_ : ((rd x11_3 x151_4) : Int) < ((x8_4.length : Int) : Int) := od_; first | exact h_ | (have e_ := (Kd.R_reads' HO_8.out).1; omega) | simpa using h_)
              obtain rfl := k72_openM hM84
              have HP84 := Kd.R_seg HX84.out ((rd x11_3 x151_4) : Int) od_ (by have h_ : ((rd x11_3 x151_4) : Int) < ((x8_4.length : Int) : Int) := od_; first | exact h_ | (have e_ := (Kd.R_reads' HO_8.out).1; omega) | simpa using h_) (seg := [.int .i64 (wrap64 (((rd_T72 x8_2 x47_2).f0) + ((rd_T74 l0 x47_2).f4))), .int .i64 x17_4, .int .i64 t165, .int .i64 (rd t174 x151_4)]) (j := 0) hcl84 hcc84 (show 4 ≤ 4 from by decide) (x' := (⟨(wrap64 (((rd_T72 x8_2 x47_2).f0) + ((rd_T74 l0 x47_2).f4))), x17_4, t165, rd t174 x151_4⟩ : S72)) (k72_mkM _ _ _ (⟨(wrap64 (((rd_T72 x8_2 x47_2).f0) + ((rd_T74 l0 x47_2).f4))), x17_4, t165, rd t174 x151_4⟩ : S72) ) (fun _ hk => hk)
              have hx84_0 := hcc84 0 _ rfl
              (try simp only [show (k72).sz = 4 from rfl, Nat.mul_one, Nat.add_zero] at hx84_0)
              have hf84_0 := hfr84 0
              (try simp only [show (k72).sz = 4 from rfl, Nat.mul_one, Nat.add_zero] at hf84_0)
              have hx84_1 := hcc84 1 _ rfl
              (try simp only [show (k72).sz = 4 from rfl, Nat.mul_one, Nat.add_zero] at hx84_1)
              have hf84_1 := hfr84 1
              (try simp only [show (k72).sz = 4 from rfl, Nat.mul_one, Nat.add_zero] at hf84_1)
              have hx84_2 := hcc84 2 _ rfl
              (try simp only [show (k72).sz = 4 from rfl, Nat.mul_one, Nat.add_zero] at hx84_2)
              have hf84_2 := hfr84 2
              (try simp only [show (k72).sz = 4 from rfl, Nat.mul_one, Nat.add_zero] at hf84_2)
              have hx84_3 := hcc84 3 _ rfl
              (try simp only [show (k72).sz = 4 from rfl, Nat.mul_one, Nat.add_zero] at hx84_3)
              have hf84_3 := hfr84 3
              (try simp only [show (k72).sz = 4 from rfl, Nat.mul_one, Nat.add_zero] at hf84_3)
              clear hcl84 hcc84 hfr84; (try clear hM84)
              go_wp2_with (first | ((with_reducible refine gate_store (t := 72) (p := 166) rfl ?_); (try (rw [drewN_self wr]; generalize hq_ : World.drewN wr _ = wr; have n0_ := am_ (Kd.R_at hq_ HO_8.out); have n1_ := am_ (Kd.R_at hq_ HO_11.out); have n2_ := am_ (Kd.R_at hq_ HO_149.out); have n3_ := am_ (blk_at hq_ BK150.out); have n4_ := am_ (below_at hq_ HB.out); clear hq_ HO_8 HO_11 HO_149 BK150 HB; have HO_8 := n0_; have HO_11 := n1_; have HO_149 := n2_; have BK150 := n3_; have HB := n4_; clear n0_ n1_ n2_ n3_ n4_; (try (have HX84 := am_ (show Kd.R k72 72 wr w.heap.size (fun _ => True) (.slice (some ⟨go17, 0, none⟩) x8_4.length co17) x8_4 from (ra_ HO_8.out)))); (try (obtain ⟨ce84, hcl84, hM84, hcc84, hfr84⟩ := Kd.R_elem HX84.out z72 ((rd x11_3 x151_4) : Int) od_ (by have h_ : ((rd x11_3 x151_4) : Int) < ((x8_4.length : Int) : Int) := od_; first | exact h_ | (have e_ := (Kd.R_reads' HO_8.out).1; omega) | simpa using h_))); (try (obtain rfl := k72_openM hM84)); (try (have HP84 := Kd.R_seg HX84.out ((rd x11_3 x151_4) : Int) od_ (by have h_ : ((rd x11_3 x151_4) : Int) < ((x8_4.length : Int) : Int) := od_; first | exact h_ | (have e_ := (Kd.R_reads' HO_8.out).1; omega) | simpa using h_) (seg := [.int .i64 (wrap64 (((rd_T72 x8_2 x47_2).f0) + ((rd_T74 l0 x47_2).f4))), .int .i64 x17_4, .int .i64 t165, .int .i64 (rd t174 x151_4)]) (j := 0) hcl84 hcc84 (show 4 ≤ 4 from by decide) (x' := (⟨(wrap64 (((rd_T72 x8_2 x47_2).f0) + ((rd_T74 l0 x47_2).f4))), x17_4, t165, rd t174 x151_4⟩ : S72)) (k72_mkM _ _ _ (⟨(wrap64 (((rd_T72 x8_2 x47_2).f0) + ((rd_T74 l0 x47_2).f4))), x17_4, t165, rd t174 x151_4⟩ : S72) ) (fun _ hk => hk))); (try (have hx84_0 := hcc84 0 _ rfl)); (try (try simp only [show (k72).sz = 4 from rfl, Nat.mul_one, Nat.add_zero] at hx84_0)); (try (have hf84_0 := hfr84 0)); (try (try simp only [show (k72).sz = 4 from rfl, Nat.mul_one, Nat.add_zero] at hf84_0)); (try (have hx84_1 := hcc84 1 _ rfl)); (try (try simp only [show (k72).sz = 4 from rfl, Nat.mul_one, Nat.add_zero] at hx84_1)); (try (have hf84_1 := hfr84 1)); (try (try simp only [show (k72).sz = 4 from rfl, Nat.mul_one, Nat.add_zero] at hf84_1)); (try (have hx84_2 := hcc84 2 _ rfl)); (try (try simp only [show (k72).sz = 4 from rfl, Nat.mul_one, Nat.add_zero] at hx84_2)); (try (have hf84_2 := hfr84 2)); (try (try simp only [show (k72).sz = 4 from rfl, Nat.mul_one, Nat.add_zero] at hf84_2)); (try (have hx84_3 := hcc84 3 _ rfl)); (try (try simp only [show (k72).sz = 4 from rfl, Nat.mul_one, Nat.add_zero] at hx84_3)); (try (have hf84_3 := hfr84 3)); (try (try simp only [show (k72).sz = 4 from rfl, Nat.mul_one, Nat.add_zero] at hf84_3)); (try (clear hcl84 hcc84 hfr84; (try clear hM84))))); refine se_ 72 166 ((((wr.setCell ⟨go17, ((rd x11_3 x151_4) : Int).toNat * 4, none⟩ (.int .i64 (wrap64 (((rd_T72 x8_2 x47_2).f0) + ((rd_T74 l0 x47_2).f4))))).setCell ⟨go17, ((rd x11_3 x151_4) : Int).toNat * 4 + 1, none⟩ (.int .i64 x17_4)).setCell ⟨go17, ((rd x11_3 x151_4) : Int).toNat * 4 + 2, none⟩ (.int .i64 t165)).setCell ⟨go17, ((rd x11_3 x151_4) : Int).toNat * 4 + 3, none⟩ (.int .i64 (rd t174 x151_4))) ?_; intro w85 hw; have hg : wr.grownBy w85 (some go17) := (by rw [hw]; exact HP84.2); have hp_ : Kd.R k72 72 w85 w.heap.size (fun _ => True) (.slice (some ⟨go17, 0, none⟩) x8_4.length co17) y179 := (by rw [hw, Ny179.out]; exact HP84.1); clear HP84; have n0_ := am_ (hp_); have n1_ := am_ (Kd.R_over' (v := (.slice (some ⟨go17, 0, none⟩) x8_4.length co17)) (ra_ HO_11.out) (Kd.R_typed HO_8.out) (by decide) hg); have n2_ := am_ (Kd.R_over' (v := (.slice (some ⟨go17, 0, none⟩) x8_4.length co17)) (ra_ HO_149.out) (Kd.R_typed HO_8.out) (by decide) hg); have n3_ := am_ (blk_grown (bk_ BK150.out) hg (Kd.R_ne HO_8.out BK150.out (by decide))); have n4_ := am_ ((by rw [hw]; exact below_set (below_set (below_set (below_set (HB.out) GB17.out) GB17.out) GB17.out) GB17.out : Below w.heap.size w w85)); replace HO_8 := n0_; replace HO_11 := n1_; replace HO_149 := n2_; replace BK150 := n3_; replace HB := n4_; clear n0_ n1_ n2_ n3_ n4_; clear hg hw hp_))
              repeat (go_quiet (first | ((with_reducible refine gate_store (t := 72) (p := 166) rfl ?_); (try (rw [drewN_self wr]; generalize hq_ : World.drewN wr _ = wr; have n0_ := am_ (Kd.R_at hq_ HO_8.out); have n1_ := am_ (Kd.R_at hq_ HO_11.out); have n2_ := am_ (Kd.R_at hq_ HO_149.out); have n3_ := am_ (blk_at hq_ BK150.out); have n4_ := am_ (below_at hq_ HB.out); clear hq_ HO_8 HO_11 HO_149 BK150 HB; have HO_8 := n0_; have HO_11 := n1_; have HO_149 := n2_; have BK150 := n3_; have HB := n4_; clear n0_ n1_ n2_ n3_ n4_; (try (have HX84 := am_ (show Kd.R k72 72 wr w.heap.size (fun _ => True) (.slice (some ⟨go17, 0, none⟩) x8_4.length co17) x8_4 from (ra_ HO_8.out)))); (try (obtain ⟨ce84, hcl84, hM84, hcc84, hfr84⟩ := Kd.R_elem HX84.out z72 ((rd x11_3 x151_4) : Int) od_ (by have h_ : ((rd x11_3 x151_4) : Int) < ((x8_4.length : Int) : Int) := od_; first | exact h_ | (have e_ := (Kd.R_reads' HO_8.out).1; omega) | simpa using h_))); (try (obtain rfl := k72_openM hM84)); (try (have HP84 := Kd.R_seg HX84.out ((rd x11_3 x151_4) : Int) od_ (by have h_ : ((rd x11_3 x151_4) : Int) < ((x8_4.length : Int) : Int) := od_; first | exact h_ | (have e_ := (Kd.R_reads' HO_8.out).1; omega) | simpa using h_) (seg := [.int .i64 (wrap64 (((rd_T72 x8_2 x47_2).f0) + ((rd_T74 l0 x47_2).f4))), .int .i64 x17_4, .int .i64 t165, .int .i64 (rd t174 x151_4)]) (j := 0) hcl84 hcc84 (show 4 ≤ 4 from by decide) (x' := (⟨(wrap64 (((rd_T72 x8_2 x47_2).f0) + ((rd_T74 l0 x47_2).f4))), x17_4, t165, rd t174 x151_4⟩ : S72)) (k72_mkM _ _ _ (⟨(wrap64 (((rd_T72 x8_2 x47_2).f0) + ((rd_T74 l0 x47_2).f4))), x17_4, t165, rd t174 x151_4⟩ : S72) ) (fun _ hk => hk))); (try (have hx84_0 := hcc84 0 _ rfl)); (try (try simp only [show (k72).sz = 4 from rfl, Nat.mul_one, Nat.add_zero] at hx84_0)); (try (have hf84_0 := hfr84 0)); (try (try simp only [show (k72).sz = 4 from rfl, Nat.mul_one, Nat.add_zero] at hf84_0)); (try (have hx84_1 := hcc84 1 _ rfl)); (try (try simp only [show (k72).sz = 4 from rfl, Nat.mul_one, Nat.add_zero] at hx84_1)); (try (have hf84_1 := hfr84 1)); (try (try simp only [show (k72).sz = 4 from rfl, Nat.mul_one, Nat.add_zero] at hf84_1)); (try (have hx84_2 := hcc84 2 _ rfl)); (try (try simp only [show (k72).sz = 4 from rfl, Nat.mul_one, Nat.add_zero] at hx84_2)); (try (have hf84_2 := hfr84 2)); (try (try simp only [show (k72).sz = 4 from rfl, Nat.mul_one, Nat.add_zero] at hf84_2)); (try (have hx84_3 := hcc84 3 _ rfl)); (try (try simp only [show (k72).sz = 4 from rfl, Nat.mul_one, Nat.add_zero] at hx84_3)); (try (have hf84_3 := hfr84 3)); (try (try simp only [show (k72).sz = 4 from rfl, Nat.mul_one, Nat.add_zero] at hf84_3)); (try (clear hcl84 hcc84 hfr84; (try clear hM84))))); refine se_ 72 166 ((((wr.setCell ⟨go17, ((rd x11_3 x151_4) : Int).toNat * 4, none⟩ (.int .i64 (wrap64 (((rd_T72 x8_2 x47_2).f0) + ((rd_T74 l0 x47_2).f4))))).setCell ⟨go17, ((rd x11_3 x151_4) : Int).toNat * 4 + 1, none⟩ (.int .i64 x17_4)).setCell ⟨go17, ((rd x11_3 x151_4) : Int).toNat * 4 + 2, none⟩ (.int .i64 t165)).setCell ⟨go17, ((rd x11_3 x151_4) : Int).toNat * 4 + 3, none⟩ (.int .i64 (rd t174 x151_4))) ?_; intro w85 hw; have hg : wr.grownBy w85 (some go17) := (by rw [hw]; exact HP84.2); have hp_ : Kd.R k72 72 w85 w.heap.size (fun _ => True) (.slice (some ⟨go17, 0, none⟩) x8_4.length co17) y179 := (by rw [hw, Ny179.out]; exact HP84.1); clear HP84; have n0_ := am_ (hp_); have n1_ := am_ (Kd.R_over' (v := (.slice (some ⟨go17, 0, none⟩) x8_4.length co17)) (ra_ HO_11.out) (Kd.R_typed HO_8.out) (by decide) hg); have n2_ := am_ (Kd.R_over' (v := (.slice (some ⟨go17, 0, none⟩) x8_4.length co17)) (ra_ HO_149.out) (Kd.R_typed HO_8.out) (by decide) hg); have n3_ := am_ (blk_grown (bk_ BK150.out) hg (Kd.R_ne HO_8.out BK150.out (by decide))); have n4_ := am_ ((by rw [hw]; exact below_set (below_set (below_set (below_set (HB.out) GB17.out) GB17.out) GB17.out) GB17.out : Below w.heap.size w w85)); replace HO_8 := n0_; replace HO_11 := n1_; replace HO_149 := n2_; replace BK150 := n3_; replace HB := n4_; clear n0_ n1_ n2_ n3_ n4_; clear hg hw hp_)); try go_wp2_with (first | ((with_reducible refine gate_store (t := 72) (p := 166) rfl ?_); (try (rw [drewN_self wr]; generalize hq_ : World.drewN wr _ = wr; have n0_ := am_ (Kd.R_at hq_ HO_8.out); have n1_ := am_ (Kd.R_at hq_ HO_11.out); have n2_ := am_ (Kd.R_at hq_ HO_149.out); have n3_ := am_ (blk_at hq_ BK150.out); have n4_ := am_ (below_at hq_ HB.out); clear hq_ HO_8 HO_11 HO_149 BK150 HB; have HO_8 := n0_; have HO_11 := n1_; have HO_149 := n2_; have BK150 := n3_; have HB := n4_; clear n0_ n1_ n2_ n3_ n4_; (try (have HX84 := am_ (show Kd.R k72 72 wr w.heap.size (fun _ => True) (.slice (some ⟨go17, 0, none⟩) x8_4.length co17) x8_4 from (ra_ HO_8.out)))); (try (obtain ⟨ce84, hcl84, hM84, hcc84, hfr84⟩ := Kd.R_elem HX84.out z72 ((rd x11_3 x151_4) : Int) od_ (by have h_ : ((rd x11_3 x151_4) : Int) < ((x8_4.length : Int) : Int) := od_; first | exact h_ | (have e_ := (Kd.R_reads' HO_8.out).1; omega) | simpa using h_))); (try (obtain rfl := k72_openM hM84)); (try (have HP84 := Kd.R_seg HX84.out ((rd x11_3 x151_4) : Int) od_ (by have h_ : ((rd x11_3 x151_4) : Int) < ((x8_4.length : Int) : Int) := od_; first | exact h_ | (have e_ := (Kd.R_reads' HO_8.out).1; omega) | simpa using h_) (seg := [.int .i64 (wrap64 (((rd_T72 x8_2 x47_2).f0) + ((rd_T74 l0 x47_2).f4))), .int .i64 x17_4, .int .i64 t165, .int .i64 (rd t174 x151_4)]) (j := 0) hcl84 hcc84 (show 4 ≤ 4 from by decide) (x' := (⟨(wrap64 (((rd_T72 x8_2 x47_2).f0) + ((rd_T74 l0 x47_2).f4))), x17_4, t165, rd t174 x151_4⟩ : S72)) (k72_mkM _ _ _ (⟨(wrap64 (((rd_T72 x8_2 x47_2).f0) + ((rd_T74 l0 x47_2).f4))), x17_4, t165, rd t174 x151_4⟩ : S72) ) (fun _ hk => hk))); (try (have hx84_0 := hcc84 0 _ rfl)); (try (try simp only [show (k72).sz = 4 from rfl, Nat.mul_one, Nat.add_zero] at hx84_0)); (try (have hf84_0 := hfr84 0)); (try (try simp only [show (k72).sz = 4 from rfl, Nat.mul_one, Nat.add_zero] at hf84_0)); (try (have hx84_1 := hcc84 1 _ rfl)); (try (try simp only [show (k72).sz = 4 from rfl, Nat.mul_one, Nat.add_zero] at hx84_1)); (try (have hf84_1 := hfr84 1)); (try (try simp only [show (k72).sz = 4 from rfl, Nat.mul_one, Nat.add_zero] at hf84_1)); (try (have hx84_2 := hcc84 2 _ rfl)); (try (try simp only [show (k72).sz = 4 from rfl, Nat.mul_one, Nat.add_zero] at hx84_2)); (try (have hf84_2 := hfr84 2)); (try (try simp only [show (k72).sz = 4 from rfl, Nat.mul_one, Nat.add_zero] at hf84_2)); (try (have hx84_3 := hcc84 3 _ rfl)); (try (try simp only [show (k72).sz = 4 from rfl, Nat.mul_one, Nat.add_zero] at hx84_3)); (try (have hf84_3 := hfr84 3)); (try (try simp only [show (k72).sz = 4 from rfl, Nat.mul_one, Nat.add_zero] at hf84_3)); (try (clear hcl84 hcc84 hfr84; (try clear hM84))))); refine se_ 72 166 ((((wr.setCell ⟨go17, ((rd x11_3 x151_4) : Int).toNat * 4, none⟩ (.int .i64 (wrap64 (((rd_T72 x8_2 x47_2).f0) + ((rd_T74 l0 x47_2).f4))))).setCell ⟨go17, ((rd x11_3 x151_4) : Int).toNat * 4 + 1, none⟩ (.int .i64 x17_4)).setCell ⟨go17, ((rd x11_3 x151_4) : Int).toNat * 4 + 2, none⟩ (.int .i64 t165)).setCell ⟨go17, ((rd x11_3 x151_4) : Int).toNat * 4 + 3, none⟩ (.int .i64 (rd t174 x151_4))) ?_; intro w85 hw; have hg : wr.grownBy w85 (some go17) := (by rw [hw]; exact HP84.2); have hp_ : Kd.R k72 72 w85 w.heap.size (fun _ => True) (.slice (some ⟨go17, 0, none⟩) x8_4.length co17) y179 := (by rw [hw, Ny179.out]; exact HP84.1); clear HP84; have n0_ := am_ (hp_); have n1_ := am_ (Kd.R_over' (v := (.slice (some ⟨go17, 0, none⟩) x8_4.length co17)) (ra_ HO_11.out) (Kd.R_typed HO_8.out) (by decide) hg); have n2_ := am_ (Kd.R_over' (v := (.slice (some ⟨go17, 0, none⟩) x8_4.length co17)) (ra_ HO_149.out) (Kd.R_typed HO_8.out) (by decide) hg); have n3_ := am_ (blk_grown (bk_ BK150.out) hg (Kd.R_ne HO_8.out BK150.out (by decide))); have n4_ := am_ ((by rw [hw]; exact below_set (below_set (below_set (below_set (HB.out) GB17.out) GB17.out) GB17.out) GB17.out : Below w.heap.size w w85)); replace HO_8 := n0_; replace HO_11 := n1_; replace HO_149 := n2_; replace BK150 := n3_; replace HB := n4_; clear n0_ n1_ n2_ n3_ n4_; clear hg hw hp_)))
              (try simp only [← hl8_4])
              (try simp only [show (⟨go17, (x151_4 : Int).toNat, none⟩ : Addr) = Addr.add ⟨go17, 0, none⟩ (x151_4 : Int).toNat from by simp [Addr.add]])
              go_roundg k4
              case measure => have := HJ3.out; have := HK2.out; have := HK3.out; have := HK4.out; omega
              case rel => first | exact ⟨(y179), (wrap64 (x17_4 + (rd t174 x151_4))), (wrap64 (x151_4 + 1)), sq_, sq_, H', ⟨by have := HJ3.out; have := HK2.out; have := HK3.out; have := HK4.out; omega⟩, ⟨by (try simp only [hl8_2]); (try simp only [hl8_4]); (with_reducible repeat (first | apply Kd.R_alloc | apply Kd.R_drewN | apply Kd.R_drew)); exact HO_8.out⟩, ⟨by (try simp only [hl8_2]); (try simp only [hl8_4]); (with_reducible repeat (first | apply Kd.R_alloc | apply Kd.R_drewN | apply Kd.R_drew)); exact HO_11.out⟩, ⟨by (try simp only [hl8_2]); (try simp only [hl8_4]); (with_reducible repeat (first | apply Kd.R_alloc | apply Kd.R_drewN | apply Kd.R_drew)); exact HO_149.out⟩, ⟨by (try simp only [hl8_2]); (try simp only [hl8_4]); (with_reducible repeat (first | refine blk_drewN ?_ _ | refine blk_drew ?_ | refine blk_alloc ?_ _)); exact BK150.out⟩, ⟨bw_ HB.out⟩⟩ | (simp only [(show (⟨go17, (x151_4 : Int).toNat, none⟩ : Addr) = Addr.add ⟨go17, 0, none⟩ (x151_4 : Int).toNat from by simp [Addr.add]).symm]; exact ⟨(y179), (wrap64 (x17_4 + (rd t174 x151_4))), (wrap64 (x151_4 + 1)), sq_, sq_, H', ⟨by have := HJ3.out; have := HK2.out; have := HK3.out; have := HK4.out; omega⟩, ⟨by (try simp only [hl8_2]); (try simp only [hl8_4]); (with_reducible repeat (first | apply Kd.R_alloc | apply Kd.R_drewN | apply Kd.R_drew)); exact HO_8.out⟩, ⟨by (try simp only [hl8_2]); (try simp only [hl8_4]); (with_reducible repeat (first | apply Kd.R_alloc | apply Kd.R_drewN | apply Kd.R_drew)); exact HO_11.out⟩, ⟨by (try simp only [hl8_2]); (try simp only [hl8_4]); (with_reducible repeat (first | apply Kd.R_alloc | apply Kd.R_drewN | apply Kd.R_drew)); exact HO_149.out⟩, ⟨by (try simp only [hl8_2]); (try simp only [hl8_4]); (with_reducible repeat (first | refine blk_drewN ?_ _ | refine blk_drew ?_ | refine blk_alloc ?_ _)); exact BK150.out⟩, ⟨bw_ HB.out⟩⟩)
             ·rw [if_neg c76] at H
              have c76b0 : decide (x151_4 < (t174.length : Int)) = false := decide_eq_false c76
              (try rw [hl8_2] at c76b0)
              (try rw [hl8_4] at c76b0)
              clear c76
              have H' := am_ H
              clear H
              go_wp2
              repeat (go_quiet (fail); try go_wp2)
              (try simp only [← hl8_2, ← hl8_4])
              go_roundg k4
              case measure => have := HJ3.out; have := HK2.out; have := HK3.out; have := HK4.out; omega
              case rel => exact ⟨(x8_4), (wrap64 (x47_2 + 1)), sq_, H', ⟨by have := HJ3.out; have := HK2.out; have := HK3.out; have := HK4.out; omega⟩, ⟨by (try simp only [hl8_2]); (try simp only [hl8_4]); (with_reducible repeat (first | apply Kd.R_alloc | apply Kd.R_drewN | apply Kd.R_drew)); exact HO_8.out⟩, ⟨bw_ HB.out⟩⟩
      ·rw [if_neg c22] at H
       have c22b0 : decide (x47_2 < (l0.length : Int)) = false := decide_eq_false c22
       (try rw [hl8_2] at c22b0)
       clear c22
       simp only [Option.some.injEq, Prod.mk.injEq] at H
       obtain ⟨rfl, rfl⟩ := H
       go_wp2
       repeat (go_quiet (fail); try go_wp2)
       go_ret2
       exact ⟨_, by first | rfl | (simp [errW_none, errW_some] <;> rfl) | (simp [*, errW_none, errW_some] <;> rfl), ra_ HO_8.out, bw_ HB.out⟩
end Go.Proofs.Ytgfppioaggeleaa.XFnExactLayOut
