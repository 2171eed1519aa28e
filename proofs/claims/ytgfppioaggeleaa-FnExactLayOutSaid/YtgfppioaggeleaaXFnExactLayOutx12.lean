/- What the Go functions that this law comes to compute, each walked; written by a program of this session. -/
import Derived.Test.YtgfppioaggeleaaXShort
import Derived.Test.YtgfppioaggeleaaXMark
import Derived.Test.YtgfppioaggeleaaXFnExactLayOutx0
import Derived.Test.YtgfppioaggeleaaXFnExactLayOutx5
import Derived.Test.YtgfppioaggeleaaXFnExactLayOutx11
namespace Go.Proofs.Ytgfppioaggeleaa.XFnExactLayOut
open Go.RowKit Go.Proofs.YtgfppioaggeleaaW.PrintWords Go.Proofs.YtgfppioaggeleaaW.PrintLast Go.Proofs.YtgfppioaggeleaaW.PrintMore
attribute [local go_sem] str_geq max2_int min2_int max_two min_two max_three min_three max_four min_four   -- for this text's walks alone
set_option linter.unusedVariables false
set_option linter.unusedSimpArgs false

/-! ### impl_LayOut: function 17 -/
mutual
def impl_LayOut.j0 : Nat → List (S74) → Int → Int → Bool → Option ((List (S72)) × Bool)
 | 0, _, _, _, _ => none
 | k + 1, x0, x1, x2, x35 => if x35 = true then (some (([] : List (S72)), false)) else (if 0 ≤ (x0.length : Int) then (if ((x0.length : Int) : Int).toNat ≤ 8796093022208 then ((some (List.replicate ((x0.length : Int) : Int).toNat z72 : List (S72))).bind fun y283 => (if 0 < (y283.length : Int) then (impl_LayOut.l0 k x0 (y283.set (0 : Int).toNat (⟨0, 0, x1, x2⟩ : S72)) x0 (x0.length : Int) 0) else (none))) else (none)) else (none))
def impl_LayOut.l0 : Nat → List (S74) → List (S72) → List (S74) → Int → Int → Option ((List (S72)) × Bool)
 | 0, _, _, _, _, _ => none
 | k + 1, x0, x8, x44, x45, x46 => if x46 < x45 then (if 0 ≤ x46 then (if x46 < (x44.length : Int) then (if x46 < (x8.length : Int) then (impl_LayOut.l1 k x0 x8 x46 (wrap64 (((rd_T72 x8 x46).f0) + ((rd_T74 x44 x46).f4))) (wrap64 (((rd_T72 x8 x46).f1) + ((rd_T74 x44 x46).f4))) (mx 0 (wrap64 (((rd_T72 x8 x46).f2) - (wrap64 (2 * ((rd_T74 x44 x46).f4)))))) (mx 0 (wrap64 (((rd_T72 x8 x46).f3) - (wrap64 (2 * ((rd_T74 x44 x46).f4)))))) (([] : List Int)) (([] : List Int)) (([] : List Int)) x44 x45 x46 x0 (x0.length : Int) 0 ((rd_T74 x44 x46).f0) ((rd_T74 x44 x46).f1) ((rd_T74 x44 x46).f2) ((rd_T74 x44 x46).f3) ((rd_T74 x44 x46).f4)) else (none)) else (none)) else (none)) else (some (x8, true))
def impl_LayOut.l1 : Nat → List (S74) → List (S72) → Int → Int → Int → Int → Int → List Int → List Int → List Int → List (S74) → Int → Int → List (S74) → Int → Int → Int → Int → Int → Int → Int → Option ((List (S72)) × Bool)
 | 0, _, _, _, _, _, _, _, _, _, _, _, _, _, _, _, _, _, _, _, _, _ => none
 | k + 1, x0, x8, x9, x11, x12, x13, x14, x15, x16, x17, x44, x45, x46, x90, x91, x92, x289000, x289001, x289002, x289003, x289004 => if x92 < x91 then (if 0 ≤ x92 then (if x92 < (x90.length : Int) then (if ((rd_T74 x90 x92).f0) = x9 then ((some (([x92] : List Int) : List Int)).bind fun y304 => (if x15.length + y304.length < 17592186044416 then ((some (([(rd_T74 x90 x92).f2] : List Int) : List Int)).bind fun y310 => (if x16.length + y310.length < 17592186044416 then ((some (([(rd_T74 x90 x92).f3] : List Int) : List Int)).bind fun y316 => (if x17.length + y316.length < 17592186044416 then (impl_LayOut.l1 k x0 x8 x9 x11 x12 x13 x14 (x15 ++ y304) (x16 ++ y310) (x17 ++ y316) x44 x45 x46 x90 x91 (wrap64 (x92 + 1)) x289000 x289001 x289002 x289003 x289004) else (none))) else (none))) else (none))) else (impl_LayOut.l1 k x0 x8 x9 x11 x12 x13 x14 x15 x16 x17 x44 x45 x46 x90 x91 (wrap64 (x92 + 1)) x289000 x289001 x289002 x289003 x289004)) else (none)) else (none)) else (if x289001 = 2 then (impl_LayOut.j3 k x0 x8 x11 x12 x13 x14 x15 x16 x17 x14 x44 x45 x46 x289000 x289001 x289002 x289003 x289004) else (impl_LayOut.j3 k x0 x8 x11 x12 x13 x14 x15 x16 x17 x13 x44 x45 x46 x289000 x289001 x289002 x289003 x289004))
def impl_LayOut.j3 : Nat → List (S74) → List (S72) → Int → Int → Int → Int → List Int → List Int → List Int → Int → List (S74) → Int → Int → Int → Int → Int → Int → Int → Option ((List (S72)) × Bool)
 | 0, _, _, _, _, _, _, _, _, _, _, _, _, _, _, _, _, _, _ => none
 | k + 1, x0, x8, x11, x12, x13, x14, x15, x16, x17, x20, x44, x45, x46, x289000, x289001, x289002, x289003, x289004 => (impl_share.f k x20 x16 x17).bind fun t322 => (impl_LayOut.l2 k x0 x8 x11 x12 x13 x14 x15 x44 x45 x46 t322 (t322.length : Int) 0 x289000 x289001 x289002 x289003 x289004)
def impl_LayOut.l2 : Nat → List (S74) → List (S72) → Int → Int → Int → Int → List Int → List (S74) → Int → Int → List Int → Int → Int → Int → Int → Int → Int → Int → Option ((List (S72)) × Bool)
 | 0, _, _, _, _, _, _, _, _, _, _, _, _, _, _, _, _, _, _ => none
 | k + 1, x0, x8, x11, x12, x13, x14, x15, x44, x45, x46, x124, x125, x126, x289000, x289001, x289002, x289003, x289004 => if x126 < x125 then (if 0 ≤ x126 then (if x126 < (x124.length : Int) then (if x289001 = 1 then (if x126 < (x15.length : Int) then (if 0 ≤ (rd x15 x126) then (if (rd x15 x126) < (x8.length : Int) then (impl_LayOut.l2 k x0 (x8.set ((rd x15 x126) : Int).toNat (⟨x11, x12, rd x124 x126, x14⟩ : S72)) (wrap64 (x11 + (rd x124 x126))) x12 x13 x14 x15 x44 x45 x46 x124 x125 (wrap64 (x126 + 1)) x289000 x289001 x289002 x289003 x289004) else (none)) else (none)) else (none)) else (if x126 < (x15.length : Int) then (if 0 ≤ (rd x15 x126) then (if (rd x15 x126) < (x8.length : Int) then (impl_LayOut.l2 k x0 (x8.set ((rd x15 x126) : Int).toNat (⟨x11, x12, x13, rd x124 x126⟩ : S72)) x11 (wrap64 (x12 + (rd x124 x126))) x13 x14 x15 x44 x45 x46 x124 x125 (wrap64 (x126 + 1)) x289000 x289001 x289002 x289003 x289004) else (none)) else (none)) else (none))) else (none)) else (none)) else (impl_LayOut.l0 k x0 x8 x44 x45 (wrap64 (x46 + 1)))
end
def impl_LayOut.f (k : Nat) (l0 : List (S74)) (a1 : Int) (a2 : Int) : Option ((List (S72)) × Bool) := (impl_GoodBoxes.f k l0).bind fun t280 => (if t280 = true then ((impl_inRange.f a1 0 10000).bind fun t281 => (if t281 = true then ((impl_inRange.f a2 0 10000).bind fun t282 => (impl_LayOut.j0 k l0 a1 a2 (!t282))) else (impl_LayOut.j0 k l0 a1 a2 true))) else (impl_LayOut.j0 k l0 a1 a2 true))
theorem impl_LayOut.mono_l : ∀ k, (∀ y0 y1 y2 y3, LeO (impl_LayOut.j0 k y0 y1 y2 y3) (impl_LayOut.j0 (k + 1) y0 y1 y2 y3)) ∧ (∀ y0 y1 y2 y3 y4, LeO (impl_LayOut.l0 k y0 y1 y2 y3 y4) (impl_LayOut.l0 (k + 1) y0 y1 y2 y3 y4)) ∧ (∀ y0 y1 y2 y3 y4 y5 y6 y7 y8 y9 y10 y11 y12 y13 y14 y15 y16 y17 y18 y19 y20, LeO (impl_LayOut.l1 k y0 y1 y2 y3 y4 y5 y6 y7 y8 y9 y10 y11 y12 y13 y14 y15 y16 y17 y18 y19 y20) (impl_LayOut.l1 (k + 1) y0 y1 y2 y3 y4 y5 y6 y7 y8 y9 y10 y11 y12 y13 y14 y15 y16 y17 y18 y19 y20)) ∧ (∀ y0 y1 y2 y3 y4 y5 y6 y7 y8 y9 y10 y11 y12 y13 y14 y15 y16 y17, LeO (impl_LayOut.j3 k y0 y1 y2 y3 y4 y5 y6 y7 y8 y9 y10 y11 y12 y13 y14 y15 y16 y17) (impl_LayOut.j3 (k + 1) y0 y1 y2 y3 y4 y5 y6 y7 y8 y9 y10 y11 y12 y13 y14 y15 y16 y17)) ∧ (∀ y0 y1 y2 y3 y4 y5 y6 y7 y8 y9 y10 y11 y12 y13 y14 y15 y16 y17, LeO (impl_LayOut.l2 k y0 y1 y2 y3 y4 y5 y6 y7 y8 y9 y10 y11 y12 y13 y14 y15 y16 y17) (impl_LayOut.l2 (k + 1) y0 y1 y2 y3 y4 y5 y6 y7 y8 y9 y10 y11 y12 y13 y14 y15 y16 y17))
 | 0 => ⟨fun _ _ _ _ r h => by simp [impl_LayOut.j0] at h, fun _ _ _ _ _ r h => by simp [impl_LayOut.l0] at h, fun _ _ _ _ _ _ _ _ _ _ _ _ _ _ _ _ _ _ _ _ _ r h => by simp [impl_LayOut.l1] at h, fun _ _ _ _ _ _ _ _ _ _ _ _ _ _ _ _ _ _ r h => by simp [impl_LayOut.j3] at h, fun _ _ _ _ _ _ _ _ _ _ _ _ _ _ _ _ _ _ r h => by simp [impl_LayOut.l2] at h⟩
 | k + 1 => by
  obtain ⟨ih0, ih1, ih2, ih3, ih4⟩ := impl_LayOut.mono_l k
  refine ⟨?_, ?_, ?_, ?_, ?_⟩
  ·intro y0 y1 y2 y3
   unfold impl_LayOut.j0
   repeat' first
   | (with_reducible exact ih0 _ _ _ _)
   | (with_reducible exact ih1 _ _ _ _ _)
   | (with_reducible exact ih2 _ _ _ _ _ _ _ _ _ _ _ _ _ _ _ _ _ _ _ _ _)
   | (with_reducible exact ih3 _ _ _ _ _ _ _ _ _ _ _ _ _ _ _ _ _ _)
   | (with_reducible exact ih4 _ _ _ _ _ _ _ _ _ _ _ _ _ _ _ _ _ _)
   | (with_reducible exact impl_GoodBoxes.mono _ _)
   | (with_reducible exact impl_share.mono _ _ _ _)
   | (with_reducible exact LeO.refl _)
   | (with_reducible exact LeO.none _)
   | (with_reducible refine LeO.ite ?_ ?_)
   | (with_reducible refine LeO.bind ?_ (fun _ => ?_))
   | exact ih0 _ _ _ _
   | exact ih1 _ _ _ _ _
   | exact ih2 _ _ _ _ _ _ _ _ _ _ _ _ _ _ _ _ _ _ _ _ _
   | exact ih3 _ _ _ _ _ _ _ _ _ _ _ _ _ _ _ _ _ _
   | exact ih4 _ _ _ _ _ _ _ _ _ _ _ _ _ _ _ _ _ _
   | exact impl_GoodBoxes.mono _ _
   | exact impl_share.mono _ _ _ _
   | exact LeO.none _
   | refine LeO.ite ?_ ?_
   | refine LeO.bind ?_ (fun _ => ?_)
  ·intro y0 y1 y2 y3 y4
   unfold impl_LayOut.l0
   repeat' first
   | (with_reducible exact ih0 _ _ _ _)
   | (with_reducible exact ih1 _ _ _ _ _)
   | (with_reducible exact ih2 _ _ _ _ _ _ _ _ _ _ _ _ _ _ _ _ _ _ _ _ _)
   | (with_reducible exact ih3 _ _ _ _ _ _ _ _ _ _ _ _ _ _ _ _ _ _)
   | (with_reducible exact ih4 _ _ _ _ _ _ _ _ _ _ _ _ _ _ _ _ _ _)
   | (with_reducible exact impl_GoodBoxes.mono _ _)
   | (with_reducible exact impl_share.mono _ _ _ _)
   | (with_reducible exact LeO.refl _)
   | (with_reducible exact LeO.none _)
   | (with_reducible refine LeO.ite ?_ ?_)
   | (with_reducible refine LeO.bind ?_ (fun _ => ?_))
   | exact ih0 _ _ _ _
   | exact ih1 _ _ _ _ _
   | exact ih2 _ _ _ _ _ _ _ _ _ _ _ _ _ _ _ _ _ _ _ _ _
   | exact ih3 _ _ _ _ _ _ _ _ _ _ _ _ _ _ _ _ _ _
   | exact ih4 _ _ _ _ _ _ _ _ _ _ _ _ _ _ _ _ _ _
   | exact impl_GoodBoxes.mono _ _
   | exact impl_share.mono _ _ _ _
   | exact LeO.none _
   | refine LeO.ite ?_ ?_
   | refine LeO.bind ?_ (fun _ => ?_)
  ·intro y0 y1 y2 y3 y4 y5 y6 y7 y8 y9 y10 y11 y12 y13 y14 y15 y16 y17 y18 y19 y20
   unfold impl_LayOut.l1
   repeat' first
   | (with_reducible exact ih0 _ _ _ _)
   | (with_reducible exact ih1 _ _ _ _ _)
   | (with_reducible exact ih2 _ _ _ _ _ _ _ _ _ _ _ _ _ _ _ _ _ _ _ _ _)
   | (with_reducible exact ih3 _ _ _ _ _ _ _ _ _ _ _ _ _ _ _ _ _ _)
   | (with_reducible exact ih4 _ _ _ _ _ _ _ _ _ _ _ _ _ _ _ _ _ _)
   | (with_reducible exact impl_GoodBoxes.mono _ _)
   | (with_reducible exact impl_share.mono _ _ _ _)
   | (with_reducible exact LeO.refl _)
   | (with_reducible exact LeO.none _)
   | (with_reducible refine LeO.ite ?_ ?_)
   | (with_reducible refine LeO.bind ?_ (fun _ => ?_))
   | exact ih0 _ _ _ _
   | exact ih1 _ _ _ _ _
   | exact ih2 _ _ _ _ _ _ _ _ _ _ _ _ _ _ _ _ _ _ _ _ _
   | exact ih3 _ _ _ _ _ _ _ _ _ _ _ _ _ _ _ _ _ _
   | exact ih4 _ _ _ _ _ _ _ _ _ _ _ _ _ _ _ _ _ _
   | exact impl_GoodBoxes.mono _ _
   | exact impl_share.mono _ _ _ _
   | exact LeO.none _
   | refine LeO.ite ?_ ?_
   | refine LeO.bind ?_ (fun _ => ?_)
  ·intro y0 y1 y2 y3 y4 y5 y6 y7 y8 y9 y10 y11 y12 y13 y14 y15 y16 y17
   unfold impl_LayOut.j3
   repeat' first
   | (with_reducible exact ih0 _ _ _ _)
   | (with_reducible exact ih1 _ _ _ _ _)
   | (with_reducible exact ih2 _ _ _ _ _ _ _ _ _ _ _ _ _ _ _ _ _ _ _ _ _)
   | (with_reducible exact ih3 _ _ _ _ _ _ _ _ _ _ _ _ _ _ _ _ _ _)
   | (with_reducible exact ih4 _ _ _ _ _ _ _ _ _ _ _ _ _ _ _ _ _ _)
   | (with_reducible exact impl_GoodBoxes.mono _ _)
   | (with_reducible exact impl_share.mono _ _ _ _)
   | (with_reducible exact LeO.refl _)
   | (with_reducible exact LeO.none _)
   | (with_reducible refine LeO.ite ?_ ?_)
   | (with_reducible refine LeO.bind ?_ (fun _ => ?_))
   | exact ih0 _ _ _ _
   | exact ih1 _ _ _ _ _
   | exact ih2 _ _ _ _ _ _ _ _ _ _ _ _ _ _ _ _ _ _ _ _ _
   | exact ih3 _ _ _ _ _ _ _ _ _ _ _ _ _ _ _ _ _ _
   | exact ih4 _ _ _ _ _ _ _ _ _ _ _ _ _ _ _ _ _ _
   | exact impl_GoodBoxes.mono _ _
   | exact impl_share.mono _ _ _ _
   | exact LeO.none _
   | refine LeO.ite ?_ ?_
   | refine LeO.bind ?_ (fun _ => ?_)
  ·intro y0 y1 y2 y3 y4 y5 y6 y7 y8 y9 y10 y11 y12 y13 y14 y15 y16 y17
   unfold impl_LayOut.l2
   repeat' first
   | (with_reducible exact ih0 _ _ _ _)
   | (with_reducible exact ih1 _ _ _ _ _)
   | (with_reducible exact ih2 _ _ _ _ _ _ _ _ _ _ _ _ _ _ _ _ _ _ _ _ _)
   | (with_reducible exact ih3 _ _ _ _ _ _ _ _ _ _ _ _ _ _ _ _ _ _)
   | (with_reducible exact ih4 _ _ _ _ _ _ _ _ _ _ _ _ _ _ _ _ _ _)
   | (with_reducible exact impl_GoodBoxes.mono _ _)
   | (with_reducible exact impl_share.mono _ _ _ _)
   | (with_reducible exact LeO.refl _)
   | (with_reducible exact LeO.none _)
   | (with_reducible refine LeO.ite ?_ ?_)
   | (with_reducible refine LeO.bind ?_ (fun _ => ?_))
   | exact ih0 _ _ _ _
   | exact ih1 _ _ _ _ _
   | exact ih2 _ _ _ _ _ _ _ _ _ _ _ _ _ _ _ _ _ _ _ _ _
   | exact ih3 _ _ _ _ _ _ _ _ _ _ _ _ _ _ _ _ _ _
   | exact ih4 _ _ _ _ _ _ _ _ _ _ _ _ _ _ _ _ _ _
   | exact impl_GoodBoxes.mono _ _
   | exact impl_share.mono _ _ _ _
   | exact LeO.none _
   | refine LeO.ite ?_ ?_
   | refine LeO.bind ?_ (fun _ => ?_)
theorem impl_LayOut.mono : ∀ a0 a1 a2 k, LeO (impl_LayOut.f k a0 a1 a2) (impl_LayOut.f (k + 1) a0 a1 a2) := by
 intro a0 a1 a2 k
 obtain ⟨ih0, ih1, ih2, ih3, ih4⟩ := impl_LayOut.mono_l k
 unfold impl_LayOut.f
 repeat' first
   | (with_reducible exact ih0 _ _ _ _)
   | (with_reducible exact ih1 _ _ _ _ _)
   | (with_reducible exact ih2 _ _ _ _ _ _ _ _ _ _ _ _ _ _ _ _ _ _ _ _ _)
   | (with_reducible exact ih3 _ _ _ _ _ _ _ _ _ _ _ _ _ _ _ _ _ _)
   | (with_reducible exact ih4 _ _ _ _ _ _ _ _ _ _ _ _ _ _ _ _ _ _)
   | (with_reducible exact impl_GoodBoxes.mono _ _)
   | (with_reducible exact impl_share.mono _ _ _ _)
   | (with_reducible exact LeO.refl _)
   | (with_reducible exact LeO.none _)
   | (with_reducible refine LeO.ite ?_ ?_)
   | (with_reducible refine LeO.bind ?_ (fun _ => ?_))
   | exact ih0 _ _ _ _
   | exact ih1 _ _ _ _ _
   | exact ih2 _ _ _ _ _ _ _ _ _ _ _ _ _ _ _ _ _ _ _ _ _
   | exact ih3 _ _ _ _ _ _ _ _ _ _ _ _ _ _ _ _ _ _
   | exact ih4 _ _ _ _ _ _ _ _ _ _ _ _ _ _ _ _ _ _
   | exact impl_GoodBoxes.mono _ _
   | exact impl_share.mono _ _ _ _
   | exact LeO.none _
   | refine LeO.ite ?_ ?_
   | refine LeO.bind ?_ (fun _ => ?_)
def impl_LayOut.T8 : Bool × List (List Nat × List Nat) := (true, [([], []), ([], []), ([0, 1], [0, 1]), ([2], [2]), ([3], [3]), ([], []), ([5], [5]), ([4, 6], [4, 6]), ([], []), ([], []), ([8, 9], [8, 9]), ([10], [10]), ([11], [11]), ([], []), ([13], [13]), ([12, 14], [12, 14]), ([7, 0, 1, 2, 3, 4, 5, 6, 7], [7]), ([15, 16, 0, 1, 2, 3, 4, 5, 6, 7, 8, 9, 10, 11, 12, 13, 14, 15, 16], [15])])
def impl_LayOut.B8 : List Nat := [0, 0, 3, 7, 15, 0, 32, 127, 0, 0, 768, 1792, 3840, 0, 8192, 32512, 255, 131071]
theorem impl_LayOut.tab8 : rtab .any (opsOf Try.f17 8) = impl_LayOut.T8 := by kernel_rfl
theorem impl_LayOut.bits8 : waitsOk impl_LayOut.T8.2 impl_LayOut.B8 = true := by kernel_rfl
def impl_LayOut.T9 : Bool × List (List Nat × List Nat) := (true, [([], []), ([], []), ([0, 1], [0, 1]), ([2], [2]), ([3], [3]), ([], []), ([5], [5]), ([6], [6]), ([4, 7], [4, 7]), ([8], [8]), ([], []), ([], []), ([10, 11], [10, 11]), ([12], [12]), ([13], [13]), ([], []), ([15], [15]), ([16], [16]), ([14, 17], [14, 17]), ([18], [18]), ([9, 0, 1, 2, 3, 4, 5, 6, 7, 8, 9], [9]), ([19, 20, 0, 1, 2, 3, 4, 5, 6, 7, 8, 9, 10, 11, 12, 13, 14, 15, 16, 17, 18, 19, 20], [19])])
def impl_LayOut.B9 : List Nat := [0, 0, 3, 7, 15, 0, 32, 96, 255, 511, 0, 0, 3072, 7168, 15360, 0, 32768, 98304, 261120, 523264, 1023, 2097151]
theorem impl_LayOut.tab9 : rtab .any (opsOf Try.f17 9) = impl_LayOut.T9 := by kernel_rfl
theorem impl_LayOut.bits9 : waitsOk impl_LayOut.T9.2 impl_LayOut.B9 = true := by kernel_rfl
def impl_LayOut.T15 : Bool × List (List Nat × List Nat) := (true, [([], []), ([], []), ([1], [1]), ([0, 2], [0, 2]), ([], []), ([], []), ([5], [5]), ([6], [6]), ([4, 7, 3], [4, 7]), ([], []), ([], []), ([10], [10]), ([11], [11]), ([9, 12, 8], [9, 12]), ([3, 13, 0, 1, 2, 3], [0, 3]), ([8, 14, 0, 1, 2, 3, 4, 5, 6, 7, 8, 14], [4, 8]), ([13, 15, 0, 1, 2, 3, 4, 5, 6, 7, 8, 9, 10, 11, 12, 13, 14, 15], [9, 13])])
def impl_LayOut.B15 : List Nat := [0, 0, 2, 7, 0, 0, 32, 96, 255, 0, 0, 1024, 3072, 8191, 16383, 32767, 65535]
theorem impl_LayOut.tab15 : rtab .any (opsOf Try.f17 15) = impl_LayOut.T15 := by kernel_rfl
theorem impl_LayOut.bits15 : waitsOk impl_LayOut.T15.2 impl_LayOut.B15 = true := by kernel_rfl
set_option maxHeartbeats 8000000 in
set_option maxRecDepth 100000 in
theorem impl_LayOut.calls (k : Nat) (A0 : Option Addr) (c0 : Nat) (l0 : List (S74)) (a1 : Int) (a2 : Int) (r1 : List (S72)) (r2 : Bool) (w : World) (hr0 : Kd.C k74 w A0 l0.length l0) (hc0 : l0.length ≤ c0) (h : impl_LayOut.f k l0 a1 a2 = some (r1, r2)) :
  Calls Try.prog 17 #[.slice A0 l0.length c0, .int .i64 a1, .int .i64 a2] w fun e w' => ∃ v0_ : Value, e = .returned (.tuple #[v0_, .bool r2]) ∧ Kd.R k72 72 w' w.heap.size (fun _ => True) v0_ r1 ∧ Below w.heap.size w w' := by
 have hu72 := Try.underlying72
 have hu74 := Try.underlying74
 have HR0 := am_ hr0
 have HC0 := am_ hc0
 clear hr0 hc0
 have HB := am_ (Below.refl w.heap.size w)
 have H : ((impl_GoodBoxes.f k l0).bind fun t280 => (if t280 = true then ((impl_inRange.f a1 0 10000).bind fun t281 => (if t281 = true then ((impl_inRange.f a2 0 10000).bind fun t282 => (impl_LayOut.j0 k l0 a1 a2 (!t282))) else (impl_LayOut.j0 k l0 a1 a2 true))) else (impl_LayOut.j0 k l0 a1 a2 true))) = some (r1, r2) := h
 clear h
 have HC4 := am_ H
 clear H
 go_enter Try.func17, Try.ntmps17
 go_upto_region 1 with (fail)
 go_cut [35] (fun v35 wc => ∃ (kq : Nat) (x35_3 : Bool), v35 = .bool x35_3 ∧ Aside0 (impl_LayOut.j0 kq l0 a1 a2 x35_3 = some (r1, r2)) ∧ Aside0 (kq ≤ k) ∧ Aside0 (Below w.heap.size w wc))
 case first =>
  have H := HC4.out
  clear HC4
  obtain ⟨t280, A50, H⟩ := bE_ H
  have A5 := am_ A50
  clear A50
  by_cases c6 : t280 = true
  ·subst c6
   replace H := it_ H rfl
   obtain ⟨t281, A70, H⟩ := bE_ H
   have A7 := am_ A70
   clear A70
   by_cases c8 : t281 = true
   ·subst c8
    replace H := it_ H rfl
    obtain ⟨t282, A90, H⟩ := bE_ H
    have A9 := am_ A90
    clear A90
    have H' := am_ H
    clear H
    go_wp2_with (first | ((with_reducible refine gate_callee (f := 43) rfl ?_); refine goesL_ (some 24) rfl rfl Try.func43 (by kernel_rfl) rfl #[.slice A0 l0.length c0] rfl (by (try simp only [List.map_toArray, List.map_cons, List.map_nil]); first | done | rfl | (simp only [List.length_drop, List.length_take]; rfl)) ?_; (with_reducible refine (impl_GoodBoxes.calls k _ _ l0 true _ ?side1 ?side2 A5.out).mono ?_); (case side1 => repeat (first | exact (Kd.C_below HR0.out HB.out) | (with_reducible refine Kd.C_alloc ?_ _) | (with_reducible refine Kd.C_drewN ?_ _) | (with_reducible refine Kd.C_drew ?_))); (case side2 => exact HC0.out); rintro e w10 ⟨rfl, hb⟩; refine ⟨_, rfl, ?_⟩; have n0_ := am_ (below_step (bw_ HB.out) hb); replace HB := n0_; clear n0_; (try clear hb); (try clear hb2); (try clear hk); (try clear hi)) | (go_at_call 44; (with_reducible refine (impl_inRange.calls a1 0 10000 true _ A7.out).mono ?_); rintro e w' ⟨rfl, ⟨nd, rfl⟩⟩) | (go_at_call 44; (with_reducible refine (impl_inRange.calls a2 0 10000 t282 _ A9.out).mono ?_); rintro e w' ⟨rfl, ⟨nd, rfl⟩⟩))
    go_meet
    case rel => exact ⟨_, (!t282), sq_, H', ⟨by first | omega | exact Nat.le_refl _⟩, ⟨bw_ HB.out⟩⟩
   ·replace c8 := Bool.eq_false_iff.mpr c8
    subst c8
    replace H := if_ H Bool.false_ne_true
    have H' := am_ H
    clear H
    go_wp2_with (first | ((with_reducible refine gate_callee (f := 43) rfl ?_); refine goesL_ (some 24) rfl rfl Try.func43 (by kernel_rfl) rfl #[.slice A0 l0.length c0] rfl (by (try simp only [List.map_toArray, List.map_cons, List.map_nil]); first | done | rfl | (simp only [List.length_drop, List.length_take]; rfl)) ?_; (with_reducible refine (impl_GoodBoxes.calls k _ _ l0 true _ ?side1 ?side2 A5.out).mono ?_); (case side1 => repeat (first | exact (Kd.C_below HR0.out HB.out) | (with_reducible refine Kd.C_alloc ?_ _) | (with_reducible refine Kd.C_drewN ?_ _) | (with_reducible refine Kd.C_drew ?_))); (case side2 => exact HC0.out); rintro e w11 ⟨rfl, hb⟩; refine ⟨_, rfl, ?_⟩; have n0_ := am_ (below_step (bw_ HB.out) hb); replace HB := n0_; clear n0_; (try clear hb); (try clear hb2); (try clear hk); (try clear hi)) | (go_at_call 44; (with_reducible refine (impl_inRange.calls a1 0 10000 false _ A7.out).mono ?_); rintro e w' ⟨rfl, ⟨nd, rfl⟩⟩))
    go_meet
    case rel => exact ⟨_, (true), sq_, H', ⟨by first | omega | exact Nat.le_refl _⟩, ⟨bw_ HB.out⟩⟩
  ·replace c6 := Bool.eq_false_iff.mpr c6
   subst c6
   replace H := if_ H Bool.false_ne_true
   have H' := am_ H
   clear H
   go_wp2_with (first | ((with_reducible refine gate_callee (f := 43) rfl ?_); refine goesL_ (some 24) rfl rfl Try.func43 (by kernel_rfl) rfl #[.slice A0 l0.length c0] rfl (by (try simp only [List.map_toArray, List.map_cons, List.map_nil]); first | done | rfl | (simp only [List.length_drop, List.length_take]; rfl)) ?_; (with_reducible refine (impl_GoodBoxes.calls k _ _ l0 false _ ?side1 ?side2 A5.out).mono ?_); (case side1 => repeat (first | exact (Kd.C_below HR0.out HB.out) | (with_reducible refine Kd.C_alloc ?_ _) | (with_reducible refine Kd.C_drewN ?_ _) | (with_reducible refine Kd.C_drew ?_))); (case side2 => exact HC0.out); rintro e w12 ⟨rfl, hb⟩; refine ⟨_, rfl, ?_⟩; have n0_ := am_ (below_step (bw_ HB.out) hb); replace HB := n0_; clear n0_; (try clear hb); (try clear hb2); (try clear hk); (try clear hi)))
   go_meet
   case rel => exact ⟨_, (true), sq_, H', ⟨by first | omega | exact Nat.le_refl _⟩, ⟨bw_ HB.out⟩⟩
 case rest => as_aux_lemma =>
  clear HC4
  obtain ⟨kq, x35_3, rfl, HA, HJ3, HB⟩ := hcut
  cases kq with
  | zero => exact absurd HA.out (by simp [impl_LayOut.j0])
  | succ kj3 =>
   have H := HA.out
   clear HA
   simp only [impl_LayOut.j0] at H
   by_cases c13 : x35_3 = true
   ·subst c13
    replace H := it_ H rfl
    simp only [Option.some.injEq, Prod.mk.injEq] at H
    obtain ⟨rfl, rfl⟩ := H
    go_wp2
    go_ret2
    exact ⟨_, by first | rfl | (simp [errW_none, errW_some] <;> rfl) | (simp [*, errW_none, errW_some] <;> rfl), by first | exact Kd.R_nil _ _ _ _ _ | exact Kd.N_nil _ _ _ _ _ | exact Kd.V_nil _ _ _ _ _ | exact Kd.Q_nil _ _ _ _ _ | exact Kd.S_nil _ _ _ _ _, bw_ HB.out⟩
   ·replace c13 := Bool.eq_false_iff.mpr c13
    subst c13
    replace H := if_ H Bool.false_ne_true
    obtain ⟨c14, H⟩ := ifn_ H
    have c14b0 := eq_true c14
    have c14b1 : decide (0 ≤ (l0.length : Int)) = true := decide_eq_true c14
    clear c14
    obtain ⟨c15, H⟩ := ifn_ H
    have c15b0 := eq_true c15
    have c15b1 : decide (((l0.length : Int) : Int).toNat ≤ 8796093022208) = true := decide_eq_true c15
    clear c15
    obtain ⟨y283, hy283⟩ : ∃ y_ : List (S72), y_ = (List.replicate ((l0.length : Int) : Int).toNat z72) := ⟨_, rfl⟩
    replace H : (if 0 < (y283.length : Int) then (impl_LayOut.l0 kj3 l0 (y283.set (0 : Int).toNat (⟨0, 0, a1, a2⟩ : S72)) l0 (l0.length : Int) 0) else (none)) = some (r1, r2) := by first | (rw [hy283]; with_reducible exact H) | (have H2_ := (Option.bind_some _ _).symm.trans H; rw [hy283]; with_reducible exact H2_) | (have H2_ := (Option.bind_some _ _).symm.trans H; with_reducible exact H2_) | with_reducible exact H | (rw [hy283]; exact H) | exact H
    have Ny283 := am_ hy283
    clear hy283
    obtain ⟨c16, H⟩ := ifn_ H
    have c16b0 : decide (0 < (y283.length : Int)) = true := decide_eq_true c16
    have c16b1 : decide (0 < y283.length) = true := decide_eq_true (by omega)
    clear c16
    obtain ⟨y286, hy286⟩ : ∃ y_ : List (S72), y_ = (y283.set (0 : Int).toNat (⟨0, 0, a1, a2⟩ : S72)) := ⟨_, rfl⟩
    replace H : (impl_LayOut.l0 kj3 l0 y286 l0 (l0.length : Int) 0) = some (r1, r2) := by first | (rw [hy286]; with_reducible exact H) | (have H2_ := (Option.bind_some _ _).symm.trans H; rw [hy286]; with_reducible exact H2_) | (have H2_ := (Option.bind_some _ _).symm.trans H; with_reducible exact H2_) | with_reducible exact H | (rw [hy286]; exact H) | exact H
    have Ny286 := am_ hy286
    clear hy286
    have H' := am_ H
    clear H
    go_wp2_with (first | ((with_reducible refine gate_dst (N := 38) rfl ?_); refine Kd.R_make k72 _ 72 rfl (N := 38) rfl 36 _ _ rfl (l0.length : Int) rfl rfl Try.underlying36 (.agg #[(.int .i64 0), (.int .i64 0), (.int .i64 0), (.int .i64 0)]) 32 info72 rfl (by decide) (by omega) z72 (ok := fun _ => True) (okp := fun _ => True) (k72_mkM _ _ _ z72 ) (fun _ hk => hk) trivial od_ (Nat.le_trans (Nat.mul_le_mul_right _ (od_ : (l0.length : Int).toNat ≤ 8796093022208)) (by omega)) (Below.refl _ _) (Nat.le_refl _) ?_; intro v284 w18 ho19 hb hg_ hnew_; clear hg_ hnew_; (first | rw [← Ny283.out] at ho19 | (simp only [Int.reduceToNat] at ho19; rw [← Ny283.out] at ho19)); have n0_ := am_ (Kd.R_lower ho19 (below_size (bw_ HB.out))); have n1_ := am_ (below_step (bw_ HB.out) hb); have HO285 := n0_; replace HB := n1_; clear n0_ n1_; clear hb ho19; have p17 : 0 ≤ (0 : Int) := (by omega); have q17 : (0 : Int) < ((y283.length : Int) : Int) := od_; have qi17 : (0 < y283.length) = True := eq_true (by omega); obtain ⟨go17, co17, eo17, gb17, gl17, cl17, HG17⟩ := Kd.R_form HO285.out (by omega); (first | cases eo17 | (injection eo17 with ea_ en_ ec_; (first | subst ea_ | (injection ea_ with ea_; subst ea_)); subst ec_; clear en_)); have GB17 := am_ gb17; have GG17 := am_ HG17; clear gb17 gl17 HG17; obtain ⟨ce17, hcl17, hM17, hcc17, hfr17⟩ := Kd.R_elem HO285.out z72 (0 : Int) p17 q17; obtain rfl := k72_openM hM17; have hx17_0 : w18.cell? ⟨go17, (0 : Int).toNat * 4, none⟩ = some (.int .i64 ((rd_T72 y283 0).f0)) := hcc17 0 _ rfl; have hx17_1 : w18.cell? ⟨go17, (0 : Int).toNat * 4 + 1, none⟩ = some (.int .i64 ((rd_T72 y283 0).f1)) := hcc17 1 _ rfl; have hx17_2 : w18.cell? ⟨go17, (0 : Int).toNat * 4 + 2, none⟩ = some (.int .i64 ((rd_T72 y283 0).f2)) := hcc17 2 _ rfl; have hx17_3 : w18.cell? ⟨go17, (0 : Int).toNat * 4 + 3, none⟩ = some (.int .i64 ((rd_T72 y283 0).f3)) := hcc17 3 _ rfl; have hf17_0 : w18.frozen? ⟨go17, (0 : Int).toNat * 4, none⟩ = false := hfr17 0; have hf17_1 : w18.frozen? ⟨go17, (0 : Int).toNat * 4 + 1, none⟩ = false := hfr17 1; have hf17_2 : w18.frozen? ⟨go17, (0 : Int).toNat * 4 + 2, none⟩ = false := hfr17 2; have hf17_3 : w18.frozen? ⟨go17, (0 : Int).toNat * 4 + 3, none⟩ = false := hfr17 3; clear hcl17 hcc17 hfr17; (try clear hM17); (try rw [show ((0 : Int)).toNat = 0 from rfl] at hx17_0); (try simp only [Nat.reduceMul, Nat.zero_mul, Nat.zero_add, Nat.reduceAdd] at hx17_0); (try rw [show ((0 : Int)).toNat = 0 from rfl] at hf17_0); (try simp only [Nat.reduceMul, Nat.zero_mul, Nat.zero_add, Nat.reduceAdd] at hf17_0); (try rw [show ((0 : Int)).toNat = 0 from rfl] at hx17_1); (try simp only [Nat.reduceMul, Nat.zero_mul, Nat.zero_add, Nat.reduceAdd] at hx17_1); (try rw [show ((0 : Int)).toNat = 0 from rfl] at hf17_1); (try simp only [Nat.reduceMul, Nat.zero_mul, Nat.zero_add, Nat.reduceAdd] at hf17_1); (try rw [show ((0 : Int)).toNat = 0 from rfl] at hx17_2); (try simp only [Nat.reduceMul, Nat.zero_mul, Nat.zero_add, Nat.reduceAdd] at hx17_2); (try rw [show ((0 : Int)).toNat = 0 from rfl] at hf17_2); (try simp only [Nat.reduceMul, Nat.zero_mul, Nat.zero_add, Nat.reduceAdd] at hf17_2); (try rw [show ((0 : Int)).toNat = 0 from rfl] at hx17_3); (try simp only [Nat.reduceMul, Nat.zero_mul, Nat.zero_add, Nat.reduceAdd] at hx17_3); (try rw [show ((0 : Int)).toNat = 0 from rfl] at hf17_3); (try simp only [Nat.reduceMul, Nat.zero_mul, Nat.zero_add, Nat.reduceAdd] at hf17_3); replace p17 := eq_true p17; replace q17 := eq_true q17; have HX20 := am_ (show Kd.R k72 72 w18 w.heap.size (fun _ => True) (.slice (some ⟨go17, 0, none⟩) y283.length co17) y283 from (ra_ HO285.out)); obtain ⟨ce20, hcl20, hM20, hcc20, hfr20⟩ := Kd.R_elem HX20.out z72 (0 : Int) (by omega) (by have h_ : (0 : Int) < ((y283.length : Int) : Int) := od_; first | exact h_ | (have e_ := (Kd.R_reads' HO285.out).1; omega) | simpa using h_); obtain rfl := k72_openM hM20; have HP20 := Kd.R_seg HX20.out (0 : Int) (by omega) (by have h_ : (0 : Int) < ((y283.length : Int) : Int) := od_; first | exact h_ | (have e_ := (Kd.R_reads' HO285.out).1; omega) | simpa using h_) (seg := [.int .i64 0, .int .i64 0, .int .i64 a1, .int .i64 a2]) (j := 0) hcl20 hcc20 (show 4 ≤ 4 from by decide) (x' := (⟨0, 0, a1, a2⟩ : S72)) (k72_mkM _ _ _ (⟨0, 0, a1, a2⟩ : S72) ) (fun _ hk => hk); have hx20_0 := hcc20 0 _ rfl; (try simp only [show (k72).sz = 4 from rfl, Nat.mul_one, Nat.add_zero] at hx20_0); (try rw [show ((0 : Int)).toNat = 0 from rfl] at hx20_0); (try simp only [Nat.reduceMul, Nat.zero_mul, Nat.zero_add, Nat.reduceAdd] at hx20_0); have hf20_0 := hfr20 0; (try simp only [show (k72).sz = 4 from rfl, Nat.mul_one, Nat.add_zero] at hf20_0); (try rw [show ((0 : Int)).toNat = 0 from rfl] at hf20_0); (try simp only [Nat.reduceMul, Nat.zero_mul, Nat.zero_add, Nat.reduceAdd] at hf20_0); have hx20_1 := hcc20 1 _ rfl; (try simp only [show (k72).sz = 4 from rfl, Nat.mul_one, Nat.add_zero] at hx20_1); (try rw [show ((0 : Int)).toNat = 0 from rfl] at hx20_1); (try simp only [Nat.reduceMul, Nat.zero_mul, Nat.zero_add, Nat.reduceAdd] at hx20_1); have hf20_1 := hfr20 1; (try simp only [show (k72).sz = 4 from rfl, Nat.mul_one, Nat.add_zero] at hf20_1); (try rw [show ((0 : Int)).toNat = 0 from rfl] at hf20_1); (try simp only [Nat.reduceMul, Nat.zero_mul, Nat.zero_add, Nat.reduceAdd] at hf20_1); have hx20_2 := hcc20 2 _ rfl; (try simp only [show (k72).sz = 4 from rfl, Nat.mul_one, Nat.add_zero] at hx20_2); (try rw [show ((0 : Int)).toNat = 0 from rfl] at hx20_2); (try simp only [Nat.reduceMul, Nat.zero_mul, Nat.zero_add, Nat.reduceAdd] at hx20_2); have hf20_2 := hfr20 2; (try simp only [show (k72).sz = 4 from rfl, Nat.mul_one, Nat.add_zero] at hf20_2); (try rw [show ((0 : Int)).toNat = 0 from rfl] at hf20_2); (try simp only [Nat.reduceMul, Nat.zero_mul, Nat.zero_add, Nat.reduceAdd] at hf20_2); have hx20_3 := hcc20 3 _ rfl; (try simp only [show (k72).sz = 4 from rfl, Nat.mul_one, Nat.add_zero] at hx20_3); (try rw [show ((0 : Int)).toNat = 0 from rfl] at hx20_3); (try simp only [Nat.reduceMul, Nat.zero_mul, Nat.zero_add, Nat.reduceAdd] at hx20_3); have hf20_3 := hfr20 3; (try simp only [show (k72).sz = 4 from rfl, Nat.mul_one, Nat.add_zero] at hf20_3); (try rw [show ((0 : Int)).toNat = 0 from rfl] at hf20_3); (try simp only [Nat.reduceMul, Nat.zero_mul, Nat.zero_add, Nat.reduceAdd] at hf20_3); clear hcl20 hcc20 hfr20; (try clear hM20)) | ((with_reducible refine gate_store (t := 72) (p := 43) rfl ?_); refine se_ 72 43 ((((w18.setCell ⟨go17, 0, none⟩ (.int .i64 0)).setCell ⟨go17, 1, none⟩ (.int .i64 0)).setCell ⟨go17, 2, none⟩ (.int .i64 a1)).setCell ⟨go17, 3, none⟩ (.int .i64 a2)) ?_; intro w21 hw; have hg : w18.grownBy w21 (some go17) := (by rw [hw]; exact HP20.2); have hp_ : Kd.R k72 72 w21 w.heap.size (fun _ => True) (.slice (some ⟨go17, 0, none⟩) y283.length co17) y286 := (by rw [hw, Ny286.out]; exact HP20.1); clear HP20; have n0_ := am_ (hp_); have n1_ := am_ ((by rw [hw]; exact below_set (below_set (below_set (below_set (HB.out) GB17.out) GB17.out) GB17.out) GB17.out : Below w.heap.size w w21)); replace HO285 := n0_; replace HB := n1_; clear n0_ n1_; clear hg hw hp_))
    go_loopg [46] kj3 (fun kq v46 w' => ∃ (x8_2 : List (S72)) (x46_2 : Int), v46 = .int .i64 x46_2 ∧ Aside0 (impl_LayOut.l0 kq l0 x8_2 l0 (l0.length : Int) x46_2 = some (r1, r2)) ∧ Aside0 (kq ≤ kj3) ∧ Aside0 (Kd.R k72 72 w' w.heap.size (fun _ => True) (.slice (some ⟨go17, 0, none⟩) y283.length co17) x8_2) ∧ Aside0 (Below w.heap.size w w'))
    case atStart => exact ⟨(y286), (0), sq_, H', ⟨Nat.le_refl _⟩, ⟨ra_ HO285.out⟩, ⟨bw_ HB.out⟩⟩
    case round =>
     clear H'
     try clear c13
     try clear c14
     try clear c14b0
     try clear c14b1
     try clear c15
     try clear c15b0
     try clear c15b1
     try clear c16
     try clear c16b0
     try clear c16b1
     try clear p17
     try clear q17
     try clear qi17
     try clear hx17_0
     try clear hx17_1
     try clear hx17_2
     try clear hx17_3
     try clear hx20_0
     try clear hx20_1
     try clear hx20_2
     try clear hx20_3
     try clear p17
     try clear q17
     obtain ⟨x8_2, x46_2, rfl, HA, HK2, HO_8, HB⟩ := hrel
     have hl8_2 := (Kd.R_reads' HO_8.out).1
     rw [hl8_2] at HO_8
     (try simp only [hl8_2])
     cases gk with
     | zero => exact absurd HA.out (by simp [impl_LayOut.l0])
     | succ k2 =>
      have H := HA.out
      clear HA
      simp only [impl_LayOut.l0] at H
      by_cases c22 : x46_2 < (l0.length : Int)
      ·rw [if_pos c22] at H
       have c22b0 : decide (x46_2 < (l0.length : Int)) = true := decide_eq_true c22
       (try rw [hl8_2] at c22b0)
       clear c22
       obtain ⟨c23, H⟩ := ifn_ H
       have c23b0 : decide (0 ≤ x46_2) = true := decide_eq_true c23
       clear c23
       obtain ⟨c24, H⟩ := ifn_ H
       have c24b0 : decide (x46_2 < (l0.length : Int)) = true := decide_eq_true c24
       (try rw [hl8_2] at c24b0)
       clear c24
       obtain ⟨c25, H⟩ := ifn_ H
       have c25b0 : decide (x46_2 < (x8_2.length : Int)) = true := decide_eq_true c25
       (try rw [hl8_2] at c25b0)
       clear c25
       obtain ⟨ji26, hji26⟩ : ∃ j_ : Int, (mx 0 (wrap64 (((rd_T72 x8_2 x46_2).f2) - (wrap64 (2 * ((rd_T74 l0 x46_2).f4)))))) = j_ := ⟨_, rfl⟩
       replace H : (impl_LayOut.l1 k2 l0 x8_2 x46_2 (wrap64 (((rd_T72 x8_2 x46_2).f0) + ((rd_T74 l0 x46_2).f4))) (wrap64 (((rd_T72 x8_2 x46_2).f1) + ((rd_T74 l0 x46_2).f4))) ji26 (mx 0 (wrap64 (((rd_T72 x8_2 x46_2).f3) - (wrap64 (2 * ((rd_T74 l0 x46_2).f4)))))) (([] : List Int)) (([] : List Int)) (([] : List Int)) l0 (l0.length : Int) x46_2 l0 (l0.length : Int) 0 ((rd_T74 l0 x46_2).f0) ((rd_T74 l0 x46_2).f1) ((rd_T74 l0 x46_2).f2) ((rd_T74 l0 x46_2).f3) ((rd_T74 l0 x46_2).f4)) = some (r1, r2) := by first | (rw [hji26] at H; exact H) | (simp only [hji26] at H ⊢; exact H)
       have hji26_ : (if 0 < (wrap64 (((rd_T72 x8_2 x46_2).f2) - (wrap64 (2 * ((rd_T74 l0 x46_2).f4))))) then (wrap64 (((rd_T72 x8_2 x46_2).f2) - (wrap64 (2 * ((rd_T74 l0 x46_2).f4))))) else 0) = ji26 := hji26
       obtain ⟨ji27, hji27⟩ : ∃ j_ : Int, (mx 0 (wrap64 (((rd_T72 x8_2 x46_2).f3) - (wrap64 (2 * ((rd_T74 l0 x46_2).f4)))))) = j_ := ⟨_, rfl⟩
       replace H : (impl_LayOut.l1 k2 l0 x8_2 x46_2 (wrap64 (((rd_T72 x8_2 x46_2).f0) + ((rd_T74 l0 x46_2).f4))) (wrap64 (((rd_T72 x8_2 x46_2).f1) + ((rd_T74 l0 x46_2).f4))) ji26 ji27 (([] : List Int)) (([] : List Int)) (([] : List Int)) l0 (l0.length : Int) x46_2 l0 (l0.length : Int) 0 ((rd_T74 l0 x46_2).f0) ((rd_T74 l0 x46_2).f1) ((rd_T74 l0 x46_2).f2) ((rd_T74 l0 x46_2).f3) ((rd_T74 l0 x46_2).f4)) = some (r1, r2) := by first | (rw [hji27] at H; exact H) | (simp only [hji27] at H ⊢; exact H)
       have hji27_ : (if 0 < (wrap64 (((rd_T72 x8_2 x46_2).f3) - (wrap64 (2 * ((rd_T74 l0 x46_2).f4))))) then (wrap64 (((rd_T72 x8_2 x46_2).f3) - (wrap64 (2 * ((rd_T74 l0 x46_2).f4))))) else 0) = ji27 := hji27
       obtain ⟨y293, hy293⟩ : ∃ y_ : List Int, y_ = (([] : List Int)) := ⟨_, rfl⟩
       replace H : (impl_LayOut.l1 k2 l0 x8_2 x46_2 (wrap64 (((rd_T72 x8_2 x46_2).f0) + ((rd_T74 l0 x46_2).f4))) (wrap64 (((rd_T72 x8_2 x46_2).f1) + ((rd_T74 l0 x46_2).f4))) ji26 ji27 y293 (([] : List Int)) (([] : List Int)) l0 (l0.length : Int) x46_2 l0 (l0.length : Int) 0 ((rd_T74 l0 x46_2).f0) ((rd_T74 l0 x46_2).f1) ((rd_T74 l0 x46_2).f2) ((rd_T74 l0 x46_2).f3) ((rd_T74 l0 x46_2).f4)) = some (r1, r2) := by first | (rw [hy293]; with_reducible exact H) | (have H2_ := (Option.bind_some _ _).symm.trans H; rw [hy293]; with_reducible exact H2_) | (have H2_ := (Option.bind_some _ _).symm.trans H; with_reducible exact H2_) | with_reducible exact H | (rw [hy293]; exact H) | exact H
       have Ny293 := am_ hy293
       clear hy293
       obtain ⟨y296, hy296⟩ : ∃ y_ : List Int, y_ = (([] : List Int)) := ⟨_, rfl⟩
       replace H : (impl_LayOut.l1 k2 l0 x8_2 x46_2 (wrap64 (((rd_T72 x8_2 x46_2).f0) + ((rd_T74 l0 x46_2).f4))) (wrap64 (((rd_T72 x8_2 x46_2).f1) + ((rd_T74 l0 x46_2).f4))) ji26 ji27 y293 y296 (([] : List Int)) l0 (l0.length : Int) x46_2 l0 (l0.length : Int) 0 ((rd_T74 l0 x46_2).f0) ((rd_T74 l0 x46_2).f1) ((rd_T74 l0 x46_2).f2) ((rd_T74 l0 x46_2).f3) ((rd_T74 l0 x46_2).f4)) = some (r1, r2) := by first | (rw [hy296]; with_reducible exact H) | (have H2_ := (Option.bind_some _ _).symm.trans H; rw [hy296]; with_reducible exact H2_) | (have H2_ := (Option.bind_some _ _).symm.trans H; with_reducible exact H2_) | with_reducible exact H | (rw [hy296]; exact H) | exact H
       have Ny296 := am_ hy296
       clear hy296
       obtain ⟨y299, hy299⟩ : ∃ y_ : List Int, y_ = (([] : List Int)) := ⟨_, rfl⟩
       replace H : (impl_LayOut.l1 k2 l0 x8_2 x46_2 (wrap64 (((rd_T72 x8_2 x46_2).f0) + ((rd_T74 l0 x46_2).f4))) (wrap64 (((rd_T72 x8_2 x46_2).f1) + ((rd_T74 l0 x46_2).f4))) ji26 ji27 y293 y296 y299 l0 (l0.length : Int) x46_2 l0 (l0.length : Int) 0 ((rd_T74 l0 x46_2).f0) ((rd_T74 l0 x46_2).f1) ((rd_T74 l0 x46_2).f2) ((rd_T74 l0 x46_2).f3) ((rd_T74 l0 x46_2).f4)) = some (r1, r2) := by first | (rw [hy299]; with_reducible exact H) | (have H2_ := (Option.bind_some _ _).symm.trans H; rw [hy299]; with_reducible exact H2_) | (have H2_ := (Option.bind_some _ _).symm.trans H; with_reducible exact H2_) | with_reducible exact H | (rw [hy299]; exact H) | exact H
       have Ny299 := am_ hy299
       clear hy299
       have H' := am_ H
       clear H
       have p287 : 0 ≤ (x46_2 : Int) := od_
       have q287 : x46_2 < (l0.length : Int) := od_
       obtain ⟨ad287, e287, hx287_0, hx287_1, hx287_2, hx287_3, hx287_4⟩ := at_T74 HR0.out x46_2 p287 q287
       cases e287
       (try replace hx287_0 := hc_ HB.out hx287_0)
       (try replace hx287_1 := hc_ HB.out hx287_1)
       (try replace hx287_2 := hc_ HB.out hx287_2)
       (try replace hx287_3 := hc_ HB.out hx287_3)
       (try replace hx287_4 := hc_ HB.out hx287_4)
       replace p287 := eq_true p287
       replace q287 := eq_true q287
       try go_wp2_with (first | ((with_reducible refine gate_dst (N := 10) rfl ?_); refine bx_ 10 #[.int .i64 0, .int .i64 0, .int .i64 0, .int .i64 0, .int .i64 0] 74 ?_; intro gb288 hg w28 hbox hb; have n0_ := am_ (Kd.R_below (ra_ HO_8.out) hb); have n1_ := am_ (below_step (bw_ HB.out) hb); have n2_ := am_ (hbox); have n3_ := am_ (gs_ hg (bw_ HB.out)); have n4_ := am_ (gs_ hg (bw_ HB.out)); replace HO_8 := n0_; replace HB := n1_; have BK288 := n2_; have GW288 := n3_; have GE288 := n4_; clear n0_ n1_ n2_ n3_ n4_; clear hb hbox hg; have hcz29_0 := cz_ BK288.out 0; have hcz29_1 := cz_ BK288.out 1; have hcz29_2 := cz_ BK288.out 2; have hcz29_3 := cz_ BK288.out 3; have hcz29_4 := cz_ BK288.out 4; have hfz29_0 := blk_frozen BK288.out 0; have hfz29_1 := blk_frozen BK288.out 1; have hfz29_2 := blk_frozen BK288.out 2; have hfz29_3 := blk_frozen BK288.out 3; have hfz29_4 := blk_frozen BK288.out 4))
       have n0_ : Aside0 (Kd.R k72 72 (((((w28.setCell ⟨gb288, 0, none⟩ (.int .i64 ((rd_T74 l0 x46_2).f0))).setCell ⟨gb288, 1, none⟩ (.int .i64 ((rd_T74 l0 x46_2).f1))).setCell ⟨gb288, 2, none⟩ (.int .i64 ((rd_T74 l0 x46_2).f2))).setCell ⟨gb288, 3, none⟩ (.int .i64 ((rd_T74 l0 x46_2).f3))).setCell ⟨gb288, 4, none⟩ (.int .i64 ((rd_T74 l0 x46_2).f4))) w.heap.size (fun _ => True) (.slice (some ⟨go17, 0, none⟩) x8_2.length co17) x8_2) := ⟨ra_ (Kd.R_mono (Kd.R_far (p := ⟨gb288, 4, none⟩) (Kd.R_far (p := ⟨gb288, 3, none⟩) (Kd.R_far (p := ⟨gb288, 2, none⟩) (Kd.R_far (p := ⟨gb288, 1, none⟩) (Kd.R_far (p := ⟨gb288, 0, none⟩) (Kd.R_types HO_8.out BK288.out (by decide)) (fun _ hk => hk.2) (.int .i64 ((rd_T74 l0 x46_2).f0))) (fun _ hk => hk.2) (.int .i64 ((rd_T74 l0 x46_2).f1))) (fun _ hk => hk.2) (.int .i64 ((rd_T74 l0 x46_2).f2))) (fun _ hk => hk.2) (.int .i64 ((rd_T74 l0 x46_2).f3))) (fun _ hk => hk.2) (.int .i64 ((rd_T74 l0 x46_2).f4))) (fun _ hk => trivial))⟩
       have n1_ : Aside0 ((((((w28.setCell ⟨gb288, 0, none⟩ (.int .i64 ((rd_T74 l0 x46_2).f0))).setCell ⟨gb288, 1, none⟩ (.int .i64 ((rd_T74 l0 x46_2).f1))).setCell ⟨gb288, 2, none⟩ (.int .i64 ((rd_T74 l0 x46_2).f2))).setCell ⟨gb288, 3, none⟩ (.int .i64 ((rd_T74 l0 x46_2).f3))).setCell ⟨gb288, 4, none⟩ (.int .i64 ((rd_T74 l0 x46_2).f4))).heap[gb288]? = some (.cells #[.int .i64 ((rd_T74 l0 x46_2).f0), .int .i64 ((rd_T74 l0 x46_2).f1), .int .i64 ((rd_T74 l0 x46_2).f2), .int .i64 ((rd_T74 l0 x46_2).f3), .int .i64 ((rd_T74 l0 x46_2).f4)] 74 (0, 0))) := ⟨by (with_reducible repeat (first | refine blk_drewN ?_ _ | refine blk_drew ?_ | refine blk_alloc ?_ _)); refine blk_put (cs := #[.int .i64 ((rd_T74 l0 x46_2).f0), .int .i64 ((rd_T74 l0 x46_2).f1), .int .i64 ((rd_T74 l0 x46_2).f2), .int .i64 ((rd_T74 l0 x46_2).f3), .int .i64 0]) ?_ 4 _ rfl; (with_reducible repeat (first | refine blk_drewN ?_ _ | refine blk_drew ?_ | refine blk_alloc ?_ _)); refine blk_put (cs := #[.int .i64 ((rd_T74 l0 x46_2).f0), .int .i64 ((rd_T74 l0 x46_2).f1), .int .i64 ((rd_T74 l0 x46_2).f2), .int .i64 0, .int .i64 0]) ?_ 3 _ rfl; (with_reducible repeat (first | refine blk_drewN ?_ _ | refine blk_drew ?_ | refine blk_alloc ?_ _)); refine blk_put (cs := #[.int .i64 ((rd_T74 l0 x46_2).f0), .int .i64 ((rd_T74 l0 x46_2).f1), .int .i64 0, .int .i64 0, .int .i64 0]) ?_ 2 _ rfl; (with_reducible repeat (first | refine blk_drewN ?_ _ | refine blk_drew ?_ | refine blk_alloc ?_ _)); refine blk_put (cs := #[.int .i64 ((rd_T74 l0 x46_2).f0), .int .i64 0, .int .i64 0, .int .i64 0, .int .i64 0]) ?_ 1 _ rfl; (with_reducible repeat (first | refine blk_drewN ?_ _ | refine blk_drew ?_ | refine blk_alloc ?_ _)); refine blk_put (cs := #[.int .i64 0, .int .i64 0, .int .i64 0, .int .i64 0, .int .i64 0]) ?_ 0 _ rfl; (with_reducible repeat (first | refine blk_drewN ?_ _ | refine blk_drew ?_ | refine blk_alloc ?_ _)); exact BK288.out⟩
       have n2_ : Aside0 (Below w.heap.size w (((((w28.setCell ⟨gb288, 0, none⟩ (.int .i64 ((rd_T74 l0 x46_2).f0))).setCell ⟨gb288, 1, none⟩ (.int .i64 ((rd_T74 l0 x46_2).f1))).setCell ⟨gb288, 2, none⟩ (.int .i64 ((rd_T74 l0 x46_2).f2))).setCell ⟨gb288, 3, none⟩ (.int .i64 ((rd_T74 l0 x46_2).f3))).setCell ⟨gb288, 4, none⟩ (.int .i64 ((rd_T74 l0 x46_2).f4)))) := ⟨bw_ HB.out⟩
       (try clear HO_8)
       (try clear BK288)
       (try clear HB)
       generalize (((((w28.setCell ⟨gb288, 0, none⟩ (.int .i64 ((rd_T74 l0 x46_2).f0))).setCell ⟨gb288, 1, none⟩ (.int .i64 ((rd_T74 l0 x46_2).f1))).setCell ⟨gb288, 2, none⟩ (.int .i64 ((rd_T74 l0 x46_2).f2))).setCell ⟨gb288, 3, none⟩ (.int .i64 ((rd_T74 l0 x46_2).f3))).setCell ⟨gb288, 4, none⟩ (.int .i64 ((rd_T74 l0 x46_2).f4))) = w30 at n0_ n1_ n2_ ⊢
       have HO_8 := n0_
       have BK288 := n1_
       have HB := n2_
       clear n0_ n1_ n2_
       have n0_ := am_ (Kd.R_drew HO_8.out)
       have n1_ := am_ (blk_drew BK288.out)
       have n2_ := am_ (below_drew1 HB.out)
       replace HO_8 := n0_
       replace BK288 := n1_
       replace HB := n2_
       clear n0_ n1_ n2_
       have p289 : 0 ≤ (x46_2 : Int) := od_
       have q289 : x46_2 < (x8_2.length : Int) := od_
       obtain ⟨ad289, e289, hx289_0, hx289_1, hx289_2, hx289_3⟩ := at_T72 (Kd.R_reads' HO_8.out).2.2 x46_2 p289 q289
       obtain rfl : (⟨go17, 0, none⟩ : Addr) = ad289 := (by injection e289)
       (first | simp only [add_plain] at hx289_0 | simp only [add_at] at hx289_0 | simp only [Addr.add, Nat.zero_add] at hx289_0 | skip)
       (first | simp only [add_plain] at hx289_1 | simp only [add_at] at hx289_1 | simp only [Addr.add, Nat.zero_add] at hx289_1 | skip)
       (first | simp only [add_plain] at hx289_2 | simp only [add_at] at hx289_2 | simp only [Addr.add, Nat.zero_add] at hx289_2 | skip)
       (first | simp only [add_plain] at hx289_3 | simp only [add_at] at hx289_3 | simp only [Addr.add, Nat.zero_add] at hx289_3 | skip)
       replace p289 := eq_true p289
       replace q289 := eq_true q289
       have p290 : 0 ≤ (x46_2 : Int) := od_
       have q290 : x46_2 < (x8_2.length : Int) := od_
       obtain ⟨ad290, e290, hx290_0, hx290_1, hx290_2, hx290_3⟩ := at_T72 (Kd.R_reads' HO_8.out).2.2 x46_2 p290 q290
       obtain rfl : (⟨go17, 0, none⟩ : Addr) = ad290 := (by injection e290)
       (first | simp only [add_plain] at hx290_0 | simp only [add_at] at hx290_0 | simp only [Addr.add, Nat.zero_add] at hx290_0 | skip)
       (first | simp only [add_plain] at hx290_1 | simp only [add_at] at hx290_1 | simp only [Addr.add, Nat.zero_add] at hx290_1 | skip)
       (first | simp only [add_plain] at hx290_2 | simp only [add_at] at hx290_2 | simp only [Addr.add, Nat.zero_add] at hx290_2 | skip)
       (first | simp only [add_plain] at hx290_3 | simp only [add_at] at hx290_3 | simp only [Addr.add, Nat.zero_add] at hx290_3 | skip)
       replace p290 := eq_true p290
       replace q290 := eq_true q290
       refine start_ (n := 18) (S := fun w' => w'.cell? ⟨gb288, 0, none⟩ = some (.int .i64 ((rd_T74 l0 x46_2).f0)) ∧ w'.cell? ⟨gb288, 1, none⟩ = some (.int .i64 ((rd_T74 l0 x46_2).f1)) ∧ w'.cell? ⟨gb288, 2, none⟩ = some (.int .i64 ((rd_T74 l0 x46_2).f2)) ∧ w'.cell? ⟨gb288, 3, none⟩ = some (.int .i64 ((rd_T74 l0 x46_2).f3)) ∧ w'.cell? ⟨gb288, 4, none⟩ = some (.int .i64 ((rd_T74 l0 x46_2).f4)) ∧ w'.cell? ⟨go17, (x46_2).toNat * 4, none⟩ = some (.int .i64 ((rd_T72 x8_2 x46_2).f0)) ∧ w'.cell? ⟨go17, (x46_2).toNat * 4 + 1, none⟩ = some (.int .i64 ((rd_T72 x8_2 x46_2).f1)) ∧ w'.cell? ⟨go17, (x46_2).toNat * 4 + 2, none⟩ = some (.int .i64 ((rd_T72 x8_2 x46_2).f2)) ∧ w'.cell? ⟨go17, (x46_2).toNat * 4 + 3, none⟩ = some (.int .i64 ((rd_T72 x8_2 x46_2).f3)) ∧ w'.cell? ⟨go17, (x46_2).toNat * 4, none⟩ = some (.int .i64 ((rd_T72 x8_2 x46_2).f0)) ∧ w'.cell? ⟨go17, (x46_2).toNat * 4 + 1, none⟩ = some (.int .i64 ((rd_T72 x8_2 x46_2).f1)) ∧ w'.cell? ⟨go17, (x46_2).toNat * 4 + 2, none⟩ = some (.int .i64 ((rd_T72 x8_2 x46_2).f2)) ∧ w'.cell? ⟨go17, (x46_2).toNat * 4 + 3, none⟩ = some (.int .i64 ((rd_T72 x8_2 x46_2).f3))) (ds := []) (Array.replicate 18 false) (by kernel_rfl) rfl rfl ⟨cz_ BK288.out 0, cz_ BK288.out 1, cz_ BK288.out 2, cz_ BK288.out 3, cz_ BK288.out 4, hx289_0, hx289_1, hx289_2, hx289_3, hx290_0, hx290_1, hx290_2, hx290_3⟩ (fun hHeld => ?_); refine with_tabW impl_LayOut.tab8 impl_LayOut.bits8 (fun HT_ HW_ => ?_)
       generalize w30.drew = w31 at HO_8 BK288 HB hx289_0 hx289_1 hx289_2 hx289_3 hx290_0 hx290_1 hx290_2 hx290_3 hHeld ⊢
       refine pS_ 0 51 HT_ ?_
       refine pS_ 1 52 HT_ ?_
       refine pS_ 2 53 HT_ ?_
       refine pS_ 3 54 HT_ ?_
       refine pS_ 5 56 HT_ ?_
       refine pS_ 8 59 HT_ ?_
       refine pS_ 9 60 HT_ ?_
       refine pS_ 10 61 HT_ ?_
       refine pS_ 11 62 HT_ ?_
       refine pS_ 13 64 HT_ ?_
       refine tS_ 4 55 HT_ HW_ hHeld ?_
       refine tS_ 6 57 HT_ HW_ hHeld ?_
       refine pS_ 7 58 HT_ ?_
       refine pS_ 16 11 HT_ ?_
       refine tS_ 12 63 HT_ HW_ hHeld ?_
       refine tS_ 14 65 HT_ HW_ hHeld ?_
       refine pS_ 15 66 HT_ ?_
       refine pS_ 17 12 HT_ ?_
       refine done_ (done_of HT_.out (by kernel_rfl)) ?_
       try go_wp2
       have n0_ := am_ (Kd.R_drew HO_8.out)
       have n1_ := am_ (blk_drew BK288.out)
       have n2_ := am_ (below_drew1 HB.out)
       replace HO_8 := n0_
       replace BK288 := n1_
       replace HB := n2_
       clear n0_ n1_ n2_
       have p291 : 0 ≤ (x46_2 : Int) := od_
       have q291 : x46_2 < (x8_2.length : Int) := od_
       obtain ⟨ad291, e291, hx291_0, hx291_1, hx291_2, hx291_3⟩ := at_T72 (Kd.R_reads' HO_8.out).2.2 x46_2 p291 q291
       obtain rfl : (⟨go17, 0, none⟩ : Addr) = ad291 := (by injection e291)
       (first | simp only [add_plain] at hx291_0 | simp only [add_at] at hx291_0 | simp only [Addr.add, Nat.zero_add] at hx291_0 | skip)
       (first | simp only [add_plain] at hx291_1 | simp only [add_at] at hx291_1 | simp only [Addr.add, Nat.zero_add] at hx291_1 | skip)
       (first | simp only [add_plain] at hx291_2 | simp only [add_at] at hx291_2 | simp only [Addr.add, Nat.zero_add] at hx291_2 | skip)
       (first | simp only [add_plain] at hx291_3 | simp only [add_at] at hx291_3 | simp only [Addr.add, Nat.zero_add] at hx291_3 | skip)
       replace p291 := eq_true p291
       replace q291 := eq_true q291
       have p292 : 0 ≤ (x46_2 : Int) := od_
       have q292 : x46_2 < (x8_2.length : Int) := od_
       obtain ⟨ad292, e292, hx292_0, hx292_1, hx292_2, hx292_3⟩ := at_T72 (Kd.R_reads' HO_8.out).2.2 x46_2 p292 q292
       obtain rfl : (⟨go17, 0, none⟩ : Addr) = ad292 := (by injection e292)
       (first | simp only [add_plain] at hx292_0 | simp only [add_at] at hx292_0 | simp only [Addr.add, Nat.zero_add] at hx292_0 | skip)
       (first | simp only [add_plain] at hx292_1 | simp only [add_at] at hx292_1 | simp only [Addr.add, Nat.zero_add] at hx292_1 | skip)
       (first | simp only [add_plain] at hx292_2 | simp only [add_at] at hx292_2 | simp only [Addr.add, Nat.zero_add] at hx292_2 | skip)
       (first | simp only [add_plain] at hx292_3 | simp only [add_at] at hx292_3 | simp only [Addr.add, Nat.zero_add] at hx292_3 | skip)
       replace p292 := eq_true p292
       replace q292 := eq_true q292
       refine start_ (n := 22) (S := fun w' => w'.cell? ⟨gb288, 0, none⟩ = some (.int .i64 ((rd_T74 l0 x46_2).f0)) ∧ w'.cell? ⟨gb288, 1, none⟩ = some (.int .i64 ((rd_T74 l0 x46_2).f1)) ∧ w'.cell? ⟨gb288, 2, none⟩ = some (.int .i64 ((rd_T74 l0 x46_2).f2)) ∧ w'.cell? ⟨gb288, 3, none⟩ = some (.int .i64 ((rd_T74 l0 x46_2).f3)) ∧ w'.cell? ⟨gb288, 4, none⟩ = some (.int .i64 ((rd_T74 l0 x46_2).f4)) ∧ w'.cell? ⟨go17, (x46_2).toNat * 4, none⟩ = some (.int .i64 ((rd_T72 x8_2 x46_2).f0)) ∧ w'.cell? ⟨go17, (x46_2).toNat * 4 + 1, none⟩ = some (.int .i64 ((rd_T72 x8_2 x46_2).f1)) ∧ w'.cell? ⟨go17, (x46_2).toNat * 4 + 2, none⟩ = some (.int .i64 ((rd_T72 x8_2 x46_2).f2)) ∧ w'.cell? ⟨go17, (x46_2).toNat * 4 + 3, none⟩ = some (.int .i64 ((rd_T72 x8_2 x46_2).f3)) ∧ w'.cell? ⟨go17, (x46_2).toNat * 4, none⟩ = some (.int .i64 ((rd_T72 x8_2 x46_2).f0)) ∧ w'.cell? ⟨go17, (x46_2).toNat * 4 + 1, none⟩ = some (.int .i64 ((rd_T72 x8_2 x46_2).f1)) ∧ w'.cell? ⟨go17, (x46_2).toNat * 4 + 2, none⟩ = some (.int .i64 ((rd_T72 x8_2 x46_2).f2)) ∧ w'.cell? ⟨go17, (x46_2).toNat * 4 + 3, none⟩ = some (.int .i64 ((rd_T72 x8_2 x46_2).f3))) (ds := []) (Array.replicate 22 false) (by kernel_rfl) rfl rfl ⟨cz_ BK288.out 0, cz_ BK288.out 1, cz_ BK288.out 2, cz_ BK288.out 3, cz_ BK288.out 4, hx291_0, hx291_1, hx291_2, hx291_3, hx292_0, hx292_1, hx292_2, hx292_3⟩ (fun hHeld => ?_); refine with_tabW impl_LayOut.tab9 impl_LayOut.bits9 (fun HT_ HW_ => ?_)
       generalize w31.drew = w32 at HO_8 BK288 HB hx291_0 hx291_1 hx291_2 hx291_3 hx292_0 hx292_1 hx292_2 hx292_3 hHeld ⊢
       refine pS_ 0 67 HT_ ?_
       refine pS_ 1 68 HT_ ?_
       refine pS_ 2 69 HT_ ?_
       refine pS_ 3 70 HT_ ?_
       refine pS_ 5 72 HT_ ?_
       refine pS_ 10 77 HT_ ?_
       refine pS_ 11 78 HT_ ?_
       refine pS_ 12 79 HT_ ?_
       refine pS_ 13 80 HT_ ?_
       refine pS_ 15 82 HT_ ?_
       refine tS_ 4 71 HT_ HW_ hHeld ?_
       refine tS_ 6 73 HT_ HW_ hHeld ?_
       refine pS_ 7 74 HT_ ?_
       refine pS_ 8 75 HT_ ?_
       refine pS_ 9 76 HT_ ?_
       refine pS_ 20 13 HT_ ?_
       refine tS_ 14 81 HT_ HW_ hHeld ?_
       refine tS_ 16 83 HT_ HW_ hHeld ?_
       refine pS_ 17 84 HT_ ?_
       refine pS_ 18 85 HT_ ?_
       refine pS_ 19 86 HT_ ?_
       refine pS_ 21 14 HT_ ?_
       refine done_ (done_of HT_.out (by kernel_rfl)) ?_
       try go_wp2_with (first | ((with_reducible refine gate_dst (N := 87) rfl ?_); refine Kd.R_lit (Kd.int .i64) _ 3 ?hg (N := 87) ?hd (xs := ([] : List Int)) (inner := []) (ok := fun _ => True) (okp := fun _ => True) ?hr ?hp (fun _ hk => hk) trivial (Below.refl _ _) (Nat.le_refl _) (by simp) ?_; (case hd => rfl); (case hg => rfl); (case hr => first | (go_simp; done) | (go_simp; rfl)); (case hp => exact (Reps.none _ _)); intro v294 w33 ho34 hb hg_ hnew_; clear hg_ hnew_; (first | rw [← Ny293.out] at ho34 | (simp only [Int.reduceToNat] at ho34; rw [← Ny293.out] at ho34)); have n0_ := am_ (Kd.R_below (ra_ HO_8.out) hb); have n1_ := am_ (Kd.R_lower ho34 (below_size (bw_ HB.out))); have n2_ := am_ (blk_below (bk_ BK288.out) hb); have n3_ := am_ (below_step (bw_ HB.out) hb); replace HO_8 := n0_; have HO295 := n1_; replace BK288 := n2_; replace HB := n3_; clear n0_ n1_ n2_ n3_; clear hb ho34) | ((with_reducible refine gate_dst (N := 88) rfl ?_); refine Kd.R_lit (Kd.int .i64) _ 3 ?hg (N := 88) ?hd (xs := ([] : List Int)) (inner := []) (ok := fun _ => True) (okp := fun _ => True) ?hr ?hp (fun _ hk => hk) trivial (Below.refl _ _) (Nat.le_refl _) (by simp) ?_; (case hd => rfl); (case hg => rfl); (case hr => first | (go_simp; done) | (go_simp; rfl)); (case hp => exact (Reps.none _ _)); intro v297 w35 ho36 hb hg_ hnew_; clear hg_ hnew_; (first | rw [← Ny296.out] at ho36 | (simp only [Int.reduceToNat] at ho36; rw [← Ny296.out] at ho36)); have n0_ := am_ (Kd.R_below (ra_ HO_8.out) hb); have n1_ := am_ (Kd.R_elder' (ra_ HO295.out) (Kd.R_base ho36) hb); have n2_ := am_ (Kd.R_lower (Kd.R_new' ho36 (Kd.R_lt (ra_ HO295.out))) (below_size (bw_ HB.out))); have n3_ := am_ (blk_below (bk_ BK288.out) hb); have n4_ := am_ (below_step (bw_ HB.out) hb); replace HO_8 := n0_; replace HO295 := n1_; have HO298 := n2_; replace BK288 := n3_; replace HB := n4_; clear n0_ n1_ n2_ n3_ n4_; clear hb ho36) | ((with_reducible refine gate_dst (N := 89) rfl ?_); refine Kd.R_lit (Kd.int .i64) _ 3 ?hg (N := 89) ?hd (xs := ([] : List Int)) (inner := []) (ok := fun _ => True) (okp := fun _ => True) ?hr ?hp (fun _ hk => hk) trivial (Below.refl _ _) (Nat.le_refl _) (by simp) ?_; (case hd => rfl); (case hg => rfl); (case hr => first | (go_simp; done) | (go_simp; rfl)); (case hp => exact (Reps.none _ _)); intro v300 w37 ho38 hb hg_ hnew_; clear hg_ hnew_; (first | rw [← Ny299.out] at ho38 | (simp only [Int.reduceToNat] at ho38; rw [← Ny299.out] at ho38)); have n0_ := am_ (Kd.R_below (ra_ HO_8.out) hb); have n1_ := am_ (Kd.R_elder' (ra_ HO295.out) (Kd.R_base ho38) hb); have n2_ := am_ (Kd.R_elder' (ra_ HO298.out) (Kd.R_base ho38) hb); have n3_ := am_ (Kd.R_lower (Kd.R_new' (Kd.R_new' ho38 (Kd.R_lt (ra_ HO295.out))) (Kd.R_lt (ra_ HO298.out))) (below_size (bw_ HB.out))); have n4_ := am_ (blk_below (bk_ BK288.out) hb); have n5_ := am_ (below_step (bw_ HB.out) hb); replace HO_8 := n0_; replace HO295 := n1_; replace HO298 := n2_; have HO301 := n3_; replace BK288 := n4_; replace HB := n5_; clear n0_ n1_ n2_ n3_ n4_ n5_; clear hb ho38))
       go_loopg [15, 16, 17, 92] k2 (fun kq v15 v16 v17 v92 w' => ∃ (x15_3 : List Int) (x16_3 : List Int) (x17_3 : List Int) (x92_3 : Int), v92 = .int .i64 x92_3 ∧ Aside0 (impl_LayOut.l1 kq l0 x8_2 x46_2 (wrap64 (((rd_T72 x8_2 x46_2).f0) + ((rd_T74 l0 x46_2).f4))) (wrap64 (((rd_T72 x8_2 x46_2).f1) + ((rd_T74 l0 x46_2).f4))) ji26 ji27 x15_3 x16_3 x17_3 l0 (l0.length : Int) x46_2 l0 (l0.length : Int) x92_3 ((rd_T74 l0 x46_2).f0) ((rd_T74 l0 x46_2).f1) ((rd_T74 l0 x46_2).f2) ((rd_T74 l0 x46_2).f3) ((rd_T74 l0 x46_2).f4) = some (r1, r2)) ∧ Aside0 (kq ≤ k2) ∧ Aside0 (Kd.R k72 72 w' w.heap.size (fun _ => True) (.slice (some ⟨go17, 0, none⟩) x8_2.length co17) x8_2) ∧ Aside0 (Kd.R (Kd.int .i64) 3 w' w.heap.size (fun k_ => nb k_ v16 ∧ nb k_ v17) v15 x15_3) ∧ Aside0 (Kd.R (Kd.int .i64) 3 w' w.heap.size (fun k_ => nb k_ v15 ∧ nb k_ v17) v16 x16_3) ∧ Aside0 (Kd.R (Kd.int .i64) 3 w' w.heap.size (fun k_ => nb k_ v15 ∧ nb k_ v16) v17 x17_3) ∧ Aside0 (w'.heap[gb288]? = some (.cells #[.int .i64 ((rd_T74 l0 x46_2).f0), .int .i64 ((rd_T74 l0 x46_2).f1), .int .i64 ((rd_T74 l0 x46_2).f2), .int .i64 ((rd_T74 l0 x46_2).f3), .int .i64 ((rd_T74 l0 x46_2).f4)] 74 (0, 0))) ∧ Aside0 (Below w.heap.size w w'))
       case atStart => exact ⟨(y293), (y296), (y299), (0), sq_, H', ⟨Nat.le_refl _⟩, ⟨by (try simp only [hl8_2]); (with_reducible repeat (first | apply Kd.R_alloc | apply Kd.R_drewN | apply Kd.R_drew)); exact HO_8.out⟩, ⟨by (try simp only [hl8_2]); (with_reducible repeat (first | apply Kd.R_alloc | apply Kd.R_drewN | apply Kd.R_drew)); exact Kd.R_mono HO295.out (fun _ hk => ⟨hk.1.2, hk.2⟩)⟩, ⟨by (try simp only [hl8_2]); (with_reducible repeat (first | apply Kd.R_alloc | apply Kd.R_drewN | apply Kd.R_drew)); exact Kd.R_mono HO298.out (fun _ hk => ⟨hk.1.2, hk.2⟩)⟩, ⟨by (try simp only [hl8_2]); (with_reducible repeat (first | apply Kd.R_alloc | apply Kd.R_drewN | apply Kd.R_drew)); exact Kd.R_mono HO301.out (fun _ hk => ⟨hk.1.2, hk.2⟩)⟩, ⟨by (try simp only [hl8_2]); (with_reducible repeat (first | refine blk_drewN ?_ _ | refine blk_drew ?_ | refine blk_alloc ?_ _)); exact BK288.out⟩, ⟨bw_ HB.out⟩⟩
       case round =>
        clear H'
        try clear c13
        try clear c14
        try clear c14b0
        try clear c14b1
        try clear c15
        try clear c15b0
        try clear c15b1
        try clear c16
        try clear c16b0
        try clear c16b1
        try clear p17
        try clear q17
        try clear qi17
        try clear c22
        try clear c22b0
        try clear c23
        try clear c23b0
        try clear c24
        try clear c24b0
        try clear c25
        try clear c25b0
        try clear hcz29_0
        try clear hcz29_1
        try clear hcz29_2
        try clear hcz29_3
        try clear hcz29_4
        try clear hfz29_0
        try clear hfz29_1
        try clear hfz29_2
        try clear hfz29_3
        try clear hfz29_4
        try clear hx17_0
        try clear hx17_1
        try clear hx17_2
        try clear hx17_3
        try clear hx20_0
        try clear hx20_1
        try clear hx20_2
        try clear hx20_3
        try clear hx287_0
        try clear hx287_1
        try clear hx287_2
        try clear hx287_3
        try clear hx287_4
        try clear hx289_0
        try clear hx289_1
        try clear hx289_2
        try clear hx289_3
        try clear hx290_0
        try clear hx290_1
        try clear hx290_2
        try clear hx290_3
        try clear hx291_0
        try clear hx291_1
        try clear hx291_2
        try clear hx291_3
        try clear hx292_0
        try clear hx292_1
        try clear hx292_2
        try clear hx292_3
        try clear p17
        try clear p287
        try clear p289
        try clear p290
        try clear p291
        try clear p292
        try clear q17
        try clear q287
        try clear q289
        try clear q290
        try clear q291
        try clear q292
        obtain ⟨x15_3, x16_3, x17_3, x92_3, rfl, HA, HK3, HO_8, HO_15, HO_16, HO_17, BK288, HB⟩ := hrel
        cases gk with
        | zero => exact absurd HA.out (by simp [impl_LayOut.l1])
        | succ k3 =>
         have H := HA.out
         clear HA
         simp only [impl_LayOut.l1] at H
         by_cases c39 : x92_3 < (l0.length : Int)
         ·rw [if_pos c39] at H
          have c39b0 : decide (x92_3 < (l0.length : Int)) = true := decide_eq_true c39
          (try rw [hl8_2] at c39b0)
          clear c39
          obtain ⟨c40, H⟩ := ifn_ H
          have c40b0 : decide (0 ≤ x92_3) = true := decide_eq_true c40
          clear c40
          obtain ⟨c41, H⟩ := ifn_ H
          have c41b0 : decide (x92_3 < (l0.length : Int)) = true := decide_eq_true c41
          (try rw [hl8_2] at c41b0)
          clear c41
          by_cases c42 : ((rd_T74 l0 x92_3).f0) = x46_2
          ·rw [if_pos c42] at H
           have c42b0 : (((rd_T74 l0 x92_3).f0) == x46_2) = true := beq_iff_eq.mpr c42
           have c42b1 : (((rd_T74 l0 x92_3).f0) != x46_2) = false := bne_eq_false_iff_eq.mpr c42
           clear c42
           obtain ⟨y304, hy304⟩ : ∃ y_ : List Int, y_ = (([x92_3] : List Int)) := ⟨_, rfl⟩
           replace H : (if x15_3.length + y304.length < 17592186044416 then ((some (([(rd_T74 l0 x92_3).f2] : List Int) : List Int)).bind fun y310 => (if x16_3.length + y310.length < 17592186044416 then ((some (([(rd_T74 l0 x92_3).f3] : List Int) : List Int)).bind fun y316 => (if x17_3.length + y316.length < 17592186044416 then (impl_LayOut.l1 k3 l0 x8_2 x46_2 (wrap64 (((rd_T72 x8_2 x46_2).f0) + ((rd_T74 l0 x46_2).f4))) (wrap64 (((rd_T72 x8_2 x46_2).f1) + ((rd_T74 l0 x46_2).f4))) ji26 ji27 (x15_3 ++ y304) (x16_3 ++ y310) (x17_3 ++ y316) l0 (l0.length : Int) x46_2 l0 (l0.length : Int) (wrap64 (x92_3 + 1)) ((rd_T74 l0 x46_2).f0) ((rd_T74 l0 x46_2).f1) ((rd_T74 l0 x46_2).f2) ((rd_T74 l0 x46_2).f3) ((rd_T74 l0 x46_2).f4)) else (none))) else (none))) else (none)) = some (r1, r2) := by first | (rw [hy304]; with_reducible exact H) | (have H2_ := (Option.bind_some _ _).symm.trans H; rw [hy304]; with_reducible exact H2_) | (have H2_ := (Option.bind_some _ _).symm.trans H; with_reducible exact H2_) | with_reducible exact H | (rw [hy304]; exact H) | exact H
           have Ny304 := am_ hy304
           clear hy304
           obtain ⟨c43, H⟩ := ifn_ H
           have LMc43 := am_ c43
           clear c43
           obtain ⟨y307, hy307⟩ : ∃ y_ : List Int, y_ = (x15_3 ++ y304) := ⟨_, rfl⟩
           replace H : ((some (([(rd_T74 l0 x92_3).f2] : List Int) : List Int)).bind fun y310 => (if x16_3.length + y310.length < 17592186044416 then ((some (([(rd_T74 l0 x92_3).f3] : List Int) : List Int)).bind fun y316 => (if x17_3.length + y316.length < 17592186044416 then (impl_LayOut.l1 k3 l0 x8_2 x46_2 (wrap64 (((rd_T72 x8_2 x46_2).f0) + ((rd_T74 l0 x46_2).f4))) (wrap64 (((rd_T72 x8_2 x46_2).f1) + ((rd_T74 l0 x46_2).f4))) ji26 ji27 y307 (x16_3 ++ y310) (x17_3 ++ y316) l0 (l0.length : Int) x46_2 l0 (l0.length : Int) (wrap64 (x92_3 + 1)) ((rd_T74 l0 x46_2).f0) ((rd_T74 l0 x46_2).f1) ((rd_T74 l0 x46_2).f2) ((rd_T74 l0 x46_2).f3) ((rd_T74 l0 x46_2).f4)) else (none))) else (none))) = some (r1, r2) := by first | (rw [hy307]; with_reducible exact H) | (have H2_ := (Option.bind_some _ _).symm.trans H; rw [hy307]; with_reducible exact H2_) | (have H2_ := (Option.bind_some _ _).symm.trans H; with_reducible exact H2_) | with_reducible exact H | (rw [hy307]; exact H) | exact H
           have Ny307 := am_ hy307
           clear hy307
           obtain ⟨y310, hy310⟩ : ∃ y_ : List Int, y_ = (([(rd_T74 l0 x92_3).f2] : List Int)) := ⟨_, rfl⟩
           replace H : (if x16_3.length + y310.length < 17592186044416 then ((some (([(rd_T74 l0 x92_3).f3] : List Int) : List Int)).bind fun y316 => (if x17_3.length + y316.length < 17592186044416 then (impl_LayOut.l1 k3 l0 x8_2 x46_2 (wrap64 (((rd_T72 x8_2 x46_2).f0) + ((rd_T74 l0 x46_2).f4))) (wrap64 (((rd_T72 x8_2 x46_2).f1) + ((rd_T74 l0 x46_2).f4))) ji26 ji27 y307 (x16_3 ++ y310) (x17_3 ++ y316) l0 (l0.length : Int) x46_2 l0 (l0.length : Int) (wrap64 (x92_3 + 1)) ((rd_T74 l0 x46_2).f0) ((rd_T74 l0 x46_2).f1) ((rd_T74 l0 x46_2).f2) ((rd_T74 l0 x46_2).f3) ((rd_T74 l0 x46_2).f4)) else (none))) else (none)) = some (r1, r2) := by first | (rw [hy310]; with_reducible exact H) | (have H2_ := (Option.bind_some _ _).symm.trans H; rw [hy310]; with_reducible exact H2_) | (have H2_ := (Option.bind_some _ _).symm.trans H; with_reducible exact H2_) | with_reducible exact H | (rw [hy310]; exact H) | exact H
           have Ny310 := am_ hy310
           clear hy310
           obtain ⟨c44, H⟩ := ifn_ H
           have LMc44 := am_ c44
           clear c44
           obtain ⟨y313, hy313⟩ : ∃ y_ : List Int, y_ = (x16_3 ++ y310) := ⟨_, rfl⟩
           replace H : ((some (([(rd_T74 l0 x92_3).f3] : List Int) : List Int)).bind fun y316 => (if x17_3.length + y316.length < 17592186044416 then (impl_LayOut.l1 k3 l0 x8_2 x46_2 (wrap64 (((rd_T72 x8_2 x46_2).f0) + ((rd_T74 l0 x46_2).f4))) (wrap64 (((rd_T72 x8_2 x46_2).f1) + ((rd_T74 l0 x46_2).f4))) ji26 ji27 y307 y313 (x17_3 ++ y316) l0 (l0.length : Int) x46_2 l0 (l0.length : Int) (wrap64 (x92_3 + 1)) ((rd_T74 l0 x46_2).f0) ((rd_T74 l0 x46_2).f1) ((rd_T74 l0 x46_2).f2) ((rd_T74 l0 x46_2).f3) ((rd_T74 l0 x46_2).f4)) else (none))) = some (r1, r2) := by first | (rw [hy313]; with_reducible exact H) | (have H2_ := (Option.bind_some _ _).symm.trans H; rw [hy313]; with_reducible exact H2_) | (have H2_ := (Option.bind_some _ _).symm.trans H; with_reducible exact H2_) | with_reducible exact H | (rw [hy313]; exact H) | exact H
           have Ny313 := am_ hy313
           clear hy313
           obtain ⟨y316, hy316⟩ : ∃ y_ : List Int, y_ = (([(rd_T74 l0 x92_3).f3] : List Int)) := ⟨_, rfl⟩
           replace H : (if x17_3.length + y316.length < 17592186044416 then (impl_LayOut.l1 k3 l0 x8_2 x46_2 (wrap64 (((rd_T72 x8_2 x46_2).f0) + ((rd_T74 l0 x46_2).f4))) (wrap64 (((rd_T72 x8_2 x46_2).f1) + ((rd_T74 l0 x46_2).f4))) ji26 ji27 y307 y313 (x17_3 ++ y316) l0 (l0.length : Int) x46_2 l0 (l0.length : Int) (wrap64 (x92_3 + 1)) ((rd_T74 l0 x46_2).f0) ((rd_T74 l0 x46_2).f1) ((rd_T74 l0 x46_2).f2) ((rd_T74 l0 x46_2).f3) ((rd_T74 l0 x46_2).f4)) else (none)) = some (r1, r2) := by first | (rw [hy316]; with_reducible exact H) | (have H2_ := (Option.bind_some _ _).symm.trans H; rw [hy316]; with_reducible exact H2_) | (have H2_ := (Option.bind_some _ _).symm.trans H; with_reducible exact H2_) | with_reducible exact H | (rw [hy316]; exact H) | exact H
           have Ny316 := am_ hy316
           clear hy316
           obtain ⟨c45, H⟩ := ifn_ H
           have LMc45 := am_ c45
           clear c45
           obtain ⟨y319, hy319⟩ : ∃ y_ : List Int, y_ = (x17_3 ++ y316) := ⟨_, rfl⟩
           replace H : (impl_LayOut.l1 k3 l0 x8_2 x46_2 (wrap64 (((rd_T72 x8_2 x46_2).f0) + ((rd_T74 l0 x46_2).f4))) (wrap64 (((rd_T72 x8_2 x46_2).f1) + ((rd_T74 l0 x46_2).f4))) ji26 ji27 y307 y313 y319 l0 (l0.length : Int) x46_2 l0 (l0.length : Int) (wrap64 (x92_3 + 1)) ((rd_T74 l0 x46_2).f0) ((rd_T74 l0 x46_2).f1) ((rd_T74 l0 x46_2).f2) ((rd_T74 l0 x46_2).f3) ((rd_T74 l0 x46_2).f4)) = some (r1, r2) := by first | (rw [hy319]; with_reducible exact H) | (have H2_ := (Option.bind_some _ _).symm.trans H; rw [hy319]; with_reducible exact H2_) | (have H2_ := (Option.bind_some _ _).symm.trans H; with_reducible exact H2_) | with_reducible exact H | (rw [hy319]; exact H) | exact H
           have Ny319 := am_ hy319
           clear hy319
           have H' := am_ H
           clear H
           have p302 : 0 ≤ (x92_3 : Int) := od_
           have q302 : x92_3 < (l0.length : Int) := od_
           obtain ⟨ad302, e302, hx302_0, hx302_1, hx302_2, hx302_3, hx302_4⟩ := at_T74 HR0.out x92_3 p302 q302
           obtain rfl : ad287 = ad302 := (by injection e302)
           (try replace hx302_0 := hc_ HB.out hx302_0)
           (try replace hx302_1 := hc_ HB.out hx302_1)
           (try replace hx302_2 := hc_ HB.out hx302_2)
           (try replace hx302_3 := hc_ HB.out hx302_3)
           (try replace hx302_4 := hc_ HB.out hx302_4)
           replace p302 := eq_true p302
           replace q302 := eq_true q302
           try go_wp2_with (first | ((with_reducible refine gate_dst (N := 19) rfl ?_); refine bx_ 19 #[.int .i64 0, .int .i64 0, .int .i64 0, .int .i64 0, .int .i64 0] 74 ?_; intro gb303 hg w46 hbox hb; have n0_ := am_ (Kd.R_below (ra_ HO_8.out) hb); have n1_ := am_ (Kd.R_below (ra_ HO_15.out) hb); have n2_ := am_ (Kd.R_below (ra_ HO_16.out) hb); have n3_ := am_ (Kd.R_below (ra_ HO_17.out) hb); have n4_ := am_ (blk_below (bk_ BK288.out) hb); have n5_ := am_ (below_step (bw_ HB.out) hb); have n6_ := am_ (hbox); have n7_ := am_ (gs_ hg (bw_ HB.out)); have n8_ := am_ (gs_ hg (bw_ HB.out)); have n9_ := am_ (nl_ hg (bk_ BK288.out)); have n10_ := am_ (ng_ hg (bk_ BK288.out)); replace HO_8 := n0_; replace HO_15 := n1_; replace HO_16 := n2_; replace HO_17 := n3_; replace BK288 := n4_; replace HB := n5_; have BK303 := n6_; have GW303 := n7_; have GE303 := n8_; have NB288_303 := n9_; have NB303_288 := n10_; clear n0_ n1_ n2_ n3_ n4_ n5_ n6_ n7_ n8_ n9_ n10_; clear hb hbox hg; have hnb47 := NB303_288.out; have hnc47 := NB288_303.out; have hcz48_0 := cz_ BK303.out 0; have hcz48_1 := cz_ BK303.out 1; have hcz48_2 := cz_ BK303.out 2; have hcz48_3 := cz_ BK303.out 3; have hcz48_4 := cz_ BK303.out 4; have hfz48_0 := blk_frozen BK303.out 0; have hfz48_1 := blk_frozen BK303.out 1; have hfz48_2 := blk_frozen BK303.out 2; have hfz48_3 := blk_frozen BK303.out 3; have hfz48_4 := blk_frozen BK303.out 4; obtain ⟨Ao49, co49, eo49⟩ := Kd.R_slice HO_15.out; subst eo49; obtain ⟨Ao50, co50, eo50⟩ := Kd.R_slice HO_16.out; subst eo50; obtain ⟨Ao51, co51, eo51⟩ := Kd.R_slice HO_17.out; subst eo51))
           have n0_ : Aside0 (Kd.R k72 72 (((((w46.setCell ⟨gb303, 0, none⟩ (.int .i64 ((rd_T74 l0 x92_3).f0))).setCell ⟨gb303, 1, none⟩ (.int .i64 ((rd_T74 l0 x92_3).f1))).setCell ⟨gb303, 2, none⟩ (.int .i64 ((rd_T74 l0 x92_3).f2))).setCell ⟨gb303, 3, none⟩ (.int .i64 ((rd_T74 l0 x92_3).f3))).setCell ⟨gb303, 4, none⟩ (.int .i64 ((rd_T74 l0 x92_3).f4))) w.heap.size (fun _ => True) (.slice (some ⟨go17, 0, none⟩) x8_2.length co17) x8_2) := ⟨ra_ (Kd.R_mono (Kd.R_far (p := ⟨gb303, 4, none⟩) (Kd.R_far (p := ⟨gb303, 3, none⟩) (Kd.R_far (p := ⟨gb303, 2, none⟩) (Kd.R_far (p := ⟨gb303, 1, none⟩) (Kd.R_far (p := ⟨gb303, 0, none⟩) (Kd.R_types HO_8.out BK303.out (by decide)) (fun _ hk => hk.2) (.int .i64 ((rd_T74 l0 x92_3).f0))) (fun _ hk => hk.2) (.int .i64 ((rd_T74 l0 x92_3).f1))) (fun _ hk => hk.2) (.int .i64 ((rd_T74 l0 x92_3).f2))) (fun _ hk => hk.2) (.int .i64 ((rd_T74 l0 x92_3).f3))) (fun _ hk => hk.2) (.int .i64 ((rd_T74 l0 x92_3).f4))) (fun _ hk => trivial))⟩
           have n1_ : Aside0 (Kd.R (Kd.int .i64) 3 (((((w46.setCell ⟨gb303, 0, none⟩ (.int .i64 ((rd_T74 l0 x92_3).f0))).setCell ⟨gb303, 1, none⟩ (.int .i64 ((rd_T74 l0 x92_3).f1))).setCell ⟨gb303, 2, none⟩ (.int .i64 ((rd_T74 l0 x92_3).f2))).setCell ⟨gb303, 3, none⟩ (.int .i64 ((rd_T74 l0 x92_3).f3))).setCell ⟨gb303, 4, none⟩ (.int .i64 ((rd_T74 l0 x92_3).f4))) w.heap.size (fun k_ => nb k_ (.slice Ao50 x16_3.length co50) ∧ nb k_ (.slice Ao51 x17_3.length co51)) (.slice Ao49 x15_3.length co49) x15_3) := ⟨ra_ (Kd.R_mono (Kd.R_far (p := ⟨gb303, 4, none⟩) (Kd.R_far (p := ⟨gb303, 3, none⟩) (Kd.R_far (p := ⟨gb303, 2, none⟩) (Kd.R_far (p := ⟨gb303, 1, none⟩) (Kd.R_far (p := ⟨gb303, 0, none⟩) (Kd.R_types HO_15.out BK303.out (by decide)) (fun _ hk => hk.2) (.int .i64 ((rd_T74 l0 x92_3).f0))) (fun _ hk => hk.2) (.int .i64 ((rd_T74 l0 x92_3).f1))) (fun _ hk => hk.2) (.int .i64 ((rd_T74 l0 x92_3).f2))) (fun _ hk => hk.2) (.int .i64 ((rd_T74 l0 x92_3).f3))) (fun _ hk => hk.2) (.int .i64 ((rd_T74 l0 x92_3).f4))) (fun _ hk => ⟨hk.1.1, hk.1.2⟩))⟩
           have n2_ : Aside0 (Kd.R (Kd.int .i64) 3 (((((w46.setCell ⟨gb303, 0, none⟩ (.int .i64 ((rd_T74 l0 x92_3).f0))).setCell ⟨gb303, 1, none⟩ (.int .i64 ((rd_T74 l0 x92_3).f1))).setCell ⟨gb303, 2, none⟩ (.int .i64 ((rd_T74 l0 x92_3).f2))).setCell ⟨gb303, 3, none⟩ (.int .i64 ((rd_T74 l0 x92_3).f3))).setCell ⟨gb303, 4, none⟩ (.int .i64 ((rd_T74 l0 x92_3).f4))) w.heap.size (fun k_ => nb k_ (.slice Ao49 x15_3.length co49) ∧ nb k_ (.slice Ao51 x17_3.length co51)) (.slice Ao50 x16_3.length co50) x16_3) := ⟨ra_ (Kd.R_mono (Kd.R_far (p := ⟨gb303, 4, none⟩) (Kd.R_far (p := ⟨gb303, 3, none⟩) (Kd.R_far (p := ⟨gb303, 2, none⟩) (Kd.R_far (p := ⟨gb303, 1, none⟩) (Kd.R_far (p := ⟨gb303, 0, none⟩) (Kd.R_types HO_16.out BK303.out (by decide)) (fun _ hk => hk.2) (.int .i64 ((rd_T74 l0 x92_3).f0))) (fun _ hk => hk.2) (.int .i64 ((rd_T74 l0 x92_3).f1))) (fun _ hk => hk.2) (.int .i64 ((rd_T74 l0 x92_3).f2))) (fun _ hk => hk.2) (.int .i64 ((rd_T74 l0 x92_3).f3))) (fun _ hk => hk.2) (.int .i64 ((rd_T74 l0 x92_3).f4))) (fun _ hk => ⟨hk.1.1, hk.1.2⟩))⟩
           have n3_ : Aside0 (Kd.R (Kd.int .i64) 3 (((((w46.setCell ⟨gb303, 0, none⟩ (.int .i64 ((rd_T74 l0 x92_3).f0))).setCell ⟨gb303, 1, none⟩ (.int .i64 ((rd_T74 l0 x92_3).f1))).setCell ⟨gb303, 2, none⟩ (.int .i64 ((rd_T74 l0 x92_3).f2))).setCell ⟨gb303, 3, none⟩ (.int .i64 ((rd_T74 l0 x92_3).f3))).setCell ⟨gb303, 4, none⟩ (.int .i64 ((rd_T74 l0 x92_3).f4))) w.heap.size (fun k_ => nb k_ (.slice Ao49 x15_3.length co49) ∧ nb k_ (.slice Ao50 x16_3.length co50)) (.slice Ao51 x17_3.length co51) x17_3) := ⟨ra_ (Kd.R_mono (Kd.R_far (p := ⟨gb303, 4, none⟩) (Kd.R_far (p := ⟨gb303, 3, none⟩) (Kd.R_far (p := ⟨gb303, 2, none⟩) (Kd.R_far (p := ⟨gb303, 1, none⟩) (Kd.R_far (p := ⟨gb303, 0, none⟩) (Kd.R_types HO_17.out BK303.out (by decide)) (fun _ hk => hk.2) (.int .i64 ((rd_T74 l0 x92_3).f0))) (fun _ hk => hk.2) (.int .i64 ((rd_T74 l0 x92_3).f1))) (fun _ hk => hk.2) (.int .i64 ((rd_T74 l0 x92_3).f2))) (fun _ hk => hk.2) (.int .i64 ((rd_T74 l0 x92_3).f3))) (fun _ hk => hk.2) (.int .i64 ((rd_T74 l0 x92_3).f4))) (fun _ hk => ⟨hk.1.1, hk.1.2⟩))⟩
           have n4_ : Aside0 ((((((w46.setCell ⟨gb303, 0, none⟩ (.int .i64 ((rd_T74 l0 x92_3).f0))).setCell ⟨gb303, 1, none⟩ (.int .i64 ((rd_T74 l0 x92_3).f1))).setCell ⟨gb303, 2, none⟩ (.int .i64 ((rd_T74 l0 x92_3).f2))).setCell ⟨gb303, 3, none⟩ (.int .i64 ((rd_T74 l0 x92_3).f3))).setCell ⟨gb303, 4, none⟩ (.int .i64 ((rd_T74 l0 x92_3).f4))).heap[gb288]? = some (.cells #[.int .i64 ((rd_T74 l0 x46_2).f0), .int .i64 ((rd_T74 l0 x46_2).f1), .int .i64 ((rd_T74 l0 x46_2).f2), .int .i64 ((rd_T74 l0 x46_2).f3), .int .i64 ((rd_T74 l0 x46_2).f4)] 74 (0, 0))) := ⟨by (with_reducible repeat (first | refine blk_drewN ?_ _ | refine blk_drew ?_ | refine blk_alloc ?_ _)); refine blk_far ?_ NB288_303.out _; (with_reducible repeat (first | refine blk_drewN ?_ _ | refine blk_drew ?_ | refine blk_alloc ?_ _)); refine blk_far ?_ NB288_303.out _; (with_reducible repeat (first | refine blk_drewN ?_ _ | refine blk_drew ?_ | refine blk_alloc ?_ _)); refine blk_far ?_ NB288_303.out _; (with_reducible repeat (first | refine blk_drewN ?_ _ | refine blk_drew ?_ | refine blk_alloc ?_ _)); refine blk_far ?_ NB288_303.out _; (with_reducible repeat (first | refine blk_drewN ?_ _ | refine blk_drew ?_ | refine blk_alloc ?_ _)); refine blk_far ?_ NB288_303.out _; (with_reducible repeat (first | refine blk_drewN ?_ _ | refine blk_drew ?_ | refine blk_alloc ?_ _)); exact BK288.out⟩
           have n5_ : Aside0 ((((((w46.setCell ⟨gb303, 0, none⟩ (.int .i64 ((rd_T74 l0 x92_3).f0))).setCell ⟨gb303, 1, none⟩ (.int .i64 ((rd_T74 l0 x92_3).f1))).setCell ⟨gb303, 2, none⟩ (.int .i64 ((rd_T74 l0 x92_3).f2))).setCell ⟨gb303, 3, none⟩ (.int .i64 ((rd_T74 l0 x92_3).f3))).setCell ⟨gb303, 4, none⟩ (.int .i64 ((rd_T74 l0 x92_3).f4))).heap[gb303]? = some (.cells #[.int .i64 ((rd_T74 l0 x92_3).f0), .int .i64 ((rd_T74 l0 x92_3).f1), .int .i64 ((rd_T74 l0 x92_3).f2), .int .i64 ((rd_T74 l0 x92_3).f3), .int .i64 ((rd_T74 l0 x92_3).f4)] 74 (0, 0))) := ⟨by (with_reducible repeat (first | refine blk_drewN ?_ _ | refine blk_drew ?_ | refine blk_alloc ?_ _)); refine blk_put (cs := #[.int .i64 ((rd_T74 l0 x92_3).f0), .int .i64 ((rd_T74 l0 x92_3).f1), .int .i64 ((rd_T74 l0 x92_3).f2), .int .i64 ((rd_T74 l0 x92_3).f3), .int .i64 0]) ?_ 4 _ rfl; (with_reducible repeat (first | refine blk_drewN ?_ _ | refine blk_drew ?_ | refine blk_alloc ?_ _)); refine blk_put (cs := #[.int .i64 ((rd_T74 l0 x92_3).f0), .int .i64 ((rd_T74 l0 x92_3).f1), .int .i64 ((rd_T74 l0 x92_3).f2), .int .i64 0, .int .i64 0]) ?_ 3 _ rfl; (with_reducible repeat (first | refine blk_drewN ?_ _ | refine blk_drew ?_ | refine blk_alloc ?_ _)); refine blk_put (cs := #[.int .i64 ((rd_T74 l0 x92_3).f0), .int .i64 ((rd_T74 l0 x92_3).f1), .int .i64 0, .int .i64 0, .int .i64 0]) ?_ 2 _ rfl; (with_reducible repeat (first | refine blk_drewN ?_ _ | refine blk_drew ?_ | refine blk_alloc ?_ _)); refine blk_put (cs := #[.int .i64 ((rd_T74 l0 x92_3).f0), .int .i64 0, .int .i64 0, .int .i64 0, .int .i64 0]) ?_ 1 _ rfl; (with_reducible repeat (first | refine blk_drewN ?_ _ | refine blk_drew ?_ | refine blk_alloc ?_ _)); refine blk_put (cs := #[.int .i64 0, .int .i64 0, .int .i64 0, .int .i64 0, .int .i64 0]) ?_ 0 _ rfl; (with_reducible repeat (first | refine blk_drewN ?_ _ | refine blk_drew ?_ | refine blk_alloc ?_ _)); exact BK303.out⟩
           have n6_ : Aside0 (Below w.heap.size w (((((w46.setCell ⟨gb303, 0, none⟩ (.int .i64 ((rd_T74 l0 x92_3).f0))).setCell ⟨gb303, 1, none⟩ (.int .i64 ((rd_T74 l0 x92_3).f1))).setCell ⟨gb303, 2, none⟩ (.int .i64 ((rd_T74 l0 x92_3).f2))).setCell ⟨gb303, 3, none⟩ (.int .i64 ((rd_T74 l0 x92_3).f3))).setCell ⟨gb303, 4, none⟩ (.int .i64 ((rd_T74 l0 x92_3).f4)))) := ⟨bw_ HB.out⟩
           (try clear HO_8)
           (try clear HO_15)
           (try clear HO_16)
           (try clear HO_17)
           (try clear BK288)
           (try clear BK303)
           (try clear HB)
           generalize (((((w46.setCell ⟨gb303, 0, none⟩ (.int .i64 ((rd_T74 l0 x92_3).f0))).setCell ⟨gb303, 1, none⟩ (.int .i64 ((rd_T74 l0 x92_3).f1))).setCell ⟨gb303, 2, none⟩ (.int .i64 ((rd_T74 l0 x92_3).f2))).setCell ⟨gb303, 3, none⟩ (.int .i64 ((rd_T74 l0 x92_3).f3))).setCell ⟨gb303, 4, none⟩ (.int .i64 ((rd_T74 l0 x92_3).f4))) = w52 at n0_ n1_ n2_ n3_ n4_ n5_ n6_ ⊢
           have HO_8 := n0_
           have HO_15 := n1_
           have HO_16 := n2_
           have HO_17 := n3_
           have BK288 := n4_
           have BK303 := n5_
           have HB := n6_
           clear n0_ n1_ n2_ n3_ n4_ n5_ n6_
           have n0_ := am_ (Kd.R_drew HO_8.out)
           have n1_ := am_ (Kd.R_drew HO_15.out)
           have n2_ := am_ (Kd.R_drew HO_16.out)
           have n3_ := am_ (Kd.R_drew HO_17.out)
           have n4_ := am_ (blk_drew BK288.out)
           have n5_ := am_ (blk_drew BK303.out)
           have n6_ := am_ (below_drew1 HB.out)
           replace HO_8 := n0_
           replace HO_15 := n1_
           replace HO_16 := n2_
           replace HO_17 := n3_
           replace BK288 := n4_
           replace BK303 := n5_
           replace HB := n6_
           clear n0_ n1_ n2_ n3_ n4_ n5_ n6_
           refine start_ (n := 17) (S := fun w' => w'.cell? ⟨gb303, 0, none⟩ = some (.int .i64 ((rd_T74 l0 x92_3).f0)) ∧ w'.cell? ⟨gb303, 1, none⟩ = some (.int .i64 ((rd_T74 l0 x92_3).f1)) ∧ w'.cell? ⟨gb303, 2, none⟩ = some (.int .i64 ((rd_T74 l0 x92_3).f2)) ∧ w'.cell? ⟨gb303, 3, none⟩ = some (.int .i64 ((rd_T74 l0 x92_3).f3)) ∧ w'.cell? ⟨gb303, 4, none⟩ = some (.int .i64 ((rd_T74 l0 x92_3).f4))) (ds := []) (Array.replicate 17 false) (by kernel_rfl) rfl rfl ⟨cz_ BK303.out 0, cz_ BK303.out 1, cz_ BK303.out 2, cz_ BK303.out 3, cz_ BK303.out 4⟩ (fun hHeld => ?_); refine with_tabW impl_LayOut.tab15 impl_LayOut.bits15 (fun HT_ HW_ => ?_)
           generalize w52.drew = w53 at HO_8 HO_15 HO_16 HO_17 BK288 BK303 HB hHeld ⊢
           refine pS_ 0 101 HT_ ?_
           refine pS_ 1 102 HT_ ?_
           refine pS_ 4 105 HT_ ?_
           refine pS_ 5 106 HT_ ?_
           refine pS_ 9 110 HT_ ?_
           refine pS_ 10 111 HT_ ?_
           refine tS_ 6 107 HT_ HW_ hHeld ?_
           refine tS_ 11 112 HT_ HW_ hHeld ?_
           refine join_ (σ := Value × Value × Value × Value × Value) 4 #[true, true, true, true, true, true, true, true, true, true, true, true, true, false, false, false, false] (fun s_ => [(103, s_.1), (104, s_.2.1), (108, s_.2.2.1), (109, s_.2.2.2.1), (113, s_.2.2.2.2)]) (fun s_ w' => (w'.cell? ⟨gb303, 0, none⟩ = some (.int .i64 ((rd_T74 l0 x92_3).f0)) ∧ w'.cell? ⟨gb303, 1, none⟩ = some (.int .i64 ((rd_T74 l0 x92_3).f1)) ∧ w'.cell? ⟨gb303, 2, none⟩ = some (.int .i64 ((rd_T74 l0 x92_3).f2)) ∧ w'.cell? ⟨gb303, 3, none⟩ = some (.int .i64 ((rd_T74 l0 x92_3).f3)) ∧ w'.cell? ⟨gb303, 4, none⟩ = some (.int .i64 ((rd_T74 l0 x92_3).f4))) ∧ (Kd.R (Kd.int .i64) 3 w' w.heap.size (fun k_ => nb k_ s_.2.1 ∧ nb k_ s_.2.2.1 ∧ nb k_ s_.2.2.2.1 ∧ nb k_ s_.2.2.2.2 ∧ nb k_ (.slice Ao51 x17_3.length co51)) s_.1 y304) ∧ (Kd.R (Kd.int .i64) 3 w' w.heap.size (fun k_ => nb k_ s_.1 ∧ nb k_ s_.2.2.1 ∧ nb k_ s_.2.2.2.1 ∧ nb k_ s_.2.2.2.2 ∧ nb k_ (.slice Ao51 x17_3.length co51)) s_.2.1 y307) ∧ (Kd.R (Kd.int .i64) 3 w' w.heap.size (fun k_ => nb k_ s_.1 ∧ nb k_ s_.2.1 ∧ nb k_ s_.2.2.2.1 ∧ nb k_ s_.2.2.2.2 ∧ nb k_ (.slice Ao51 x17_3.length co51)) s_.2.2.1 y310) ∧ (Kd.R (Kd.int .i64) 3 w' w.heap.size (fun k_ => nb k_ s_.1 ∧ nb k_ s_.2.1 ∧ nb k_ s_.2.2.1 ∧ nb k_ s_.2.2.2.2 ∧ nb k_ (.slice Ao51 x17_3.length co51)) s_.2.2.2.1 y313) ∧ (Kd.R (Kd.int .i64) 3 w' w.heap.size (fun k_ => nb k_ s_.1 ∧ nb k_ s_.2.1 ∧ nb k_ s_.2.2.1 ∧ nb k_ s_.2.2.2.1 ∧ nb k_ (.slice Ao51 x17_3.length co51)) s_.2.2.2.2 y316) ∧ (Kd.R (Kd.int .i64) 3 w' w.heap.size (fun k_ => nb k_ s_.1 ∧ nb k_ s_.2.1 ∧ nb k_ s_.2.2.1 ∧ nb k_ s_.2.2.2.1 ∧ nb k_ s_.2.2.2.2) (.slice Ao51 x17_3.length co51) x17_3) ∧ (Kd.R k72 72 w' w.heap.size (fun _ => True) (.slice (some ⟨go17, 0, none⟩) x8_2.length co17) x8_2) ∧ (w'.heap[gb288]? = some (.cells #[.int .i64 ((rd_T74 l0 x46_2).f0), .int .i64 ((rd_T74 l0 x46_2).f1), .int .i64 ((rd_T74 l0 x46_2).f2), .int .i64 ((rd_T74 l0 x46_2).f3), .int .i64 ((rd_T74 l0 x46_2).f4)] 74 (0, 0))) ∧ (w'.heap[gb303]? = some (.cells #[.int .i64 ((rd_T74 l0 x92_3).f0), .int .i64 ((rd_T74 l0 x92_3).f1), .int .i64 ((rd_T74 l0 x92_3).f2), .int .i64 ((rd_T74 l0 x92_3).f3), .int .i64 ((rd_T74 l0 x92_3).f4)] 74 (0, 0))) ∧ (Below w.heap.size w w')) ?_ ?_
           rotate_left
           ·intro hJ2_3_7_8_12
            refine join_ (σ := Value × Value × Value × Value) 5 #[true, true, true, true, true, true, true, true, true, true, true, true, false, false, false, false, false] (fun s_ => [(103, s_.1), (104, s_.2.1), (108, s_.2.2.1), (109, s_.2.2.2)]) (fun s_ w' => (w'.cell? ⟨gb303, 0, none⟩ = some (.int .i64 ((rd_T74 l0 x92_3).f0)) ∧ w'.cell? ⟨gb303, 1, none⟩ = some (.int .i64 ((rd_T74 l0 x92_3).f1)) ∧ w'.cell? ⟨gb303, 2, none⟩ = some (.int .i64 ((rd_T74 l0 x92_3).f2)) ∧ w'.cell? ⟨gb303, 3, none⟩ = some (.int .i64 ((rd_T74 l0 x92_3).f3)) ∧ w'.cell? ⟨gb303, 4, none⟩ = some (.int .i64 ((rd_T74 l0 x92_3).f4))) ∧ (Kd.R (Kd.int .i64) 3 w' w.heap.size (fun k_ => nb k_ s_.2.1 ∧ nb k_ s_.2.2.1 ∧ nb k_ s_.2.2.2 ∧ nb k_ (.slice Ao51 x17_3.length co51)) s_.1 y304) ∧ (Kd.R (Kd.int .i64) 3 w' w.heap.size (fun k_ => nb k_ s_.1 ∧ nb k_ s_.2.2.1 ∧ nb k_ s_.2.2.2 ∧ nb k_ (.slice Ao51 x17_3.length co51)) s_.2.1 y307) ∧ (Kd.R (Kd.int .i64) 3 w' w.heap.size (fun k_ => nb k_ s_.1 ∧ nb k_ s_.2.1 ∧ nb k_ s_.2.2.2 ∧ nb k_ (.slice Ao51 x17_3.length co51)) s_.2.2.1 y310) ∧ (Kd.R (Kd.int .i64) 3 w' w.heap.size (fun k_ => nb k_ s_.1 ∧ nb k_ s_.2.1 ∧ nb k_ s_.2.2.1 ∧ nb k_ (.slice Ao51 x17_3.length co51)) s_.2.2.2 y313) ∧ (Kd.R (Kd.int .i64) 3 w' w.heap.size (fun k_ => nb k_ s_.1 ∧ nb k_ s_.2.1 ∧ nb k_ s_.2.2.1 ∧ nb k_ s_.2.2.2) (.slice Ao51 x17_3.length co51) x17_3) ∧ (Kd.R k72 72 w' w.heap.size (fun _ => True) (.slice (some ⟨go17, 0, none⟩) x8_2.length co17) x8_2) ∧ (w'.heap[gb288]? = some (.cells #[.int .i64 ((rd_T74 l0 x46_2).f0), .int .i64 ((rd_T74 l0 x46_2).f1), .int .i64 ((rd_T74 l0 x46_2).f2), .int .i64 ((rd_T74 l0 x46_2).f3), .int .i64 ((rd_T74 l0 x46_2).f4)] 74 (0, 0))) ∧ (w'.heap[gb303]? = some (.cells #[.int .i64 ((rd_T74 l0 x92_3).f0), .int .i64 ((rd_T74 l0 x92_3).f1), .int .i64 ((rd_T74 l0 x92_3).f2), .int .i64 ((rd_T74 l0 x92_3).f3), .int .i64 ((rd_T74 l0 x92_3).f4)] 74 (0, 0))) ∧ (Below w.heap.size w w')) ?_ ?_
            rotate_left
            ·intro hJ2_3_7_8
             refine join_ (σ := Value × Value × Value × Value) 5 #[true, true, true, true, true, true, true, true, false, true, true, true, true, false, false, false, false] (fun s_ => [(103, s_.1), (104, s_.2.1), (108, s_.2.2.1), (113, s_.2.2.2)]) (fun s_ w' => (w'.cell? ⟨gb303, 0, none⟩ = some (.int .i64 ((rd_T74 l0 x92_3).f0)) ∧ w'.cell? ⟨gb303, 1, none⟩ = some (.int .i64 ((rd_T74 l0 x92_3).f1)) ∧ w'.cell? ⟨gb303, 2, none⟩ = some (.int .i64 ((rd_T74 l0 x92_3).f2)) ∧ w'.cell? ⟨gb303, 3, none⟩ = some (.int .i64 ((rd_T74 l0 x92_3).f3)) ∧ w'.cell? ⟨gb303, 4, none⟩ = some (.int .i64 ((rd_T74 l0 x92_3).f4))) ∧ (Kd.R (Kd.int .i64) 3 w' w.heap.size (fun k_ => nb k_ s_.2.1 ∧ nb k_ s_.2.2.1 ∧ nb k_ s_.2.2.2 ∧ nb k_ (.slice Ao50 x16_3.length co50) ∧ nb k_ (.slice Ao51 x17_3.length co51)) s_.1 y304) ∧ (Kd.R (Kd.int .i64) 3 w' w.heap.size (fun k_ => nb k_ s_.1 ∧ nb k_ s_.2.2.1 ∧ nb k_ s_.2.2.2 ∧ nb k_ (.slice Ao50 x16_3.length co50) ∧ nb k_ (.slice Ao51 x17_3.length co51)) s_.2.1 y307) ∧ (Kd.R (Kd.int .i64) 3 w' w.heap.size (fun k_ => nb k_ s_.1 ∧ nb k_ s_.2.1 ∧ nb k_ s_.2.2.2 ∧ nb k_ (.slice Ao50 x16_3.length co50) ∧ nb k_ (.slice Ao51 x17_3.length co51)) s_.2.2.1 y310) ∧ (Kd.R (Kd.int .i64) 3 w' w.heap.size (fun k_ => nb k_ s_.1 ∧ nb k_ s_.2.1 ∧ nb k_ s_.2.2.1 ∧ nb k_ (.slice Ao50 x16_3.length co50) ∧ nb k_ (.slice Ao51 x17_3.length co51)) s_.2.2.2 y316) ∧ (Kd.R (Kd.int .i64) 3 w' w.heap.size (fun k_ => nb k_ s_.1 ∧ nb k_ s_.2.1 ∧ nb k_ s_.2.2.1 ∧ nb k_ s_.2.2.2 ∧ nb k_ (.slice Ao51 x17_3.length co51)) (.slice Ao50 x16_3.length co50) x16_3) ∧ (Kd.R (Kd.int .i64) 3 w' w.heap.size (fun k_ => nb k_ s_.1 ∧ nb k_ s_.2.1 ∧ nb k_ s_.2.2.1 ∧ nb k_ s_.2.2.2 ∧ nb k_ (.slice Ao50 x16_3.length co50)) (.slice Ao51 x17_3.length co51) x17_3) ∧ (Kd.R k72 72 w' w.heap.size (fun _ => True) (.slice (some ⟨go17, 0, none⟩) x8_2.length co17) x8_2) ∧ (w'.heap[gb288]? = some (.cells #[.int .i64 ((rd_T74 l0 x46_2).f0), .int .i64 ((rd_T74 l0 x46_2).f1), .int .i64 ((rd_T74 l0 x46_2).f2), .int .i64 ((rd_T74 l0 x46_2).f3), .int .i64 ((rd_T74 l0 x46_2).f4)] 74 (0, 0))) ∧ (w'.heap[gb303]? = some (.cells #[.int .i64 ((rd_T74 l0 x92_3).f0), .int .i64 ((rd_T74 l0 x92_3).f1), .int .i64 ((rd_T74 l0 x92_3).f2), .int .i64 ((rd_T74 l0 x92_3).f3), .int .i64 ((rd_T74 l0 x92_3).f4)] 74 (0, 0))) ∧ (Below w.heap.size w w')) ?_ ?_
             rotate_left
             ·intro hJ2_3_7_12
              refine join_ (σ := Value × Value × Value) 6 #[true, true, true, true, true, true, true, true, false, true, true, true, false, false, false, false, false] (fun s_ => [(103, s_.1), (104, s_.2.1), (108, s_.2.2)]) (fun s_ w' => (w'.cell? ⟨gb303, 0, none⟩ = some (.int .i64 ((rd_T74 l0 x92_3).f0)) ∧ w'.cell? ⟨gb303, 1, none⟩ = some (.int .i64 ((rd_T74 l0 x92_3).f1)) ∧ w'.cell? ⟨gb303, 2, none⟩ = some (.int .i64 ((rd_T74 l0 x92_3).f2)) ∧ w'.cell? ⟨gb303, 3, none⟩ = some (.int .i64 ((rd_T74 l0 x92_3).f3)) ∧ w'.cell? ⟨gb303, 4, none⟩ = some (.int .i64 ((rd_T74 l0 x92_3).f4))) ∧ (Kd.R (Kd.int .i64) 3 w' w.heap.size (fun k_ => nb k_ s_.2.1 ∧ nb k_ s_.2.2 ∧ nb k_ (.slice Ao50 x16_3.length co50) ∧ nb k_ (.slice Ao51 x17_3.length co51)) s_.1 y304) ∧ (Kd.R (Kd.int .i64) 3 w' w.heap.size (fun k_ => nb k_ s_.1 ∧ nb k_ s_.2.2 ∧ nb k_ (.slice Ao50 x16_3.length co50) ∧ nb k_ (.slice Ao51 x17_3.length co51)) s_.2.1 y307) ∧ (Kd.R (Kd.int .i64) 3 w' w.heap.size (fun k_ => nb k_ s_.1 ∧ nb k_ s_.2.1 ∧ nb k_ (.slice Ao50 x16_3.length co50) ∧ nb k_ (.slice Ao51 x17_3.length co51)) s_.2.2 y310) ∧ (Kd.R (Kd.int .i64) 3 w' w.heap.size (fun k_ => nb k_ s_.1 ∧ nb k_ s_.2.1 ∧ nb k_ s_.2.2 ∧ nb k_ (.slice Ao51 x17_3.length co51)) (.slice Ao50 x16_3.length co50) x16_3) ∧ (Kd.R (Kd.int .i64) 3 w' w.heap.size (fun k_ => nb k_ s_.1 ∧ nb k_ s_.2.1 ∧ nb k_ s_.2.2 ∧ nb k_ (.slice Ao50 x16_3.length co50)) (.slice Ao51 x17_3.length co51) x17_3) ∧ (Kd.R k72 72 w' w.heap.size (fun _ => True) (.slice (some ⟨go17, 0, none⟩) x8_2.length co17) x8_2) ∧ (w'.heap[gb288]? = some (.cells #[.int .i64 ((rd_T74 l0 x46_2).f0), .int .i64 ((rd_T74 l0 x46_2).f1), .int .i64 ((rd_T74 l0 x46_2).f2), .int .i64 ((rd_T74 l0 x46_2).f3), .int .i64 ((rd_T74 l0 x46_2).f4)] 74 (0, 0))) ∧ (w'.heap[gb303]? = some (.cells #[.int .i64 ((rd_T74 l0 x92_3).f0), .int .i64 ((rd_T74 l0 x92_3).f1), .int .i64 ((rd_T74 l0 x92_3).f2), .int .i64 ((rd_T74 l0 x92_3).f3), .int .i64 ((rd_T74 l0 x92_3).f4)] 74 (0, 0))) ∧ (Below w.heap.size w w')) ?_ ?_
              rotate_left
              ·intro hJ2_3_7
               refine join_ (σ := Value × Value × Value) 6 #[true, true, true, true, true, true, true, false, false, true, true, true, true, false, false, false, false] (fun s_ => [(103, s_.1), (104, s_.2.1), (113, s_.2.2)]) (fun s_ w' => (w'.cell? ⟨gb303, 0, none⟩ = some (.int .i64 ((rd_T74 l0 x92_3).f0)) ∧ w'.cell? ⟨gb303, 1, none⟩ = some (.int .i64 ((rd_T74 l0 x92_3).f1)) ∧ w'.cell? ⟨gb303, 2, none⟩ = some (.int .i64 ((rd_T74 l0 x92_3).f2)) ∧ w'.cell? ⟨gb303, 3, none⟩ = some (.int .i64 ((rd_T74 l0 x92_3).f3)) ∧ w'.cell? ⟨gb303, 4, none⟩ = some (.int .i64 ((rd_T74 l0 x92_3).f4))) ∧ (Kd.R (Kd.int .i64) 3 w' w.heap.size (fun k_ => nb k_ s_.2.1 ∧ nb k_ s_.2.2 ∧ nb k_ (.slice Ao50 x16_3.length co50) ∧ nb k_ (.slice Ao51 x17_3.length co51)) s_.1 y304) ∧ (Kd.R (Kd.int .i64) 3 w' w.heap.size (fun k_ => nb k_ s_.1 ∧ nb k_ s_.2.2 ∧ nb k_ (.slice Ao50 x16_3.length co50) ∧ nb k_ (.slice Ao51 x17_3.length co51)) s_.2.1 y307) ∧ (Kd.R (Kd.int .i64) 3 w' w.heap.size (fun k_ => nb k_ s_.1 ∧ nb k_ s_.2.1 ∧ nb k_ (.slice Ao50 x16_3.length co50) ∧ nb k_ (.slice Ao51 x17_3.length co51)) s_.2.2 y316) ∧ (Kd.R (Kd.int .i64) 3 w' w.heap.size (fun k_ => nb k_ s_.1 ∧ nb k_ s_.2.1 ∧ nb k_ s_.2.2 ∧ nb k_ (.slice Ao51 x17_3.length co51)) (.slice Ao50 x16_3.length co50) x16_3) ∧ (Kd.R (Kd.int .i64) 3 w' w.heap.size (fun k_ => nb k_ s_.1 ∧ nb k_ s_.2.1 ∧ nb k_ s_.2.2 ∧ nb k_ (.slice Ao50 x16_3.length co50)) (.slice Ao51 x17_3.length co51) x17_3) ∧ (Kd.R k72 72 w' w.heap.size (fun _ => True) (.slice (some ⟨go17, 0, none⟩) x8_2.length co17) x8_2) ∧ (w'.heap[gb288]? = some (.cells #[.int .i64 ((rd_T74 l0 x46_2).f0), .int .i64 ((rd_T74 l0 x46_2).f1), .int .i64 ((rd_T74 l0 x46_2).f2), .int .i64 ((rd_T74 l0 x46_2).f3), .int .i64 ((rd_T74 l0 x46_2).f4)] 74 (0, 0))) ∧ (w'.heap[gb303]? = some (.cells #[.int .i64 ((rd_T74 l0 x92_3).f0), .int .i64 ((rd_T74 l0 x92_3).f1), .int .i64 ((rd_T74 l0 x92_3).f2), .int .i64 ((rd_T74 l0 x92_3).f3), .int .i64 ((rd_T74 l0 x92_3).f4)] 74 (0, 0))) ∧ (Below w.heap.size w w')) ?_ ?_
               rotate_left
               ·intro hJ2_3_12
                refine join_ (σ := Value × Value × Value) 6 #[true, true, true, false, true, true, true, true, false, true, true, true, true, false, false, false, false] (fun s_ => [(103, s_.1), (108, s_.2.1), (113, s_.2.2)]) (fun s_ w' => (w'.cell? ⟨gb303, 0, none⟩ = some (.int .i64 ((rd_T74 l0 x92_3).f0)) ∧ w'.cell? ⟨gb303, 1, none⟩ = some (.int .i64 ((rd_T74 l0 x92_3).f1)) ∧ w'.cell? ⟨gb303, 2, none⟩ = some (.int .i64 ((rd_T74 l0 x92_3).f2)) ∧ w'.cell? ⟨gb303, 3, none⟩ = some (.int .i64 ((rd_T74 l0 x92_3).f3)) ∧ w'.cell? ⟨gb303, 4, none⟩ = some (.int .i64 ((rd_T74 l0 x92_3).f4))) ∧ (Kd.R (Kd.int .i64) 3 w' w.heap.size (fun k_ => nb k_ s_.2.1 ∧ nb k_ s_.2.2 ∧ nb k_ (.slice Ao49 x15_3.length co49) ∧ nb k_ (.slice Ao50 x16_3.length co50) ∧ nb k_ (.slice Ao51 x17_3.length co51)) s_.1 y304) ∧ (Kd.R (Kd.int .i64) 3 w' w.heap.size (fun k_ => nb k_ s_.1 ∧ nb k_ s_.2.2 ∧ nb k_ (.slice Ao49 x15_3.length co49) ∧ nb k_ (.slice Ao50 x16_3.length co50) ∧ nb k_ (.slice Ao51 x17_3.length co51)) s_.2.1 y310) ∧ (Kd.R (Kd.int .i64) 3 w' w.heap.size (fun k_ => nb k_ s_.1 ∧ nb k_ s_.2.1 ∧ nb k_ (.slice Ao49 x15_3.length co49) ∧ nb k_ (.slice Ao50 x16_3.length co50) ∧ nb k_ (.slice Ao51 x17_3.length co51)) s_.2.2 y316) ∧ (Kd.R (Kd.int .i64) 3 w' w.heap.size (fun k_ => nb k_ s_.1 ∧ nb k_ s_.2.1 ∧ nb k_ s_.2.2 ∧ nb k_ (.slice Ao50 x16_3.length co50) ∧ nb k_ (.slice Ao51 x17_3.length co51)) (.slice Ao49 x15_3.length co49) x15_3) ∧ (Kd.R (Kd.int .i64) 3 w' w.heap.size (fun k_ => nb k_ s_.1 ∧ nb k_ s_.2.1 ∧ nb k_ s_.2.2 ∧ nb k_ (.slice Ao49 x15_3.length co49) ∧ nb k_ (.slice Ao51 x17_3.length co51)) (.slice Ao50 x16_3.length co50) x16_3) ∧ (Kd.R (Kd.int .i64) 3 w' w.heap.size (fun k_ => nb k_ s_.1 ∧ nb k_ s_.2.1 ∧ nb k_ s_.2.2 ∧ nb k_ (.slice Ao49 x15_3.length co49) ∧ nb k_ (.slice Ao50 x16_3.length co50)) (.slice Ao51 x17_3.length co51) x17_3) ∧ (Kd.R k72 72 w' w.heap.size (fun _ => True) (.slice (some ⟨go17, 0, none⟩) x8_2.length co17) x8_2) ∧ (w'.heap[gb288]? = some (.cells #[.int .i64 ((rd_T74 l0 x46_2).f0), .int .i64 ((rd_T74 l0 x46_2).f1), .int .i64 ((rd_T74 l0 x46_2).f2), .int .i64 ((rd_T74 l0 x46_2).f3), .int .i64 ((rd_T74 l0 x46_2).f4)] 74 (0, 0))) ∧ (w'.heap[gb303]? = some (.cells #[.int .i64 ((rd_T74 l0 x92_3).f0), .int .i64 ((rd_T74 l0 x92_3).f1), .int .i64 ((rd_T74 l0 x92_3).f2), .int .i64 ((rd_T74 l0 x92_3).f3), .int .i64 ((rd_T74 l0 x92_3).f4)] 74 (0, 0))) ∧ (Below w.heap.size w w')) ?_ ?_
                rotate_left
                ·intro hJ2_7_12
                 refine join_ (σ := Value × Value) 7 #[true, true, true, true, true, true, true, false, false, true, true, true, false, false, false, false, false] (fun s_ => [(103, s_.1), (104, s_.2)]) (fun s_ w' => (w'.cell? ⟨gb303, 0, none⟩ = some (.int .i64 ((rd_T74 l0 x92_3).f0)) ∧ w'.cell? ⟨gb303, 1, none⟩ = some (.int .i64 ((rd_T74 l0 x92_3).f1)) ∧ w'.cell? ⟨gb303, 2, none⟩ = some (.int .i64 ((rd_T74 l0 x92_3).f2)) ∧ w'.cell? ⟨gb303, 3, none⟩ = some (.int .i64 ((rd_T74 l0 x92_3).f3)) ∧ w'.cell? ⟨gb303, 4, none⟩ = some (.int .i64 ((rd_T74 l0 x92_3).f4))) ∧ (Kd.R (Kd.int .i64) 3 w' w.heap.size (fun k_ => nb k_ s_.2 ∧ nb k_ (.slice Ao50 x16_3.length co50) ∧ nb k_ (.slice Ao51 x17_3.length co51)) s_.1 y304) ∧ (Kd.R (Kd.int .i64) 3 w' w.heap.size (fun k_ => nb k_ s_.1 ∧ nb k_ (.slice Ao50 x16_3.length co50) ∧ nb k_ (.slice Ao51 x17_3.length co51)) s_.2 y307) ∧ (Kd.R (Kd.int .i64) 3 w' w.heap.size (fun k_ => nb k_ s_.1 ∧ nb k_ s_.2 ∧ nb k_ (.slice Ao51 x17_3.length co51)) (.slice Ao50 x16_3.length co50) x16_3) ∧ (Kd.R (Kd.int .i64) 3 w' w.heap.size (fun k_ => nb k_ s_.1 ∧ nb k_ s_.2 ∧ nb k_ (.slice Ao50 x16_3.length co50)) (.slice Ao51 x17_3.length co51) x17_3) ∧ (Kd.R k72 72 w' w.heap.size (fun _ => True) (.slice (some ⟨go17, 0, none⟩) x8_2.length co17) x8_2) ∧ (w'.heap[gb288]? = some (.cells #[.int .i64 ((rd_T74 l0 x46_2).f0), .int .i64 ((rd_T74 l0 x46_2).f1), .int .i64 ((rd_T74 l0 x46_2).f2), .int .i64 ((rd_T74 l0 x46_2).f3), .int .i64 ((rd_T74 l0 x46_2).f4)] 74 (0, 0))) ∧ (w'.heap[gb303]? = some (.cells #[.int .i64 ((rd_T74 l0 x92_3).f0), .int .i64 ((rd_T74 l0 x92_3).f1), .int .i64 ((rd_T74 l0 x92_3).f2), .int .i64 ((rd_T74 l0 x92_3).f3), .int .i64 ((rd_T74 l0 x92_3).f4)] 74 (0, 0))) ∧ (Below w.heap.size w w')) ?_ ?_
                 rotate_left
                 ·intro hJ2_3
                  refine join_ (σ := Value × Value) 7 #[true, true, true, false, true, true, true, true, false, true, true, true, false, false, false, false, false] (fun s_ => [(103, s_.1), (108, s_.2)]) (fun s_ w' => (w'.cell? ⟨gb303, 0, none⟩ = some (.int .i64 ((rd_T74 l0 x92_3).f0)) ∧ w'.cell? ⟨gb303, 1, none⟩ = some (.int .i64 ((rd_T74 l0 x92_3).f1)) ∧ w'.cell? ⟨gb303, 2, none⟩ = some (.int .i64 ((rd_T74 l0 x92_3).f2)) ∧ w'.cell? ⟨gb303, 3, none⟩ = some (.int .i64 ((rd_T74 l0 x92_3).f3)) ∧ w'.cell? ⟨gb303, 4, none⟩ = some (.int .i64 ((rd_T74 l0 x92_3).f4))) ∧ (Kd.R (Kd.int .i64) 3 w' w.heap.size (fun k_ => nb k_ s_.2 ∧ nb k_ (.slice Ao49 x15_3.length co49) ∧ nb k_ (.slice Ao50 x16_3.length co50) ∧ nb k_ (.slice Ao51 x17_3.length co51)) s_.1 y304) ∧ (Kd.R (Kd.int .i64) 3 w' w.heap.size (fun k_ => nb k_ s_.1 ∧ nb k_ (.slice Ao49 x15_3.length co49) ∧ nb k_ (.slice Ao50 x16_3.length co50) ∧ nb k_ (.slice Ao51 x17_3.length co51)) s_.2 y310) ∧ (Kd.R (Kd.int .i64) 3 w' w.heap.size (fun k_ => nb k_ s_.1 ∧ nb k_ s_.2 ∧ nb k_ (.slice Ao50 x16_3.length co50) ∧ nb k_ (.slice Ao51 x17_3.length co51)) (.slice Ao49 x15_3.length co49) x15_3) ∧ (Kd.R (Kd.int .i64) 3 w' w.heap.size (fun k_ => nb k_ s_.1 ∧ nb k_ s_.2 ∧ nb k_ (.slice Ao49 x15_3.length co49) ∧ nb k_ (.slice Ao51 x17_3.length co51)) (.slice Ao50 x16_3.length co50) x16_3) ∧ (Kd.R (Kd.int .i64) 3 w' w.heap.size (fun k_ => nb k_ s_.1 ∧ nb k_ s_.2 ∧ nb k_ (.slice Ao49 x15_3.length co49) ∧ nb k_ (.slice Ao50 x16_3.length co50)) (.slice Ao51 x17_3.length co51) x17_3) ∧ (Kd.R k72 72 w' w.heap.size (fun _ => True) (.slice (some ⟨go17, 0, none⟩) x8_2.length co17) x8_2) ∧ (w'.heap[gb288]? = some (.cells #[.int .i64 ((rd_T74 l0 x46_2).f0), .int .i64 ((rd_T74 l0 x46_2).f1), .int .i64 ((rd_T74 l0 x46_2).f2), .int .i64 ((rd_T74 l0 x46_2).f3), .int .i64 ((rd_T74 l0 x46_2).f4)] 74 (0, 0))) ∧ (w'.heap[gb303]? = some (.cells #[.int .i64 ((rd_T74 l0 x92_3).f0), .int .i64 ((rd_T74 l0 x92_3).f1), .int .i64 ((rd_T74 l0 x92_3).f2), .int .i64 ((rd_T74 l0 x92_3).f3), .int .i64 ((rd_T74 l0 x92_3).f4)] 74 (0, 0))) ∧ (Below w.heap.size w w')) ?_ ?_
                  rotate_left
                  ·intro hJ2_7
                   refine join_ (σ := Value × Value) 7 #[true, true, true, false, true, true, true, false, false, true, true, true, true, false, false, false, false] (fun s_ => [(103, s_.1), (113, s_.2)]) (fun s_ w' => (w'.cell? ⟨gb303, 0, none⟩ = some (.int .i64 ((rd_T74 l0 x92_3).f0)) ∧ w'.cell? ⟨gb303, 1, none⟩ = some (.int .i64 ((rd_T74 l0 x92_3).f1)) ∧ w'.cell? ⟨gb303, 2, none⟩ = some (.int .i64 ((rd_T74 l0 x92_3).f2)) ∧ w'.cell? ⟨gb303, 3, none⟩ = some (.int .i64 ((rd_T74 l0 x92_3).f3)) ∧ w'.cell? ⟨gb303, 4, none⟩ = some (.int .i64 ((rd_T74 l0 x92_3).f4))) ∧ (Kd.R (Kd.int .i64) 3 w' w.heap.size (fun k_ => nb k_ s_.2 ∧ nb k_ (.slice Ao49 x15_3.length co49) ∧ nb k_ (.slice Ao50 x16_3.length co50) ∧ nb k_ (.slice Ao51 x17_3.length co51)) s_.1 y304) ∧ (Kd.R (Kd.int .i64) 3 w' w.heap.size (fun k_ => nb k_ s_.1 ∧ nb k_ (.slice Ao49 x15_3.length co49) ∧ nb k_ (.slice Ao50 x16_3.length co50) ∧ nb k_ (.slice Ao51 x17_3.length co51)) s_.2 y316) ∧ (Kd.R (Kd.int .i64) 3 w' w.heap.size (fun k_ => nb k_ s_.1 ∧ nb k_ s_.2 ∧ nb k_ (.slice Ao50 x16_3.length co50) ∧ nb k_ (.slice Ao51 x17_3.length co51)) (.slice Ao49 x15_3.length co49) x15_3) ∧ (Kd.R (Kd.int .i64) 3 w' w.heap.size (fun k_ => nb k_ s_.1 ∧ nb k_ s_.2 ∧ nb k_ (.slice Ao49 x15_3.length co49) ∧ nb k_ (.slice Ao51 x17_3.length co51)) (.slice Ao50 x16_3.length co50) x16_3) ∧ (Kd.R (Kd.int .i64) 3 w' w.heap.size (fun k_ => nb k_ s_.1 ∧ nb k_ s_.2 ∧ nb k_ (.slice Ao49 x15_3.length co49) ∧ nb k_ (.slice Ao50 x16_3.length co50)) (.slice Ao51 x17_3.length co51) x17_3) ∧ (Kd.R k72 72 w' w.heap.size (fun _ => True) (.slice (some ⟨go17, 0, none⟩) x8_2.length co17) x8_2) ∧ (w'.heap[gb288]? = some (.cells #[.int .i64 ((rd_T74 l0 x46_2).f0), .int .i64 ((rd_T74 l0 x46_2).f1), .int .i64 ((rd_T74 l0 x46_2).f2), .int .i64 ((rd_T74 l0 x46_2).f3), .int .i64 ((rd_T74 l0 x46_2).f4)] 74 (0, 0))) ∧ (w'.heap[gb303]? = some (.cells #[.int .i64 ((rd_T74 l0 x92_3).f0), .int .i64 ((rd_T74 l0 x92_3).f1), .int .i64 ((rd_T74 l0 x92_3).f2), .int .i64 ((rd_T74 l0 x92_3).f3), .int .i64 ((rd_T74 l0 x92_3).f4)] 74 (0, 0))) ∧ (Below w.heap.size w w')) ?_ ?_
                   rotate_left
                   ·intro hJ2_12
                    refine join_ (σ := Value × Value) 7 #[true, true, false, false, true, true, true, true, false, true, true, true, true, false, false, false, false] (fun s_ => [(108, s_.1), (113, s_.2)]) (fun s_ w' => (w'.cell? ⟨gb303, 0, none⟩ = some (.int .i64 ((rd_T74 l0 x92_3).f0)) ∧ w'.cell? ⟨gb303, 1, none⟩ = some (.int .i64 ((rd_T74 l0 x92_3).f1)) ∧ w'.cell? ⟨gb303, 2, none⟩ = some (.int .i64 ((rd_T74 l0 x92_3).f2)) ∧ w'.cell? ⟨gb303, 3, none⟩ = some (.int .i64 ((rd_T74 l0 x92_3).f3)) ∧ w'.cell? ⟨gb303, 4, none⟩ = some (.int .i64 ((rd_T74 l0 x92_3).f4))) ∧ (Kd.R (Kd.int .i64) 3 w' w.heap.size (fun k_ => nb k_ s_.2 ∧ nb k_ (.slice Ao49 x15_3.length co49) ∧ nb k_ (.slice Ao50 x16_3.length co50) ∧ nb k_ (.slice Ao51 x17_3.length co51)) s_.1 y310) ∧ (Kd.R (Kd.int .i64) 3 w' w.heap.size (fun k_ => nb k_ s_.1 ∧ nb k_ (.slice Ao49 x15_3.length co49) ∧ nb k_ (.slice Ao50 x16_3.length co50) ∧ nb k_ (.slice Ao51 x17_3.length co51)) s_.2 y316) ∧ (Kd.R (Kd.int .i64) 3 w' w.heap.size (fun k_ => nb k_ s_.1 ∧ nb k_ s_.2 ∧ nb k_ (.slice Ao50 x16_3.length co50) ∧ nb k_ (.slice Ao51 x17_3.length co51)) (.slice Ao49 x15_3.length co49) x15_3) ∧ (Kd.R (Kd.int .i64) 3 w' w.heap.size (fun k_ => nb k_ s_.1 ∧ nb k_ s_.2 ∧ nb k_ (.slice Ao49 x15_3.length co49) ∧ nb k_ (.slice Ao51 x17_3.length co51)) (.slice Ao50 x16_3.length co50) x16_3) ∧ (Kd.R (Kd.int .i64) 3 w' w.heap.size (fun k_ => nb k_ s_.1 ∧ nb k_ s_.2 ∧ nb k_ (.slice Ao49 x15_3.length co49) ∧ nb k_ (.slice Ao50 x16_3.length co50)) (.slice Ao51 x17_3.length co51) x17_3) ∧ (Kd.R k72 72 w' w.heap.size (fun _ => True) (.slice (some ⟨go17, 0, none⟩) x8_2.length co17) x8_2) ∧ (w'.heap[gb288]? = some (.cells #[.int .i64 ((rd_T74 l0 x46_2).f0), .int .i64 ((rd_T74 l0 x46_2).f1), .int .i64 ((rd_T74 l0 x46_2).f2), .int .i64 ((rd_T74 l0 x46_2).f3), .int .i64 ((rd_T74 l0 x46_2).f4)] 74 (0, 0))) ∧ (w'.heap[gb303]? = some (.cells #[.int .i64 ((rd_T74 l0 x92_3).f0), .int .i64 ((rd_T74 l0 x92_3).f1), .int .i64 ((rd_T74 l0 x92_3).f2), .int .i64 ((rd_T74 l0 x92_3).f3), .int .i64 ((rd_T74 l0 x92_3).f4)] 74 (0, 0))) ∧ (Below w.heap.size w w')) ?_ ?_
                    rotate_left
                    ·intro hJ7_12
                     refine join_ (σ := Value) 8 #[true, true, true, false, true, true, true, false, false, true, true, true, false, false, false, false, false] (fun s_ => [(103, s_)]) (fun s_ w' => (w'.cell? ⟨gb303, 0, none⟩ = some (.int .i64 ((rd_T74 l0 x92_3).f0)) ∧ w'.cell? ⟨gb303, 1, none⟩ = some (.int .i64 ((rd_T74 l0 x92_3).f1)) ∧ w'.cell? ⟨gb303, 2, none⟩ = some (.int .i64 ((rd_T74 l0 x92_3).f2)) ∧ w'.cell? ⟨gb303, 3, none⟩ = some (.int .i64 ((rd_T74 l0 x92_3).f3)) ∧ w'.cell? ⟨gb303, 4, none⟩ = some (.int .i64 ((rd_T74 l0 x92_3).f4))) ∧ (Kd.R (Kd.int .i64) 3 w' w.heap.size (fun k_ => nb k_ (.slice Ao49 x15_3.length co49) ∧ nb k_ (.slice Ao50 x16_3.length co50) ∧ nb k_ (.slice Ao51 x17_3.length co51)) s_ y304) ∧ (Kd.R (Kd.int .i64) 3 w' w.heap.size (fun k_ => nb k_ s_ ∧ nb k_ (.slice Ao50 x16_3.length co50) ∧ nb k_ (.slice Ao51 x17_3.length co51)) (.slice Ao49 x15_3.length co49) x15_3) ∧ (Kd.R (Kd.int .i64) 3 w' w.heap.size (fun k_ => nb k_ s_ ∧ nb k_ (.slice Ao49 x15_3.length co49) ∧ nb k_ (.slice Ao51 x17_3.length co51)) (.slice Ao50 x16_3.length co50) x16_3) ∧ (Kd.R (Kd.int .i64) 3 w' w.heap.size (fun k_ => nb k_ s_ ∧ nb k_ (.slice Ao49 x15_3.length co49) ∧ nb k_ (.slice Ao50 x16_3.length co50)) (.slice Ao51 x17_3.length co51) x17_3) ∧ (Kd.R k72 72 w' w.heap.size (fun _ => True) (.slice (some ⟨go17, 0, none⟩) x8_2.length co17) x8_2) ∧ (w'.heap[gb288]? = some (.cells #[.int .i64 ((rd_T74 l0 x46_2).f0), .int .i64 ((rd_T74 l0 x46_2).f1), .int .i64 ((rd_T74 l0 x46_2).f2), .int .i64 ((rd_T74 l0 x46_2).f3), .int .i64 ((rd_T74 l0 x46_2).f4)] 74 (0, 0))) ∧ (w'.heap[gb303]? = some (.cells #[.int .i64 ((rd_T74 l0 x92_3).f0), .int .i64 ((rd_T74 l0 x92_3).f1), .int .i64 ((rd_T74 l0 x92_3).f2), .int .i64 ((rd_T74 l0 x92_3).f3), .int .i64 ((rd_T74 l0 x92_3).f4)] 74 (0, 0))) ∧ (Below w.heap.size w w')) ?_ ?_
                     rotate_left
                     ·intro hJ2
                      refine join_ (σ := Value) 8 #[true, true, false, false, true, true, true, true, false, true, true, true, false, false, false, false, false] (fun s_ => [(108, s_)]) (fun s_ w' => (w'.cell? ⟨gb303, 0, none⟩ = some (.int .i64 ((rd_T74 l0 x92_3).f0)) ∧ w'.cell? ⟨gb303, 1, none⟩ = some (.int .i64 ((rd_T74 l0 x92_3).f1)) ∧ w'.cell? ⟨gb303, 2, none⟩ = some (.int .i64 ((rd_T74 l0 x92_3).f2)) ∧ w'.cell? ⟨gb303, 3, none⟩ = some (.int .i64 ((rd_T74 l0 x92_3).f3)) ∧ w'.cell? ⟨gb303, 4, none⟩ = some (.int .i64 ((rd_T74 l0 x92_3).f4))) ∧ (Kd.R (Kd.int .i64) 3 w' w.heap.size (fun k_ => nb k_ (.slice Ao49 x15_3.length co49) ∧ nb k_ (.slice Ao50 x16_3.length co50) ∧ nb k_ (.slice Ao51 x17_3.length co51)) s_ y310) ∧ (Kd.R (Kd.int .i64) 3 w' w.heap.size (fun k_ => nb k_ s_ ∧ nb k_ (.slice Ao50 x16_3.length co50) ∧ nb k_ (.slice Ao51 x17_3.length co51)) (.slice Ao49 x15_3.length co49) x15_3) ∧ (Kd.R (Kd.int .i64) 3 w' w.heap.size (fun k_ => nb k_ s_ ∧ nb k_ (.slice Ao49 x15_3.length co49) ∧ nb k_ (.slice Ao51 x17_3.length co51)) (.slice Ao50 x16_3.length co50) x16_3) ∧ (Kd.R (Kd.int .i64) 3 w' w.heap.size (fun k_ => nb k_ s_ ∧ nb k_ (.slice Ao49 x15_3.length co49) ∧ nb k_ (.slice Ao50 x16_3.length co50)) (.slice Ao51 x17_3.length co51) x17_3) ∧ (Kd.R k72 72 w' w.heap.size (fun _ => True) (.slice (some ⟨go17, 0, none⟩) x8_2.length co17) x8_2) ∧ (w'.heap[gb288]? = some (.cells #[.int .i64 ((rd_T74 l0 x46_2).f0), .int .i64 ((rd_T74 l0 x46_2).f1), .int .i64 ((rd_T74 l0 x46_2).f2), .int .i64 ((rd_T74 l0 x46_2).f3), .int .i64 ((rd_T74 l0 x46_2).f4)] 74 (0, 0))) ∧ (w'.heap[gb303]? = some (.cells #[.int .i64 ((rd_T74 l0 x92_3).f0), .int .i64 ((rd_T74 l0 x92_3).f1), .int .i64 ((rd_T74 l0 x92_3).f2), .int .i64 ((rd_T74 l0 x92_3).f3), .int .i64 ((rd_T74 l0 x92_3).f4)] 74 (0, 0))) ∧ (Below w.heap.size w w')) ?_ ?_
                      rotate_left
                      ·intro hJ7
                       refine join_ (σ := Value) 8 #[true, true, false, false, true, true, true, false, false, true, true, true, true, false, false, false, false] (fun s_ => [(113, s_)]) (fun s_ w' => (w'.cell? ⟨gb303, 0, none⟩ = some (.int .i64 ((rd_T74 l0 x92_3).f0)) ∧ w'.cell? ⟨gb303, 1, none⟩ = some (.int .i64 ((rd_T74 l0 x92_3).f1)) ∧ w'.cell? ⟨gb303, 2, none⟩ = some (.int .i64 ((rd_T74 l0 x92_3).f2)) ∧ w'.cell? ⟨gb303, 3, none⟩ = some (.int .i64 ((rd_T74 l0 x92_3).f3)) ∧ w'.cell? ⟨gb303, 4, none⟩ = some (.int .i64 ((rd_T74 l0 x92_3).f4))) ∧ (Kd.R (Kd.int .i64) 3 w' w.heap.size (fun k_ => nb k_ (.slice Ao49 x15_3.length co49) ∧ nb k_ (.slice Ao50 x16_3.length co50) ∧ nb k_ (.slice Ao51 x17_3.length co51)) s_ y316) ∧ (Kd.R (Kd.int .i64) 3 w' w.heap.size (fun k_ => nb k_ s_ ∧ nb k_ (.slice Ao50 x16_3.length co50) ∧ nb k_ (.slice Ao51 x17_3.length co51)) (.slice Ao49 x15_3.length co49) x15_3) ∧ (Kd.R (Kd.int .i64) 3 w' w.heap.size (fun k_ => nb k_ s_ ∧ nb k_ (.slice Ao49 x15_3.length co49) ∧ nb k_ (.slice Ao51 x17_3.length co51)) (.slice Ao50 x16_3.length co50) x16_3) ∧ (Kd.R (Kd.int .i64) 3 w' w.heap.size (fun k_ => nb k_ s_ ∧ nb k_ (.slice Ao49 x15_3.length co49) ∧ nb k_ (.slice Ao50 x16_3.length co50)) (.slice Ao51 x17_3.length co51) x17_3) ∧ (Kd.R k72 72 w' w.heap.size (fun _ => True) (.slice (some ⟨go17, 0, none⟩) x8_2.length co17) x8_2) ∧ (w'.heap[gb288]? = some (.cells #[.int .i64 ((rd_T74 l0 x46_2).f0), .int .i64 ((rd_T74 l0 x46_2).f1), .int .i64 ((rd_T74 l0 x46_2).f2), .int .i64 ((rd_T74 l0 x46_2).f3), .int .i64 ((rd_T74 l0 x46_2).f4)] 74 (0, 0))) ∧ (w'.heap[gb303]? = some (.cells #[.int .i64 ((rd_T74 l0 x92_3).f0), .int .i64 ((rd_T74 l0 x92_3).f1), .int .i64 ((rd_T74 l0 x92_3).f2), .int .i64 ((rd_T74 l0 x92_3).f3), .int .i64 ((rd_T74 l0 x92_3).f4)] 74 (0, 0))) ∧ (Below w.heap.size w w')) ?_ ?_
                       rotate_left
                       ·intro hJ12
                        refine three_ (i := 2) (j := 7) (k := 12) (Ni := some 103) (Nj := some 108) (Nk := some 113) #[true, true, true, false, true, true, true, false, false, true, true, true, false, false, false, false, false] #[true, true, false, false, true, true, true, true, false, true, true, true, false, false, false, false, false] #[true, true, false, false, true, true, true, false, false, true, true, true, true, false, false, false, false] rfl rfl rfl rfl rfl rfl (three_of HT_.out (by kernel_rfl)) (by decide) (by decide) (by decide) (fun K hK => ?_) (fun K hK => ?_) (fun K hK => ?_)
                        ·skip
                         refine Kd.R_lit_step (Kd.int .i64) _ 3 ?hg (N := 103) ?hd (xs := ([x92_3] : List Int)) (inner := [.int .i64 x92_3]) (ok := fun _ => True) (okp := fun _ => True) ?hr ?hp (fun _ hk => hk) trivial (Below.refl _ _) (Nat.le_refl _) (by simp) ?_; (case hd => rfl); (case hg => rfl); (case hr => first | (go_simp; done) | (go_simp; rfl)); (case hp => exact (Reps.one (show Kd.M (Kd.int .i64) _ _ _ x92_3 [.int .i64 x92_3] from rfl) (Reps.none _ _)))
                         intro v305 w54 ho55 hb hg_ hnew_
                         clear hg_ hnew_
                         (first | rw [← Ny304.out] at ho55 | (simp only [Int.reduceToNat] at ho55; rw [← Ny304.out] at ho55))
                         have n0_ := am_ (Kd.R_below (ra_ HO_8.out) hb)
                         have n1_ := am_ (Kd.R_elder' (ra_ HO_15.out) (Kd.R_base ho55) hb)
                         have n2_ := am_ (Kd.R_elder' (ra_ HO_16.out) (Kd.R_base ho55) hb)
                         have n3_ := am_ (Kd.R_elder' (ra_ HO_17.out) (Kd.R_base ho55) hb)
                         have n4_ := am_ (Kd.R_lower (Kd.R_new' (Kd.R_new' (Kd.R_new' ho55 (Kd.R_lt (ra_ HO_15.out))) (Kd.R_lt (ra_ HO_16.out))) (Kd.R_lt (ra_ HO_17.out))) (below_size (bw_ HB.out)))
                         have n5_ := am_ (blk_below (bk_ BK288.out) hb)
                         have n6_ := am_ (blk_below (bk_ BK303.out) hb)
                         have n7_ := am_ (below_step (bw_ HB.out) hb)
                         replace HO_8 := n0_
                         replace HO_15 := n1_
                         replace HO_16 := n2_
                         replace HO_17 := n3_
                         have HO306 := n4_
                         replace BK288 := n5_
                         replace BK303 := n6_
                         replace HB := n7_
                         clear n0_ n1_ n2_ n3_ n4_ n5_ n6_ n7_
                         clear hb ho55
                         refine hK.out _ _ ⟨cz_ BK303.out 0, cz_ BK303.out 1, cz_ BK303.out 2, cz_ BK303.out 3, cz_ BK303.out 4⟩ (fun hHeld => ?_)
                         clear hK K
                         refine nS_ ?_
                         exact nm_ (hJ2 (v305) _ ⟨hHeld, (ra_ (Kd.R_mono HO306.out (fun _ hk => ⟨hk.1.1.2, ⟨hk.1.2, hk.2⟩⟩))), (ra_ (Kd.R_mono HO_15.out (fun _ hk => ⟨hk.2, ⟨hk.1.1, hk.1.2⟩⟩))), (ra_ (Kd.R_mono HO_16.out (fun _ hk => ⟨hk.2, ⟨hk.1.1, hk.1.2⟩⟩))), (ra_ (Kd.R_mono HO_17.out (fun _ hk => ⟨hk.2, ⟨hk.1.1, hk.1.2⟩⟩))), (ra_ HO_8.out), (bk_ BK288.out), (bk_ BK303.out), (bw_ HB.out)⟩)
                        ·skip
                         refine Kd.R_lit_step (Kd.int .i64) _ 3 ?hg (N := 108) ?hd (xs := ([(rd_T74 l0 x92_3).f2] : List Int)) (inner := [.int .i64 ((rd_T74 l0 x92_3).f2)]) (ok := fun _ => True) (okp := fun _ => True) ?hr ?hp (fun _ hk => hk) trivial (Below.refl _ _) (Nat.le_refl _) (by simp) ?_; (case hd => rfl); (case hg => rfl); (case hr => first | (go_simp; done) | (go_simp; rfl)); (case hp => exact (Reps.one (show Kd.M (Kd.int .i64) _ _ _ ((rd_T74 l0 x92_3).f2) [.int .i64 ((rd_T74 l0 x92_3).f2)] from rfl) (Reps.none _ _)))
                         intro v311 w54 ho55 hb hg_ hnew_
                         clear hg_ hnew_
                         (first | rw [← Ny310.out] at ho55 | (simp only [Int.reduceToNat] at ho55; rw [← Ny310.out] at ho55))
                         have n0_ := am_ (Kd.R_below (ra_ HO_8.out) hb)
                         have n1_ := am_ (Kd.R_elder' (ra_ HO_15.out) (Kd.R_base ho55) hb)
                         have n2_ := am_ (Kd.R_elder' (ra_ HO_16.out) (Kd.R_base ho55) hb)
                         have n3_ := am_ (Kd.R_elder' (ra_ HO_17.out) (Kd.R_base ho55) hb)
                         have n4_ := am_ (Kd.R_lower (Kd.R_new' (Kd.R_new' (Kd.R_new' ho55 (Kd.R_lt (ra_ HO_15.out))) (Kd.R_lt (ra_ HO_16.out))) (Kd.R_lt (ra_ HO_17.out))) (below_size (bw_ HB.out)))
                         have n5_ := am_ (blk_below (bk_ BK288.out) hb)
                         have n6_ := am_ (blk_below (bk_ BK303.out) hb)
                         have n7_ := am_ (below_step (bw_ HB.out) hb)
                         replace HO_8 := n0_
                         replace HO_15 := n1_
                         replace HO_16 := n2_
                         replace HO_17 := n3_
                         have HO312 := n4_
                         replace BK288 := n5_
                         replace BK303 := n6_
                         replace HB := n7_
                         clear n0_ n1_ n2_ n3_ n4_ n5_ n6_ n7_
                         clear hb ho55
                         refine hK.out _ _ ⟨cz_ BK303.out 0, cz_ BK303.out 1, cz_ BK303.out 2, cz_ BK303.out 3, cz_ BK303.out 4⟩ (fun hHeld => ?_)
                         clear hK K
                         refine nS_ ?_
                         exact nm_ (hJ7 (v311) _ ⟨hHeld, (ra_ (Kd.R_mono HO312.out (fun _ hk => ⟨hk.1.1.2, ⟨hk.1.2, hk.2⟩⟩))), (ra_ (Kd.R_mono HO_15.out (fun _ hk => ⟨hk.2, ⟨hk.1.1, hk.1.2⟩⟩))), (ra_ (Kd.R_mono HO_16.out (fun _ hk => ⟨hk.2, ⟨hk.1.1, hk.1.2⟩⟩))), (ra_ (Kd.R_mono HO_17.out (fun _ hk => ⟨hk.2, ⟨hk.1.1, hk.1.2⟩⟩))), (ra_ HO_8.out), (bk_ BK288.out), (bk_ BK303.out), (bw_ HB.out)⟩)
                        ·skip
                         refine Kd.R_lit_step (Kd.int .i64) _ 3 ?hg (N := 113) ?hd (xs := ([(rd_T74 l0 x92_3).f3] : List Int)) (inner := [.int .i64 ((rd_T74 l0 x92_3).f3)]) (ok := fun _ => True) (okp := fun _ => True) ?hr ?hp (fun _ hk => hk) trivial (Below.refl _ _) (Nat.le_refl _) (by simp) ?_; (case hd => rfl); (case hg => rfl); (case hr => first | (go_simp; done) | (go_simp; rfl)); (case hp => exact (Reps.one (show Kd.M (Kd.int .i64) _ _ _ ((rd_T74 l0 x92_3).f3) [.int .i64 ((rd_T74 l0 x92_3).f3)] from rfl) (Reps.none _ _)))
                         intro v317 w54 ho55 hb hg_ hnew_
                         clear hg_ hnew_
                         (first | rw [← Ny316.out] at ho55 | (simp only [Int.reduceToNat] at ho55; rw [← Ny316.out] at ho55))
                         have n0_ := am_ (Kd.R_below (ra_ HO_8.out) hb)
                         have n1_ := am_ (Kd.R_elder' (ra_ HO_15.out) (Kd.R_base ho55) hb)
                         have n2_ := am_ (Kd.R_elder' (ra_ HO_16.out) (Kd.R_base ho55) hb)
                         have n3_ := am_ (Kd.R_elder' (ra_ HO_17.out) (Kd.R_base ho55) hb)
                         have n4_ := am_ (Kd.R_lower (Kd.R_new' (Kd.R_new' (Kd.R_new' ho55 (Kd.R_lt (ra_ HO_15.out))) (Kd.R_lt (ra_ HO_16.out))) (Kd.R_lt (ra_ HO_17.out))) (below_size (bw_ HB.out)))
                         have n5_ := am_ (blk_below (bk_ BK288.out) hb)
                         have n6_ := am_ (blk_below (bk_ BK303.out) hb)
                         have n7_ := am_ (below_step (bw_ HB.out) hb)
                         replace HO_8 := n0_
                         replace HO_15 := n1_
                         replace HO_16 := n2_
                         replace HO_17 := n3_
                         have HO318 := n4_
                         replace BK288 := n5_
                         replace BK303 := n6_
                         replace HB := n7_
                         clear n0_ n1_ n2_ n3_ n4_ n5_ n6_ n7_
                         clear hb ho55
                         refine hK.out _ _ ⟨cz_ BK303.out 0, cz_ BK303.out 1, cz_ BK303.out 2, cz_ BK303.out 3, cz_ BK303.out 4⟩ (fun hHeld => ?_)
                         clear hK K
                         refine nS_ ?_
                         exact nm_ (hJ12 (v317) _ ⟨hHeld, (ra_ (Kd.R_mono HO318.out (fun _ hk => ⟨hk.1.1.2, ⟨hk.1.2, hk.2⟩⟩))), (ra_ (Kd.R_mono HO_15.out (fun _ hk => ⟨hk.2, ⟨hk.1.1, hk.1.2⟩⟩))), (ra_ (Kd.R_mono HO_16.out (fun _ hk => ⟨hk.2, ⟨hk.1.1, hk.1.2⟩⟩))), (ra_ (Kd.R_mono HO_17.out (fun _ hk => ⟨hk.2, ⟨hk.1.1, hk.1.2⟩⟩))), (ra_ HO_8.out), (bk_ BK288.out), (bk_ BK303.out), (bw_ HB.out)⟩)
                       ·skip
                        rintro v317 w56 ⟨hS_, h0_, h1_, h2_, h3_, h4_, h5_, h6_, h7_⟩
                        have n0_ : Aside0 (Kd.R (Kd.int .i64) 3 w56 w.heap.size (fun k_ => nb k_ (.slice Ao49 x15_3.length co49) ∧ nb k_ (.slice Ao50 x16_3.length co50) ∧ nb k_ (.slice Ao51 x17_3.length co51)) v317 y316) := ⟨h0_⟩
                        have n1_ : Aside0 (Kd.R (Kd.int .i64) 3 w56 w.heap.size (fun k_ => nb k_ v317 ∧ nb k_ (.slice Ao50 x16_3.length co50) ∧ nb k_ (.slice Ao51 x17_3.length co51)) (.slice Ao49 x15_3.length co49) x15_3) := ⟨h1_⟩
                        have n2_ : Aside0 (Kd.R (Kd.int .i64) 3 w56 w.heap.size (fun k_ => nb k_ v317 ∧ nb k_ (.slice Ao49 x15_3.length co49) ∧ nb k_ (.slice Ao51 x17_3.length co51)) (.slice Ao50 x16_3.length co50) x16_3) := ⟨h2_⟩
                        have n3_ : Aside0 (Kd.R (Kd.int .i64) 3 w56 w.heap.size (fun k_ => nb k_ v317 ∧ nb k_ (.slice Ao49 x15_3.length co49) ∧ nb k_ (.slice Ao50 x16_3.length co50)) (.slice Ao51 x17_3.length co51) x17_3) := ⟨h3_⟩
                        have n4_ : Aside0 (Kd.R k72 72 w56 w.heap.size (fun _ => True) (.slice (some ⟨go17, 0, none⟩) x8_2.length co17) x8_2) := ⟨h4_⟩
                        have n5_ : Aside0 (w56.heap[gb288]? = some (.cells #[.int .i64 ((rd_T74 l0 x46_2).f0), .int .i64 ((rd_T74 l0 x46_2).f1), .int .i64 ((rd_T74 l0 x46_2).f2), .int .i64 ((rd_T74 l0 x46_2).f3), .int .i64 ((rd_T74 l0 x46_2).f4)] 74 (0, 0))) := ⟨h5_⟩
                        have n6_ : Aside0 (w56.heap[gb303]? = some (.cells #[.int .i64 ((rd_T74 l0 x92_3).f0), .int .i64 ((rd_T74 l0 x92_3).f1), .int .i64 ((rd_T74 l0 x92_3).f2), .int .i64 ((rd_T74 l0 x92_3).f3), .int .i64 ((rd_T74 l0 x92_3).f4)] 74 (0, 0))) := ⟨h6_⟩
                        have n7_ : Aside0 (Below w.heap.size w w56) := ⟨h7_⟩
                        clear HO_8
                        clear HO_15
                        clear HO_16
                        clear HO_17
                        clear BK288
                        clear BK303
                        clear HB
                        clear h0_ h1_ h2_ h3_ h4_ h5_ h6_ h7_
                        have HO318 := n0_
                        have HO_15 := n1_
                        have HO_16 := n2_
                        have HO_17 := n3_
                        have HO_8 := n4_
                        have BK288 := n5_
                        have BK303 := n6_
                        have HB := n7_
                        clear n0_ n1_ n2_ n3_ n4_ n5_ n6_ n7_
                        have hHeld : w56.cell? ⟨gb303, 0, none⟩ = some (.int .i64 ((rd_T74 l0 x92_3).f0)) ∧ w56.cell? ⟨gb303, 1, none⟩ = some (.int .i64 ((rd_T74 l0 x92_3).f1)) ∧ w56.cell? ⟨gb303, 2, none⟩ = some (.int .i64 ((rd_T74 l0 x92_3).f2)) ∧ w56.cell? ⟨gb303, 3, none⟩ = some (.int .i64 ((rd_T74 l0 x92_3).f3)) ∧ w56.cell? ⟨gb303, 4, none⟩ = some (.int .i64 ((rd_T74 l0 x92_3).f4)) := hS_
                        refine norm_ (a' := ?_) ?_ ?_
                        rotate_left
                        ·simp only [putAll, Act.put, List.setIfInBounds_toArray, List.set_cons_zero, List.set_cons_succ]
                         rfl
                        refine two_ (i := 2) (j := 7) (Ni := some 103) (Nj := some 108) #[true, true, true, false, true, true, true, false, false, true, true, true, true, false, false, false, false] #[true, true, false, false, true, true, true, true, false, true, true, true, true, false, false, false, false] rfl rfl rfl rfl (two_of HT_.out (by kernel_rfl)) (by decide) (by decide) (fun K hK => ?_) (fun K hK => ?_)
                        ·skip
                         refine Kd.R_lit_step (Kd.int .i64) _ 3 ?hg (N := 103) ?hd (xs := ([x92_3] : List Int)) (inner := [.int .i64 x92_3]) (ok := fun _ => True) (okp := fun _ => True) ?hr ?hp (fun _ hk => hk) trivial (Below.refl _ _) (Nat.le_refl _) (by simp) ?_; (case hd => rfl); (case hg => rfl); (case hr => first | (go_simp; done) | (go_simp; rfl)); (case hp => exact (Reps.one (show Kd.M (Kd.int .i64) _ _ _ x92_3 [.int .i64 x92_3] from rfl) (Reps.none _ _)))
                         intro v305 w57 ho58 hb hg_ hnew_
                         clear hg_ hnew_
                         (first | rw [← Ny304.out] at ho58 | (simp only [Int.reduceToNat] at ho58; rw [← Ny304.out] at ho58))
                         have n0_ := am_ (Kd.R_below (ra_ HO_8.out) hb)
                         have n1_ := am_ (Kd.R_elder' (ra_ HO_15.out) (Kd.R_base ho58) hb)
                         have n2_ := am_ (Kd.R_elder' (ra_ HO_16.out) (Kd.R_base ho58) hb)
                         have n3_ := am_ (Kd.R_elder' (ra_ HO_17.out) (Kd.R_base ho58) hb)
                         have n4_ := am_ (Kd.R_elder' (ra_ HO318.out) (Kd.R_base ho58) hb)
                         have n5_ := am_ (Kd.R_lower (Kd.R_new' (Kd.R_new' (Kd.R_new' (Kd.R_new' ho58 (Kd.R_lt (ra_ HO_15.out))) (Kd.R_lt (ra_ HO_16.out))) (Kd.R_lt (ra_ HO_17.out))) (Kd.R_lt (ra_ HO318.out))) (below_size (bw_ HB.out)))
                         have n6_ := am_ (blk_below (bk_ BK288.out) hb)
                         have n7_ := am_ (blk_below (bk_ BK303.out) hb)
                         have n8_ := am_ (below_step (bw_ HB.out) hb)
                         replace HO_8 := n0_
                         replace HO_15 := n1_
                         replace HO_16 := n2_
                         replace HO_17 := n3_
                         replace HO318 := n4_
                         have HO306 := n5_
                         replace BK288 := n6_
                         replace BK303 := n7_
                         replace HB := n8_
                         clear n0_ n1_ n2_ n3_ n4_ n5_ n6_ n7_ n8_
                         clear hb ho58
                         refine hK.out _ _ ⟨cz_ BK303.out 0, cz_ BK303.out 1, cz_ BK303.out 2, cz_ BK303.out 3, cz_ BK303.out 4⟩ (fun hHeld => ?_)
                         clear hK K
                         refine nS_ ?_
                         exact nm_ (hJ2_12 (v305, v317) _ ⟨hHeld, (ra_ (Kd.R_mono HO306.out (fun _ hk => ⟨hk.2, ⟨hk.1.1.1.2, ⟨hk.1.1.2, hk.1.2⟩⟩⟩))), (ra_ (Kd.R_mono HO318.out (fun _ hk => ⟨hk.2, ⟨hk.1.1, ⟨hk.1.2.1, hk.1.2.2⟩⟩⟩))), (ra_ (Kd.R_mono HO_15.out (fun _ hk => ⟨hk.2, ⟨hk.1.1, ⟨hk.1.2.1, hk.1.2.2⟩⟩⟩))), (ra_ (Kd.R_mono HO_16.out (fun _ hk => ⟨hk.2, ⟨hk.1.1, ⟨hk.1.2.1, hk.1.2.2⟩⟩⟩))), (ra_ (Kd.R_mono HO_17.out (fun _ hk => ⟨hk.2, ⟨hk.1.1, ⟨hk.1.2.1, hk.1.2.2⟩⟩⟩))), (ra_ HO_8.out), (bk_ BK288.out), (bk_ BK303.out), (bw_ HB.out)⟩)
                        ·skip
                         refine Kd.R_lit_step (Kd.int .i64) _ 3 ?hg (N := 108) ?hd (xs := ([(rd_T74 l0 x92_3).f2] : List Int)) (inner := [.int .i64 ((rd_T74 l0 x92_3).f2)]) (ok := fun _ => True) (okp := fun _ => True) ?hr ?hp (fun _ hk => hk) trivial (Below.refl _ _) (Nat.le_refl _) (by simp) ?_; (case hd => rfl); (case hg => rfl); (case hr => first | (go_simp; done) | (go_simp; rfl)); (case hp => exact (Reps.one (show Kd.M (Kd.int .i64) _ _ _ ((rd_T74 l0 x92_3).f2) [.int .i64 ((rd_T74 l0 x92_3).f2)] from rfl) (Reps.none _ _)))
                         intro v311 w57 ho58 hb hg_ hnew_
                         clear hg_ hnew_
                         (first | rw [← Ny310.out] at ho58 | (simp only [Int.reduceToNat] at ho58; rw [← Ny310.out] at ho58))
                         have n0_ := am_ (Kd.R_below (ra_ HO_8.out) hb)
                         have n1_ := am_ (Kd.R_elder' (ra_ HO_15.out) (Kd.R_base ho58) hb)
                         have n2_ := am_ (Kd.R_elder' (ra_ HO_16.out) (Kd.R_base ho58) hb)
                         have n3_ := am_ (Kd.R_elder' (ra_ HO_17.out) (Kd.R_base ho58) hb)
                         have n4_ := am_ (Kd.R_elder' (ra_ HO318.out) (Kd.R_base ho58) hb)
                         have n5_ := am_ (Kd.R_lower (Kd.R_new' (Kd.R_new' (Kd.R_new' (Kd.R_new' ho58 (Kd.R_lt (ra_ HO_15.out))) (Kd.R_lt (ra_ HO_16.out))) (Kd.R_lt (ra_ HO_17.out))) (Kd.R_lt (ra_ HO318.out))) (below_size (bw_ HB.out)))
                         have n6_ := am_ (blk_below (bk_ BK288.out) hb)
                         have n7_ := am_ (blk_below (bk_ BK303.out) hb)
                         have n8_ := am_ (below_step (bw_ HB.out) hb)
                         replace HO_8 := n0_
                         replace HO_15 := n1_
                         replace HO_16 := n2_
                         replace HO_17 := n3_
                         replace HO318 := n4_
                         have HO312 := n5_
                         replace BK288 := n6_
                         replace BK303 := n7_
                         replace HB := n8_
                         clear n0_ n1_ n2_ n3_ n4_ n5_ n6_ n7_ n8_
                         clear hb ho58
                         refine hK.out _ _ ⟨cz_ BK303.out 0, cz_ BK303.out 1, cz_ BK303.out 2, cz_ BK303.out 3, cz_ BK303.out 4⟩ (fun hHeld => ?_)
                         clear hK K
                         refine nS_ ?_
                         exact nm_ (hJ7_12 (v311, v317) _ ⟨hHeld, (ra_ (Kd.R_mono HO312.out (fun _ hk => ⟨hk.2, ⟨hk.1.1.1.2, ⟨hk.1.1.2, hk.1.2⟩⟩⟩))), (ra_ (Kd.R_mono HO318.out (fun _ hk => ⟨hk.2, ⟨hk.1.1, ⟨hk.1.2.1, hk.1.2.2⟩⟩⟩))), (ra_ (Kd.R_mono HO_15.out (fun _ hk => ⟨hk.2, ⟨hk.1.1, ⟨hk.1.2.1, hk.1.2.2⟩⟩⟩))), (ra_ (Kd.R_mono HO_16.out (fun _ hk => ⟨hk.2, ⟨hk.1.1, ⟨hk.1.2.1, hk.1.2.2⟩⟩⟩))), (ra_ (Kd.R_mono HO_17.out (fun _ hk => ⟨hk.2, ⟨hk.1.1, ⟨hk.1.2.1, hk.1.2.2⟩⟩⟩))), (ra_ HO_8.out), (bk_ BK288.out), (bk_ BK303.out), (bw_ HB.out)⟩)
                      ·skip
                       rintro v311 w56 ⟨hS_, h0_, h1_, h2_, h3_, h4_, h5_, h6_, h7_⟩
                       have n0_ : Aside0 (Kd.R (Kd.int .i64) 3 w56 w.heap.size (fun k_ => nb k_ (.slice Ao49 x15_3.length co49) ∧ nb k_ (.slice Ao50 x16_3.length co50) ∧ nb k_ (.slice Ao51 x17_3.length co51)) v311 y310) := ⟨h0_⟩
                       have n1_ : Aside0 (Kd.R (Kd.int .i64) 3 w56 w.heap.size (fun k_ => nb k_ v311 ∧ nb k_ (.slice Ao50 x16_3.length co50) ∧ nb k_ (.slice Ao51 x17_3.length co51)) (.slice Ao49 x15_3.length co49) x15_3) := ⟨h1_⟩
                       have n2_ : Aside0 (Kd.R (Kd.int .i64) 3 w56 w.heap.size (fun k_ => nb k_ v311 ∧ nb k_ (.slice Ao49 x15_3.length co49) ∧ nb k_ (.slice Ao51 x17_3.length co51)) (.slice Ao50 x16_3.length co50) x16_3) := ⟨h2_⟩
                       have n3_ : Aside0 (Kd.R (Kd.int .i64) 3 w56 w.heap.size (fun k_ => nb k_ v311 ∧ nb k_ (.slice Ao49 x15_3.length co49) ∧ nb k_ (.slice Ao50 x16_3.length co50)) (.slice Ao51 x17_3.length co51) x17_3) := ⟨h3_⟩
                       have n4_ : Aside0 (Kd.R k72 72 w56 w.heap.size (fun _ => True) (.slice (some ⟨go17, 0, none⟩) x8_2.length co17) x8_2) := ⟨h4_⟩
                       have n5_ : Aside0 (w56.heap[gb288]? = some (.cells #[.int .i64 ((rd_T74 l0 x46_2).f0), .int .i64 ((rd_T74 l0 x46_2).f1), .int .i64 ((rd_T74 l0 x46_2).f2), .int .i64 ((rd_T74 l0 x46_2).f3), .int .i64 ((rd_T74 l0 x46_2).f4)] 74 (0, 0))) := ⟨h5_⟩
                       have n6_ : Aside0 (w56.heap[gb303]? = some (.cells #[.int .i64 ((rd_T74 l0 x92_3).f0), .int .i64 ((rd_T74 l0 x92_3).f1), .int .i64 ((rd_T74 l0 x92_3).f2), .int .i64 ((rd_T74 l0 x92_3).f3), .int .i64 ((rd_T74 l0 x92_3).f4)] 74 (0, 0))) := ⟨h6_⟩
                       have n7_ : Aside0 (Below w.heap.size w w56) := ⟨h7_⟩
                       clear HO_8
                       clear HO_15
                       clear HO_16
                       clear HO_17
                       clear BK288
                       clear BK303
                       clear HB
                       clear h0_ h1_ h2_ h3_ h4_ h5_ h6_ h7_
                       have HO312 := n0_
                       have HO_15 := n1_
                       have HO_16 := n2_
                       have HO_17 := n3_
                       have HO_8 := n4_
                       have BK288 := n5_
                       have BK303 := n6_
                       have HB := n7_
                       clear n0_ n1_ n2_ n3_ n4_ n5_ n6_ n7_
                       have hHeld : w56.cell? ⟨gb303, 0, none⟩ = some (.int .i64 ((rd_T74 l0 x92_3).f0)) ∧ w56.cell? ⟨gb303, 1, none⟩ = some (.int .i64 ((rd_T74 l0 x92_3).f1)) ∧ w56.cell? ⟨gb303, 2, none⟩ = some (.int .i64 ((rd_T74 l0 x92_3).f2)) ∧ w56.cell? ⟨gb303, 3, none⟩ = some (.int .i64 ((rd_T74 l0 x92_3).f3)) ∧ w56.cell? ⟨gb303, 4, none⟩ = some (.int .i64 ((rd_T74 l0 x92_3).f4)) := hS_
                       refine norm_ (a' := ?_) ?_ ?_
                       rotate_left
                       ·simp only [putAll, Act.put, List.setIfInBounds_toArray, List.set_cons_zero, List.set_cons_succ]
                        rfl
                       refine two_ (i := 2) (j := 12) (Ni := some 103) (Nj := some 113) #[true, true, true, false, true, true, true, true, false, true, true, true, false, false, false, false, false] #[true, true, false, false, true, true, true, true, false, true, true, true, true, false, false, false, false] rfl rfl rfl rfl (two_of HT_.out (by kernel_rfl)) (by decide) (by decide) (fun K hK => ?_) (fun K hK => ?_)
                       ·skip
                        refine Kd.R_lit_step (Kd.int .i64) _ 3 ?hg (N := 103) ?hd (xs := ([x92_3] : List Int)) (inner := [.int .i64 x92_3]) (ok := fun _ => True) (okp := fun _ => True) ?hr ?hp (fun _ hk => hk) trivial (Below.refl _ _) (Nat.le_refl _) (by simp) ?_; (case hd => rfl); (case hg => rfl); (case hr => first | (go_simp; done) | (go_simp; rfl)); (case hp => exact (Reps.one (show Kd.M (Kd.int .i64) _ _ _ x92_3 [.int .i64 x92_3] from rfl) (Reps.none _ _)))
                        intro v305 w57 ho58 hb hg_ hnew_
                        clear hg_ hnew_
                        (first | rw [← Ny304.out] at ho58 | (simp only [Int.reduceToNat] at ho58; rw [← Ny304.out] at ho58))
                        have n0_ := am_ (Kd.R_below (ra_ HO_8.out) hb)
                        have n1_ := am_ (Kd.R_elder' (ra_ HO_15.out) (Kd.R_base ho58) hb)
                        have n2_ := am_ (Kd.R_elder' (ra_ HO_16.out) (Kd.R_base ho58) hb)
                        have n3_ := am_ (Kd.R_elder' (ra_ HO_17.out) (Kd.R_base ho58) hb)
                        have n4_ := am_ (Kd.R_elder' (ra_ HO312.out) (Kd.R_base ho58) hb)
                        have n5_ := am_ (Kd.R_lower (Kd.R_new' (Kd.R_new' (Kd.R_new' (Kd.R_new' ho58 (Kd.R_lt (ra_ HO_15.out))) (Kd.R_lt (ra_ HO_16.out))) (Kd.R_lt (ra_ HO_17.out))) (Kd.R_lt (ra_ HO312.out))) (below_size (bw_ HB.out)))
                        have n6_ := am_ (blk_below (bk_ BK288.out) hb)
                        have n7_ := am_ (blk_below (bk_ BK303.out) hb)
                        have n8_ := am_ (below_step (bw_ HB.out) hb)
                        replace HO_8 := n0_
                        replace HO_15 := n1_
                        replace HO_16 := n2_
                        replace HO_17 := n3_
                        replace HO312 := n4_
                        have HO306 := n5_
                        replace BK288 := n6_
                        replace BK303 := n7_
                        replace HB := n8_
                        clear n0_ n1_ n2_ n3_ n4_ n5_ n6_ n7_ n8_
                        clear hb ho58
                        refine hK.out _ _ ⟨cz_ BK303.out 0, cz_ BK303.out 1, cz_ BK303.out 2, cz_ BK303.out 3, cz_ BK303.out 4⟩ (fun hHeld => ?_)
                        clear hK K
                        refine nS_ ?_
                        exact nm_ (hJ2_7 (v305, v311) _ ⟨hHeld, (ra_ (Kd.R_mono HO306.out (fun _ hk => ⟨hk.2, ⟨hk.1.1.1.2, ⟨hk.1.1.2, hk.1.2⟩⟩⟩))), (ra_ (Kd.R_mono HO312.out (fun _ hk => ⟨hk.2, ⟨hk.1.1, ⟨hk.1.2.1, hk.1.2.2⟩⟩⟩))), (ra_ (Kd.R_mono HO_15.out (fun _ hk => ⟨hk.2, ⟨hk.1.1, ⟨hk.1.2.1, hk.1.2.2⟩⟩⟩))), (ra_ (Kd.R_mono HO_16.out (fun _ hk => ⟨hk.2, ⟨hk.1.1, ⟨hk.1.2.1, hk.1.2.2⟩⟩⟩))), (ra_ (Kd.R_mono HO_17.out (fun _ hk => ⟨hk.2, ⟨hk.1.1, ⟨hk.1.2.1, hk.1.2.2⟩⟩⟩))), (ra_ HO_8.out), (bk_ BK288.out), (bk_ BK303.out), (bw_ HB.out)⟩)
                       ·skip
                        refine Kd.R_lit_step (Kd.int .i64) _ 3 ?hg (N := 113) ?hd (xs := ([(rd_T74 l0 x92_3).f3] : List Int)) (inner := [.int .i64 ((rd_T74 l0 x92_3).f3)]) (ok := fun _ => True) (okp := fun _ => True) ?hr ?hp (fun _ hk => hk) trivial (Below.refl _ _) (Nat.le_refl _) (by simp) ?_; (case hd => rfl); (case hg => rfl); (case hr => first | (go_simp; done) | (go_simp; rfl)); (case hp => exact (Reps.one (show Kd.M (Kd.int .i64) _ _ _ ((rd_T74 l0 x92_3).f3) [.int .i64 ((rd_T74 l0 x92_3).f3)] from rfl) (Reps.none _ _)))
                        intro v317 w57 ho58 hb hg_ hnew_
                        clear hg_ hnew_
                        (first | rw [← Ny316.out] at ho58 | (simp only [Int.reduceToNat] at ho58; rw [← Ny316.out] at ho58))
                        have n0_ := am_ (Kd.R_below (ra_ HO_8.out) hb)
                        have n1_ := am_ (Kd.R_elder' (ra_ HO_15.out) (Kd.R_base ho58) hb)
                        have n2_ := am_ (Kd.R_elder' (ra_ HO_16.out) (Kd.R_base ho58) hb)
                        have n3_ := am_ (Kd.R_elder' (ra_ HO_17.out) (Kd.R_base ho58) hb)
                        have n4_ := am_ (Kd.R_elder' (ra_ HO312.out) (Kd.R_base ho58) hb)
                        have n5_ := am_ (Kd.R_lower (Kd.R_new' (Kd.R_new' (Kd.R_new' (Kd.R_new' ho58 (Kd.R_lt (ra_ HO_15.out))) (Kd.R_lt (ra_ HO_16.out))) (Kd.R_lt (ra_ HO_17.out))) (Kd.R_lt (ra_ HO312.out))) (below_size (bw_ HB.out)))
                        have n6_ := am_ (blk_below (bk_ BK288.out) hb)
                        have n7_ := am_ (blk_below (bk_ BK303.out) hb)
                        have n8_ := am_ (below_step (bw_ HB.out) hb)
                        replace HO_8 := n0_
                        replace HO_15 := n1_
                        replace HO_16 := n2_
                        replace HO_17 := n3_
                        replace HO312 := n4_
                        have HO318 := n5_
                        replace BK288 := n6_
                        replace BK303 := n7_
                        replace HB := n8_
                        clear n0_ n1_ n2_ n3_ n4_ n5_ n6_ n7_ n8_
                        clear hb ho58
                        refine hK.out _ _ ⟨cz_ BK303.out 0, cz_ BK303.out 1, cz_ BK303.out 2, cz_ BK303.out 3, cz_ BK303.out 4⟩ (fun hHeld => ?_)
                        clear hK K
                        refine nS_ ?_
                        exact nm_ (hJ7_12 (v311, v317) _ ⟨hHeld, (ra_ (Kd.R_mono HO312.out (fun _ hk => ⟨hk.2, ⟨hk.1.1, ⟨hk.1.2.1, hk.1.2.2⟩⟩⟩))), (ra_ (Kd.R_mono HO318.out (fun _ hk => ⟨hk.2, ⟨hk.1.1.1.2, ⟨hk.1.1.2, hk.1.2⟩⟩⟩))), (ra_ (Kd.R_mono HO_15.out (fun _ hk => ⟨hk.1.1, ⟨hk.2, ⟨hk.1.2.1, hk.1.2.2⟩⟩⟩))), (ra_ (Kd.R_mono HO_16.out (fun _ hk => ⟨hk.1.1, ⟨hk.2, ⟨hk.1.2.1, hk.1.2.2⟩⟩⟩))), (ra_ (Kd.R_mono HO_17.out (fun _ hk => ⟨hk.1.1, ⟨hk.2, ⟨hk.1.2.1, hk.1.2.2⟩⟩⟩))), (ra_ HO_8.out), (bk_ BK288.out), (bk_ BK303.out), (bw_ HB.out)⟩)
                     ·skip
                      rintro v305 w56 ⟨hS_, h0_, h1_, h2_, h3_, h4_, h5_, h6_, h7_⟩
                      have n0_ : Aside0 (Kd.R (Kd.int .i64) 3 w56 w.heap.size (fun k_ => nb k_ (.slice Ao49 x15_3.length co49) ∧ nb k_ (.slice Ao50 x16_3.length co50) ∧ nb k_ (.slice Ao51 x17_3.length co51)) v305 y304) := ⟨h0_⟩
                      have n1_ : Aside0 (Kd.R (Kd.int .i64) 3 w56 w.heap.size (fun k_ => nb k_ v305 ∧ nb k_ (.slice Ao50 x16_3.length co50) ∧ nb k_ (.slice Ao51 x17_3.length co51)) (.slice Ao49 x15_3.length co49) x15_3) := ⟨h1_⟩
                      have n2_ : Aside0 (Kd.R (Kd.int .i64) 3 w56 w.heap.size (fun k_ => nb k_ v305 ∧ nb k_ (.slice Ao49 x15_3.length co49) ∧ nb k_ (.slice Ao51 x17_3.length co51)) (.slice Ao50 x16_3.length co50) x16_3) := ⟨h2_⟩
                      have n3_ : Aside0 (Kd.R (Kd.int .i64) 3 w56 w.heap.size (fun k_ => nb k_ v305 ∧ nb k_ (.slice Ao49 x15_3.length co49) ∧ nb k_ (.slice Ao50 x16_3.length co50)) (.slice Ao51 x17_3.length co51) x17_3) := ⟨h3_⟩
                      have n4_ : Aside0 (Kd.R k72 72 w56 w.heap.size (fun _ => True) (.slice (some ⟨go17, 0, none⟩) x8_2.length co17) x8_2) := ⟨h4_⟩
                      have n5_ : Aside0 (w56.heap[gb288]? = some (.cells #[.int .i64 ((rd_T74 l0 x46_2).f0), .int .i64 ((rd_T74 l0 x46_2).f1), .int .i64 ((rd_T74 l0 x46_2).f2), .int .i64 ((rd_T74 l0 x46_2).f3), .int .i64 ((rd_T74 l0 x46_2).f4)] 74 (0, 0))) := ⟨h5_⟩
                      have n6_ : Aside0 (w56.heap[gb303]? = some (.cells #[.int .i64 ((rd_T74 l0 x92_3).f0), .int .i64 ((rd_T74 l0 x92_3).f1), .int .i64 ((rd_T74 l0 x92_3).f2), .int .i64 ((rd_T74 l0 x92_3).f3), .int .i64 ((rd_T74 l0 x92_3).f4)] 74 (0, 0))) := ⟨h6_⟩
                      have n7_ : Aside0 (Below w.heap.size w w56) := ⟨h7_⟩
                      clear HO_8
                      clear HO_15
                      clear HO_16
                      clear HO_17
                      clear BK288
                      clear BK303
                      clear HB
                      clear h0_ h1_ h2_ h3_ h4_ h5_ h6_ h7_
                      have HO306 := n0_
                      have HO_15 := n1_
                      have HO_16 := n2_
                      have HO_17 := n3_
                      have HO_8 := n4_
                      have BK288 := n5_
                      have BK303 := n6_
                      have HB := n7_
                      clear n0_ n1_ n2_ n3_ n4_ n5_ n6_ n7_
                      have hHeld : w56.cell? ⟨gb303, 0, none⟩ = some (.int .i64 ((rd_T74 l0 x92_3).f0)) ∧ w56.cell? ⟨gb303, 1, none⟩ = some (.int .i64 ((rd_T74 l0 x92_3).f1)) ∧ w56.cell? ⟨gb303, 2, none⟩ = some (.int .i64 ((rd_T74 l0 x92_3).f2)) ∧ w56.cell? ⟨gb303, 3, none⟩ = some (.int .i64 ((rd_T74 l0 x92_3).f3)) ∧ w56.cell? ⟨gb303, 4, none⟩ = some (.int .i64 ((rd_T74 l0 x92_3).f4)) := hS_
                      obtain ⟨Ao58, co58, eo58⟩ := Kd.R_slice HO306.out
                      (first | subst eo58 | (injection eo58 with f1_ f2_ f3_; have f4_ := f1_.symm; have f5_ := f3_.symm; clear f1_ f2_ f3_; subst f4_; subst f5_))
                      refine norm_ (a' := ?_) ?_ ?_
                      rotate_left
                      ·simp only [putAll, Act.put, List.setIfInBounds_toArray, List.set_cons_zero, List.set_cons_succ]
                       rfl
                      refine three_ (i := 3) (j := 7) (k := 12) (Ni := some 104) (Nj := some 108) (Nk := some 113) #[true, true, true, true, true, true, true, false, false, true, true, true, false, false, false, false, false] #[true, true, true, false, true, true, true, true, false, true, true, true, false, false, false, false, false] #[true, true, true, false, true, true, true, false, false, true, true, true, true, false, false, false, false] rfl rfl rfl rfl rfl rfl (three_of HT_.out (by kernel_rfl)) (by decide) (by decide) (by decide) (fun K hK => ?_) (fun K hK => ?_) (fun K hK => ?_)
                      ·skip
                       refine Kd.R_append_rows_step (Kd.int .i64) (w0 := w) w.heap.size (by rfl) (.tmp 101) (.tmp 103) 24 3 (.int .i64 0) 8 rfl Try.underlying24 info3 rfl (by decide) (by omega) (.slice Ao49 x15_3.length co49) x15_3 y304 _ _ _ (fun k_ => nb k_ (.slice Ao50 x16_3.length co50) ∧ nb k_ (.slice Ao51 x17_3.length co51) ∧ nb k_ (.slice Ao58 y304.length co58)) (fun _ => False) rfl rfl ?aO ?aR (fun _ _ h => h) (fun _ h => h.elim) ?aF ?aB ?aS ?aL ?_
                       (case aR => repeat (first | exact (Kd.R_reads' HO306.out).2.2 | (with_reducible refine Kd.C_alloc ?_ _) | (with_reducible refine Kd.C_drewN ?_ _) | (with_reducible refine Kd.C_drew ?_)))
                       (case aB => exact (bw_ HB.out))
                       (case aF => exact (fun k_ hk => ⟨Kd.fresh' (Kd.R_lt (ra_ HO_16.out)) k_ hk, Kd.fresh' (Kd.R_lt (ra_ HO_17.out)) k_ hk, Kd.fresh' (Kd.R_lt (ra_ HO306.out)) k_ hk⟩))
                       (case aO => exact (ra_ (Kd.R_mono HO_15.out (fun _ hk => ⟨hk.2.1, ⟨hk.2.2, hk.1⟩⟩))))
                       (case aS => exact (below_size (bw_ HB.out)))
                       (case aL => have := LMc43.out; omega)
                       intro v308 w57 ho hb hg hat
                       rw [← Ny307.out] at ho
                       have n0_ := am_ (Kd.R_over' (ra_ HO_8.out) (Kd.R_typed (ra_ HO_15.out)) (by decide) hg)
                       have n1_ := am_ (Kd.R_after (ok := (fun k_ => nb k_ (.slice Ao51 x17_3.length co51) ∧ nb k_ (.slice Ao58 y304.length co58))) (ra_ (Kd.R_mono HO_16.out (fun _ hk => ⟨⟨hk.2.2, hk.1⟩, hk.2.1⟩))) hg hat)
                       have n2_ := am_ (Kd.R_after (ok := (fun k_ => nb k_ (.slice Ao50 x16_3.length co50) ∧ nb k_ (.slice Ao58 y304.length co58))) (ra_ (Kd.R_mono HO_17.out (fun _ hk => ⟨⟨hk.2.2, hk.1⟩, hk.2.1⟩))) hg hat)
                       have n3_ := am_ (blk_grown (bk_ BK288.out) hg (Kd.R_ne HO_15.out BK288.out (by decide)))
                       have n4_ := am_ (blk_grown (bk_ BK303.out) hg (Kd.R_ne HO_15.out BK303.out (by decide)))
                       have n5_ := am_ (Kd.R_after (ok := (fun k_ => nb k_ (.slice Ao50 x16_3.length co50) ∧ nb k_ (.slice Ao51 x17_3.length co51))) (ra_ (Kd.R_mono HO306.out (fun _ hk => ⟨⟨hk.2.1, hk.2.2⟩, hk.1⟩))) hg hat)
                       have n6_ := am_ (hb)
                       have n7_ := am_ (ho)
                       clear HO_15
                       replace HO_8 := n0_
                       replace HO_16 := n1_
                       replace HO_17 := n2_
                       replace BK288 := n3_
                       replace BK303 := n4_
                       replace HO306 := n5_
                       replace HB := n6_
                       have HO309 := n7_
                       clear n0_ n1_ n2_ n3_ n4_ n5_ n6_ n7_
                       clear ho hb hg hat
                       refine hK.out _ _ ⟨cz_ BK303.out 0, cz_ BK303.out 1, cz_ BK303.out 2, cz_ BK303.out 3, cz_ BK303.out 4⟩ (fun hHeld => ?_)
                       clear hK K
                       refine nS_ ?_
                       exact nm_ (hJ2_3 (.slice Ao58 y304.length co58, v308) _ ⟨hHeld, (ra_ (Kd.R_mono HO306.out (fun _ hk => ⟨hk.2, ⟨hk.1.1, hk.1.2⟩⟩))), (ra_ (Kd.R_mono HO309.out (fun _ hk => ⟨hk.2.2, ⟨hk.1, hk.2.1⟩⟩))), (ra_ (Kd.R_mono HO_16.out (fun _ hk => ⟨hk.1.2, ⟨hk.2, hk.1.1⟩⟩))), (ra_ (Kd.R_mono HO_17.out (fun _ hk => ⟨hk.1.2, ⟨hk.2, hk.1.1⟩⟩))), (ra_ HO_8.out), (bk_ BK288.out), (bk_ BK303.out), (bw_ HB.out)⟩)
                      ·skip
                       refine Kd.R_lit_step (Kd.int .i64) _ 3 ?hg (N := 108) ?hd (xs := ([(rd_T74 l0 x92_3).f2] : List Int)) (inner := [.int .i64 ((rd_T74 l0 x92_3).f2)]) (ok := fun _ => True) (okp := fun _ => True) ?hr ?hp (fun _ hk => hk) trivial (Below.refl _ _) (Nat.le_refl _) (by simp) ?_; (case hd => rfl); (case hg => rfl); (case hr => first | (go_simp; done) | (go_simp; rfl)); (case hp => exact (Reps.one (show Kd.M (Kd.int .i64) _ _ _ ((rd_T74 l0 x92_3).f2) [.int .i64 ((rd_T74 l0 x92_3).f2)] from rfl) (Reps.none _ _)))
                       intro v311 w57 ho58 hb hg_ hnew_
                       clear hg_ hnew_
                       (first | rw [← Ny310.out] at ho58 | (simp only [Int.reduceToNat] at ho58; rw [← Ny310.out] at ho58))
                       have n0_ := am_ (Kd.R_below (ra_ HO_8.out) hb)
                       have n1_ := am_ (Kd.R_elder' (ra_ HO_15.out) (Kd.R_base ho58) hb)
                       have n2_ := am_ (Kd.R_elder' (ra_ HO_16.out) (Kd.R_base ho58) hb)
                       have n3_ := am_ (Kd.R_elder' (ra_ HO_17.out) (Kd.R_base ho58) hb)
                       have n4_ := am_ (Kd.R_elder' (ra_ HO306.out) (Kd.R_base ho58) hb)
                       have n5_ := am_ (Kd.R_lower (Kd.R_new' (Kd.R_new' (Kd.R_new' (Kd.R_new' ho58 (Kd.R_lt (ra_ HO_15.out))) (Kd.R_lt (ra_ HO_16.out))) (Kd.R_lt (ra_ HO_17.out))) (Kd.R_lt (ra_ HO306.out))) (below_size (bw_ HB.out)))
                       have n6_ := am_ (blk_below (bk_ BK288.out) hb)
                       have n7_ := am_ (blk_below (bk_ BK303.out) hb)
                       have n8_ := am_ (below_step (bw_ HB.out) hb)
                       replace HO_8 := n0_
                       replace HO_15 := n1_
                       replace HO_16 := n2_
                       replace HO_17 := n3_
                       replace HO306 := n4_
                       have HO312 := n5_
                       replace BK288 := n6_
                       replace BK303 := n7_
                       replace HB := n8_
                       clear n0_ n1_ n2_ n3_ n4_ n5_ n6_ n7_ n8_
                       clear hb ho58
                       refine hK.out _ _ ⟨cz_ BK303.out 0, cz_ BK303.out 1, cz_ BK303.out 2, cz_ BK303.out 3, cz_ BK303.out 4⟩ (fun hHeld => ?_)
                       clear hK K
                       refine nS_ ?_
                       exact nm_ (hJ2_7 (_, v311) _ ⟨hHeld, (ra_ (Kd.R_mono HO306.out (fun _ hk => ⟨hk.2, ⟨hk.1.1, ⟨hk.1.2.1, hk.1.2.2⟩⟩⟩))), (ra_ (Kd.R_mono HO312.out (fun _ hk => ⟨hk.2, ⟨hk.1.1.1.2, ⟨hk.1.1.2, hk.1.2⟩⟩⟩))), (ra_ (Kd.R_mono HO_15.out (fun _ hk => ⟨hk.1.1, ⟨hk.2, ⟨hk.1.2.1, hk.1.2.2⟩⟩⟩))), (ra_ (Kd.R_mono HO_16.out (fun _ hk => ⟨hk.1.1, ⟨hk.2, ⟨hk.1.2.1, hk.1.2.2⟩⟩⟩))), (ra_ (Kd.R_mono HO_17.out (fun _ hk => ⟨hk.1.1, ⟨hk.2, ⟨hk.1.2.1, hk.1.2.2⟩⟩⟩))), (ra_ HO_8.out), (bk_ BK288.out), (bk_ BK303.out), (bw_ HB.out)⟩)
                      ·skip
                       refine Kd.R_lit_step (Kd.int .i64) _ 3 ?hg (N := 113) ?hd (xs := ([(rd_T74 l0 x92_3).f3] : List Int)) (inner := [.int .i64 ((rd_T74 l0 x92_3).f3)]) (ok := fun _ => True) (okp := fun _ => True) ?hr ?hp (fun _ hk => hk) trivial (Below.refl _ _) (Nat.le_refl _) (by simp) ?_; (case hd => rfl); (case hg => rfl); (case hr => first | (go_simp; done) | (go_simp; rfl)); (case hp => exact (Reps.one (show Kd.M (Kd.int .i64) _ _ _ ((rd_T74 l0 x92_3).f3) [.int .i64 ((rd_T74 l0 x92_3).f3)] from rfl) (Reps.none _ _)))
                       intro v317 w57 ho58 hb hg_ hnew_
                       clear hg_ hnew_
                       (first | rw [← Ny316.out] at ho58 | (simp only [Int.reduceToNat] at ho58; rw [← Ny316.out] at ho58))
                       have n0_ := am_ (Kd.R_below (ra_ HO_8.out) hb)
                       have n1_ := am_ (Kd.R_elder' (ra_ HO_15.out) (Kd.R_base ho58) hb)
                       have n2_ := am_ (Kd.R_elder' (ra_ HO_16.out) (Kd.R_base ho58) hb)
                       have n3_ := am_ (Kd.R_elder' (ra_ HO_17.out) (Kd.R_base ho58) hb)
                       have n4_ := am_ (Kd.R_elder' (ra_ HO306.out) (Kd.R_base ho58) hb)
                       have n5_ := am_ (Kd.R_lower (Kd.R_new' (Kd.R_new' (Kd.R_new' (Kd.R_new' ho58 (Kd.R_lt (ra_ HO_15.out))) (Kd.R_lt (ra_ HO_16.out))) (Kd.R_lt (ra_ HO_17.out))) (Kd.R_lt (ra_ HO306.out))) (below_size (bw_ HB.out)))
                       have n6_ := am_ (blk_below (bk_ BK288.out) hb)
                       have n7_ := am_ (blk_below (bk_ BK303.out) hb)
                       have n8_ := am_ (below_step (bw_ HB.out) hb)
                       replace HO_8 := n0_
                       replace HO_15 := n1_
                       replace HO_16 := n2_
                       replace HO_17 := n3_
                       replace HO306 := n4_
                       have HO318 := n5_
                       replace BK288 := n6_
                       replace BK303 := n7_
                       replace HB := n8_
                       clear n0_ n1_ n2_ n3_ n4_ n5_ n6_ n7_ n8_
                       clear hb ho58
                       refine hK.out _ _ ⟨cz_ BK303.out 0, cz_ BK303.out 1, cz_ BK303.out 2, cz_ BK303.out 3, cz_ BK303.out 4⟩ (fun hHeld => ?_)
                       clear hK K
                       refine nS_ ?_
                       exact nm_ (hJ2_12 (_, v317) _ ⟨hHeld, (ra_ (Kd.R_mono HO306.out (fun _ hk => ⟨hk.2, ⟨hk.1.1, ⟨hk.1.2.1, hk.1.2.2⟩⟩⟩))), (ra_ (Kd.R_mono HO318.out (fun _ hk => ⟨hk.2, ⟨hk.1.1.1.2, ⟨hk.1.1.2, hk.1.2⟩⟩⟩))), (ra_ (Kd.R_mono HO_15.out (fun _ hk => ⟨hk.1.1, ⟨hk.2, ⟨hk.1.2.1, hk.1.2.2⟩⟩⟩))), (ra_ (Kd.R_mono HO_16.out (fun _ hk => ⟨hk.1.1, ⟨hk.2, ⟨hk.1.2.1, hk.1.2.2⟩⟩⟩))), (ra_ (Kd.R_mono HO_17.out (fun _ hk => ⟨hk.1.1, ⟨hk.2, ⟨hk.1.2.1, hk.1.2.2⟩⟩⟩))), (ra_ HO_8.out), (bk_ BK288.out), (bk_ BK303.out), (bw_ HB.out)⟩)
                    ·skip
                     rintro ⟨v311, v317⟩ w58 ⟨hS_, h0_, h1_, h2_, h3_, h4_, h5_, h6_, h7_, h8_⟩
                     have n0_ : Aside0 (Kd.R (Kd.int .i64) 3 w58 w.heap.size (fun k_ => nb k_ v317 ∧ nb k_ (.slice Ao49 x15_3.length co49) ∧ nb k_ (.slice Ao50 x16_3.length co50) ∧ nb k_ (.slice Ao51 x17_3.length co51)) v311 y310) := ⟨h0_⟩
                     have n1_ : Aside0 (Kd.R (Kd.int .i64) 3 w58 w.heap.size (fun k_ => nb k_ v311 ∧ nb k_ (.slice Ao49 x15_3.length co49) ∧ nb k_ (.slice Ao50 x16_3.length co50) ∧ nb k_ (.slice Ao51 x17_3.length co51)) v317 y316) := ⟨h1_⟩
                     have n2_ : Aside0 (Kd.R (Kd.int .i64) 3 w58 w.heap.size (fun k_ => nb k_ v311 ∧ nb k_ v317 ∧ nb k_ (.slice Ao50 x16_3.length co50) ∧ nb k_ (.slice Ao51 x17_3.length co51)) (.slice Ao49 x15_3.length co49) x15_3) := ⟨h2_⟩
                     have n3_ : Aside0 (Kd.R (Kd.int .i64) 3 w58 w.heap.size (fun k_ => nb k_ v311 ∧ nb k_ v317 ∧ nb k_ (.slice Ao49 x15_3.length co49) ∧ nb k_ (.slice Ao51 x17_3.length co51)) (.slice Ao50 x16_3.length co50) x16_3) := ⟨h3_⟩
                     have n4_ : Aside0 (Kd.R (Kd.int .i64) 3 w58 w.heap.size (fun k_ => nb k_ v311 ∧ nb k_ v317 ∧ nb k_ (.slice Ao49 x15_3.length co49) ∧ nb k_ (.slice Ao50 x16_3.length co50)) (.slice Ao51 x17_3.length co51) x17_3) := ⟨h4_⟩
                     have n5_ : Aside0 (Kd.R k72 72 w58 w.heap.size (fun _ => True) (.slice (some ⟨go17, 0, none⟩) x8_2.length co17) x8_2) := ⟨h5_⟩
                     have n6_ : Aside0 (w58.heap[gb288]? = some (.cells #[.int .i64 ((rd_T74 l0 x46_2).f0), .int .i64 ((rd_T74 l0 x46_2).f1), .int .i64 ((rd_T74 l0 x46_2).f2), .int .i64 ((rd_T74 l0 x46_2).f3), .int .i64 ((rd_T74 l0 x46_2).f4)] 74 (0, 0))) := ⟨h6_⟩
                     have n7_ : Aside0 (w58.heap[gb303]? = some (.cells #[.int .i64 ((rd_T74 l0 x92_3).f0), .int .i64 ((rd_T74 l0 x92_3).f1), .int .i64 ((rd_T74 l0 x92_3).f2), .int .i64 ((rd_T74 l0 x92_3).f3), .int .i64 ((rd_T74 l0 x92_3).f4)] 74 (0, 0))) := ⟨h7_⟩
                     have n8_ : Aside0 (Below w.heap.size w w58) := ⟨h8_⟩
                     clear HO_8
                     clear HO_15
                     clear HO_16
                     clear HO_17
                     clear BK288
                     clear BK303
                     clear HB
                     clear h0_ h1_ h2_ h3_ h4_ h5_ h6_ h7_ h8_
                     have HO312 := n0_
                     have HO318 := n1_
                     have HO_15 := n2_
                     have HO_16 := n3_
                     have HO_17 := n4_
                     have HO_8 := n5_
                     have BK288 := n6_
                     have BK303 := n7_
                     have HB := n8_
                     clear n0_ n1_ n2_ n3_ n4_ n5_ n6_ n7_ n8_
                     have hHeld : w58.cell? ⟨gb303, 0, none⟩ = some (.int .i64 ((rd_T74 l0 x92_3).f0)) ∧ w58.cell? ⟨gb303, 1, none⟩ = some (.int .i64 ((rd_T74 l0 x92_3).f1)) ∧ w58.cell? ⟨gb303, 2, none⟩ = some (.int .i64 ((rd_T74 l0 x92_3).f2)) ∧ w58.cell? ⟨gb303, 3, none⟩ = some (.int .i64 ((rd_T74 l0 x92_3).f3)) ∧ w58.cell? ⟨gb303, 4, none⟩ = some (.int .i64 ((rd_T74 l0 x92_3).f4)) := hS_
                     refine norm_ (a' := ?_) ?_ ?_
                     rotate_left
                     ·simp only [putAll, Act.put, List.setIfInBounds_toArray, List.set_cons_zero, List.set_cons_succ]
                      rfl
                     refine oS_ 2 103 HT_ (fun K hK => ?_)
                     refine Kd.R_lit_step (Kd.int .i64) _ 3 ?hg (N := 103) ?hd (xs := ([x92_3] : List Int)) (inner := [.int .i64 x92_3]) (ok := fun _ => True) (okp := fun _ => True) ?hr ?hp (fun _ hk => hk) trivial (Below.refl _ _) (Nat.le_refl _) (by simp) ?_; (case hd => rfl); (case hg => rfl); (case hr => first | (go_simp; done) | (go_simp; rfl)); (case hp => exact (Reps.one (show Kd.M (Kd.int .i64) _ _ _ x92_3 [.int .i64 x92_3] from rfl) (Reps.none _ _)))
                     intro v305 w59 ho60 hb hg_ hnew_
                     clear hg_ hnew_
                     (first | rw [← Ny304.out] at ho60 | (simp only [Int.reduceToNat] at ho60; rw [← Ny304.out] at ho60))
                     have n0_ := am_ (Kd.R_below (ra_ HO_8.out) hb)
                     have n1_ := am_ (Kd.R_elder' (ra_ HO_15.out) (Kd.R_base ho60) hb)
                     have n2_ := am_ (Kd.R_elder' (ra_ HO_16.out) (Kd.R_base ho60) hb)
                     have n3_ := am_ (Kd.R_elder' (ra_ HO_17.out) (Kd.R_base ho60) hb)
                     have n4_ := am_ (Kd.R_elder' (ra_ HO312.out) (Kd.R_base ho60) hb)
                     have n5_ := am_ (Kd.R_elder' (ra_ HO318.out) (Kd.R_base ho60) hb)
                     have n6_ := am_ (Kd.R_lower (Kd.R_new' (Kd.R_new' (Kd.R_new' (Kd.R_new' (Kd.R_new' ho60 (Kd.R_lt (ra_ HO_15.out))) (Kd.R_lt (ra_ HO_16.out))) (Kd.R_lt (ra_ HO_17.out))) (Kd.R_lt (ra_ HO312.out))) (Kd.R_lt (ra_ HO318.out))) (below_size (bw_ HB.out)))
                     have n7_ := am_ (blk_below (bk_ BK288.out) hb)
                     have n8_ := am_ (blk_below (bk_ BK303.out) hb)
                     have n9_ := am_ (below_step (bw_ HB.out) hb)
                     replace HO_8 := n0_
                     replace HO_15 := n1_
                     replace HO_16 := n2_
                     replace HO_17 := n3_
                     replace HO312 := n4_
                     replace HO318 := n5_
                     have HO306 := n6_
                     replace BK288 := n7_
                     replace BK303 := n8_
                     replace HB := n9_
                     clear n0_ n1_ n2_ n3_ n4_ n5_ n6_ n7_ n8_ n9_
                     clear hb ho60
                     refine hK.out _ _ ⟨cz_ BK303.out 0, cz_ BK303.out 1, cz_ BK303.out 2, cz_ BK303.out 3, cz_ BK303.out 4⟩ (fun hHeld => ?_)
                     clear hK K
                     refine nS_ ?_
                     exact nm_ (hJ2_7_12 (v305, v311, v317) _ ⟨hHeld, (ra_ (Kd.R_mono HO306.out (fun _ hk => ⟨hk.1.2, ⟨hk.2, ⟨hk.1.1.1.1.2, ⟨hk.1.1.1.2, hk.1.1.2⟩⟩⟩⟩))), (ra_ (Kd.R_mono HO312.out (fun _ hk => ⟨hk.2, ⟨hk.1.1, ⟨hk.1.2.1, ⟨hk.1.2.2.1, hk.1.2.2.2⟩⟩⟩⟩))), (ra_ (Kd.R_mono HO318.out (fun _ hk => ⟨hk.2, ⟨hk.1.1, ⟨hk.1.2.1, ⟨hk.1.2.2.1, hk.1.2.2.2⟩⟩⟩⟩))), (ra_ (Kd.R_mono HO_15.out (fun _ hk => ⟨hk.2, ⟨hk.1.1, ⟨hk.1.2.1, ⟨hk.1.2.2.1, hk.1.2.2.2⟩⟩⟩⟩))), (ra_ (Kd.R_mono HO_16.out (fun _ hk => ⟨hk.2, ⟨hk.1.1, ⟨hk.1.2.1, ⟨hk.1.2.2.1, hk.1.2.2.2⟩⟩⟩⟩))), (ra_ (Kd.R_mono HO_17.out (fun _ hk => ⟨hk.2, ⟨hk.1.1, ⟨hk.1.2.1, ⟨hk.1.2.2.1, hk.1.2.2.2⟩⟩⟩⟩))), (ra_ HO_8.out), (bk_ BK288.out), (bk_ BK303.out), (bw_ HB.out)⟩)
                   ·skip
                    rintro ⟨v305, v317⟩ w58 ⟨hS_, h0_, h1_, h2_, h3_, h4_, h5_, h6_, h7_, h8_⟩
                    have n0_ : Aside0 (Kd.R (Kd.int .i64) 3 w58 w.heap.size (fun k_ => nb k_ v317 ∧ nb k_ (.slice Ao49 x15_3.length co49) ∧ nb k_ (.slice Ao50 x16_3.length co50) ∧ nb k_ (.slice Ao51 x17_3.length co51)) v305 y304) := ⟨h0_⟩
                    have n1_ : Aside0 (Kd.R (Kd.int .i64) 3 w58 w.heap.size (fun k_ => nb k_ v305 ∧ nb k_ (.slice Ao49 x15_3.length co49) ∧ nb k_ (.slice Ao50 x16_3.length co50) ∧ nb k_ (.slice Ao51 x17_3.length co51)) v317 y316) := ⟨h1_⟩
                    have n2_ : Aside0 (Kd.R (Kd.int .i64) 3 w58 w.heap.size (fun k_ => nb k_ v305 ∧ nb k_ v317 ∧ nb k_ (.slice Ao50 x16_3.length co50) ∧ nb k_ (.slice Ao51 x17_3.length co51)) (.slice Ao49 x15_3.length co49) x15_3) := ⟨h2_⟩
                    have n3_ : Aside0 (Kd.R (Kd.int .i64) 3 w58 w.heap.size (fun k_ => nb k_ v305 ∧ nb k_ v317 ∧ nb k_ (.slice Ao49 x15_3.length co49) ∧ nb k_ (.slice Ao51 x17_3.length co51)) (.slice Ao50 x16_3.length co50) x16_3) := ⟨h3_⟩
                    have n4_ : Aside0 (Kd.R (Kd.int .i64) 3 w58 w.heap.size (fun k_ => nb k_ v305 ∧ nb k_ v317 ∧ nb k_ (.slice Ao49 x15_3.length co49) ∧ nb k_ (.slice Ao50 x16_3.length co50)) (.slice Ao51 x17_3.length co51) x17_3) := ⟨h4_⟩
                    have n5_ : Aside0 (Kd.R k72 72 w58 w.heap.size (fun _ => True) (.slice (some ⟨go17, 0, none⟩) x8_2.length co17) x8_2) := ⟨h5_⟩
                    have n6_ : Aside0 (w58.heap[gb288]? = some (.cells #[.int .i64 ((rd_T74 l0 x46_2).f0), .int .i64 ((rd_T74 l0 x46_2).f1), .int .i64 ((rd_T74 l0 x46_2).f2), .int .i64 ((rd_T74 l0 x46_2).f3), .int .i64 ((rd_T74 l0 x46_2).f4)] 74 (0, 0))) := ⟨h6_⟩
                    have n7_ : Aside0 (w58.heap[gb303]? = some (.cells #[.int .i64 ((rd_T74 l0 x92_3).f0), .int .i64 ((rd_T74 l0 x92_3).f1), .int .i64 ((rd_T74 l0 x92_3).f2), .int .i64 ((rd_T74 l0 x92_3).f3), .int .i64 ((rd_T74 l0 x92_3).f4)] 74 (0, 0))) := ⟨h7_⟩
                    have n8_ : Aside0 (Below w.heap.size w w58) := ⟨h8_⟩
                    clear HO_8
                    clear HO_15
                    clear HO_16
                    clear HO_17
                    clear BK288
                    clear BK303
                    clear HB
                    clear h0_ h1_ h2_ h3_ h4_ h5_ h6_ h7_ h8_
                    have HO306 := n0_
                    have HO318 := n1_
                    have HO_15 := n2_
                    have HO_16 := n3_
                    have HO_17 := n4_
                    have HO_8 := n5_
                    have BK288 := n6_
                    have BK303 := n7_
                    have HB := n8_
                    clear n0_ n1_ n2_ n3_ n4_ n5_ n6_ n7_ n8_
                    have hHeld : w58.cell? ⟨gb303, 0, none⟩ = some (.int .i64 ((rd_T74 l0 x92_3).f0)) ∧ w58.cell? ⟨gb303, 1, none⟩ = some (.int .i64 ((rd_T74 l0 x92_3).f1)) ∧ w58.cell? ⟨gb303, 2, none⟩ = some (.int .i64 ((rd_T74 l0 x92_3).f2)) ∧ w58.cell? ⟨gb303, 3, none⟩ = some (.int .i64 ((rd_T74 l0 x92_3).f3)) ∧ w58.cell? ⟨gb303, 4, none⟩ = some (.int .i64 ((rd_T74 l0 x92_3).f4)) := hS_
                    obtain ⟨Ao60, co60, eo60⟩ := Kd.R_slice HO306.out
                    (first | subst eo60 | (injection eo60 with f1_ f2_ f3_; have f4_ := f1_.symm; have f5_ := f3_.symm; clear f1_ f2_ f3_; subst f4_; subst f5_))
                    refine norm_ (a' := ?_) ?_ ?_
                    rotate_left
                    ·simp only [putAll, Act.put, List.setIfInBounds_toArray, List.set_cons_zero, List.set_cons_succ]
                     rfl
                    refine two_ (i := 3) (j := 7) (Ni := some 104) (Nj := some 108) #[true, true, true, true, true, true, true, false, false, true, true, true, true, false, false, false, false] #[true, true, true, false, true, true, true, true, false, true, true, true, true, false, false, false, false] rfl rfl rfl rfl (two_of HT_.out (by kernel_rfl)) (by decide) (by decide) (fun K hK => ?_) (fun K hK => ?_)
                    ·skip
                     refine Kd.R_append_rows_step (Kd.int .i64) (w0 := w) w.heap.size (by rfl) (.tmp 101) (.tmp 103) 24 3 (.int .i64 0) 8 rfl Try.underlying24 info3 rfl (by decide) (by omega) (.slice Ao49 x15_3.length co49) x15_3 y304 _ _ _ (fun k_ => nb k_ (.slice Ao50 x16_3.length co50) ∧ nb k_ (.slice Ao51 x17_3.length co51) ∧ nb k_ (.slice Ao60 y304.length co60) ∧ nb k_ v317) (fun _ => False) rfl rfl ?aO ?aR (fun _ _ h => h) (fun _ h => h.elim) ?aF ?aB ?aS ?aL ?_
                     (case aR => repeat (first | exact (Kd.R_reads' HO306.out).2.2 | (with_reducible refine Kd.C_alloc ?_ _) | (with_reducible refine Kd.C_drewN ?_ _) | (with_reducible refine Kd.C_drew ?_)))
                     (case aB => exact (bw_ HB.out))
                     (case aF => exact (fun k_ hk => ⟨Kd.fresh' (Kd.R_lt (ra_ HO_16.out)) k_ hk, Kd.fresh' (Kd.R_lt (ra_ HO_17.out)) k_ hk, Kd.fresh' (Kd.R_lt (ra_ HO306.out)) k_ hk, Kd.fresh' (Kd.R_lt (ra_ HO318.out)) k_ hk⟩))
                     (case aO => exact (ra_ (Kd.R_mono HO_15.out (fun _ hk => ⟨hk.2.2.1, ⟨hk.2.2.2, ⟨hk.1, hk.2.1⟩⟩⟩))))
                     (case aS => exact (below_size (bw_ HB.out)))
                     (case aL => have := LMc43.out; omega)
                     intro v308 w59 ho hb hg hat
                     rw [← Ny307.out] at ho
                     have n0_ := am_ (Kd.R_over' (ra_ HO_8.out) (Kd.R_typed (ra_ HO_15.out)) (by decide) hg)
                     have n1_ := am_ (Kd.R_after (ok := (fun k_ => nb k_ (.slice Ao51 x17_3.length co51) ∧ nb k_ (.slice Ao60 y304.length co60) ∧ nb k_ v317)) (ra_ (Kd.R_mono HO_16.out (fun _ hk => ⟨⟨hk.2.2.2, ⟨hk.1, hk.2.1⟩⟩, hk.2.2.1⟩))) hg hat)
                     have n2_ := am_ (Kd.R_after (ok := (fun k_ => nb k_ (.slice Ao50 x16_3.length co50) ∧ nb k_ (.slice Ao60 y304.length co60) ∧ nb k_ v317)) (ra_ (Kd.R_mono HO_17.out (fun _ hk => ⟨⟨hk.2.2.2, ⟨hk.1, hk.2.1⟩⟩, hk.2.2.1⟩))) hg hat)
                     have n3_ := am_ (blk_grown (bk_ BK288.out) hg (Kd.R_ne HO_15.out BK288.out (by decide)))
                     have n4_ := am_ (blk_grown (bk_ BK303.out) hg (Kd.R_ne HO_15.out BK303.out (by decide)))
                     have n5_ := am_ (Kd.R_after (ok := (fun k_ => nb k_ (.slice Ao50 x16_3.length co50) ∧ nb k_ (.slice Ao51 x17_3.length co51) ∧ nb k_ v317)) (ra_ (Kd.R_mono HO306.out (fun _ hk => ⟨⟨hk.2.2.1, ⟨hk.2.2.2, hk.1⟩⟩, hk.2.1⟩))) hg hat)
                     have n6_ := am_ (Kd.R_after (ok := (fun k_ => nb k_ (.slice Ao50 x16_3.length co50) ∧ nb k_ (.slice Ao51 x17_3.length co51) ∧ nb k_ (.slice Ao60 y304.length co60))) (ra_ (Kd.R_mono HO318.out (fun _ hk => ⟨⟨hk.2.2.1, ⟨hk.2.2.2, hk.1⟩⟩, hk.2.1⟩))) hg hat)
                     have n7_ := am_ (hb)
                     have n8_ := am_ (ho)
                     clear HO_15
                     replace HO_8 := n0_
                     replace HO_16 := n1_
                     replace HO_17 := n2_
                     replace BK288 := n3_
                     replace BK303 := n4_
                     replace HO306 := n5_
                     replace HO318 := n6_
                     replace HB := n7_
                     have HO309 := n8_
                     clear n0_ n1_ n2_ n3_ n4_ n5_ n6_ n7_ n8_
                     clear ho hb hg hat
                     refine hK.out _ _ ⟨cz_ BK303.out 0, cz_ BK303.out 1, cz_ BK303.out 2, cz_ BK303.out 3, cz_ BK303.out 4⟩ (fun hHeld => ?_)
                     clear hK K
                     refine nS_ ?_
                     exact nm_ (hJ2_3_12 (.slice Ao60 y304.length co60, v308, v317) _ ⟨hHeld, (ra_ (Kd.R_mono HO306.out (fun _ hk => ⟨hk.2, ⟨hk.1.2.2, ⟨hk.1.1, hk.1.2.1⟩⟩⟩))), (ra_ (Kd.R_mono HO309.out (fun _ hk => ⟨hk.2.2.1, ⟨hk.2.2.2, ⟨hk.1, hk.2.1⟩⟩⟩))), (ra_ (Kd.R_mono HO318.out (fun _ hk => ⟨hk.1.2.2, ⟨hk.2, ⟨hk.1.1, hk.1.2.1⟩⟩⟩))), (ra_ (Kd.R_mono HO_16.out (fun _ hk => ⟨hk.1.2.1, ⟨hk.2, ⟨hk.1.2.2, hk.1.1⟩⟩⟩))), (ra_ (Kd.R_mono HO_17.out (fun _ hk => ⟨hk.1.2.1, ⟨hk.2, ⟨hk.1.2.2, hk.1.1⟩⟩⟩))), (ra_ HO_8.out), (bk_ BK288.out), (bk_ BK303.out), (bw_ HB.out)⟩)
                    ·skip
                     refine Kd.R_lit_step (Kd.int .i64) _ 3 ?hg (N := 108) ?hd (xs := ([(rd_T74 l0 x92_3).f2] : List Int)) (inner := [.int .i64 ((rd_T74 l0 x92_3).f2)]) (ok := fun _ => True) (okp := fun _ => True) ?hr ?hp (fun _ hk => hk) trivial (Below.refl _ _) (Nat.le_refl _) (by simp) ?_; (case hd => rfl); (case hg => rfl); (case hr => first | (go_simp; done) | (go_simp; rfl)); (case hp => exact (Reps.one (show Kd.M (Kd.int .i64) _ _ _ ((rd_T74 l0 x92_3).f2) [.int .i64 ((rd_T74 l0 x92_3).f2)] from rfl) (Reps.none _ _)))
                     intro v311 w59 ho60 hb hg_ hnew_
                     clear hg_ hnew_
                     (first | rw [← Ny310.out] at ho60 | (simp only [Int.reduceToNat] at ho60; rw [← Ny310.out] at ho60))
                     have n0_ := am_ (Kd.R_below (ra_ HO_8.out) hb)
                     have n1_ := am_ (Kd.R_elder' (ra_ HO_15.out) (Kd.R_base ho60) hb)
                     have n2_ := am_ (Kd.R_elder' (ra_ HO_16.out) (Kd.R_base ho60) hb)
                     have n3_ := am_ (Kd.R_elder' (ra_ HO_17.out) (Kd.R_base ho60) hb)
                     have n4_ := am_ (Kd.R_elder' (ra_ HO306.out) (Kd.R_base ho60) hb)
                     have n5_ := am_ (Kd.R_elder' (ra_ HO318.out) (Kd.R_base ho60) hb)
                     have n6_ := am_ (Kd.R_lower (Kd.R_new' (Kd.R_new' (Kd.R_new' (Kd.R_new' (Kd.R_new' ho60 (Kd.R_lt (ra_ HO_15.out))) (Kd.R_lt (ra_ HO_16.out))) (Kd.R_lt (ra_ HO_17.out))) (Kd.R_lt (ra_ HO306.out))) (Kd.R_lt (ra_ HO318.out))) (below_size (bw_ HB.out)))
                     have n7_ := am_ (blk_below (bk_ BK288.out) hb)
                     have n8_ := am_ (blk_below (bk_ BK303.out) hb)
                     have n9_ := am_ (below_step (bw_ HB.out) hb)
                     replace HO_8 := n0_
                     replace HO_15 := n1_
                     replace HO_16 := n2_
                     replace HO_17 := n3_
                     replace HO306 := n4_
                     replace HO318 := n5_
                     have HO312 := n6_
                     replace BK288 := n7_
                     replace BK303 := n8_
                     replace HB := n9_
                     clear n0_ n1_ n2_ n3_ n4_ n5_ n6_ n7_ n8_ n9_
                     clear hb ho60
                     refine hK.out _ _ ⟨cz_ BK303.out 0, cz_ BK303.out 1, cz_ BK303.out 2, cz_ BK303.out 3, cz_ BK303.out 4⟩ (fun hHeld => ?_)
                     clear hK K
                     refine nS_ ?_
                     exact nm_ (hJ2_7_12 (_, v311, v317) _ ⟨hHeld, (ra_ (Kd.R_mono HO306.out (fun _ hk => ⟨hk.2, ⟨hk.1.1, ⟨hk.1.2.1, ⟨hk.1.2.2.1, hk.1.2.2.2⟩⟩⟩⟩))), (ra_ (Kd.R_mono HO312.out (fun _ hk => ⟨hk.1.2, ⟨hk.2, ⟨hk.1.1.1.1.2, ⟨hk.1.1.1.2, hk.1.1.2⟩⟩⟩⟩))), (ra_ (Kd.R_mono HO318.out (fun _ hk => ⟨hk.1.1, ⟨hk.2, ⟨hk.1.2.1, ⟨hk.1.2.2.1, hk.1.2.2.2⟩⟩⟩⟩))), (ra_ (Kd.R_mono HO_15.out (fun _ hk => ⟨hk.1.1, ⟨hk.2, ⟨hk.1.2.1, ⟨hk.1.2.2.1, hk.1.2.2.2⟩⟩⟩⟩))), (ra_ (Kd.R_mono HO_16.out (fun _ hk => ⟨hk.1.1, ⟨hk.2, ⟨hk.1.2.1, ⟨hk.1.2.2.1, hk.1.2.2.2⟩⟩⟩⟩))), (ra_ (Kd.R_mono HO_17.out (fun _ hk => ⟨hk.1.1, ⟨hk.2, ⟨hk.1.2.1, ⟨hk.1.2.2.1, hk.1.2.2.2⟩⟩⟩⟩))), (ra_ HO_8.out), (bk_ BK288.out), (bk_ BK303.out), (bw_ HB.out)⟩)
                  ·skip
                   rintro ⟨v305, v311⟩ w58 ⟨hS_, h0_, h1_, h2_, h3_, h4_, h5_, h6_, h7_, h8_⟩
                   have n0_ : Aside0 (Kd.R (Kd.int .i64) 3 w58 w.heap.size (fun k_ => nb k_ v311 ∧ nb k_ (.slice Ao49 x15_3.length co49) ∧ nb k_ (.slice Ao50 x16_3.length co50) ∧ nb k_ (.slice Ao51 x17_3.length co51)) v305 y304) := ⟨h0_⟩
                   have n1_ : Aside0 (Kd.R (Kd.int .i64) 3 w58 w.heap.size (fun k_ => nb k_ v305 ∧ nb k_ (.slice Ao49 x15_3.length co49) ∧ nb k_ (.slice Ao50 x16_3.length co50) ∧ nb k_ (.slice Ao51 x17_3.length co51)) v311 y310) := ⟨h1_⟩
                   have n2_ : Aside0 (Kd.R (Kd.int .i64) 3 w58 w.heap.size (fun k_ => nb k_ v305 ∧ nb k_ v311 ∧ nb k_ (.slice Ao50 x16_3.length co50) ∧ nb k_ (.slice Ao51 x17_3.length co51)) (.slice Ao49 x15_3.length co49) x15_3) := ⟨h2_⟩
                   have n3_ : Aside0 (Kd.R (Kd.int .i64) 3 w58 w.heap.size (fun k_ => nb k_ v305 ∧ nb k_ v311 ∧ nb k_ (.slice Ao49 x15_3.length co49) ∧ nb k_ (.slice Ao51 x17_3.length co51)) (.slice Ao50 x16_3.length co50) x16_3) := ⟨h3_⟩
                   have n4_ : Aside0 (Kd.R (Kd.int .i64) 3 w58 w.heap.size (fun k_ => nb k_ v305 ∧ nb k_ v311 ∧ nb k_ (.slice Ao49 x15_3.length co49) ∧ nb k_ (.slice Ao50 x16_3.length co50)) (.slice Ao51 x17_3.length co51) x17_3) := ⟨h4_⟩
                   have n5_ : Aside0 (Kd.R k72 72 w58 w.heap.size (fun _ => True) (.slice (some ⟨go17, 0, none⟩) x8_2.length co17) x8_2) := ⟨h5_⟩
                   have n6_ : Aside0 (w58.heap[gb288]? = some (.cells #[.int .i64 ((rd_T74 l0 x46_2).f0), .int .i64 ((rd_T74 l0 x46_2).f1), .int .i64 ((rd_T74 l0 x46_2).f2), .int .i64 ((rd_T74 l0 x46_2).f3), .int .i64 ((rd_T74 l0 x46_2).f4)] 74 (0, 0))) := ⟨h6_⟩
                   have n7_ : Aside0 (w58.heap[gb303]? = some (.cells #[.int .i64 ((rd_T74 l0 x92_3).f0), .int .i64 ((rd_T74 l0 x92_3).f1), .int .i64 ((rd_T74 l0 x92_3).f2), .int .i64 ((rd_T74 l0 x92_3).f3), .int .i64 ((rd_T74 l0 x92_3).f4)] 74 (0, 0))) := ⟨h7_⟩
                   have n8_ : Aside0 (Below w.heap.size w w58) := ⟨h8_⟩
                   clear HO_8
                   clear HO_15
                   clear HO_16
                   clear HO_17
                   clear BK288
                   clear BK303
                   clear HB
                   clear h0_ h1_ h2_ h3_ h4_ h5_ h6_ h7_ h8_
                   have HO306 := n0_
                   have HO312 := n1_
                   have HO_15 := n2_
                   have HO_16 := n3_
                   have HO_17 := n4_
                   have HO_8 := n5_
                   have BK288 := n6_
                   have BK303 := n7_
                   have HB := n8_
                   clear n0_ n1_ n2_ n3_ n4_ n5_ n6_ n7_ n8_
                   have hHeld : w58.cell? ⟨gb303, 0, none⟩ = some (.int .i64 ((rd_T74 l0 x92_3).f0)) ∧ w58.cell? ⟨gb303, 1, none⟩ = some (.int .i64 ((rd_T74 l0 x92_3).f1)) ∧ w58.cell? ⟨gb303, 2, none⟩ = some (.int .i64 ((rd_T74 l0 x92_3).f2)) ∧ w58.cell? ⟨gb303, 3, none⟩ = some (.int .i64 ((rd_T74 l0 x92_3).f3)) ∧ w58.cell? ⟨gb303, 4, none⟩ = some (.int .i64 ((rd_T74 l0 x92_3).f4)) := hS_
                   obtain ⟨Ao60, co60, eo60⟩ := Kd.R_slice HO306.out
                   (first | subst eo60 | (injection eo60 with f1_ f2_ f3_; have f4_ := f1_.symm; have f5_ := f3_.symm; clear f1_ f2_ f3_; subst f4_; subst f5_))
                   refine norm_ (a' := ?_) ?_ ?_
                   rotate_left
                   ·simp only [putAll, Act.put, List.setIfInBounds_toArray, List.set_cons_zero, List.set_cons_succ]
                    rfl
                   refine two_ (i := 3) (j := 12) (Ni := some 104) (Nj := some 113) #[true, true, true, true, true, true, true, true, false, true, true, true, false, false, false, false, false] #[true, true, true, false, true, true, true, true, false, true, true, true, true, false, false, false, false] rfl rfl rfl rfl (two_of HT_.out (by kernel_rfl)) (by decide) (by decide) (fun K hK => ?_) (fun K hK => ?_)
                   ·skip
                    refine Kd.R_append_rows_step (Kd.int .i64) (w0 := w) w.heap.size (by rfl) (.tmp 101) (.tmp 103) 24 3 (.int .i64 0) 8 rfl Try.underlying24 info3 rfl (by decide) (by omega) (.slice Ao49 x15_3.length co49) x15_3 y304 _ _ _ (fun k_ => nb k_ (.slice Ao50 x16_3.length co50) ∧ nb k_ (.slice Ao51 x17_3.length co51) ∧ nb k_ (.slice Ao60 y304.length co60) ∧ nb k_ v311) (fun _ => False) rfl rfl ?aO ?aR (fun _ _ h => h) (fun _ h => h.elim) ?aF ?aB ?aS ?aL ?_
                    (case aR => repeat (first | exact (Kd.R_reads' HO306.out).2.2 | (with_reducible refine Kd.C_alloc ?_ _) | (with_reducible refine Kd.C_drewN ?_ _) | (with_reducible refine Kd.C_drew ?_)))
                    (case aB => exact (bw_ HB.out))
                    (case aF => exact (fun k_ hk => ⟨Kd.fresh' (Kd.R_lt (ra_ HO_16.out)) k_ hk, Kd.fresh' (Kd.R_lt (ra_ HO_17.out)) k_ hk, Kd.fresh' (Kd.R_lt (ra_ HO306.out)) k_ hk, Kd.fresh' (Kd.R_lt (ra_ HO312.out)) k_ hk⟩))
                    (case aO => exact (ra_ (Kd.R_mono HO_15.out (fun _ hk => ⟨hk.2.2.1, ⟨hk.2.2.2, ⟨hk.1, hk.2.1⟩⟩⟩))))
                    (case aS => exact (below_size (bw_ HB.out)))
                    (case aL => have := LMc43.out; omega)
                    intro v308 w59 ho hb hg hat
                    rw [← Ny307.out] at ho
                    have n0_ := am_ (Kd.R_over' (ra_ HO_8.out) (Kd.R_typed (ra_ HO_15.out)) (by decide) hg)
                    have n1_ := am_ (Kd.R_after (ok := (fun k_ => nb k_ (.slice Ao51 x17_3.length co51) ∧ nb k_ (.slice Ao60 y304.length co60) ∧ nb k_ v311)) (ra_ (Kd.R_mono HO_16.out (fun _ hk => ⟨⟨hk.2.2.2, ⟨hk.1, hk.2.1⟩⟩, hk.2.2.1⟩))) hg hat)
                    have n2_ := am_ (Kd.R_after (ok := (fun k_ => nb k_ (.slice Ao50 x16_3.length co50) ∧ nb k_ (.slice Ao60 y304.length co60) ∧ nb k_ v311)) (ra_ (Kd.R_mono HO_17.out (fun _ hk => ⟨⟨hk.2.2.2, ⟨hk.1, hk.2.1⟩⟩, hk.2.2.1⟩))) hg hat)
                    have n3_ := am_ (blk_grown (bk_ BK288.out) hg (Kd.R_ne HO_15.out BK288.out (by decide)))
                    have n4_ := am_ (blk_grown (bk_ BK303.out) hg (Kd.R_ne HO_15.out BK303.out (by decide)))
                    have n5_ := am_ (Kd.R_after (ok := (fun k_ => nb k_ (.slice Ao50 x16_3.length co50) ∧ nb k_ (.slice Ao51 x17_3.length co51) ∧ nb k_ v311)) (ra_ (Kd.R_mono HO306.out (fun _ hk => ⟨⟨hk.2.2.1, ⟨hk.2.2.2, hk.1⟩⟩, hk.2.1⟩))) hg hat)
                    have n6_ := am_ (Kd.R_after (ok := (fun k_ => nb k_ (.slice Ao50 x16_3.length co50) ∧ nb k_ (.slice Ao51 x17_3.length co51) ∧ nb k_ (.slice Ao60 y304.length co60))) (ra_ (Kd.R_mono HO312.out (fun _ hk => ⟨⟨hk.2.2.1, ⟨hk.2.2.2, hk.1⟩⟩, hk.2.1⟩))) hg hat)
                    have n7_ := am_ (hb)
                    have n8_ := am_ (ho)
                    clear HO_15
                    replace HO_8 := n0_
                    replace HO_16 := n1_
                    replace HO_17 := n2_
                    replace BK288 := n3_
                    replace BK303 := n4_
                    replace HO306 := n5_
                    replace HO312 := n6_
                    replace HB := n7_
                    have HO309 := n8_
                    clear n0_ n1_ n2_ n3_ n4_ n5_ n6_ n7_ n8_
                    clear ho hb hg hat
                    refine hK.out _ _ ⟨cz_ BK303.out 0, cz_ BK303.out 1, cz_ BK303.out 2, cz_ BK303.out 3, cz_ BK303.out 4⟩ (fun hHeld => ?_)
                    clear hK K
                    refine nS_ ?_
                    exact nm_ (hJ2_3_7 (.slice Ao60 y304.length co60, v308, v311) _ ⟨hHeld, (ra_ (Kd.R_mono HO306.out (fun _ hk => ⟨hk.2, ⟨hk.1.2.2, ⟨hk.1.1, hk.1.2.1⟩⟩⟩))), (ra_ (Kd.R_mono HO309.out (fun _ hk => ⟨hk.2.2.1, ⟨hk.2.2.2, ⟨hk.1, hk.2.1⟩⟩⟩))), (ra_ (Kd.R_mono HO312.out (fun _ hk => ⟨hk.1.2.2, ⟨hk.2, ⟨hk.1.1, hk.1.2.1⟩⟩⟩))), (ra_ (Kd.R_mono HO_16.out (fun _ hk => ⟨hk.1.2.1, ⟨hk.2, ⟨hk.1.2.2, hk.1.1⟩⟩⟩))), (ra_ (Kd.R_mono HO_17.out (fun _ hk => ⟨hk.1.2.1, ⟨hk.2, ⟨hk.1.2.2, hk.1.1⟩⟩⟩))), (ra_ HO_8.out), (bk_ BK288.out), (bk_ BK303.out), (bw_ HB.out)⟩)
                   ·skip
                    refine Kd.R_lit_step (Kd.int .i64) _ 3 ?hg (N := 113) ?hd (xs := ([(rd_T74 l0 x92_3).f3] : List Int)) (inner := [.int .i64 ((rd_T74 l0 x92_3).f3)]) (ok := fun _ => True) (okp := fun _ => True) ?hr ?hp (fun _ hk => hk) trivial (Below.refl _ _) (Nat.le_refl _) (by simp) ?_; (case hd => rfl); (case hg => rfl); (case hr => first | (go_simp; done) | (go_simp; rfl)); (case hp => exact (Reps.one (show Kd.M (Kd.int .i64) _ _ _ ((rd_T74 l0 x92_3).f3) [.int .i64 ((rd_T74 l0 x92_3).f3)] from rfl) (Reps.none _ _)))
                    intro v317 w59 ho60 hb hg_ hnew_
                    clear hg_ hnew_
                    (first | rw [← Ny316.out] at ho60 | (simp only [Int.reduceToNat] at ho60; rw [← Ny316.out] at ho60))
                    have n0_ := am_ (Kd.R_below (ra_ HO_8.out) hb)
                    have n1_ := am_ (Kd.R_elder' (ra_ HO_15.out) (Kd.R_base ho60) hb)
                    have n2_ := am_ (Kd.R_elder' (ra_ HO_16.out) (Kd.R_base ho60) hb)
                    have n3_ := am_ (Kd.R_elder' (ra_ HO_17.out) (Kd.R_base ho60) hb)
                    have n4_ := am_ (Kd.R_elder' (ra_ HO306.out) (Kd.R_base ho60) hb)
                    have n5_ := am_ (Kd.R_elder' (ra_ HO312.out) (Kd.R_base ho60) hb)
                    have n6_ := am_ (Kd.R_lower (Kd.R_new' (Kd.R_new' (Kd.R_new' (Kd.R_new' (Kd.R_new' ho60 (Kd.R_lt (ra_ HO_15.out))) (Kd.R_lt (ra_ HO_16.out))) (Kd.R_lt (ra_ HO_17.out))) (Kd.R_lt (ra_ HO306.out))) (Kd.R_lt (ra_ HO312.out))) (below_size (bw_ HB.out)))
                    have n7_ := am_ (blk_below (bk_ BK288.out) hb)
                    have n8_ := am_ (blk_below (bk_ BK303.out) hb)
                    have n9_ := am_ (below_step (bw_ HB.out) hb)
                    replace HO_8 := n0_
                    replace HO_15 := n1_
                    replace HO_16 := n2_
                    replace HO_17 := n3_
                    replace HO306 := n4_
                    replace HO312 := n5_
                    have HO318 := n6_
                    replace BK288 := n7_
                    replace BK303 := n8_
                    replace HB := n9_
                    clear n0_ n1_ n2_ n3_ n4_ n5_ n6_ n7_ n8_ n9_
                    clear hb ho60
                    refine hK.out _ _ ⟨cz_ BK303.out 0, cz_ BK303.out 1, cz_ BK303.out 2, cz_ BK303.out 3, cz_ BK303.out 4⟩ (fun hHeld => ?_)
                    clear hK K
                    refine nS_ ?_
                    exact nm_ (hJ2_7_12 (_, v311, v317) _ ⟨hHeld, (ra_ (Kd.R_mono HO306.out (fun _ hk => ⟨hk.1.1, ⟨hk.2, ⟨hk.1.2.1, ⟨hk.1.2.2.1, hk.1.2.2.2⟩⟩⟩⟩))), (ra_ (Kd.R_mono HO312.out (fun _ hk => ⟨hk.1.1, ⟨hk.2, ⟨hk.1.2.1, ⟨hk.1.2.2.1, hk.1.2.2.2⟩⟩⟩⟩))), (ra_ (Kd.R_mono HO318.out (fun _ hk => ⟨hk.1.2, ⟨hk.2, ⟨hk.1.1.1.1.2, ⟨hk.1.1.1.2, hk.1.1.2⟩⟩⟩⟩))), (ra_ (Kd.R_mono HO_15.out (fun _ hk => ⟨hk.1.1, ⟨hk.1.2.1, ⟨hk.2, ⟨hk.1.2.2.1, hk.1.2.2.2⟩⟩⟩⟩))), (ra_ (Kd.R_mono HO_16.out (fun _ hk => ⟨hk.1.1, ⟨hk.1.2.1, ⟨hk.2, ⟨hk.1.2.2.1, hk.1.2.2.2⟩⟩⟩⟩))), (ra_ (Kd.R_mono HO_17.out (fun _ hk => ⟨hk.1.1, ⟨hk.1.2.1, ⟨hk.2, ⟨hk.1.2.2.1, hk.1.2.2.2⟩⟩⟩⟩))), (ra_ HO_8.out), (bk_ BK288.out), (bk_ BK303.out), (bw_ HB.out)⟩)
                 ·skip
                  rintro ⟨v305, v308⟩ w58 ⟨hS_, h0_, h1_, h2_, h3_, h4_, h5_, h6_, h7_⟩
                  have n0_ : Aside0 (Kd.R (Kd.int .i64) 3 w58 w.heap.size (fun k_ => nb k_ v308 ∧ nb k_ (.slice Ao50 x16_3.length co50) ∧ nb k_ (.slice Ao51 x17_3.length co51)) v305 y304) := ⟨h0_⟩
                  have n1_ : Aside0 (Kd.R (Kd.int .i64) 3 w58 w.heap.size (fun k_ => nb k_ v305 ∧ nb k_ (.slice Ao50 x16_3.length co50) ∧ nb k_ (.slice Ao51 x17_3.length co51)) v308 y307) := ⟨h1_⟩
                  have n2_ : Aside0 (Kd.R (Kd.int .i64) 3 w58 w.heap.size (fun k_ => nb k_ v305 ∧ nb k_ v308 ∧ nb k_ (.slice Ao51 x17_3.length co51)) (.slice Ao50 x16_3.length co50) x16_3) := ⟨h2_⟩
                  have n3_ : Aside0 (Kd.R (Kd.int .i64) 3 w58 w.heap.size (fun k_ => nb k_ v305 ∧ nb k_ v308 ∧ nb k_ (.slice Ao50 x16_3.length co50)) (.slice Ao51 x17_3.length co51) x17_3) := ⟨h3_⟩
                  have n4_ : Aside0 (Kd.R k72 72 w58 w.heap.size (fun _ => True) (.slice (some ⟨go17, 0, none⟩) x8_2.length co17) x8_2) := ⟨h4_⟩
                  have n5_ : Aside0 (w58.heap[gb288]? = some (.cells #[.int .i64 ((rd_T74 l0 x46_2).f0), .int .i64 ((rd_T74 l0 x46_2).f1), .int .i64 ((rd_T74 l0 x46_2).f2), .int .i64 ((rd_T74 l0 x46_2).f3), .int .i64 ((rd_T74 l0 x46_2).f4)] 74 (0, 0))) := ⟨h5_⟩
                  have n6_ : Aside0 (w58.heap[gb303]? = some (.cells #[.int .i64 ((rd_T74 l0 x92_3).f0), .int .i64 ((rd_T74 l0 x92_3).f1), .int .i64 ((rd_T74 l0 x92_3).f2), .int .i64 ((rd_T74 l0 x92_3).f3), .int .i64 ((rd_T74 l0 x92_3).f4)] 74 (0, 0))) := ⟨h6_⟩
                  have n7_ : Aside0 (Below w.heap.size w w58) := ⟨h7_⟩
                  clear HO_8
                  clear HO_15
                  clear HO_16
                  clear HO_17
                  clear BK288
                  clear BK303
                  clear HB
                  clear h0_ h1_ h2_ h3_ h4_ h5_ h6_ h7_
                  have HO306 := n0_
                  have HO309 := n1_
                  have HO_16 := n2_
                  have HO_17 := n3_
                  have HO_8 := n4_
                  have BK288 := n5_
                  have BK303 := n6_
                  have HB := n7_
                  clear n0_ n1_ n2_ n3_ n4_ n5_ n6_ n7_
                  have hHeld : w58.cell? ⟨gb303, 0, none⟩ = some (.int .i64 ((rd_T74 l0 x92_3).f0)) ∧ w58.cell? ⟨gb303, 1, none⟩ = some (.int .i64 ((rd_T74 l0 x92_3).f1)) ∧ w58.cell? ⟨gb303, 2, none⟩ = some (.int .i64 ((rd_T74 l0 x92_3).f2)) ∧ w58.cell? ⟨gb303, 3, none⟩ = some (.int .i64 ((rd_T74 l0 x92_3).f3)) ∧ w58.cell? ⟨gb303, 4, none⟩ = some (.int .i64 ((rd_T74 l0 x92_3).f4)) := hS_
                  refine norm_ (a' := ?_) ?_ ?_
                  rotate_left
                  ·simp only [putAll, Act.put, List.setIfInBounds_toArray, List.set_cons_zero, List.set_cons_succ]
                   rfl
                  refine two_ (i := 7) (j := 12) (Ni := some 108) (Nj := some 113) #[true, true, true, true, true, true, true, true, false, true, true, true, false, false, false, false, false] #[true, true, true, true, true, true, true, false, false, true, true, true, true, false, false, false, false] rfl rfl rfl rfl (two_of HT_.out (by kernel_rfl)) (by decide) (by decide) (fun K hK => ?_) (fun K hK => ?_)
                  ·skip
                   refine Kd.R_lit_step (Kd.int .i64) _ 3 ?hg (N := 108) ?hd (xs := ([(rd_T74 l0 x92_3).f2] : List Int)) (inner := [.int .i64 ((rd_T74 l0 x92_3).f2)]) (ok := fun _ => True) (okp := fun _ => True) ?hr ?hp (fun _ hk => hk) trivial (Below.refl _ _) (Nat.le_refl _) (by simp) ?_; (case hd => rfl); (case hg => rfl); (case hr => first | (go_simp; done) | (go_simp; rfl)); (case hp => exact (Reps.one (show Kd.M (Kd.int .i64) _ _ _ ((rd_T74 l0 x92_3).f2) [.int .i64 ((rd_T74 l0 x92_3).f2)] from rfl) (Reps.none _ _)))
                   intro v311 w59 ho60 hb hg_ hnew_
                   clear hg_ hnew_
                   (first | rw [← Ny310.out] at ho60 | (simp only [Int.reduceToNat] at ho60; rw [← Ny310.out] at ho60))
                   have n0_ := am_ (Kd.R_below (ra_ HO_8.out) hb)
                   have n1_ := am_ (Kd.R_elder' (ra_ HO_16.out) (Kd.R_base ho60) hb)
                   have n2_ := am_ (Kd.R_elder' (ra_ HO_17.out) (Kd.R_base ho60) hb)
                   have n3_ := am_ (Kd.R_elder' (ra_ HO306.out) (Kd.R_base ho60) hb)
                   have n4_ := am_ (Kd.R_elder' (ra_ HO309.out) (Kd.R_base ho60) hb)
                   have n5_ := am_ (Kd.R_lower (Kd.R_new' (Kd.R_new' (Kd.R_new' (Kd.R_new' ho60 (Kd.R_lt (ra_ HO_16.out))) (Kd.R_lt (ra_ HO_17.out))) (Kd.R_lt (ra_ HO306.out))) (Kd.R_lt (ra_ HO309.out))) (below_size (bw_ HB.out)))
                   have n6_ := am_ (blk_below (bk_ BK288.out) hb)
                   have n7_ := am_ (blk_below (bk_ BK303.out) hb)
                   have n8_ := am_ (below_step (bw_ HB.out) hb)
                   replace HO_8 := n0_
                   replace HO_16 := n1_
                   replace HO_17 := n2_
                   replace HO306 := n3_
                   replace HO309 := n4_
                   have HO312 := n5_
                   replace BK288 := n6_
                   replace BK303 := n7_
                   replace HB := n8_
                   clear n0_ n1_ n2_ n3_ n4_ n5_ n6_ n7_ n8_
                   clear hb ho60
                   refine hK.out _ _ ⟨cz_ BK303.out 0, cz_ BK303.out 1, cz_ BK303.out 2, cz_ BK303.out 3, cz_ BK303.out 4⟩ (fun hHeld => ?_)
                   clear hK K
                   refine nS_ ?_
                   exact nm_ (hJ2_3_7 (v305, v308, v311) _ ⟨hHeld, (ra_ (Kd.R_mono HO306.out (fun _ hk => ⟨hk.1.1, ⟨hk.2, ⟨hk.1.2.1, hk.1.2.2⟩⟩⟩))), (ra_ (Kd.R_mono HO309.out (fun _ hk => ⟨hk.1.1, ⟨hk.2, ⟨hk.1.2.1, hk.1.2.2⟩⟩⟩))), (ra_ (Kd.R_mono HO312.out (fun _ hk => ⟨hk.1.2, ⟨hk.2, ⟨hk.1.1.1.2, hk.1.1.2⟩⟩⟩))), (ra_ (Kd.R_mono HO_16.out (fun _ hk => ⟨hk.1.1, ⟨hk.1.2.1, ⟨hk.2, hk.1.2.2⟩⟩⟩))), (ra_ (Kd.R_mono HO_17.out (fun _ hk => ⟨hk.1.1, ⟨hk.1.2.1, ⟨hk.2, hk.1.2.2⟩⟩⟩))), (ra_ HO_8.out), (bk_ BK288.out), (bk_ BK303.out), (bw_ HB.out)⟩)
                  ·skip
                   refine Kd.R_lit_step (Kd.int .i64) _ 3 ?hg (N := 113) ?hd (xs := ([(rd_T74 l0 x92_3).f3] : List Int)) (inner := [.int .i64 ((rd_T74 l0 x92_3).f3)]) (ok := fun _ => True) (okp := fun _ => True) ?hr ?hp (fun _ hk => hk) trivial (Below.refl _ _) (Nat.le_refl _) (by simp) ?_; (case hd => rfl); (case hg => rfl); (case hr => first | (go_simp; done) | (go_simp; rfl)); (case hp => exact (Reps.one (show Kd.M (Kd.int .i64) _ _ _ ((rd_T74 l0 x92_3).f3) [.int .i64 ((rd_T74 l0 x92_3).f3)] from rfl) (Reps.none _ _)))
                   intro v317 w59 ho60 hb hg_ hnew_
                   clear hg_ hnew_
                   (first | rw [← Ny316.out] at ho60 | (simp only [Int.reduceToNat] at ho60; rw [← Ny316.out] at ho60))
                   have n0_ := am_ (Kd.R_below (ra_ HO_8.out) hb)
                   have n1_ := am_ (Kd.R_elder' (ra_ HO_16.out) (Kd.R_base ho60) hb)
                   have n2_ := am_ (Kd.R_elder' (ra_ HO_17.out) (Kd.R_base ho60) hb)
                   have n3_ := am_ (Kd.R_elder' (ra_ HO306.out) (Kd.R_base ho60) hb)
                   have n4_ := am_ (Kd.R_elder' (ra_ HO309.out) (Kd.R_base ho60) hb)
                   have n5_ := am_ (Kd.R_lower (Kd.R_new' (Kd.R_new' (Kd.R_new' (Kd.R_new' ho60 (Kd.R_lt (ra_ HO_16.out))) (Kd.R_lt (ra_ HO_17.out))) (Kd.R_lt (ra_ HO306.out))) (Kd.R_lt (ra_ HO309.out))) (below_size (bw_ HB.out)))
                   have n6_ := am_ (blk_below (bk_ BK288.out) hb)
                   have n7_ := am_ (blk_below (bk_ BK303.out) hb)
                   have n8_ := am_ (below_step (bw_ HB.out) hb)
                   replace HO_8 := n0_
                   replace HO_16 := n1_
                   replace HO_17 := n2_
                   replace HO306 := n3_
                   replace HO309 := n4_
                   have HO318 := n5_
                   replace BK288 := n6_
                   replace BK303 := n7_
                   replace HB := n8_
                   clear n0_ n1_ n2_ n3_ n4_ n5_ n6_ n7_ n8_
                   clear hb ho60
                   refine hK.out _ _ ⟨cz_ BK303.out 0, cz_ BK303.out 1, cz_ BK303.out 2, cz_ BK303.out 3, cz_ BK303.out 4⟩ (fun hHeld => ?_)
                   clear hK K
                   refine nS_ ?_
                   exact nm_ (hJ2_3_12 (v305, v308, v317) _ ⟨hHeld, (ra_ (Kd.R_mono HO306.out (fun _ hk => ⟨hk.1.1, ⟨hk.2, ⟨hk.1.2.1, hk.1.2.2⟩⟩⟩))), (ra_ (Kd.R_mono HO309.out (fun _ hk => ⟨hk.1.1, ⟨hk.2, ⟨hk.1.2.1, hk.1.2.2⟩⟩⟩))), (ra_ (Kd.R_mono HO318.out (fun _ hk => ⟨hk.1.2, ⟨hk.2, ⟨hk.1.1.1.2, hk.1.1.2⟩⟩⟩))), (ra_ (Kd.R_mono HO_16.out (fun _ hk => ⟨hk.1.1, ⟨hk.1.2.1, ⟨hk.2, hk.1.2.2⟩⟩⟩))), (ra_ (Kd.R_mono HO_17.out (fun _ hk => ⟨hk.1.1, ⟨hk.1.2.1, ⟨hk.2, hk.1.2.2⟩⟩⟩))), (ra_ HO_8.out), (bk_ BK288.out), (bk_ BK303.out), (bw_ HB.out)⟩)
                ·skip
                 rintro ⟨v305, v311, v317⟩ w60 ⟨hS_, h0_, h1_, h2_, h3_, h4_, h5_, h6_, h7_, h8_, h9_⟩
                 have n0_ : Aside0 (Kd.R (Kd.int .i64) 3 w60 w.heap.size (fun k_ => nb k_ v311 ∧ nb k_ v317 ∧ nb k_ (.slice Ao49 x15_3.length co49) ∧ nb k_ (.slice Ao50 x16_3.length co50) ∧ nb k_ (.slice Ao51 x17_3.length co51)) v305 y304) := ⟨h0_⟩
                 have n1_ : Aside0 (Kd.R (Kd.int .i64) 3 w60 w.heap.size (fun k_ => nb k_ v305 ∧ nb k_ v317 ∧ nb k_ (.slice Ao49 x15_3.length co49) ∧ nb k_ (.slice Ao50 x16_3.length co50) ∧ nb k_ (.slice Ao51 x17_3.length co51)) v311 y310) := ⟨h1_⟩
                 have n2_ : Aside0 (Kd.R (Kd.int .i64) 3 w60 w.heap.size (fun k_ => nb k_ v305 ∧ nb k_ v311 ∧ nb k_ (.slice Ao49 x15_3.length co49) ∧ nb k_ (.slice Ao50 x16_3.length co50) ∧ nb k_ (.slice Ao51 x17_3.length co51)) v317 y316) := ⟨h2_⟩
                 have n3_ : Aside0 (Kd.R (Kd.int .i64) 3 w60 w.heap.size (fun k_ => nb k_ v305 ∧ nb k_ v311 ∧ nb k_ v317 ∧ nb k_ (.slice Ao50 x16_3.length co50) ∧ nb k_ (.slice Ao51 x17_3.length co51)) (.slice Ao49 x15_3.length co49) x15_3) := ⟨h3_⟩
                 have n4_ : Aside0 (Kd.R (Kd.int .i64) 3 w60 w.heap.size (fun k_ => nb k_ v305 ∧ nb k_ v311 ∧ nb k_ v317 ∧ nb k_ (.slice Ao49 x15_3.length co49) ∧ nb k_ (.slice Ao51 x17_3.length co51)) (.slice Ao50 x16_3.length co50) x16_3) := ⟨h4_⟩
                 have n5_ : Aside0 (Kd.R (Kd.int .i64) 3 w60 w.heap.size (fun k_ => nb k_ v305 ∧ nb k_ v311 ∧ nb k_ v317 ∧ nb k_ (.slice Ao49 x15_3.length co49) ∧ nb k_ (.slice Ao50 x16_3.length co50)) (.slice Ao51 x17_3.length co51) x17_3) := ⟨h5_⟩
                 have n6_ : Aside0 (Kd.R k72 72 w60 w.heap.size (fun _ => True) (.slice (some ⟨go17, 0, none⟩) x8_2.length co17) x8_2) := ⟨h6_⟩
                 have n7_ : Aside0 (w60.heap[gb288]? = some (.cells #[.int .i64 ((rd_T74 l0 x46_2).f0), .int .i64 ((rd_T74 l0 x46_2).f1), .int .i64 ((rd_T74 l0 x46_2).f2), .int .i64 ((rd_T74 l0 x46_2).f3), .int .i64 ((rd_T74 l0 x46_2).f4)] 74 (0, 0))) := ⟨h7_⟩
                 have n8_ : Aside0 (w60.heap[gb303]? = some (.cells #[.int .i64 ((rd_T74 l0 x92_3).f0), .int .i64 ((rd_T74 l0 x92_3).f1), .int .i64 ((rd_T74 l0 x92_3).f2), .int .i64 ((rd_T74 l0 x92_3).f3), .int .i64 ((rd_T74 l0 x92_3).f4)] 74 (0, 0))) := ⟨h8_⟩
                 have n9_ : Aside0 (Below w.heap.size w w60) := ⟨h9_⟩
                 clear HO_8
                 clear HO_15
                 clear HO_16
                 clear HO_17
                 clear BK288
                 clear BK303
                 clear HB
                 clear h0_ h1_ h2_ h3_ h4_ h5_ h6_ h7_ h8_ h9_
                 have HO306 := n0_
                 have HO312 := n1_
                 have HO318 := n2_
                 have HO_15 := n3_
                 have HO_16 := n4_
                 have HO_17 := n5_
                 have HO_8 := n6_
                 have BK288 := n7_
                 have BK303 := n8_
                 have HB := n9_
                 clear n0_ n1_ n2_ n3_ n4_ n5_ n6_ n7_ n8_ n9_
                 have hHeld : w60.cell? ⟨gb303, 0, none⟩ = some (.int .i64 ((rd_T74 l0 x92_3).f0)) ∧ w60.cell? ⟨gb303, 1, none⟩ = some (.int .i64 ((rd_T74 l0 x92_3).f1)) ∧ w60.cell? ⟨gb303, 2, none⟩ = some (.int .i64 ((rd_T74 l0 x92_3).f2)) ∧ w60.cell? ⟨gb303, 3, none⟩ = some (.int .i64 ((rd_T74 l0 x92_3).f3)) ∧ w60.cell? ⟨gb303, 4, none⟩ = some (.int .i64 ((rd_T74 l0 x92_3).f4)) := hS_
                 obtain ⟨Ao62, co62, eo62⟩ := Kd.R_slice HO306.out
                 (first | subst eo62 | (injection eo62 with f1_ f2_ f3_; have f4_ := f1_.symm; have f5_ := f3_.symm; clear f1_ f2_ f3_; subst f4_; subst f5_))
                 refine norm_ (a' := ?_) ?_ ?_
                 rotate_left
                 ·simp only [putAll, Act.put, List.setIfInBounds_toArray, List.set_cons_zero, List.set_cons_succ]
                  rfl
                 refine oS_ 3 104 HT_ (fun K hK => ?_)
                 refine Kd.R_append_rows_step (Kd.int .i64) (w0 := w) w.heap.size (by rfl) (.tmp 101) (.tmp 103) 24 3 (.int .i64 0) 8 rfl Try.underlying24 info3 rfl (by decide) (by omega) (.slice Ao49 x15_3.length co49) x15_3 y304 _ _ _ (fun k_ => nb k_ (.slice Ao50 x16_3.length co50) ∧ nb k_ (.slice Ao51 x17_3.length co51) ∧ nb k_ (.slice Ao62 y304.length co62) ∧ nb k_ v311 ∧ nb k_ v317) (fun _ => False) rfl rfl ?aO ?aR (fun _ _ h => h) (fun _ h => h.elim) ?aF ?aB ?aS ?aL ?_
                 (case aR => repeat (first | exact (Kd.R_reads' HO306.out).2.2 | (with_reducible refine Kd.C_alloc ?_ _) | (with_reducible refine Kd.C_drewN ?_ _) | (with_reducible refine Kd.C_drew ?_)))
                 (case aB => exact (bw_ HB.out))
                 (case aF => exact (fun k_ hk => ⟨Kd.fresh' (Kd.R_lt (ra_ HO_16.out)) k_ hk, Kd.fresh' (Kd.R_lt (ra_ HO_17.out)) k_ hk, Kd.fresh' (Kd.R_lt (ra_ HO306.out)) k_ hk, Kd.fresh' (Kd.R_lt (ra_ HO312.out)) k_ hk, Kd.fresh' (Kd.R_lt (ra_ HO318.out)) k_ hk⟩))
                 (case aO => exact (ra_ (Kd.R_mono HO_15.out (fun _ hk => ⟨hk.2.2.2.1, ⟨hk.2.2.2.2, ⟨hk.1, ⟨hk.2.1, hk.2.2.1⟩⟩⟩⟩))))
                 (case aS => exact (below_size (bw_ HB.out)))
                 (case aL => have := LMc43.out; omega)
                 intro v308 w61 ho hb hg hat
                 rw [← Ny307.out] at ho
                 have n0_ := am_ (Kd.R_over' (ra_ HO_8.out) (Kd.R_typed (ra_ HO_15.out)) (by decide) hg)
                 have n1_ := am_ (Kd.R_after (ok := (fun k_ => nb k_ (.slice Ao51 x17_3.length co51) ∧ nb k_ (.slice Ao62 y304.length co62) ∧ nb k_ v311 ∧ nb k_ v317)) (ra_ (Kd.R_mono HO_16.out (fun _ hk => ⟨⟨hk.2.2.2.2, ⟨hk.1, ⟨hk.2.1, hk.2.2.1⟩⟩⟩, hk.2.2.2.1⟩))) hg hat)
                 have n2_ := am_ (Kd.R_after (ok := (fun k_ => nb k_ (.slice Ao50 x16_3.length co50) ∧ nb k_ (.slice Ao62 y304.length co62) ∧ nb k_ v311 ∧ nb k_ v317)) (ra_ (Kd.R_mono HO_17.out (fun _ hk => ⟨⟨hk.2.2.2.2, ⟨hk.1, ⟨hk.2.1, hk.2.2.1⟩⟩⟩, hk.2.2.2.1⟩))) hg hat)
                 have n3_ := am_ (blk_grown (bk_ BK288.out) hg (Kd.R_ne HO_15.out BK288.out (by decide)))
                 have n4_ := am_ (blk_grown (bk_ BK303.out) hg (Kd.R_ne HO_15.out BK303.out (by decide)))
                 have n5_ := am_ (Kd.R_after (ok := (fun k_ => nb k_ (.slice Ao50 x16_3.length co50) ∧ nb k_ (.slice Ao51 x17_3.length co51) ∧ nb k_ v311 ∧ nb k_ v317)) (ra_ (Kd.R_mono HO306.out (fun _ hk => ⟨⟨hk.2.2.2.1, ⟨hk.2.2.2.2, ⟨hk.1, hk.2.1⟩⟩⟩, hk.2.2.1⟩))) hg hat)
                 have n6_ := am_ (Kd.R_after (ok := (fun k_ => nb k_ (.slice Ao50 x16_3.length co50) ∧ nb k_ (.slice Ao51 x17_3.length co51) ∧ nb k_ (.slice Ao62 y304.length co62) ∧ nb k_ v317)) (ra_ (Kd.R_mono HO312.out (fun _ hk => ⟨⟨hk.2.2.2.1, ⟨hk.2.2.2.2, ⟨hk.1, hk.2.1⟩⟩⟩, hk.2.2.1⟩))) hg hat)
                 have n7_ := am_ (Kd.R_after (ok := (fun k_ => nb k_ (.slice Ao50 x16_3.length co50) ∧ nb k_ (.slice Ao51 x17_3.length co51) ∧ nb k_ (.slice Ao62 y304.length co62) ∧ nb k_ v311)) (ra_ (Kd.R_mono HO318.out (fun _ hk => ⟨⟨hk.2.2.2.1, ⟨hk.2.2.2.2, ⟨hk.1, hk.2.1⟩⟩⟩, hk.2.2.1⟩))) hg hat)
                 have n8_ := am_ (hb)
                 have n9_ := am_ (ho)
                 clear HO_15
                 replace HO_8 := n0_
                 replace HO_16 := n1_
                 replace HO_17 := n2_
                 replace BK288 := n3_
                 replace BK303 := n4_
                 replace HO306 := n5_
                 replace HO312 := n6_
                 replace HO318 := n7_
                 replace HB := n8_
                 have HO309 := n9_
                 clear n0_ n1_ n2_ n3_ n4_ n5_ n6_ n7_ n8_ n9_
                 clear ho hb hg hat
                 refine hK.out _ _ ⟨cz_ BK303.out 0, cz_ BK303.out 1, cz_ BK303.out 2, cz_ BK303.out 3, cz_ BK303.out 4⟩ (fun hHeld => ?_)
                 clear hK K
                 refine nS_ ?_
                 exact nm_ (hJ2_3_7_12 (.slice Ao62 y304.length co62, v308, v311, v317) _ ⟨hHeld, (ra_ (Kd.R_mono HO306.out (fun _ hk => ⟨hk.2, ⟨hk.1.2.2.1, ⟨hk.1.2.2.2, ⟨hk.1.1, hk.1.2.1⟩⟩⟩⟩))), (ra_ (Kd.R_mono HO309.out (fun _ hk => ⟨hk.2.2.1, ⟨hk.2.2.2.1, ⟨hk.2.2.2.2, ⟨hk.1, hk.2.1⟩⟩⟩⟩))), (ra_ (Kd.R_mono HO312.out (fun _ hk => ⟨hk.1.2.2.1, ⟨hk.2, ⟨hk.1.2.2.2, ⟨hk.1.1, hk.1.2.1⟩⟩⟩⟩))), (ra_ (Kd.R_mono HO318.out (fun _ hk => ⟨hk.1.2.2.1, ⟨hk.2, ⟨hk.1.2.2.2, ⟨hk.1.1, hk.1.2.1⟩⟩⟩⟩))), (ra_ (Kd.R_mono HO_16.out (fun _ hk => ⟨hk.1.2.1, ⟨hk.2, ⟨hk.1.2.2.1, ⟨hk.1.2.2.2, hk.1.1⟩⟩⟩⟩))), (ra_ (Kd.R_mono HO_17.out (fun _ hk => ⟨hk.1.2.1, ⟨hk.2, ⟨hk.1.2.2.1, ⟨hk.1.2.2.2, hk.1.1⟩⟩⟩⟩))), (ra_ HO_8.out), (bk_ BK288.out), (bk_ BK303.out), (bw_ HB.out)⟩)
               ·skip
                rintro ⟨v305, v308, v317⟩ w60 ⟨hS_, h0_, h1_, h2_, h3_, h4_, h5_, h6_, h7_, h8_⟩
                have n0_ : Aside0 (Kd.R (Kd.int .i64) 3 w60 w.heap.size (fun k_ => nb k_ v308 ∧ nb k_ v317 ∧ nb k_ (.slice Ao50 x16_3.length co50) ∧ nb k_ (.slice Ao51 x17_3.length co51)) v305 y304) := ⟨h0_⟩
                have n1_ : Aside0 (Kd.R (Kd.int .i64) 3 w60 w.heap.size (fun k_ => nb k_ v305 ∧ nb k_ v317 ∧ nb k_ (.slice Ao50 x16_3.length co50) ∧ nb k_ (.slice Ao51 x17_3.length co51)) v308 y307) := ⟨h1_⟩
                have n2_ : Aside0 (Kd.R (Kd.int .i64) 3 w60 w.heap.size (fun k_ => nb k_ v305 ∧ nb k_ v308 ∧ nb k_ (.slice Ao50 x16_3.length co50) ∧ nb k_ (.slice Ao51 x17_3.length co51)) v317 y316) := ⟨h2_⟩
                have n3_ : Aside0 (Kd.R (Kd.int .i64) 3 w60 w.heap.size (fun k_ => nb k_ v305 ∧ nb k_ v308 ∧ nb k_ v317 ∧ nb k_ (.slice Ao51 x17_3.length co51)) (.slice Ao50 x16_3.length co50) x16_3) := ⟨h3_⟩
                have n4_ : Aside0 (Kd.R (Kd.int .i64) 3 w60 w.heap.size (fun k_ => nb k_ v305 ∧ nb k_ v308 ∧ nb k_ v317 ∧ nb k_ (.slice Ao50 x16_3.length co50)) (.slice Ao51 x17_3.length co51) x17_3) := ⟨h4_⟩
                have n5_ : Aside0 (Kd.R k72 72 w60 w.heap.size (fun _ => True) (.slice (some ⟨go17, 0, none⟩) x8_2.length co17) x8_2) := ⟨h5_⟩
                have n6_ : Aside0 (w60.heap[gb288]? = some (.cells #[.int .i64 ((rd_T74 l0 x46_2).f0), .int .i64 ((rd_T74 l0 x46_2).f1), .int .i64 ((rd_T74 l0 x46_2).f2), .int .i64 ((rd_T74 l0 x46_2).f3), .int .i64 ((rd_T74 l0 x46_2).f4)] 74 (0, 0))) := ⟨h6_⟩
                have n7_ : Aside0 (w60.heap[gb303]? = some (.cells #[.int .i64 ((rd_T74 l0 x92_3).f0), .int .i64 ((rd_T74 l0 x92_3).f1), .int .i64 ((rd_T74 l0 x92_3).f2), .int .i64 ((rd_T74 l0 x92_3).f3), .int .i64 ((rd_T74 l0 x92_3).f4)] 74 (0, 0))) := ⟨h7_⟩
                have n8_ : Aside0 (Below w.heap.size w w60) := ⟨h8_⟩
                clear HO_8
                clear HO_15
                clear HO_16
                clear HO_17
                clear BK288
                clear BK303
                clear HB
                clear h0_ h1_ h2_ h3_ h4_ h5_ h6_ h7_ h8_
                have HO306 := n0_
                have HO309 := n1_
                have HO318 := n2_
                have HO_16 := n3_
                have HO_17 := n4_
                have HO_8 := n5_
                have BK288 := n6_
                have BK303 := n7_
                have HB := n8_
                clear n0_ n1_ n2_ n3_ n4_ n5_ n6_ n7_ n8_
                have hHeld : w60.cell? ⟨gb303, 0, none⟩ = some (.int .i64 ((rd_T74 l0 x92_3).f0)) ∧ w60.cell? ⟨gb303, 1, none⟩ = some (.int .i64 ((rd_T74 l0 x92_3).f1)) ∧ w60.cell? ⟨gb303, 2, none⟩ = some (.int .i64 ((rd_T74 l0 x92_3).f2)) ∧ w60.cell? ⟨gb303, 3, none⟩ = some (.int .i64 ((rd_T74 l0 x92_3).f3)) ∧ w60.cell? ⟨gb303, 4, none⟩ = some (.int .i64 ((rd_T74 l0 x92_3).f4)) := hS_
                refine norm_ (a' := ?_) ?_ ?_
                rotate_left
                ·simp only [putAll, Act.put, List.setIfInBounds_toArray, List.set_cons_zero, List.set_cons_succ]
                 rfl
                refine oS_ 7 108 HT_ (fun K hK => ?_)
                refine Kd.R_lit_step (Kd.int .i64) _ 3 ?hg (N := 108) ?hd (xs := ([(rd_T74 l0 x92_3).f2] : List Int)) (inner := [.int .i64 ((rd_T74 l0 x92_3).f2)]) (ok := fun _ => True) (okp := fun _ => True) ?hr ?hp (fun _ hk => hk) trivial (Below.refl _ _) (Nat.le_refl _) (by simp) ?_; (case hd => rfl); (case hg => rfl); (case hr => first | (go_simp; done) | (go_simp; rfl)); (case hp => exact (Reps.one (show Kd.M (Kd.int .i64) _ _ _ ((rd_T74 l0 x92_3).f2) [.int .i64 ((rd_T74 l0 x92_3).f2)] from rfl) (Reps.none _ _)))
                intro v311 w61 ho62 hb hg_ hnew_
                clear hg_ hnew_
                (first | rw [← Ny310.out] at ho62 | (simp only [Int.reduceToNat] at ho62; rw [← Ny310.out] at ho62))
                have n0_ := am_ (Kd.R_below (ra_ HO_8.out) hb)
                have n1_ := am_ (Kd.R_elder' (ra_ HO_16.out) (Kd.R_base ho62) hb)
                have n2_ := am_ (Kd.R_elder' (ra_ HO_17.out) (Kd.R_base ho62) hb)
                have n3_ := am_ (Kd.R_elder' (ra_ HO306.out) (Kd.R_base ho62) hb)
                have n4_ := am_ (Kd.R_elder' (ra_ HO309.out) (Kd.R_base ho62) hb)
                have n5_ := am_ (Kd.R_elder' (ra_ HO318.out) (Kd.R_base ho62) hb)
                have n6_ := am_ (Kd.R_lower (Kd.R_new' (Kd.R_new' (Kd.R_new' (Kd.R_new' (Kd.R_new' ho62 (Kd.R_lt (ra_ HO_16.out))) (Kd.R_lt (ra_ HO_17.out))) (Kd.R_lt (ra_ HO306.out))) (Kd.R_lt (ra_ HO309.out))) (Kd.R_lt (ra_ HO318.out))) (below_size (bw_ HB.out)))
                have n7_ := am_ (blk_below (bk_ BK288.out) hb)
                have n8_ := am_ (blk_below (bk_ BK303.out) hb)
                have n9_ := am_ (below_step (bw_ HB.out) hb)
                replace HO_8 := n0_
                replace HO_16 := n1_
                replace HO_17 := n2_
                replace HO306 := n3_
                replace HO309 := n4_
                replace HO318 := n5_
                have HO312 := n6_
                replace BK288 := n7_
                replace BK303 := n8_
                replace HB := n9_
                clear n0_ n1_ n2_ n3_ n4_ n5_ n6_ n7_ n8_ n9_
                clear hb ho62
                refine hK.out _ _ ⟨cz_ BK303.out 0, cz_ BK303.out 1, cz_ BK303.out 2, cz_ BK303.out 3, cz_ BK303.out 4⟩ (fun hHeld => ?_)
                clear hK K
                refine nS_ ?_
                exact nm_ (hJ2_3_7_12 (v305, v308, v311, v317) _ ⟨hHeld, (ra_ (Kd.R_mono HO306.out (fun _ hk => ⟨hk.1.1, ⟨hk.2, ⟨hk.1.2.1, ⟨hk.1.2.2.1, hk.1.2.2.2⟩⟩⟩⟩))), (ra_ (Kd.R_mono HO309.out (fun _ hk => ⟨hk.1.1, ⟨hk.2, ⟨hk.1.2.1, ⟨hk.1.2.2.1, hk.1.2.2.2⟩⟩⟩⟩))), (ra_ (Kd.R_mono HO312.out (fun _ hk => ⟨hk.1.1.2, ⟨hk.1.2, ⟨hk.2, ⟨hk.1.1.1.1.2, hk.1.1.1.2⟩⟩⟩⟩))), (ra_ (Kd.R_mono HO318.out (fun _ hk => ⟨hk.1.1, ⟨hk.1.2.1, ⟨hk.2, ⟨hk.1.2.2.1, hk.1.2.2.2⟩⟩⟩⟩))), (ra_ (Kd.R_mono HO_16.out (fun _ hk => ⟨hk.1.1, ⟨hk.1.2.1, ⟨hk.2, ⟨hk.1.2.2.1, hk.1.2.2.2⟩⟩⟩⟩))), (ra_ (Kd.R_mono HO_17.out (fun _ hk => ⟨hk.1.1, ⟨hk.1.2.1, ⟨hk.2, ⟨hk.1.2.2.1, hk.1.2.2.2⟩⟩⟩⟩))), (ra_ HO_8.out), (bk_ BK288.out), (bk_ BK303.out), (bw_ HB.out)⟩)
              ·skip
               rintro ⟨v305, v308, v311⟩ w60 ⟨hS_, h0_, h1_, h2_, h3_, h4_, h5_, h6_, h7_, h8_⟩
               have n0_ : Aside0 (Kd.R (Kd.int .i64) 3 w60 w.heap.size (fun k_ => nb k_ v308 ∧ nb k_ v311 ∧ nb k_ (.slice Ao50 x16_3.length co50) ∧ nb k_ (.slice Ao51 x17_3.length co51)) v305 y304) := ⟨h0_⟩
               have n1_ : Aside0 (Kd.R (Kd.int .i64) 3 w60 w.heap.size (fun k_ => nb k_ v305 ∧ nb k_ v311 ∧ nb k_ (.slice Ao50 x16_3.length co50) ∧ nb k_ (.slice Ao51 x17_3.length co51)) v308 y307) := ⟨h1_⟩
               have n2_ : Aside0 (Kd.R (Kd.int .i64) 3 w60 w.heap.size (fun k_ => nb k_ v305 ∧ nb k_ v308 ∧ nb k_ (.slice Ao50 x16_3.length co50) ∧ nb k_ (.slice Ao51 x17_3.length co51)) v311 y310) := ⟨h2_⟩
               have n3_ : Aside0 (Kd.R (Kd.int .i64) 3 w60 w.heap.size (fun k_ => nb k_ v305 ∧ nb k_ v308 ∧ nb k_ v311 ∧ nb k_ (.slice Ao51 x17_3.length co51)) (.slice Ao50 x16_3.length co50) x16_3) := ⟨h3_⟩
               have n4_ : Aside0 (Kd.R (Kd.int .i64) 3 w60 w.heap.size (fun k_ => nb k_ v305 ∧ nb k_ v308 ∧ nb k_ v311 ∧ nb k_ (.slice Ao50 x16_3.length co50)) (.slice Ao51 x17_3.length co51) x17_3) := ⟨h4_⟩
               have n5_ : Aside0 (Kd.R k72 72 w60 w.heap.size (fun _ => True) (.slice (some ⟨go17, 0, none⟩) x8_2.length co17) x8_2) := ⟨h5_⟩
               have n6_ : Aside0 (w60.heap[gb288]? = some (.cells #[.int .i64 ((rd_T74 l0 x46_2).f0), .int .i64 ((rd_T74 l0 x46_2).f1), .int .i64 ((rd_T74 l0 x46_2).f2), .int .i64 ((rd_T74 l0 x46_2).f3), .int .i64 ((rd_T74 l0 x46_2).f4)] 74 (0, 0))) := ⟨h6_⟩
               have n7_ : Aside0 (w60.heap[gb303]? = some (.cells #[.int .i64 ((rd_T74 l0 x92_3).f0), .int .i64 ((rd_T74 l0 x92_3).f1), .int .i64 ((rd_T74 l0 x92_3).f2), .int .i64 ((rd_T74 l0 x92_3).f3), .int .i64 ((rd_T74 l0 x92_3).f4)] 74 (0, 0))) := ⟨h7_⟩
               have n8_ : Aside0 (Below w.heap.size w w60) := ⟨h8_⟩
               clear HO_8
               clear HO_15
               clear HO_16
               clear HO_17
               clear BK288
               clear BK303
               clear HB
               clear h0_ h1_ h2_ h3_ h4_ h5_ h6_ h7_ h8_
               have HO306 := n0_
               have HO309 := n1_
               have HO312 := n2_
               have HO_16 := n3_
               have HO_17 := n4_
               have HO_8 := n5_
               have BK288 := n6_
               have BK303 := n7_
               have HB := n8_
               clear n0_ n1_ n2_ n3_ n4_ n5_ n6_ n7_ n8_
               have hHeld : w60.cell? ⟨gb303, 0, none⟩ = some (.int .i64 ((rd_T74 l0 x92_3).f0)) ∧ w60.cell? ⟨gb303, 1, none⟩ = some (.int .i64 ((rd_T74 l0 x92_3).f1)) ∧ w60.cell? ⟨gb303, 2, none⟩ = some (.int .i64 ((rd_T74 l0 x92_3).f2)) ∧ w60.cell? ⟨gb303, 3, none⟩ = some (.int .i64 ((rd_T74 l0 x92_3).f3)) ∧ w60.cell? ⟨gb303, 4, none⟩ = some (.int .i64 ((rd_T74 l0 x92_3).f4)) := hS_
               obtain ⟨Ao62, co62, eo62⟩ := Kd.R_slice HO312.out
               (first | subst eo62 | (injection eo62 with f1_ f2_ f3_; have f4_ := f1_.symm; have f5_ := f3_.symm; clear f1_ f2_ f3_; subst f4_; subst f5_))
               refine norm_ (a' := ?_) ?_ ?_
               rotate_left
               ·simp only [putAll, Act.put, List.setIfInBounds_toArray, List.set_cons_zero, List.set_cons_succ]
                rfl
               refine two_ (i := 8) (j := 12) (Ni := some 109) (Nj := some 113) #[true, true, true, true, true, true, true, true, true, true, true, true, false, false, false, false, false] #[true, true, true, true, true, true, true, true, false, true, true, true, true, false, false, false, false] rfl rfl rfl rfl (two_of HT_.out (by kernel_rfl)) (by decide) (by decide) (fun K hK => ?_) (fun K hK => ?_)
               ·skip
                refine Kd.R_append_rows_step (Kd.int .i64) (w0 := w) w.heap.size (by rfl) (.tmp 105) (.tmp 108) 24 3 (.int .i64 0) 8 rfl Try.underlying24 info3 rfl (by decide) (by omega) (.slice Ao50 x16_3.length co50) x16_3 y310 _ _ _ (fun k_ => nb k_ (.slice Ao51 x17_3.length co51) ∧ nb k_ v305 ∧ nb k_ v308 ∧ nb k_ (.slice Ao62 y310.length co62)) (fun _ => False) rfl rfl ?aO ?aR (fun _ _ h => h) (fun _ h => h.elim) ?aF ?aB ?aS ?aL ?_
                (case aR => repeat (first | exact (Kd.R_reads' HO312.out).2.2 | (with_reducible refine Kd.C_alloc ?_ _) | (with_reducible refine Kd.C_drewN ?_ _) | (with_reducible refine Kd.C_drew ?_)))
                (case aB => exact (bw_ HB.out))
                (case aF => exact (fun k_ hk => ⟨Kd.fresh' (Kd.R_lt (ra_ HO_17.out)) k_ hk, Kd.fresh' (Kd.R_lt (ra_ HO306.out)) k_ hk, Kd.fresh' (Kd.R_lt (ra_ HO309.out)) k_ hk, Kd.fresh' (Kd.R_lt (ra_ HO312.out)) k_ hk⟩))
                (case aO => exact (ra_ (Kd.R_mono HO_16.out (fun _ hk => ⟨hk.2.2.2, ⟨hk.1, ⟨hk.2.1, hk.2.2.1⟩⟩⟩))))
                (case aS => exact (below_size (bw_ HB.out)))
                (case aL => have := LMc44.out; omega)
                intro v314 w61 ho hb hg hat
                rw [← Ny313.out] at ho
                have n0_ := am_ (Kd.R_over' (ra_ HO_8.out) (Kd.R_typed (ra_ HO_16.out)) (by decide) hg)
                have n1_ := am_ (Kd.R_after (ok := (fun k_ => nb k_ v305 ∧ nb k_ v308 ∧ nb k_ (.slice Ao62 y310.length co62))) (ra_ (Kd.R_mono HO_17.out (fun _ hk => ⟨⟨hk.1, ⟨hk.2.1, hk.2.2.1⟩⟩, hk.2.2.2⟩))) hg hat)
                have n2_ := am_ (blk_grown (bk_ BK288.out) hg (Kd.R_ne HO_16.out BK288.out (by decide)))
                have n3_ := am_ (blk_grown (bk_ BK303.out) hg (Kd.R_ne HO_16.out BK303.out (by decide)))
                have n4_ := am_ (Kd.R_after (ok := (fun k_ => nb k_ (.slice Ao51 x17_3.length co51) ∧ nb k_ v308 ∧ nb k_ (.slice Ao62 y310.length co62))) (ra_ (Kd.R_mono HO306.out (fun _ hk => ⟨⟨hk.2.2.2, ⟨hk.1, hk.2.1⟩⟩, hk.2.2.1⟩))) hg hat)
                have n5_ := am_ (Kd.R_after (ok := (fun k_ => nb k_ (.slice Ao51 x17_3.length co51) ∧ nb k_ v305 ∧ nb k_ (.slice Ao62 y310.length co62))) (ra_ (Kd.R_mono HO309.out (fun _ hk => ⟨⟨hk.2.2.2, ⟨hk.1, hk.2.1⟩⟩, hk.2.2.1⟩))) hg hat)
                have n6_ := am_ (Kd.R_after (ok := (fun k_ => nb k_ (.slice Ao51 x17_3.length co51) ∧ nb k_ v305 ∧ nb k_ v308)) (ra_ (Kd.R_mono HO312.out (fun _ hk => ⟨⟨hk.2.2.2, ⟨hk.1, hk.2.1⟩⟩, hk.2.2.1⟩))) hg hat)
                have n7_ := am_ (hb)
                have n8_ := am_ (ho)
                clear HO_16
                replace HO_8 := n0_
                replace HO_17 := n1_
                replace BK288 := n2_
                replace BK303 := n3_
                replace HO306 := n4_
                replace HO309 := n5_
                replace HO312 := n6_
                replace HB := n7_
                have HO315 := n8_
                clear n0_ n1_ n2_ n3_ n4_ n5_ n6_ n7_ n8_
                clear ho hb hg hat
                refine hK.out _ _ ⟨cz_ BK303.out 0, cz_ BK303.out 1, cz_ BK303.out 2, cz_ BK303.out 3, cz_ BK303.out 4⟩ (fun hHeld => ?_)
                clear hK K
                refine nS_ ?_
                exact nm_ (hJ2_3_7_8 (v305, v308, .slice Ao62 y310.length co62, v314) _ ⟨hHeld, (ra_ (Kd.R_mono HO306.out (fun _ hk => ⟨hk.1.2.1, ⟨hk.1.2.2, ⟨hk.2, hk.1.1⟩⟩⟩))), (ra_ (Kd.R_mono HO309.out (fun _ hk => ⟨hk.1.2.1, ⟨hk.1.2.2, ⟨hk.2, hk.1.1⟩⟩⟩))), (ra_ (Kd.R_mono HO312.out (fun _ hk => ⟨hk.1.2.1, ⟨hk.1.2.2, ⟨hk.2, hk.1.1⟩⟩⟩))), (ra_ (Kd.R_mono HO315.out (fun _ hk => ⟨hk.2.1, ⟨hk.2.2.1, ⟨hk.2.2.2, hk.1⟩⟩⟩))), (ra_ (Kd.R_mono HO_17.out (fun _ hk => ⟨hk.1.1, ⟨hk.1.2.1, ⟨hk.1.2.2, hk.2⟩⟩⟩))), (ra_ HO_8.out), (bk_ BK288.out), (bk_ BK303.out), (bw_ HB.out)⟩)
               ·skip
                refine Kd.R_lit_step (Kd.int .i64) _ 3 ?hg (N := 113) ?hd (xs := ([(rd_T74 l0 x92_3).f3] : List Int)) (inner := [.int .i64 ((rd_T74 l0 x92_3).f3)]) (ok := fun _ => True) (okp := fun _ => True) ?hr ?hp (fun _ hk => hk) trivial (Below.refl _ _) (Nat.le_refl _) (by simp) ?_; (case hd => rfl); (case hg => rfl); (case hr => first | (go_simp; done) | (go_simp; rfl)); (case hp => exact (Reps.one (show Kd.M (Kd.int .i64) _ _ _ ((rd_T74 l0 x92_3).f3) [.int .i64 ((rd_T74 l0 x92_3).f3)] from rfl) (Reps.none _ _)))
                intro v317 w61 ho62 hb hg_ hnew_
                clear hg_ hnew_
                (first | rw [← Ny316.out] at ho62 | (simp only [Int.reduceToNat] at ho62; rw [← Ny316.out] at ho62))
                have n0_ := am_ (Kd.R_below (ra_ HO_8.out) hb)
                have n1_ := am_ (Kd.R_elder' (ra_ HO_16.out) (Kd.R_base ho62) hb)
                have n2_ := am_ (Kd.R_elder' (ra_ HO_17.out) (Kd.R_base ho62) hb)
                have n3_ := am_ (Kd.R_elder' (ra_ HO306.out) (Kd.R_base ho62) hb)
                have n4_ := am_ (Kd.R_elder' (ra_ HO309.out) (Kd.R_base ho62) hb)
                have n5_ := am_ (Kd.R_elder' (ra_ HO312.out) (Kd.R_base ho62) hb)
                have n6_ := am_ (Kd.R_lower (Kd.R_new' (Kd.R_new' (Kd.R_new' (Kd.R_new' (Kd.R_new' ho62 (Kd.R_lt (ra_ HO_16.out))) (Kd.R_lt (ra_ HO_17.out))) (Kd.R_lt (ra_ HO306.out))) (Kd.R_lt (ra_ HO309.out))) (Kd.R_lt (ra_ HO312.out))) (below_size (bw_ HB.out)))
                have n7_ := am_ (blk_below (bk_ BK288.out) hb)
                have n8_ := am_ (blk_below (bk_ BK303.out) hb)
                have n9_ := am_ (below_step (bw_ HB.out) hb)
                replace HO_8 := n0_
                replace HO_16 := n1_
                replace HO_17 := n2_
                replace HO306 := n3_
                replace HO309 := n4_
                replace HO312 := n5_
                have HO318 := n6_
                replace BK288 := n7_
                replace BK303 := n8_
                replace HB := n9_
                clear n0_ n1_ n2_ n3_ n4_ n5_ n6_ n7_ n8_ n9_
                clear hb ho62
                refine hK.out _ _ ⟨cz_ BK303.out 0, cz_ BK303.out 1, cz_ BK303.out 2, cz_ BK303.out 3, cz_ BK303.out 4⟩ (fun hHeld => ?_)
                clear hK K
                refine nS_ ?_
                exact nm_ (hJ2_3_7_12 (v305, v308, _, v317) _ ⟨hHeld, (ra_ (Kd.R_mono HO306.out (fun _ hk => ⟨hk.1.1, ⟨hk.1.2.1, ⟨hk.2, ⟨hk.1.2.2.1, hk.1.2.2.2⟩⟩⟩⟩))), (ra_ (Kd.R_mono HO309.out (fun _ hk => ⟨hk.1.1, ⟨hk.1.2.1, ⟨hk.2, ⟨hk.1.2.2.1, hk.1.2.2.2⟩⟩⟩⟩))), (ra_ (Kd.R_mono HO312.out (fun _ hk => ⟨hk.1.1, ⟨hk.1.2.1, ⟨hk.2, ⟨hk.1.2.2.1, hk.1.2.2.2⟩⟩⟩⟩))), (ra_ (Kd.R_mono HO318.out (fun _ hk => ⟨hk.1.1.2, ⟨hk.1.2, ⟨hk.2, ⟨hk.1.1.1.1.2, hk.1.1.1.2⟩⟩⟩⟩))), (ra_ (Kd.R_mono HO_16.out (fun _ hk => ⟨hk.1.1, ⟨hk.1.2.1, ⟨hk.1.2.2.1, ⟨hk.2, hk.1.2.2.2⟩⟩⟩⟩))), (ra_ (Kd.R_mono HO_17.out (fun _ hk => ⟨hk.1.1, ⟨hk.1.2.1, ⟨hk.1.2.2.1, ⟨hk.2, hk.1.2.2.2⟩⟩⟩⟩))), (ra_ HO_8.out), (bk_ BK288.out), (bk_ BK303.out), (bw_ HB.out)⟩)
             ·skip
              rintro ⟨v305, v308, v311, v317⟩ w62 ⟨hS_, h0_, h1_, h2_, h3_, h4_, h5_, h6_, h7_, h8_, h9_⟩
              have n0_ : Aside0 (Kd.R (Kd.int .i64) 3 w62 w.heap.size (fun k_ => nb k_ v308 ∧ nb k_ v311 ∧ nb k_ v317 ∧ nb k_ (.slice Ao50 x16_3.length co50) ∧ nb k_ (.slice Ao51 x17_3.length co51)) v305 y304) := ⟨h0_⟩
              have n1_ : Aside0 (Kd.R (Kd.int .i64) 3 w62 w.heap.size (fun k_ => nb k_ v305 ∧ nb k_ v311 ∧ nb k_ v317 ∧ nb k_ (.slice Ao50 x16_3.length co50) ∧ nb k_ (.slice Ao51 x17_3.length co51)) v308 y307) := ⟨h1_⟩
              have n2_ : Aside0 (Kd.R (Kd.int .i64) 3 w62 w.heap.size (fun k_ => nb k_ v305 ∧ nb k_ v308 ∧ nb k_ v317 ∧ nb k_ (.slice Ao50 x16_3.length co50) ∧ nb k_ (.slice Ao51 x17_3.length co51)) v311 y310) := ⟨h2_⟩
              have n3_ : Aside0 (Kd.R (Kd.int .i64) 3 w62 w.heap.size (fun k_ => nb k_ v305 ∧ nb k_ v308 ∧ nb k_ v311 ∧ nb k_ (.slice Ao50 x16_3.length co50) ∧ nb k_ (.slice Ao51 x17_3.length co51)) v317 y316) := ⟨h3_⟩
              have n4_ : Aside0 (Kd.R (Kd.int .i64) 3 w62 w.heap.size (fun k_ => nb k_ v305 ∧ nb k_ v308 ∧ nb k_ v311 ∧ nb k_ v317 ∧ nb k_ (.slice Ao51 x17_3.length co51)) (.slice Ao50 x16_3.length co50) x16_3) := ⟨h4_⟩
              have n5_ : Aside0 (Kd.R (Kd.int .i64) 3 w62 w.heap.size (fun k_ => nb k_ v305 ∧ nb k_ v308 ∧ nb k_ v311 ∧ nb k_ v317 ∧ nb k_ (.slice Ao50 x16_3.length co50)) (.slice Ao51 x17_3.length co51) x17_3) := ⟨h5_⟩
              have n6_ : Aside0 (Kd.R k72 72 w62 w.heap.size (fun _ => True) (.slice (some ⟨go17, 0, none⟩) x8_2.length co17) x8_2) := ⟨h6_⟩
              have n7_ : Aside0 (w62.heap[gb288]? = some (.cells #[.int .i64 ((rd_T74 l0 x46_2).f0), .int .i64 ((rd_T74 l0 x46_2).f1), .int .i64 ((rd_T74 l0 x46_2).f2), .int .i64 ((rd_T74 l0 x46_2).f3), .int .i64 ((rd_T74 l0 x46_2).f4)] 74 (0, 0))) := ⟨h7_⟩
              have n8_ : Aside0 (w62.heap[gb303]? = some (.cells #[.int .i64 ((rd_T74 l0 x92_3).f0), .int .i64 ((rd_T74 l0 x92_3).f1), .int .i64 ((rd_T74 l0 x92_3).f2), .int .i64 ((rd_T74 l0 x92_3).f3), .int .i64 ((rd_T74 l0 x92_3).f4)] 74 (0, 0))) := ⟨h8_⟩
              have n9_ : Aside0 (Below w.heap.size w w62) := ⟨h9_⟩
              clear HO_8
              clear HO_15
              clear HO_16
              clear HO_17
              clear BK288
              clear BK303
              clear HB
              clear h0_ h1_ h2_ h3_ h4_ h5_ h6_ h7_ h8_ h9_
              have HO306 := n0_
              have HO309 := n1_
              have HO312 := n2_
              have HO318 := n3_
              have HO_16 := n4_
              have HO_17 := n5_
              have HO_8 := n6_
              have BK288 := n7_
              have BK303 := n8_
              have HB := n9_
              clear n0_ n1_ n2_ n3_ n4_ n5_ n6_ n7_ n8_ n9_
              have hHeld : w62.cell? ⟨gb303, 0, none⟩ = some (.int .i64 ((rd_T74 l0 x92_3).f0)) ∧ w62.cell? ⟨gb303, 1, none⟩ = some (.int .i64 ((rd_T74 l0 x92_3).f1)) ∧ w62.cell? ⟨gb303, 2, none⟩ = some (.int .i64 ((rd_T74 l0 x92_3).f2)) ∧ w62.cell? ⟨gb303, 3, none⟩ = some (.int .i64 ((rd_T74 l0 x92_3).f3)) ∧ w62.cell? ⟨gb303, 4, none⟩ = some (.int .i64 ((rd_T74 l0 x92_3).f4)) := hS_
              obtain ⟨Ao64, co64, eo64⟩ := Kd.R_slice HO312.out
              (first | subst eo64 | (injection eo64 with f1_ f2_ f3_; have f4_ := f1_.symm; have f5_ := f3_.symm; clear f1_ f2_ f3_; subst f4_; subst f5_))
              refine norm_ (a' := ?_) ?_ ?_
              rotate_left
              ·simp only [putAll, Act.put, List.setIfInBounds_toArray, List.set_cons_zero, List.set_cons_succ]
               rfl
              refine oS_ 8 109 HT_ (fun K hK => ?_)
              refine Kd.R_append_rows_step (Kd.int .i64) (w0 := w) w.heap.size (by rfl) (.tmp 105) (.tmp 108) 24 3 (.int .i64 0) 8 rfl Try.underlying24 info3 rfl (by decide) (by omega) (.slice Ao50 x16_3.length co50) x16_3 y310 _ _ _ (fun k_ => nb k_ (.slice Ao51 x17_3.length co51) ∧ nb k_ v305 ∧ nb k_ v308 ∧ nb k_ (.slice Ao64 y310.length co64) ∧ nb k_ v317) (fun _ => False) rfl rfl ?aO ?aR (fun _ _ h => h) (fun _ h => h.elim) ?aF ?aB ?aS ?aL ?_
              (case aR => repeat (first | exact (Kd.R_reads' HO312.out).2.2 | (with_reducible refine Kd.C_alloc ?_ _) | (with_reducible refine Kd.C_drewN ?_ _) | (with_reducible refine Kd.C_drew ?_)))
              (case aB => exact (bw_ HB.out))
              (case aF => exact (fun k_ hk => ⟨Kd.fresh' (Kd.R_lt (ra_ HO_17.out)) k_ hk, Kd.fresh' (Kd.R_lt (ra_ HO306.out)) k_ hk, Kd.fresh' (Kd.R_lt (ra_ HO309.out)) k_ hk, Kd.fresh' (Kd.R_lt (ra_ HO312.out)) k_ hk, Kd.fresh' (Kd.R_lt (ra_ HO318.out)) k_ hk⟩))
              (case aO => exact (ra_ (Kd.R_mono HO_16.out (fun _ hk => ⟨hk.2.2.2.2, ⟨hk.1, ⟨hk.2.1, ⟨hk.2.2.1, hk.2.2.2.1⟩⟩⟩⟩))))
              (case aS => exact (below_size (bw_ HB.out)))
              (case aL => have := LMc44.out; omega)
              intro v314 w63 ho hb hg hat
              rw [← Ny313.out] at ho
              have n0_ := am_ (Kd.R_over' (ra_ HO_8.out) (Kd.R_typed (ra_ HO_16.out)) (by decide) hg)
              have n1_ := am_ (Kd.R_after (ok := (fun k_ => nb k_ v305 ∧ nb k_ v308 ∧ nb k_ (.slice Ao64 y310.length co64) ∧ nb k_ v317)) (ra_ (Kd.R_mono HO_17.out (fun _ hk => ⟨⟨hk.1, ⟨hk.2.1, ⟨hk.2.2.1, hk.2.2.2.1⟩⟩⟩, hk.2.2.2.2⟩))) hg hat)
              have n2_ := am_ (blk_grown (bk_ BK288.out) hg (Kd.R_ne HO_16.out BK288.out (by decide)))
              have n3_ := am_ (blk_grown (bk_ BK303.out) hg (Kd.R_ne HO_16.out BK303.out (by decide)))
              have n4_ := am_ (Kd.R_after (ok := (fun k_ => nb k_ (.slice Ao51 x17_3.length co51) ∧ nb k_ v308 ∧ nb k_ (.slice Ao64 y310.length co64) ∧ nb k_ v317)) (ra_ (Kd.R_mono HO306.out (fun _ hk => ⟨⟨hk.2.2.2.2, ⟨hk.1, ⟨hk.2.1, hk.2.2.1⟩⟩⟩, hk.2.2.2.1⟩))) hg hat)
              have n5_ := am_ (Kd.R_after (ok := (fun k_ => nb k_ (.slice Ao51 x17_3.length co51) ∧ nb k_ v305 ∧ nb k_ (.slice Ao64 y310.length co64) ∧ nb k_ v317)) (ra_ (Kd.R_mono HO309.out (fun _ hk => ⟨⟨hk.2.2.2.2, ⟨hk.1, ⟨hk.2.1, hk.2.2.1⟩⟩⟩, hk.2.2.2.1⟩))) hg hat)
              have n6_ := am_ (Kd.R_after (ok := (fun k_ => nb k_ (.slice Ao51 x17_3.length co51) ∧ nb k_ v305 ∧ nb k_ v308 ∧ nb k_ v317)) (ra_ (Kd.R_mono HO312.out (fun _ hk => ⟨⟨hk.2.2.2.2, ⟨hk.1, ⟨hk.2.1, hk.2.2.1⟩⟩⟩, hk.2.2.2.1⟩))) hg hat)
              have n7_ := am_ (Kd.R_after (ok := (fun k_ => nb k_ (.slice Ao51 x17_3.length co51) ∧ nb k_ v305 ∧ nb k_ v308 ∧ nb k_ (.slice Ao64 y310.length co64))) (ra_ (Kd.R_mono HO318.out (fun _ hk => ⟨⟨hk.2.2.2.2, ⟨hk.1, ⟨hk.2.1, hk.2.2.1⟩⟩⟩, hk.2.2.2.1⟩))) hg hat)
              have n8_ := am_ (hb)
              have n9_ := am_ (ho)
              clear HO_16
              replace HO_8 := n0_
              replace HO_17 := n1_
              replace BK288 := n2_
              replace BK303 := n3_
              replace HO306 := n4_
              replace HO309 := n5_
              replace HO312 := n6_
              replace HO318 := n7_
              replace HB := n8_
              have HO315 := n9_
              clear n0_ n1_ n2_ n3_ n4_ n5_ n6_ n7_ n8_ n9_
              clear ho hb hg hat
              refine hK.out _ _ ⟨cz_ BK303.out 0, cz_ BK303.out 1, cz_ BK303.out 2, cz_ BK303.out 3, cz_ BK303.out 4⟩ (fun hHeld => ?_)
              clear hK K
              refine nS_ ?_
              exact nm_ (hJ2_3_7_8_12 (v305, v308, .slice Ao64 y310.length co64, v314, v317) _ ⟨hHeld, (ra_ (Kd.R_mono HO306.out (fun _ hk => ⟨hk.1.2.1, ⟨hk.1.2.2.1, ⟨hk.2, ⟨hk.1.2.2.2, hk.1.1⟩⟩⟩⟩))), (ra_ (Kd.R_mono HO309.out (fun _ hk => ⟨hk.1.2.1, ⟨hk.1.2.2.1, ⟨hk.2, ⟨hk.1.2.2.2, hk.1.1⟩⟩⟩⟩))), (ra_ (Kd.R_mono HO312.out (fun _ hk => ⟨hk.1.2.1, ⟨hk.1.2.2.1, ⟨hk.2, ⟨hk.1.2.2.2, hk.1.1⟩⟩⟩⟩))), (ra_ (Kd.R_mono HO315.out (fun _ hk => ⟨hk.2.1, ⟨hk.2.2.1, ⟨hk.2.2.2.1, ⟨hk.2.2.2.2, hk.1⟩⟩⟩⟩))), (ra_ (Kd.R_mono HO318.out (fun _ hk => ⟨hk.1.2.1, ⟨hk.1.2.2.1, ⟨hk.1.2.2.2, ⟨hk.2, hk.1.1⟩⟩⟩⟩))), (ra_ (Kd.R_mono HO_17.out (fun _ hk => ⟨hk.1.1, ⟨hk.1.2.1, ⟨hk.1.2.2.1, ⟨hk.2, hk.1.2.2.2⟩⟩⟩⟩))), (ra_ HO_8.out), (bk_ BK288.out), (bk_ BK303.out), (bw_ HB.out)⟩)
            ·skip
             rintro ⟨v305, v308, v311, v314⟩ w62 ⟨hS_, h0_, h1_, h2_, h3_, h4_, h5_, h6_, h7_, h8_⟩
             have n0_ : Aside0 (Kd.R (Kd.int .i64) 3 w62 w.heap.size (fun k_ => nb k_ v308 ∧ nb k_ v311 ∧ nb k_ v314 ∧ nb k_ (.slice Ao51 x17_3.length co51)) v305 y304) := ⟨h0_⟩
             have n1_ : Aside0 (Kd.R (Kd.int .i64) 3 w62 w.heap.size (fun k_ => nb k_ v305 ∧ nb k_ v311 ∧ nb k_ v314 ∧ nb k_ (.slice Ao51 x17_3.length co51)) v308 y307) := ⟨h1_⟩
             have n2_ : Aside0 (Kd.R (Kd.int .i64) 3 w62 w.heap.size (fun k_ => nb k_ v305 ∧ nb k_ v308 ∧ nb k_ v314 ∧ nb k_ (.slice Ao51 x17_3.length co51)) v311 y310) := ⟨h2_⟩
             have n3_ : Aside0 (Kd.R (Kd.int .i64) 3 w62 w.heap.size (fun k_ => nb k_ v305 ∧ nb k_ v308 ∧ nb k_ v311 ∧ nb k_ (.slice Ao51 x17_3.length co51)) v314 y313) := ⟨h3_⟩
             have n4_ : Aside0 (Kd.R (Kd.int .i64) 3 w62 w.heap.size (fun k_ => nb k_ v305 ∧ nb k_ v308 ∧ nb k_ v311 ∧ nb k_ v314) (.slice Ao51 x17_3.length co51) x17_3) := ⟨h4_⟩
             have n5_ : Aside0 (Kd.R k72 72 w62 w.heap.size (fun _ => True) (.slice (some ⟨go17, 0, none⟩) x8_2.length co17) x8_2) := ⟨h5_⟩
             have n6_ : Aside0 (w62.heap[gb288]? = some (.cells #[.int .i64 ((rd_T74 l0 x46_2).f0), .int .i64 ((rd_T74 l0 x46_2).f1), .int .i64 ((rd_T74 l0 x46_2).f2), .int .i64 ((rd_T74 l0 x46_2).f3), .int .i64 ((rd_T74 l0 x46_2).f4)] 74 (0, 0))) := ⟨h6_⟩
             have n7_ : Aside0 (w62.heap[gb303]? = some (.cells #[.int .i64 ((rd_T74 l0 x92_3).f0), .int .i64 ((rd_T74 l0 x92_3).f1), .int .i64 ((rd_T74 l0 x92_3).f2), .int .i64 ((rd_T74 l0 x92_3).f3), .int .i64 ((rd_T74 l0 x92_3).f4)] 74 (0, 0))) := ⟨h7_⟩
             have n8_ : Aside0 (Below w.heap.size w w62) := ⟨h8_⟩
             clear HO_8
             clear HO_15
             clear HO_16
             clear HO_17
             clear BK288
             clear BK303
             clear HB
             clear h0_ h1_ h2_ h3_ h4_ h5_ h6_ h7_ h8_
             have HO306 := n0_
             have HO309 := n1_
             have HO312 := n2_
             have HO315 := n3_
             have HO_17 := n4_
             have HO_8 := n5_
             have BK288 := n6_
             have BK303 := n7_
             have HB := n8_
             clear n0_ n1_ n2_ n3_ n4_ n5_ n6_ n7_ n8_
             have hHeld : w62.cell? ⟨gb303, 0, none⟩ = some (.int .i64 ((rd_T74 l0 x92_3).f0)) ∧ w62.cell? ⟨gb303, 1, none⟩ = some (.int .i64 ((rd_T74 l0 x92_3).f1)) ∧ w62.cell? ⟨gb303, 2, none⟩ = some (.int .i64 ((rd_T74 l0 x92_3).f2)) ∧ w62.cell? ⟨gb303, 3, none⟩ = some (.int .i64 ((rd_T74 l0 x92_3).f3)) ∧ w62.cell? ⟨gb303, 4, none⟩ = some (.int .i64 ((rd_T74 l0 x92_3).f4)) := hS_
             refine norm_ (a' := ?_) ?_ ?_
             rotate_left
             ·simp only [putAll, Act.put, List.setIfInBounds_toArray, List.set_cons_zero, List.set_cons_succ]
              rfl
             refine oS_ 12 113 HT_ (fun K hK => ?_)
             refine Kd.R_lit_step (Kd.int .i64) _ 3 ?hg (N := 113) ?hd (xs := ([(rd_T74 l0 x92_3).f3] : List Int)) (inner := [.int .i64 ((rd_T74 l0 x92_3).f3)]) (ok := fun _ => True) (okp := fun _ => True) ?hr ?hp (fun _ hk => hk) trivial (Below.refl _ _) (Nat.le_refl _) (by simp) ?_; (case hd => rfl); (case hg => rfl); (case hr => first | (go_simp; done) | (go_simp; rfl)); (case hp => exact (Reps.one (show Kd.M (Kd.int .i64) _ _ _ ((rd_T74 l0 x92_3).f3) [.int .i64 ((rd_T74 l0 x92_3).f3)] from rfl) (Reps.none _ _)))
             intro v317 w63 ho64 hb hg_ hnew_
             clear hg_ hnew_
             (first | rw [← Ny316.out] at ho64 | (simp only [Int.reduceToNat] at ho64; rw [← Ny316.out] at ho64))
             have n0_ := am_ (Kd.R_below (ra_ HO_8.out) hb)
             have n1_ := am_ (Kd.R_elder' (ra_ HO_17.out) (Kd.R_base ho64) hb)
             have n2_ := am_ (Kd.R_elder' (ra_ HO306.out) (Kd.R_base ho64) hb)
             have n3_ := am_ (Kd.R_elder' (ra_ HO309.out) (Kd.R_base ho64) hb)
             have n4_ := am_ (Kd.R_elder' (ra_ HO312.out) (Kd.R_base ho64) hb)
             have n5_ := am_ (Kd.R_elder' (ra_ HO315.out) (Kd.R_base ho64) hb)
             have n6_ := am_ (Kd.R_lower (Kd.R_new' (Kd.R_new' (Kd.R_new' (Kd.R_new' (Kd.R_new' ho64 (Kd.R_lt (ra_ HO_17.out))) (Kd.R_lt (ra_ HO306.out))) (Kd.R_lt (ra_ HO309.out))) (Kd.R_lt (ra_ HO312.out))) (Kd.R_lt (ra_ HO315.out))) (below_size (bw_ HB.out)))
             have n7_ := am_ (blk_below (bk_ BK288.out) hb)
             have n8_ := am_ (blk_below (bk_ BK303.out) hb)
             have n9_ := am_ (below_step (bw_ HB.out) hb)
             replace HO_8 := n0_
             replace HO_17 := n1_
             replace HO306 := n2_
             replace HO309 := n3_
             replace HO312 := n4_
             replace HO315 := n5_
             have HO318 := n6_
             replace BK288 := n7_
             replace BK303 := n8_
             replace HB := n9_
             clear n0_ n1_ n2_ n3_ n4_ n5_ n6_ n7_ n8_ n9_
             clear hb ho64
             refine hK.out _ _ ⟨cz_ BK303.out 0, cz_ BK303.out 1, cz_ BK303.out 2, cz_ BK303.out 3, cz_ BK303.out 4⟩ (fun hHeld => ?_)
             clear hK K
             refine nS_ ?_
             exact nm_ (hJ2_3_7_8_12 (v305, v308, v311, v314, v317) _ ⟨hHeld, (ra_ (Kd.R_mono HO306.out (fun _ hk => ⟨hk.1.1, ⟨hk.1.2.1, ⟨hk.1.2.2.1, ⟨hk.2, hk.1.2.2.2⟩⟩⟩⟩))), (ra_ (Kd.R_mono HO309.out (fun _ hk => ⟨hk.1.1, ⟨hk.1.2.1, ⟨hk.1.2.2.1, ⟨hk.2, hk.1.2.2.2⟩⟩⟩⟩))), (ra_ (Kd.R_mono HO312.out (fun _ hk => ⟨hk.1.1, ⟨hk.1.2.1, ⟨hk.1.2.2.1, ⟨hk.2, hk.1.2.2.2⟩⟩⟩⟩))), (ra_ (Kd.R_mono HO315.out (fun _ hk => ⟨hk.1.1, ⟨hk.1.2.1, ⟨hk.1.2.2.1, ⟨hk.2, hk.1.2.2.2⟩⟩⟩⟩))), (ra_ (Kd.R_mono HO318.out (fun _ hk => ⟨hk.1.1.1.2, ⟨hk.1.1.2, ⟨hk.1.2, ⟨hk.2, hk.1.1.1.1.2⟩⟩⟩⟩))), (ra_ (Kd.R_mono HO_17.out (fun _ hk => ⟨hk.1.1, ⟨hk.1.2.1, ⟨hk.1.2.2.1, ⟨hk.1.2.2.2, hk.2⟩⟩⟩⟩))), (ra_ HO_8.out), (bk_ BK288.out), (bk_ BK303.out), (bw_ HB.out)⟩)
           rintro ⟨v305, v308, v311, v314, v317⟩ w64 ⟨hS_, h0_, h1_, h2_, h3_, h4_, h5_, h6_, h7_, h8_, h9_⟩
           have n0_ : Aside0 (Kd.R (Kd.int .i64) 3 w64 w.heap.size (fun k_ => nb k_ v308 ∧ nb k_ v311 ∧ nb k_ v314 ∧ nb k_ v317 ∧ nb k_ (.slice Ao51 x17_3.length co51)) v305 y304) := ⟨h0_⟩
           have n1_ : Aside0 (Kd.R (Kd.int .i64) 3 w64 w.heap.size (fun k_ => nb k_ v305 ∧ nb k_ v311 ∧ nb k_ v314 ∧ nb k_ v317 ∧ nb k_ (.slice Ao51 x17_3.length co51)) v308 y307) := ⟨h1_⟩
           have n2_ : Aside0 (Kd.R (Kd.int .i64) 3 w64 w.heap.size (fun k_ => nb k_ v305 ∧ nb k_ v308 ∧ nb k_ v314 ∧ nb k_ v317 ∧ nb k_ (.slice Ao51 x17_3.length co51)) v311 y310) := ⟨h2_⟩
           have n3_ : Aside0 (Kd.R (Kd.int .i64) 3 w64 w.heap.size (fun k_ => nb k_ v305 ∧ nb k_ v308 ∧ nb k_ v311 ∧ nb k_ v317 ∧ nb k_ (.slice Ao51 x17_3.length co51)) v314 y313) := ⟨h3_⟩
           have n4_ : Aside0 (Kd.R (Kd.int .i64) 3 w64 w.heap.size (fun k_ => nb k_ v305 ∧ nb k_ v308 ∧ nb k_ v311 ∧ nb k_ v314 ∧ nb k_ (.slice Ao51 x17_3.length co51)) v317 y316) := ⟨h4_⟩
           have n5_ : Aside0 (Kd.R (Kd.int .i64) 3 w64 w.heap.size (fun k_ => nb k_ v305 ∧ nb k_ v308 ∧ nb k_ v311 ∧ nb k_ v314 ∧ nb k_ v317) (.slice Ao51 x17_3.length co51) x17_3) := ⟨h5_⟩
           have n6_ : Aside0 (Kd.R k72 72 w64 w.heap.size (fun _ => True) (.slice (some ⟨go17, 0, none⟩) x8_2.length co17) x8_2) := ⟨h6_⟩
           have n7_ : Aside0 (w64.heap[gb288]? = some (.cells #[.int .i64 ((rd_T74 l0 x46_2).f0), .int .i64 ((rd_T74 l0 x46_2).f1), .int .i64 ((rd_T74 l0 x46_2).f2), .int .i64 ((rd_T74 l0 x46_2).f3), .int .i64 ((rd_T74 l0 x46_2).f4)] 74 (0, 0))) := ⟨h7_⟩
           have n8_ : Aside0 (w64.heap[gb303]? = some (.cells #[.int .i64 ((rd_T74 l0 x92_3).f0), .int .i64 ((rd_T74 l0 x92_3).f1), .int .i64 ((rd_T74 l0 x92_3).f2), .int .i64 ((rd_T74 l0 x92_3).f3), .int .i64 ((rd_T74 l0 x92_3).f4)] 74 (0, 0))) := ⟨h8_⟩
           have n9_ : Aside0 (Below w.heap.size w w64) := ⟨h9_⟩
           clear HO_8
           clear HO_15
           clear HO_16
           clear HO_17
           clear BK288
           clear BK303
           clear HB
           clear h0_ h1_ h2_ h3_ h4_ h5_ h6_ h7_ h8_ h9_
           have HO306 := n0_
           have HO309 := n1_
           have HO312 := n2_
           have HO315 := n3_
           have HO318 := n4_
           have HO_17 := n5_
           have HO_8 := n6_
           have BK288 := n7_
           have BK303 := n8_
           have HB := n9_
           clear n0_ n1_ n2_ n3_ n4_ n5_ n6_ n7_ n8_ n9_
           have hHeld : w64.cell? ⟨gb303, 0, none⟩ = some (.int .i64 ((rd_T74 l0 x92_3).f0)) ∧ w64.cell? ⟨gb303, 1, none⟩ = some (.int .i64 ((rd_T74 l0 x92_3).f1)) ∧ w64.cell? ⟨gb303, 2, none⟩ = some (.int .i64 ((rd_T74 l0 x92_3).f2)) ∧ w64.cell? ⟨gb303, 3, none⟩ = some (.int .i64 ((rd_T74 l0 x92_3).f3)) ∧ w64.cell? ⟨gb303, 4, none⟩ = some (.int .i64 ((rd_T74 l0 x92_3).f4)) := hS_
           obtain ⟨Ao66, co66, eo66⟩ := Kd.R_slice HO318.out
           (first | subst eo66 | (injection eo66 with f1_ f2_ f3_; have f4_ := f1_.symm; have f5_ := f3_.symm; clear f1_ f2_ f3_; subst f4_; subst f5_))
           refine norm_ (a' := ?_) ?_ ?_
           rotate_left
           ·simp only [putAll, Act.put, List.setIfInBounds_toArray, List.set_cons_zero, List.set_cons_succ]
            rfl
           refine oS_ 13 114 HT_ (fun K hK => ?_)
           refine Kd.R_append_rows_step (Kd.int .i64) (w0 := w) w.heap.size (by rfl) (.tmp 110) (.tmp 113) 24 3 (.int .i64 0) 8 rfl Try.underlying24 info3 rfl (by decide) (by omega) (.slice Ao51 x17_3.length co51) x17_3 y316 _ _ _ (fun k_ => nb k_ v305 ∧ nb k_ v308 ∧ nb k_ v311 ∧ nb k_ v314 ∧ nb k_ (.slice Ao66 y316.length co66)) (fun _ => False) rfl rfl ?aO ?aR (fun _ _ h => h) (fun _ h => h.elim) ?aF ?aB ?aS ?aL ?_
           (case aR => repeat (first | exact (Kd.R_reads' HO318.out).2.2 | (with_reducible refine Kd.C_alloc ?_ _) | (with_reducible refine Kd.C_drewN ?_ _) | (with_reducible refine Kd.C_drew ?_)))
           (case aB => exact (bw_ HB.out))
           (case aF => exact (fun k_ hk => ⟨Kd.fresh' (Kd.R_lt (ra_ HO306.out)) k_ hk, Kd.fresh' (Kd.R_lt (ra_ HO309.out)) k_ hk, Kd.fresh' (Kd.R_lt (ra_ HO312.out)) k_ hk, Kd.fresh' (Kd.R_lt (ra_ HO315.out)) k_ hk, Kd.fresh' (Kd.R_lt (ra_ HO318.out)) k_ hk⟩))
           (case aO => exact (ra_ HO_17.out))
           (case aS => exact (below_size (bw_ HB.out)))
           (case aL => have := LMc45.out; omega)
           intro v320 w65 ho hb hg hat
           rw [← Ny319.out] at ho
           have n0_ := am_ (Kd.R_over' (ra_ HO_8.out) (Kd.R_typed (ra_ HO_17.out)) (by decide) hg)
           have n1_ := am_ (blk_grown (bk_ BK288.out) hg (Kd.R_ne HO_17.out BK288.out (by decide)))
           have n2_ := am_ (blk_grown (bk_ BK303.out) hg (Kd.R_ne HO_17.out BK303.out (by decide)))
           have n3_ := am_ (Kd.R_after (ok := (fun k_ => nb k_ v308 ∧ nb k_ v311 ∧ nb k_ v314 ∧ nb k_ (.slice Ao66 y316.length co66))) (ra_ (Kd.R_mono HO306.out (fun _ hk => ⟨⟨hk.1, ⟨hk.2.1, ⟨hk.2.2.1, hk.2.2.2.1⟩⟩⟩, hk.2.2.2.2⟩))) hg hat)
           have n4_ := am_ (Kd.R_after (ok := (fun k_ => nb k_ v305 ∧ nb k_ v311 ∧ nb k_ v314 ∧ nb k_ (.slice Ao66 y316.length co66))) (ra_ (Kd.R_mono HO309.out (fun _ hk => ⟨⟨hk.1, ⟨hk.2.1, ⟨hk.2.2.1, hk.2.2.2.1⟩⟩⟩, hk.2.2.2.2⟩))) hg hat)
           have n5_ := am_ (Kd.R_after (ok := (fun k_ => nb k_ v305 ∧ nb k_ v308 ∧ nb k_ v314 ∧ nb k_ (.slice Ao66 y316.length co66))) (ra_ (Kd.R_mono HO312.out (fun _ hk => ⟨⟨hk.1, ⟨hk.2.1, ⟨hk.2.2.1, hk.2.2.2.1⟩⟩⟩, hk.2.2.2.2⟩))) hg hat)
           have n6_ := am_ (Kd.R_after (ok := (fun k_ => nb k_ v305 ∧ nb k_ v308 ∧ nb k_ v311 ∧ nb k_ (.slice Ao66 y316.length co66))) (ra_ (Kd.R_mono HO315.out (fun _ hk => ⟨⟨hk.1, ⟨hk.2.1, ⟨hk.2.2.1, hk.2.2.2.1⟩⟩⟩, hk.2.2.2.2⟩))) hg hat)
           have n7_ := am_ (Kd.R_after (ok := (fun k_ => nb k_ v305 ∧ nb k_ v308 ∧ nb k_ v311 ∧ nb k_ v314)) (ra_ (Kd.R_mono HO318.out (fun _ hk => ⟨⟨hk.1, ⟨hk.2.1, ⟨hk.2.2.1, hk.2.2.2.1⟩⟩⟩, hk.2.2.2.2⟩))) hg hat)
           have n8_ := am_ (hb)
           have n9_ := am_ (ho)
           clear HO_17
           replace HO_8 := n0_
           replace BK288 := n1_
           replace BK303 := n2_
           replace HO306 := n3_
           replace HO309 := n4_
           replace HO312 := n5_
           replace HO315 := n6_
           replace HO318 := n7_
           replace HB := n8_
           have HO321 := n9_
           clear n0_ n1_ n2_ n3_ n4_ n5_ n6_ n7_ n8_ n9_
           clear ho hb hg hat
           refine hK.out _ _ ⟨cz_ BK303.out 0, cz_ BK303.out 1, cz_ BK303.out 2, cz_ BK303.out 3, cz_ BK303.out 4⟩ (fun hHeld => ?_)
           clear hK K
           refine nS_ ?_
           refine pS_ 14 15 HT_ ?_
           refine pS_ 15 16 HT_ ?_
           refine pS_ 16 17 HT_ ?_
           refine done_ (done_of HT_.out (by kernel_rfl)) ?_
           try go_wp2
           go_roundg k3
           case measure => have := HJ3.out; have := HK2.out; have := HK3.out; omega
           case rel => exact ⟨(y307), (y313), (y319), (wrap64 (x92_3 + 1)), sq_, H', ⟨by have := HJ3.out; have := HK2.out; have := HK3.out; omega⟩, ⟨by (try simp only [hl8_2]); (with_reducible repeat (first | apply Kd.R_alloc | apply Kd.R_drewN | apply Kd.R_drew)); exact HO_8.out⟩, ⟨by (try simp only [hl8_2]); (with_reducible repeat (first | apply Kd.R_alloc | apply Kd.R_drewN | apply Kd.R_drew)); exact Kd.R_mono HO309.out (fun _ hk => ⟨hk.1.2.2.1, hk.2⟩)⟩, ⟨by (try simp only [hl8_2]); (with_reducible repeat (first | apply Kd.R_alloc | apply Kd.R_drewN | apply Kd.R_drew)); exact Kd.R_mono HO315.out (fun _ hk => ⟨hk.1.2.1, hk.2⟩)⟩, ⟨by (try simp only [hl8_2]); (with_reducible repeat (first | apply Kd.R_alloc | apply Kd.R_drewN | apply Kd.R_drew)); exact Kd.R_mono HO321.out (fun _ hk => ⟨hk.2.1, hk.2.2.2.1⟩)⟩, ⟨by (try simp only [hl8_2]); (with_reducible repeat (first | refine blk_drewN ?_ _ | refine blk_drew ?_ | refine blk_alloc ?_ _)); exact BK288.out⟩, ⟨bw_ HB.out⟩⟩
          ·rw [if_neg c42] at H
           have c42b0 : (((rd_T74 l0 x92_3).f0) == x46_2) = false := beq_eq_false_iff_ne.mpr c42
           have c42b1 : (((rd_T74 l0 x92_3).f0) != x46_2) = true := bne_iff_ne.mpr c42
           have H' := am_ H
           clear H
           have p302 : 0 ≤ (x92_3 : Int) := od_
           have q302 : x92_3 < (l0.length : Int) := od_
           obtain ⟨ad302, e302, hx302_0, hx302_1, hx302_2, hx302_3, hx302_4⟩ := at_T74 HR0.out x92_3 p302 q302
           obtain rfl : ad287 = ad302 := (by injection e302)
           (try replace hx302_0 := hc_ HB.out hx302_0)
           (try replace hx302_1 := hc_ HB.out hx302_1)
           (try replace hx302_2 := hc_ HB.out hx302_2)
           (try replace hx302_3 := hc_ HB.out hx302_3)
           (try replace hx302_4 := hc_ HB.out hx302_4)
           replace p302 := eq_true p302
           replace q302 := eq_true q302
           go_wp2_with (first | ((with_reducible refine gate_dst (N := 19) rfl ?_); refine bx_ 19 #[.int .i64 0, .int .i64 0, .int .i64 0, .int .i64 0, .int .i64 0] 74 ?_; intro gb303 hg w67 hbox hb; have n0_ := am_ (Kd.R_below (ra_ HO_8.out) hb); have n1_ := am_ (Kd.R_below (ra_ HO_15.out) hb); have n2_ := am_ (Kd.R_below (ra_ HO_16.out) hb); have n3_ := am_ (Kd.R_below (ra_ HO_17.out) hb); have n4_ := am_ (blk_below (bk_ BK288.out) hb); have n5_ := am_ (below_step (bw_ HB.out) hb); have n6_ := am_ (hbox); have n7_ := am_ (gs_ hg (bw_ HB.out)); have n8_ := am_ (gs_ hg (bw_ HB.out)); have n9_ := am_ (nl_ hg (bk_ BK288.out)); have n10_ := am_ (ng_ hg (bk_ BK288.out)); replace HO_8 := n0_; replace HO_15 := n1_; replace HO_16 := n2_; replace HO_17 := n3_; replace BK288 := n4_; replace HB := n5_; have BK303 := n6_; have GW303 := n7_; have GE303 := n8_; have NB288_303 := n9_; have NB303_288 := n10_; clear n0_ n1_ n2_ n3_ n4_ n5_ n6_ n7_ n8_ n9_ n10_; clear hb hbox hg; have hnb68 := NB303_288.out; have hnc68 := NB288_303.out; have hcz69_0 := cz_ BK303.out 0; have hcz69_1 := cz_ BK303.out 1; have hcz69_2 := cz_ BK303.out 2; have hcz69_3 := cz_ BK303.out 3; have hcz69_4 := cz_ BK303.out 4; have hfz69_0 := blk_frozen BK303.out 0; have hfz69_1 := blk_frozen BK303.out 1; have hfz69_2 := blk_frozen BK303.out 2; have hfz69_3 := blk_frozen BK303.out 3; have hfz69_4 := blk_frozen BK303.out 4))
           go_roundg k3
           case measure => have := HJ3.out; have := HK2.out; have := HK3.out; omega
           case rel => exact ⟨(x15_3), (x16_3), (x17_3), (wrap64 (x92_3 + 1)), sq_, H', ⟨by have := HJ3.out; have := HK2.out; have := HK3.out; omega⟩, ⟨by (try simp only [hl8_2]); (with_reducible repeat (first | apply Kd.R_alloc | apply Kd.R_drewN | apply Kd.R_drew)); exact Kd.R_mono (Kd.R_far (p := ⟨gb303, 4, none⟩) (Kd.R_far (p := ⟨gb303, 3, none⟩) (Kd.R_far (p := ⟨gb303, 2, none⟩) (Kd.R_far (p := ⟨gb303, 1, none⟩) (Kd.R_far (p := ⟨gb303, 0, none⟩) (Kd.R_types HO_8.out BK303.out (by decide)) (fun _ hk => hk.2) (.int .i64 ((rd_T74 l0 x92_3).f0))) (fun _ hk => hk.2) (.int .i64 ((rd_T74 l0 x92_3).f1))) (fun _ hk => hk.2) (.int .i64 ((rd_T74 l0 x92_3).f2))) (fun _ hk => hk.2) (.int .i64 ((rd_T74 l0 x92_3).f3))) (fun _ hk => hk.2) (.int .i64 ((rd_T74 l0 x92_3).f4))) (fun _ hk => trivial)⟩, ⟨by (try simp only [hl8_2]); (with_reducible repeat (first | apply Kd.R_alloc | apply Kd.R_drewN | apply Kd.R_drew)); exact Kd.R_mono (Kd.R_far (p := ⟨gb303, 4, none⟩) (Kd.R_far (p := ⟨gb303, 3, none⟩) (Kd.R_far (p := ⟨gb303, 2, none⟩) (Kd.R_far (p := ⟨gb303, 1, none⟩) (Kd.R_far (p := ⟨gb303, 0, none⟩) (Kd.R_types HO_15.out BK303.out (by decide)) (fun _ hk => hk.2) (.int .i64 ((rd_T74 l0 x92_3).f0))) (fun _ hk => hk.2) (.int .i64 ((rd_T74 l0 x92_3).f1))) (fun _ hk => hk.2) (.int .i64 ((rd_T74 l0 x92_3).f2))) (fun _ hk => hk.2) (.int .i64 ((rd_T74 l0 x92_3).f3))) (fun _ hk => hk.2) (.int .i64 ((rd_T74 l0 x92_3).f4))) (fun _ hk => ⟨hk.1.1, hk.1.2⟩)⟩, ⟨by (try simp only [hl8_2]); (with_reducible repeat (first | apply Kd.R_alloc | apply Kd.R_drewN | apply Kd.R_drew)); exact Kd.R_mono (Kd.R_far (p := ⟨gb303, 4, none⟩) (Kd.R_far (p := ⟨gb303, 3, none⟩) (Kd.R_far (p := ⟨gb303, 2, none⟩) (Kd.R_far (p := ⟨gb303, 1, none⟩) (Kd.R_far (p := ⟨gb303, 0, none⟩) (Kd.R_types HO_16.out BK303.out (by decide)) (fun _ hk => hk.2) (.int .i64 ((rd_T74 l0 x92_3).f0))) (fun _ hk => hk.2) (.int .i64 ((rd_T74 l0 x92_3).f1))) (fun _ hk => hk.2) (.int .i64 ((rd_T74 l0 x92_3).f2))) (fun _ hk => hk.2) (.int .i64 ((rd_T74 l0 x92_3).f3))) (fun _ hk => hk.2) (.int .i64 ((rd_T74 l0 x92_3).f4))) (fun _ hk => ⟨hk.1.1, hk.1.2⟩)⟩, ⟨by (try simp only [hl8_2]); (with_reducible repeat (first | apply Kd.R_alloc | apply Kd.R_drewN | apply Kd.R_drew)); exact Kd.R_mono (Kd.R_far (p := ⟨gb303, 4, none⟩) (Kd.R_far (p := ⟨gb303, 3, none⟩) (Kd.R_far (p := ⟨gb303, 2, none⟩) (Kd.R_far (p := ⟨gb303, 1, none⟩) (Kd.R_far (p := ⟨gb303, 0, none⟩) (Kd.R_types HO_17.out BK303.out (by decide)) (fun _ hk => hk.2) (.int .i64 ((rd_T74 l0 x92_3).f0))) (fun _ hk => hk.2) (.int .i64 ((rd_T74 l0 x92_3).f1))) (fun _ hk => hk.2) (.int .i64 ((rd_T74 l0 x92_3).f2))) (fun _ hk => hk.2) (.int .i64 ((rd_T74 l0 x92_3).f3))) (fun _ hk => hk.2) (.int .i64 ((rd_T74 l0 x92_3).f4))) (fun _ hk => ⟨hk.1.1, hk.1.2⟩)⟩, ⟨by (try simp only [hl8_2]); (with_reducible repeat (first | refine blk_drewN ?_ _ | refine blk_drew ?_ | refine blk_alloc ?_ _)); refine blk_far ?_ NB288_303.out _; (with_reducible repeat (first | refine blk_drewN ?_ _ | refine blk_drew ?_ | refine blk_alloc ?_ _)); refine blk_far ?_ NB288_303.out _; (with_reducible repeat (first | refine blk_drewN ?_ _ | refine blk_drew ?_ | refine blk_alloc ?_ _)); refine blk_far ?_ NB288_303.out _; (with_reducible repeat (first | refine blk_drewN ?_ _ | refine blk_drew ?_ | refine blk_alloc ?_ _)); refine blk_far ?_ NB288_303.out _; (with_reducible repeat (first | refine blk_drewN ?_ _ | refine blk_drew ?_ | refine blk_alloc ?_ _)); refine blk_far ?_ NB288_303.out _; (with_reducible repeat (first | refine blk_drewN ?_ _ | refine blk_drew ?_ | refine blk_alloc ?_ _)); exact BK288.out⟩, ⟨bw_ HB.out⟩⟩
         ·rw [if_neg c39] at H
          have c39b0 : decide (x92_3 < (l0.length : Int)) = false := decide_eq_false c39
          (try rw [hl8_2] at c39b0)
          clear c39
          have HC70 := am_ H
          clear H
          have hcz71_0 := cz_ BK288.out 0
          have hcz71_1 := cz_ BK288.out 1
          have hcz71_2 := cz_ BK288.out 2
          have hcz71_3 := cz_ BK288.out 3
          have hcz71_4 := cz_ BK288.out 4
          have hfz71_0 := blk_frozen BK288.out 0
          have hfz71_1 := blk_frozen BK288.out 1
          have hfz71_2 := blk_frozen BK288.out 2
          have hfz71_3 := blk_frozen BK288.out 3
          have hfz71_4 := blk_frozen BK288.out 4
          go_upto_if 119 with (fail)
          go_cut [20] (fun v20 wc => ∃ (kq : Nat) (x20_69 : Int), v20 = .int .i64 x20_69 ∧ Aside0 (impl_LayOut.j3 kq l0 x8_2 (wrap64 (((rd_T72 x8_2 x46_2).f0) + ((rd_T74 l0 x46_2).f4))) (wrap64 (((rd_T72 x8_2 x46_2).f1) + ((rd_T74 l0 x46_2).f4))) ji26 ji27 x15_3 x16_3 x17_3 x20_69 l0 (l0.length : Int) x46_2 ((rd_T74 l0 x46_2).f0) ((rd_T74 l0 x46_2).f1) ((rd_T74 l0 x46_2).f2) ((rd_T74 l0 x46_2).f3) ((rd_T74 l0 x46_2).f4) = some (r1, r2)) ∧ Aside0 (kq ≤ k3) ∧ Aside0 (Kd.R k72 72 wc w.heap.size (fun _ => True) (.slice (some ⟨go17, 0, none⟩) x8_2.length co17) x8_2) ∧ Aside0 (Kd.R (Kd.int .i64) 3 wc w.heap.size (fun k_ => nb k_ u16 ∧ nb k_ u17) u15 x15_3) ∧ Aside0 (Kd.R (Kd.int .i64) 3 wc w.heap.size (fun k_ => nb k_ u15 ∧ nb k_ u17) u16 x16_3) ∧ Aside0 (Kd.R (Kd.int .i64) 3 wc w.heap.size (fun k_ => nb k_ u15 ∧ nb k_ u16) u17 x17_3) ∧ Aside0 (wc.heap[gb288]? = some (.cells #[.int .i64 ((rd_T74 l0 x46_2).f0), .int .i64 ((rd_T74 l0 x46_2).f1), .int .i64 ((rd_T74 l0 x46_2).f2), .int .i64 ((rd_T74 l0 x46_2).f3), .int .i64 ((rd_T74 l0 x46_2).f4)] 74 (0, 0))) ∧ Aside0 (Below w.heap.size w wc))
          case first =>
           have H := HC70.out
           clear HC70
           by_cases c72 : ((rd_T74 l0 x46_2).f1) = 2
           ·rw [if_pos c72] at H
            have c72b0 : (((rd_T74 l0 x46_2).f1) == 2) = true := beq_iff_eq.mpr c72
            have c72b1 : (((rd_T74 l0 x46_2).f1) != 2) = false := bne_eq_false_iff_eq.mpr c72
            clear c72
            (first | rw [c72b0] | (simp only [i64_w, i32_w]; rw [c72b0]) | skip)
            have H' := am_ H
            clear H
            go_wp2
            go_meet
            case rel => exact ⟨_, (ji27), (by first | rfl | (simp; done) | (simp only [← hji27] <;> (first | rfl | simp)) | (simp [*]; done)), H', ⟨by have := HJ3.out; have := HK2.out; have := HK3.out; first | omega | exact Nat.le_refl _⟩, ⟨by (try simp only [hl8_2]); (with_reducible repeat (first | apply Kd.R_alloc | apply Kd.R_drewN | apply Kd.R_drew)); exact HO_8.out⟩, ⟨by (try simp only [hl8_2]); (with_reducible repeat (first | apply Kd.R_alloc | apply Kd.R_drewN | apply Kd.R_drew)); exact HO_15.out⟩, ⟨by (try simp only [hl8_2]); (with_reducible repeat (first | apply Kd.R_alloc | apply Kd.R_drewN | apply Kd.R_drew)); exact HO_16.out⟩, ⟨by (try simp only [hl8_2]); (with_reducible repeat (first | apply Kd.R_alloc | apply Kd.R_drewN | apply Kd.R_drew)); exact HO_17.out⟩, ⟨by (try simp only [hl8_2]); (with_reducible repeat (first | refine blk_drewN ?_ _ | refine blk_drew ?_ | refine blk_alloc ?_ _)); exact BK288.out⟩, ⟨bw_ HB.out⟩⟩
           ·rw [if_neg c72] at H
            have c72b0 : (((rd_T74 l0 x46_2).f1) == 2) = false := beq_eq_false_iff_ne.mpr c72
            have c72b1 : (((rd_T74 l0 x46_2).f1) != 2) = true := bne_iff_ne.mpr c72
            (first | rw [c72b0] | (simp only [i64_w, i32_w]; rw [c72b0]) | skip)
            have H' := am_ H
            clear H
            go_wp2
            go_meet
            case rel => exact ⟨_, (ji26), (by first | rfl | (simp; done) | (simp only [← hji26] <;> (first | rfl | simp)) | (simp [*]; done)), H', ⟨by have := HJ3.out; have := HK2.out; have := HK3.out; first | omega | exact Nat.le_refl _⟩, ⟨by (try simp only [hl8_2]); (with_reducible repeat (first | apply Kd.R_alloc | apply Kd.R_drewN | apply Kd.R_drew)); exact HO_8.out⟩, ⟨by (try simp only [hl8_2]); (with_reducible repeat (first | apply Kd.R_alloc | apply Kd.R_drewN | apply Kd.R_drew)); exact HO_15.out⟩, ⟨by (try simp only [hl8_2]); (with_reducible repeat (first | apply Kd.R_alloc | apply Kd.R_drewN | apply Kd.R_drew)); exact HO_16.out⟩, ⟨by (try simp only [hl8_2]); (with_reducible repeat (first | apply Kd.R_alloc | apply Kd.R_drewN | apply Kd.R_drew)); exact HO_17.out⟩, ⟨by (try simp only [hl8_2]); (with_reducible repeat (first | refine blk_drewN ?_ _ | refine blk_drew ?_ | refine blk_alloc ?_ _)); exact BK288.out⟩, ⟨bw_ HB.out⟩⟩
          case rest => as_aux_lemma =>
           clear HC70
           try clear c39
           try clear c39b0
           try clear hcz71_0
           try clear hcz71_1
           try clear hcz71_2
           try clear hcz71_3
           try clear hcz71_4
           try clear hfz71_0
           try clear hfz71_1
           try clear hfz71_2
           try clear hfz71_3
           try clear hfz71_4
           obtain ⟨kq, x20_69, rfl, HA, HJ69, HO_8, HO_15, HO_16, HO_17, BK288, HB⟩ := hcut
           cases kq with
           | zero => exact absurd HA.out (by simp [impl_LayOut.j3])
           | succ kj69 =>
            have H := HA.out
            clear HA
            simp only [impl_LayOut.j3] at H
            obtain ⟨t322, A730, H⟩ := bE_ H
            have A73 := am_ A730
            clear A730
            have H' := am_ H
            clear H
            obtain ⟨Ao74, co74, eo74⟩ := Kd.R_slice HO_16.out
            subst eo74
            obtain ⟨Ao75, co75, eo75⟩ := Kd.R_slice HO_17.out
            subst eo75
            go_wp2_with (first | ((with_reducible refine gate_callee (f := 45) rfl ?_); refine goesL_ (some 124) rfl rfl Try.func45 (by kernel_rfl) rfl #[.int .i64 x20_69, .slice Ao74 x16_3.length co74, .slice Ao75 x17_3.length co75] rfl (by (try simp only [List.map_toArray, List.map_cons, List.map_nil]); first | done | rfl | (simp only [List.length_drop, List.length_take]; rfl)) ?_; (with_reducible refine (impl_share.calls kj69 x20_69 _ _ x16_3 _ _ x17_3 t322 _ ?side1 ?side2 ?side3 ?side4 A73.out).mono ?_); (case side1 => repeat (first | exact (Kd.R_reads' HO_16.out).2.2 | (with_reducible refine Kd.C_alloc ?_ _) | (with_reducible refine Kd.C_drewN ?_ _) | (with_reducible refine Kd.C_drew ?_))); (case side2 => exact (Kd.R_reads' HO_16.out).2.1); (case side3 => repeat (first | exact (Kd.R_reads' HO_17.out).2.2 | (with_reducible refine Kd.C_alloc ?_ _) | (with_reducible refine Kd.C_drewN ?_ _) | (with_reducible refine Kd.C_drew ?_))); (case side4 => exact (Kd.R_reads' HO_17.out).2.1); rintro e w76 ⟨v323, rfl, ho0, hb⟩; refine ⟨_, rfl, ?_⟩; have n0_ := am_ (Kd.R_below (ra_ HO_8.out) hb); have n1_ := am_ (Kd.R_elder' (ra_ HO_15.out) (Kd.R_base ho0) hb); have n2_ := am_ (Kd.R_elder' (ra_ HO_16.out) (Kd.R_base ho0) hb); have n3_ := am_ (Kd.R_elder' (ra_ HO_17.out) (Kd.R_base ho0) hb); have n4_ := am_ (Kd.R_lower (Kd.R_new' (Kd.R_new' (Kd.R_new' ho0 (Kd.R_lt (ra_ HO_15.out))) (Kd.R_lt (ra_ HO_16.out))) (Kd.R_lt (ra_ HO_17.out))) (below_size (bw_ HB.out))); have n5_ := am_ (blk_below (bk_ BK288.out) hb); have n6_ := am_ (below_step (bw_ HB.out) hb); replace HO_8 := n0_; replace HO_15 := n1_; replace HO_16 := n2_; replace HO_17 := n3_; have HO324 := n4_; replace BK288 := n5_; replace HB := n6_; clear n0_ n1_ n2_ n3_ n4_ n5_ n6_; (try clear hb); (try clear hb2); (try clear hk); (try clear hi); (try clear ho0); obtain ⟨Ao77, co77, eo77⟩ := Kd.R_slice HO324.out; subst eo77))
            go_loopg [11, 12, 126] kj69 (fun kq v11 v12 v126 w' => ∃ (x8_5 : List (S72)) (x11_5 : Int) (x12_5 : Int) (x126_5 : Int), v11 = .int .i64 x11_5 ∧ v12 = .int .i64 x12_5 ∧ v126 = .int .i64 x126_5 ∧ Aside0 (impl_LayOut.l2 kq l0 x8_5 x11_5 x12_5 ji26 ji27 x15_3 l0 (l0.length : Int) x46_2 t322 (t322.length : Int) x126_5 ((rd_T74 l0 x46_2).f0) ((rd_T74 l0 x46_2).f1) ((rd_T74 l0 x46_2).f2) ((rd_T74 l0 x46_2).f3) ((rd_T74 l0 x46_2).f4) = some (r1, r2)) ∧ Aside0 (kq ≤ kj69) ∧ Aside0 (Kd.R k72 72 w' w.heap.size (fun _ => True) (.slice (some ⟨go17, 0, none⟩) x8_2.length co17) x8_5) ∧ Aside0 (Kd.R (Kd.int .i64) 3 w' w.heap.size (fun k_ => nb k_ (.slice Ao77 t322.length co77)) u15 x15_3) ∧ Aside0 (Kd.R (Kd.int .i64) 3 w' w.heap.size (fun k_ => nb k_ u15) (.slice Ao77 t322.length co77) t322) ∧ Aside0 (w'.heap[gb288]? = some (.cells #[.int .i64 ((rd_T74 l0 x46_2).f0), .int .i64 ((rd_T74 l0 x46_2).f1), .int .i64 ((rd_T74 l0 x46_2).f2), .int .i64 ((rd_T74 l0 x46_2).f3), .int .i64 ((rd_T74 l0 x46_2).f4)] 74 (0, 0))) ∧ Aside0 (Below w.heap.size w w'))
            case atStart => exact ⟨(x8_2), ((wrap64 (((rd_T72 x8_2 x46_2).f0) + ((rd_T74 l0 x46_2).f4)))), ((wrap64 (((rd_T72 x8_2 x46_2).f1) + ((rd_T74 l0 x46_2).f4)))), (0), sq_, sq_, sq_, H', ⟨Nat.le_refl _⟩, ⟨by (try simp only [hl8_2]); (with_reducible repeat (first | apply Kd.R_alloc | apply Kd.R_drewN | apply Kd.R_drew)); exact HO_8.out⟩, ⟨by (try simp only [hl8_2]); (with_reducible repeat (first | apply Kd.R_alloc | apply Kd.R_drewN | apply Kd.R_drew)); exact Kd.R_mono HO_15.out (fun _ hk => hk.2)⟩, ⟨by (try simp only [hl8_2]); (with_reducible repeat (first | apply Kd.R_alloc | apply Kd.R_drewN | apply Kd.R_drew)); exact Kd.R_mono HO324.out (fun _ hk => hk.1.1.2)⟩, ⟨by (try simp only [hl8_2]); (with_reducible repeat (first | refine blk_drewN ?_ _ | refine blk_drew ?_ | refine blk_alloc ?_ _)); exact BK288.out⟩, ⟨bw_ HB.out⟩⟩
            case round =>
             clear H'
             try clear c39
             try clear c39b0
             try clear hcz71_0
             try clear hcz71_1
             try clear hcz71_2
             try clear hcz71_3
             try clear hcz71_4
             try clear hfz71_0
             try clear hfz71_1
             try clear hfz71_2
             try clear hfz71_3
             try clear hfz71_4
             obtain ⟨x8_5, x11_5, x12_5, x126_5, rfl, rfl, rfl, HA, HK5, HO_8, HO_15, HO_124, BK288, HB⟩ := hrel
             have hl8_5 := (Kd.R_reads' HO_8.out).1
             rw [hl8_5] at HO_8
             (try simp only [hl8_5])
             (try simp only [hl8_5] at BK288)
             (try simp only [hl8_5] at HO_15)
             (try simp only [hl8_5] at HO_124)
             cases gk with
             | zero => exact absurd HA.out (by simp [impl_LayOut.l2])
             | succ k5 =>
              have H := HA.out
              clear HA
              simp only [impl_LayOut.l2] at H
              by_cases c78 : x126_5 < (t322.length : Int)
              ·rw [if_pos c78] at H
               have c78b0 : decide (x126_5 < (t322.length : Int)) = true := decide_eq_true c78
               (try rw [hl8_2] at c78b0)
               (try rw [hl8_5] at c78b0)
               clear c78
               obtain ⟨c79, H⟩ := ifn_ H
               have c79b0 : decide (0 ≤ x126_5) = true := decide_eq_true c79
               clear c79
               obtain ⟨c80, H⟩ := ifn_ H
               have c80b0 : decide (x126_5 < (t322.length : Int)) = true := decide_eq_true c80
               (try rw [hl8_2] at c80b0)
               (try rw [hl8_5] at c80b0)
               clear c80
               by_cases c81 : ((rd_T74 l0 x46_2).f1) = 1
               ·rw [if_pos c81] at H
                have c81b0 : (((rd_T74 l0 x46_2).f1) == 1) = true := beq_iff_eq.mpr c81
                have c81b1 : (((rd_T74 l0 x46_2).f1) != 1) = false := bne_eq_false_iff_eq.mpr c81
                clear c81
                obtain ⟨c82, H⟩ := ifn_ H
                have c82b0 : decide (x126_5 < (x15_3.length : Int)) = true := decide_eq_true c82
                (try rw [hl8_2] at c82b0)
                (try rw [hl8_5] at c82b0)
                clear c82
                obtain ⟨c83, H⟩ := ifn_ H
                have c83b0 : decide (0 ≤ (rd x15_3 x126_5)) = true := decide_eq_true c83
                clear c83
                obtain ⟨c84, H⟩ := ifn_ H
                have c84b0 : decide ((rd x15_3 x126_5) < (x8_5.length : Int)) = true := decide_eq_true c84
                (try rw [hl8_2] at c84b0)
                (try rw [hl8_5] at c84b0)
                clear c84
                obtain ⟨y327, hy327⟩ : ∃ y_ : List (S72), y_ = (x8_5.set ((rd x15_3 x126_5) : Int).toNat (⟨x11_5, x12_5, rd t322 x126_5, ji27⟩ : S72)) := ⟨_, rfl⟩
                replace H : (impl_LayOut.l2 k5 l0 y327 (wrap64 (x11_5 + (rd t322 x126_5))) x12_5 ji26 ji27 x15_3 l0 (l0.length : Int) x46_2 t322 (t322.length : Int) (wrap64 (x126_5 + 1)) ((rd_T74 l0 x46_2).f0) ((rd_T74 l0 x46_2).f1) ((rd_T74 l0 x46_2).f2) ((rd_T74 l0 x46_2).f3) ((rd_T74 l0 x46_2).f4)) = some (r1, r2) := by first | (rw [hy327]; with_reducible exact H) | (have H2_ := (Option.bind_some _ _).symm.trans H; rw [hy327]; with_reducible exact H2_) | (have H2_ := (Option.bind_some _ _).symm.trans H; with_reducible exact H2_) | with_reducible exact H | (rw [hy327]; exact H) | exact H
                have Ny327 := am_ hy327
                clear hy327
                have H' := am_ H
                clear H
                have p325 : 0 ≤ (x126_5 : Int) := od_
                have q325 : x126_5 < (t322.length : Int) := od_
                obtain ⟨ad325, e325, hx325_0⟩ := Kd.at_int (Kd.R_reads' HO_124.out).2.2 x126_5 p325 q325
                cases e325
                replace p325 := eq_true p325
                replace q325 := eq_true q325
                have hcz86_0 := cz_ BK288.out 0
                have hcz86_1 := cz_ BK288.out 1
                have hcz86_2 := cz_ BK288.out 2
                have hcz86_3 := cz_ BK288.out 3
                have hcz86_4 := cz_ BK288.out 4
                have hfz86_0 := blk_frozen BK288.out 0
                have hfz86_1 := blk_frozen BK288.out 1
                have hfz86_2 := blk_frozen BK288.out 2
                have hfz86_3 := blk_frozen BK288.out 3
                have hfz86_4 := blk_frozen BK288.out 4
                obtain ⟨Ao87, co87, eo87⟩ := Kd.R_slice HO_15.out
                subst eo87
                have p326 : 0 ≤ (x126_5 : Int) := od_
                have q326 : x126_5 < (x15_3.length : Int) := od_
                obtain ⟨ad326, e326, hx326_0⟩ := Kd.at_int (Kd.R_reads' HO_15.out).2.2 x126_5 p326 q326
                cases e326
                replace p326 := eq_true p326
                replace q326 := eq_true q326
                have p85 : 0 ≤ ((rd x15_3 x126_5) : Int) := od_
                have q85 : ((rd x15_3 x126_5) : Int) < ((x8_5.length : Int) : Int) := od_
                obtain ⟨ce85, hcl85, hM85, hcc85, hfr85⟩ := Kd.R_elem HO_8.out z72 ((rd x15_3 x126_5) : Int) p85 q85
                obtain rfl := k72_openM hM85
                have hx85_0 : wr.cell? ⟨go17, ((rd x15_3 x126_5) : Int).toNat * 4, none⟩ = some (.int .i64 ((rd_T72 x8_5 (rd x15_3 x126_5)).f0)) := hcc85 0 _ rfl
                have hx85_1 : wr.cell? ⟨go17, ((rd x15_3 x126_5) : Int).toNat * 4 + 1, none⟩ = some (.int .i64 ((rd_T72 x8_5 (rd x15_3 x126_5)).f1)) := hcc85 1 _ rfl
                have hx85_2 : wr.cell? ⟨go17, ((rd x15_3 x126_5) : Int).toNat * 4 + 2, none⟩ = some (.int .i64 ((rd_T72 x8_5 (rd x15_3 x126_5)).f2)) := hcc85 2 _ rfl
                have hx85_3 : wr.cell? ⟨go17, ((rd x15_3 x126_5) : Int).toNat * 4 + 3, none⟩ = some (.int .i64 ((rd_T72 x8_5 (rd x15_3 x126_5)).f3)) := hcc85 3 _ rfl
                have hf85_0 : wr.frozen? ⟨go17, ((rd x15_3 x126_5) : Int).toNat * 4, none⟩ = false := hfr85 0
                have hf85_1 : wr.frozen? ⟨go17, ((rd x15_3 x126_5) : Int).toNat * 4 + 1, none⟩ = false := hfr85 1
                have hf85_2 : wr.frozen? ⟨go17, ((rd x15_3 x126_5) : Int).toNat * 4 + 2, none⟩ = false := hfr85 2
                have hf85_3 : wr.frozen? ⟨go17, ((rd x15_3 x126_5) : Int).toNat * 4 + 3, none⟩ = false := hfr85 3
                clear hcl85 hcc85 hfr85; (try clear hM85)
                replace p85 := eq_true p85
                replace q85 := eq_true q85
                have HX88 := am_ (show Kd.R k72 72 wr w.heap.size (fun _ => True) (.slice (some ⟨go17, 0, none⟩) x8_5.length co17) x8_5 from (ra_ HO_8.out))
                obtain ⟨ce88, hcl88, hM88, hcc88, hfr88⟩ := Kd.R_elem HX88.out z72 ((rd x15_3 x126_5) : Int) od_ (by have h_ : ((rd x15_3 x126_5) : Int) < ((x8_5.length : Int) : Int) := od_; first | exact h_ | (have e_ := (Kd.R_reads' HO_8.out).1; omega) | simpa using h_)
                obtain rfl := k72_openM hM88
                have HP88 := Kd.R_seg HX88.out ((rd x15_3 x126_5) : Int) od_ (by have h_ : ((rd x15_3 x126_5) : Int) < ((x8_5.length : Int) : Int) := od_; first | exact h_ | (have e_ := (Kd.R_reads' HO_8.out).1; omega) | simpa using h_) (seg := [.int .i64 x11_5, .int .i64 x12_5, .int .i64 (rd t322 x126_5), .int .i64 ji27]) (j := 0) hcl88 hcc88 (show 4 ≤ 4 from by decide) (x' := (⟨x11_5, x12_5, rd t322 x126_5, ji27⟩ : S72)) (k72_mkM _ _ _ (⟨x11_5, x12_5, rd t322 x126_5, ji27⟩ : S72) ) (fun _ hk => hk)
                have hx88_0 := hcc88 0 _ rfl
                (try simp only [show (k72).sz = 4 from rfl, Nat.mul_one, Nat.add_zero] at hx88_0)
                have hf88_0 := hfr88 0
                (try simp only [show (k72).sz = 4 from rfl, Nat.mul_one, Nat.add_zero] at hf88_0)
                have hx88_1 := hcc88 1 _ rfl
                (try simp only [show (k72).sz = 4 from rfl, Nat.mul_one, Nat.add_zero] at hx88_1)
                have hf88_1 := hfr88 1
                (try simp only [show (k72).sz = 4 from rfl, Nat.mul_one, Nat.add_zero] at hf88_1)
                have hx88_2 := hcc88 2 _ rfl
                (try simp only [show (k72).sz = 4 from rfl, Nat.mul_one, Nat.add_zero] at hx88_2)
                have hf88_2 := hfr88 2
                (try simp only [show (k72).sz = 4 from rfl, Nat.mul_one, Nat.add_zero] at hf88_2)
                have hx88_3 := hcc88 3 _ rfl
                (try simp only [show (k72).sz = 4 from rfl, Nat.mul_one, Nat.add_zero] at hx88_3)
                have hf88_3 := hfr88 3
                (try simp only [show (k72).sz = 4 from rfl, Nat.mul_one, Nat.add_zero] at hf88_3)
                clear hcl88 hcc88 hfr88; (try clear hM88)
                go_wp2_with (first | ((with_reducible refine gate_store (t := 72) (p := 144) rfl ?_); refine se_ 72 144 ((((wr.setCell ⟨go17, ((rd x15_3 x126_5) : Int).toNat * 4, none⟩ (.int .i64 x11_5)).setCell ⟨go17, ((rd x15_3 x126_5) : Int).toNat * 4 + 1, none⟩ (.int .i64 x12_5)).setCell ⟨go17, ((rd x15_3 x126_5) : Int).toNat * 4 + 2, none⟩ (.int .i64 (rd t322 x126_5))).setCell ⟨go17, ((rd x15_3 x126_5) : Int).toNat * 4 + 3, none⟩ (.int .i64 ji27)) ?_; intro w89 hw; have hg : wr.grownBy w89 (some go17) := (by rw [hw]; exact HP88.2); have hp_ : Kd.R k72 72 w89 w.heap.size (fun _ => True) (.slice (some ⟨go17, 0, none⟩) x8_5.length co17) y327 := (by rw [hw, Ny327.out]; exact HP88.1); clear HP88; have n0_ := am_ (hp_); have n1_ := am_ (Kd.R_over' (v := (.slice (some ⟨go17, 0, none⟩) x8_5.length co17)) (ra_ HO_15.out) (Kd.R_typed HO_8.out) (by decide) hg); have n2_ := am_ (Kd.R_over' (v := (.slice (some ⟨go17, 0, none⟩) x8_5.length co17)) (ra_ HO_124.out) (Kd.R_typed HO_8.out) (by decide) hg); have n3_ := am_ (blk_grown (bk_ BK288.out) hg (Kd.R_ne HO_8.out BK288.out (by decide))); have n4_ := am_ ((by rw [hw]; exact below_set (below_set (below_set (below_set (HB.out) GB17.out) GB17.out) GB17.out) GB17.out : Below w.heap.size w w89)); replace HO_8 := n0_; replace HO_15 := n1_; replace HO_124 := n2_; replace BK288 := n3_; replace HB := n4_; clear n0_ n1_ n2_ n3_ n4_; clear hg hw hp_))
                (try simp only [← hl8_5])
                (try simp only [show (⟨go17, (x126_5 : Int).toNat, none⟩ : Addr) = Addr.add ⟨go17, 0, none⟩ (x126_5 : Int).toNat from by simp [Addr.add]])
                go_roundg k5
                case measure => have := HJ3.out; have := HK2.out; have := HK3.out; have := HJ69.out; have := HK5.out; omega
                case rel => first | exact ⟨(y327), (wrap64 (x11_5 + (rd t322 x126_5))), (x12_5), (wrap64 (x126_5 + 1)), sq_, sq_, sq_, H', ⟨by have := HJ3.out; have := HK2.out; have := HK3.out; have := HJ69.out; have := HK5.out; omega⟩, ⟨by (try simp only [hl8_2]); (try simp only [hl8_5]); (with_reducible repeat (first | apply Kd.R_alloc | apply Kd.R_drewN | apply Kd.R_drew)); exact HO_8.out⟩, ⟨by (try simp only [hl8_2]); (try simp only [hl8_5]); (with_reducible repeat (first | apply Kd.R_alloc | apply Kd.R_drewN | apply Kd.R_drew)); exact HO_15.out⟩, ⟨by (try simp only [hl8_2]); (try simp only [hl8_5]); (with_reducible repeat (first | apply Kd.R_alloc | apply Kd.R_drewN | apply Kd.R_drew)); exact HO_124.out⟩, ⟨by (try simp only [hl8_2]); (try simp only [hl8_5]); (with_reducible repeat (first | refine blk_drewN ?_ _ | refine blk_drew ?_ | refine blk_alloc ?_ _)); exact BK288.out⟩, ⟨bw_ HB.out⟩⟩ | (simp only [(show (⟨go17, (x126_5 : Int).toNat, none⟩ : Addr) = Addr.add ⟨go17, 0, none⟩ (x126_5 : Int).toNat from by simp [Addr.add]).symm]; exact ⟨(y327), (wrap64 (x11_5 + (rd t322 x126_5))), (x12_5), (wrap64 (x126_5 + 1)), sq_, sq_, sq_, H', ⟨by have := HJ3.out; have := HK2.out; have := HK3.out; have := HJ69.out; have := HK5.out; omega⟩, ⟨by (try simp only [hl8_2]); (try simp only [hl8_5]); (with_reducible repeat (first | apply Kd.R_alloc | apply Kd.R_drewN | apply Kd.R_drew)); exact HO_8.out⟩, ⟨by (try simp only [hl8_2]); (try simp only [hl8_5]); (with_reducible repeat (first | apply Kd.R_alloc | apply Kd.R_drewN | apply Kd.R_drew)); exact HO_15.out⟩, ⟨by (try simp only [hl8_2]); (try simp only [hl8_5]); (with_reducible repeat (first | apply Kd.R_alloc | apply Kd.R_drewN | apply Kd.R_drew)); exact HO_124.out⟩, ⟨by (try simp only [hl8_2]); (try simp only [hl8_5]); (with_reducible repeat (first | refine blk_drewN ?_ _ | refine blk_drew ?_ | refine blk_alloc ?_ _)); exact BK288.out⟩, ⟨bw_ HB.out⟩⟩)
               ·rw [if_neg c81] at H
                have c81b0 : (((rd_T74 l0 x46_2).f1) == 1) = false := beq_eq_false_iff_ne.mpr c81
                have c81b1 : (((rd_T74 l0 x46_2).f1) != 1) = true := bne_iff_ne.mpr c81
                obtain ⟨c90, H⟩ := ifn_ H
                have c90b0 : decide (x126_5 < (x15_3.length : Int)) = true := decide_eq_true c90
                (try rw [hl8_2] at c90b0)
                (try rw [hl8_5] at c90b0)
                clear c90
                obtain ⟨c91, H⟩ := ifn_ H
                have c91b0 : decide (0 ≤ (rd x15_3 x126_5)) = true := decide_eq_true c91
                clear c91
                obtain ⟨c92, H⟩ := ifn_ H
                have c92b0 : decide ((rd x15_3 x126_5) < (x8_5.length : Int)) = true := decide_eq_true c92
                (try rw [hl8_2] at c92b0)
                (try rw [hl8_5] at c92b0)
                clear c92
                obtain ⟨y329, hy329⟩ : ∃ y_ : List (S72), y_ = (x8_5.set ((rd x15_3 x126_5) : Int).toNat (⟨x11_5, x12_5, ji26, rd t322 x126_5⟩ : S72)) := ⟨_, rfl⟩
                replace H : (impl_LayOut.l2 k5 l0 y329 x11_5 (wrap64 (x12_5 + (rd t322 x126_5))) ji26 ji27 x15_3 l0 (l0.length : Int) x46_2 t322 (t322.length : Int) (wrap64 (x126_5 + 1)) ((rd_T74 l0 x46_2).f0) ((rd_T74 l0 x46_2).f1) ((rd_T74 l0 x46_2).f2) ((rd_T74 l0 x46_2).f3) ((rd_T74 l0 x46_2).f4)) = some (r1, r2) := by first | (rw [hy329]; with_reducible exact H) | (have H2_ := (Option.bind_some _ _).symm.trans H; rw [hy329]; with_reducible exact H2_) | (have H2_ := (Option.bind_some _ _).symm.trans H; with_reducible exact H2_) | with_reducible exact H | (rw [hy329]; exact H) | exact H
                have Ny329 := am_ hy329
                clear hy329
                have H' := am_ H
                clear H
                have p325 : 0 ≤ (x126_5 : Int) := od_
                have q325 : x126_5 < (t322.length : Int) := od_
                obtain ⟨ad325, e325, hx325_0⟩ := Kd.at_int (Kd.R_reads' HO_124.out).2.2 x126_5 p325 q325
                cases e325
                replace p325 := eq_true p325
                replace q325 := eq_true q325
                have hcz94_0 := cz_ BK288.out 0
                have hcz94_1 := cz_ BK288.out 1
                have hcz94_2 := cz_ BK288.out 2
                have hcz94_3 := cz_ BK288.out 3
                have hcz94_4 := cz_ BK288.out 4
                have hfz94_0 := blk_frozen BK288.out 0
                have hfz94_1 := blk_frozen BK288.out 1
                have hfz94_2 := blk_frozen BK288.out 2
                have hfz94_3 := blk_frozen BK288.out 3
                have hfz94_4 := blk_frozen BK288.out 4
                obtain ⟨Ao95, co95, eo95⟩ := Kd.R_slice HO_15.out
                subst eo95
                have p328 : 0 ≤ (x126_5 : Int) := od_
                have q328 : x126_5 < (x15_3.length : Int) := od_
                obtain ⟨ad328, e328, hx328_0⟩ := Kd.at_int (Kd.R_reads' HO_15.out).2.2 x126_5 p328 q328
                cases e328
                replace p328 := eq_true p328
                replace q328 := eq_true q328
                have p93 : 0 ≤ ((rd x15_3 x126_5) : Int) := od_
                have q93 : ((rd x15_3 x126_5) : Int) < ((x8_5.length : Int) : Int) := od_
                obtain ⟨ce93, hcl93, hM93, hcc93, hfr93⟩ := Kd.R_elem HO_8.out z72 ((rd x15_3 x126_5) : Int) p93 q93
                obtain rfl := k72_openM hM93
                have hx93_0 : wr.cell? ⟨go17, ((rd x15_3 x126_5) : Int).toNat * 4, none⟩ = some (.int .i64 ((rd_T72 x8_5 (rd x15_3 x126_5)).f0)) := hcc93 0 _ rfl
                have hx93_1 : wr.cell? ⟨go17, ((rd x15_3 x126_5) : Int).toNat * 4 + 1, none⟩ = some (.int .i64 ((rd_T72 x8_5 (rd x15_3 x126_5)).f1)) := hcc93 1 _ rfl
                have hx93_2 : wr.cell? ⟨go17, ((rd x15_3 x126_5) : Int).toNat * 4 + 2, none⟩ = some (.int .i64 ((rd_T72 x8_5 (rd x15_3 x126_5)).f2)) := hcc93 2 _ rfl
                have hx93_3 : wr.cell? ⟨go17, ((rd x15_3 x126_5) : Int).toNat * 4 + 3, none⟩ = some (.int .i64 ((rd_T72 x8_5 (rd x15_3 x126_5)).f3)) := hcc93 3 _ rfl
                have hf93_0 : wr.frozen? ⟨go17, ((rd x15_3 x126_5) : Int).toNat * 4, none⟩ = false := hfr93 0
                have hf93_1 : wr.frozen? ⟨go17, ((rd x15_3 x126_5) : Int).toNat * 4 + 1, none⟩ = false := hfr93 1
                have hf93_2 : wr.frozen? ⟨go17, ((rd x15_3 x126_5) : Int).toNat * 4 + 2, none⟩ = false := hfr93 2
                have hf93_3 : wr.frozen? ⟨go17, ((rd x15_3 x126_5) : Int).toNat * 4 + 3, none⟩ = false := hfr93 3
                clear hcl93 hcc93 hfr93; (try clear hM93)
                replace p93 := eq_true p93
                replace q93 := eq_true q93
                have HX96 := am_ (show Kd.R k72 72 wr w.heap.size (fun _ => True) (.slice (some ⟨go17, 0, none⟩) x8_5.length co17) x8_5 from (ra_ HO_8.out))
                obtain ⟨ce96, hcl96, hM96, hcc96, hfr96⟩ := Kd.R_elem HX96.out z72 ((rd x15_3 x126_5) : Int) od_ (by have h_ : ((rd x15_3 x126_5) : Int) < ((x8_5.length : Int) : Int) := od_; first | exact h_ | (have e_ := (Kd.R_reads' HO_8.out).1; omega) | simpa using h_)
                obtain rfl := k72_openM hM96
                have HP96 := Kd.R_seg HX96.out ((rd x15_3 x126_5) : Int) od_ (by have h_ : ((rd x15_3 x126_5) : Int) < ((x8_5.length : Int) : Int) := od_; first | exact h_ | (have e_ := (Kd.R_reads' HO_8.out).1; omega) | simpa using h_) (seg := [.int .i64 x11_5, .int .i64 x12_5, .int .i64 ji26, .int .i64 (rd t322 x126_5)]) (j := 0) hcl96 hcc96 (show 4 ≤ 4 from by decide) (x' := (⟨x11_5, x12_5, ji26, rd t322 x126_5⟩ : S72)) (k72_mkM _ _ _ (⟨x11_5, x12_5, ji26, rd t322 x126_5⟩ : S72) ) (fun _ hk => hk)
                have hx96_0 := hcc96 0 _ rfl
                (try simp only [show (k72).sz = 4 from rfl, Nat.mul_one, Nat.add_zero] at hx96_0)
                have hf96_0 := hfr96 0
                (try simp only [show (k72).sz = 4 from rfl, Nat.mul_one, Nat.add_zero] at hf96_0)
                have hx96_1 := hcc96 1 _ rfl
                (try simp only [show (k72).sz = 4 from rfl, Nat.mul_one, Nat.add_zero] at hx96_1)
                have hf96_1 := hfr96 1
                (try simp only [show (k72).sz = 4 from rfl, Nat.mul_one, Nat.add_zero] at hf96_1)
                have hx96_2 := hcc96 2 _ rfl
                (try simp only [show (k72).sz = 4 from rfl, Nat.mul_one, Nat.add_zero] at hx96_2)
                have hf96_2 := hfr96 2
                (try simp only [show (k72).sz = 4 from rfl, Nat.mul_one, Nat.add_zero] at hf96_2)
                have hx96_3 := hcc96 3 _ rfl
                (try simp only [show (k72).sz = 4 from rfl, Nat.mul_one, Nat.add_zero] at hx96_3)
                have hf96_3 := hfr96 3
                (try simp only [show (k72).sz = 4 from rfl, Nat.mul_one, Nat.add_zero] at hf96_3)
                clear hcl96 hcc96 hfr96; (try clear hM96)
                go_wp2_with (first | ((with_reducible refine gate_store (t := 72) (p := 158) rfl ?_); refine se_ 72 158 ((((wr.setCell ⟨go17, ((rd x15_3 x126_5) : Int).toNat * 4, none⟩ (.int .i64 x11_5)).setCell ⟨go17, ((rd x15_3 x126_5) : Int).toNat * 4 + 1, none⟩ (.int .i64 x12_5)).setCell ⟨go17, ((rd x15_3 x126_5) : Int).toNat * 4 + 2, none⟩ (.int .i64 ji26)).setCell ⟨go17, ((rd x15_3 x126_5) : Int).toNat * 4 + 3, none⟩ (.int .i64 (rd t322 x126_5))) ?_; intro w97 hw; have hg : wr.grownBy w97 (some go17) := (by rw [hw]; exact HP96.2); have hp_ : Kd.R k72 72 w97 w.heap.size (fun _ => True) (.slice (some ⟨go17, 0, none⟩) x8_5.length co17) y329 := (by rw [hw, Ny329.out]; exact HP96.1); clear HP96; have n0_ := am_ (hp_); have n1_ := am_ (Kd.R_over' (v := (.slice (some ⟨go17, 0, none⟩) x8_5.length co17)) (ra_ HO_15.out) (Kd.R_typed HO_8.out) (by decide) hg); have n2_ := am_ (Kd.R_over' (v := (.slice (some ⟨go17, 0, none⟩) x8_5.length co17)) (ra_ HO_124.out) (Kd.R_typed HO_8.out) (by decide) hg); have n3_ := am_ (blk_grown (bk_ BK288.out) hg (Kd.R_ne HO_8.out BK288.out (by decide))); have n4_ := am_ ((by rw [hw]; exact below_set (below_set (below_set (below_set (HB.out) GB17.out) GB17.out) GB17.out) GB17.out : Below w.heap.size w w97)); replace HO_8 := n0_; replace HO_15 := n1_; replace HO_124 := n2_; replace BK288 := n3_; replace HB := n4_; clear n0_ n1_ n2_ n3_ n4_; clear hg hw hp_))
                (try simp only [← hl8_5])
                (try simp only [show (⟨go17, (x126_5 : Int).toNat, none⟩ : Addr) = Addr.add ⟨go17, 0, none⟩ (x126_5 : Int).toNat from by simp [Addr.add]])
                go_roundg k5
                case measure => have := HJ3.out; have := HK2.out; have := HK3.out; have := HJ69.out; have := HK5.out; omega
                case rel => first | exact ⟨(y329), (x11_5), (wrap64 (x12_5 + (rd t322 x126_5))), (wrap64 (x126_5 + 1)), sq_, sq_, sq_, H', ⟨by have := HJ3.out; have := HK2.out; have := HK3.out; have := HJ69.out; have := HK5.out; omega⟩, ⟨by (try simp only [hl8_2]); (try simp only [hl8_5]); (with_reducible repeat (first | apply Kd.R_alloc | apply Kd.R_drewN | apply Kd.R_drew)); exact HO_8.out⟩, ⟨by (try simp only [hl8_2]); (try simp only [hl8_5]); (with_reducible repeat (first | apply Kd.R_alloc | apply Kd.R_drewN | apply Kd.R_drew)); exact HO_15.out⟩, ⟨by (try simp only [hl8_2]); (try simp only [hl8_5]); (with_reducible repeat (first | apply Kd.R_alloc | apply Kd.R_drewN | apply Kd.R_drew)); exact HO_124.out⟩, ⟨by (try simp only [hl8_2]); (try simp only [hl8_5]); (with_reducible repeat (first | refine blk_drewN ?_ _ | refine blk_drew ?_ | refine blk_alloc ?_ _)); exact BK288.out⟩, ⟨bw_ HB.out⟩⟩ | (simp only [(show (⟨go17, (x126_5 : Int).toNat, none⟩ : Addr) = Addr.add ⟨go17, 0, none⟩ (x126_5 : Int).toNat from by simp [Addr.add]).symm]; exact ⟨(y329), (x11_5), (wrap64 (x12_5 + (rd t322 x126_5))), (wrap64 (x126_5 + 1)), sq_, sq_, sq_, H', ⟨by have := HJ3.out; have := HK2.out; have := HK3.out; have := HJ69.out; have := HK5.out; omega⟩, ⟨by (try simp only [hl8_2]); (try simp only [hl8_5]); (with_reducible repeat (first | apply Kd.R_alloc | apply Kd.R_drewN | apply Kd.R_drew)); exact HO_8.out⟩, ⟨by (try simp only [hl8_2]); (try simp only [hl8_5]); (with_reducible repeat (first | apply Kd.R_alloc | apply Kd.R_drewN | apply Kd.R_drew)); exact HO_15.out⟩, ⟨by (try simp only [hl8_2]); (try simp only [hl8_5]); (with_reducible repeat (first | apply Kd.R_alloc | apply Kd.R_drewN | apply Kd.R_drew)); exact HO_124.out⟩, ⟨by (try simp only [hl8_2]); (try simp only [hl8_5]); (with_reducible repeat (first | refine blk_drewN ?_ _ | refine blk_drew ?_ | refine blk_alloc ?_ _)); exact BK288.out⟩, ⟨bw_ HB.out⟩⟩)
              ·rw [if_neg c78] at H
               have c78b0 : decide (x126_5 < (t322.length : Int)) = false := decide_eq_false c78
               (try rw [hl8_2] at c78b0)
               (try rw [hl8_5] at c78b0)
               clear c78
               have H' := am_ H
               clear H
               go_wp2
               (try simp only [← hl8_2, ← hl8_5])
               go_roundg k5
               case measure => have := HJ3.out; have := HK2.out; have := HK3.out; have := HJ69.out; have := HK5.out; omega
               case rel => exact ⟨(x8_5), (wrap64 (x46_2 + 1)), sq_, H', ⟨by have := HJ3.out; have := HK2.out; have := HK3.out; have := HJ69.out; have := HK5.out; omega⟩, ⟨by (try simp only [hl8_2]); (try simp only [hl8_5]); (with_reducible repeat (first | apply Kd.R_alloc | apply Kd.R_drewN | apply Kd.R_drew)); exact HO_8.out⟩, ⟨bw_ HB.out⟩⟩
      ·rw [if_neg c22] at H
       have c22b0 : decide (x46_2 < (l0.length : Int)) = false := decide_eq_false c22
       (try rw [hl8_2] at c22b0)
       clear c22
       simp only [Option.some.injEq, Prod.mk.injEq] at H
       obtain ⟨rfl, rfl⟩ := H
       go_wp2
       go_ret2
       exact ⟨_, by first | rfl | (simp [errW_none, errW_some] <;> rfl) | (simp [*, errW_none, errW_some] <;> rfl), ra_ HO_8.out, bw_ HB.out⟩
end Go.Proofs.Ytgfppioaggeleaa.XFnExactLayOut
