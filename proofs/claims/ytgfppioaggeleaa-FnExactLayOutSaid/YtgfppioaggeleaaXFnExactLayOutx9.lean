/- What the Go functions that this law comes to compute, each walked; written by a program of this session. -/
import Derived.Test.YtgfppioaggeleaaXShort
import Derived.Test.YtgfppioaggeleaaXMark
import Derived.Test.YtgfppioaggeleaaXFnExactLayOutx0
import Derived.Test.YtgfppioaggeleaaXFnExactLayOutx6
import Derived.Test.YtgfppioaggeleaaXFnExactLayOutx8
namespace Go.Proofs.Ytgfppioaggeleaa.XFnExactLayOut
open Go.RowKit Go.Proofs.YtgfppioaggeleaaW.PrintWords Go.Proofs.YtgfppioaggeleaaW.PrintLast Go.Proofs.YtgfppioaggeleaaW.PrintMore
attribute [local go_sem] str_geq max2_int min2_int max_two min_two max_three min_three max_four min_four   -- for this text's walks alone
set_option linter.unusedVariables false
set_option linter.unusedSimpArgs false

/-! ### SYM: function 69 -/
mutual
def SYM.l0 (a80 : Int) (l81 : List Int) (a82 : Int) : Nat → List Int → Int → Int → Int → Option (List Int)
 | 0, _, _, _, _ => none
 | k + 1, x0, x1, x10, x11 => if x10 < x11 then (if 0 ≤ (wrap64 ((IntKind.u64.wrap (wrap64 (x10 + x11))) / 2)) then (if (wrap64 ((IntKind.u64.wrap (wrap64 (x10 + x11))) / 2)) < (x0.length : Int) then (if 0 ≤ x1 then (if x1 < (x0.length : Int) then ((impl_share_1_captured.f (rd x0 (wrap64 ((IntKind.u64.wrap (wrap64 (x10 + x11))) / 2))) (rd x0 x1) a80 l81 a82).bind fun t232 => (if t232 < 0 then (SYM.l0 a80 l81 a82 k x0 x1 (wrap64 ((wrap64 ((IntKind.u64.wrap (wrap64 (x10 + x11))) / 2)) + 1)) x11) else (SYM.l0 a80 l81 a82 k x0 x1 x10 (wrap64 ((IntKind.u64.wrap (wrap64 (x10 + x11))) / 2))))) else (none)) else (none)) else (none)) else (none)) else (SYM.l1 a80 l81 a82 k x0 x10 x1)
def SYM.l1 (a80 : Int) (l81 : List Int) (a82 : Int) : Nat → List Int → Int → Int → Option (List Int)
 | 0, _, _, _ => none
 | k + 1, x0, x10, x13 => if x13 < (wrap64 (x10 - 1)) then (if 0 ≤ (wrap64 (x13 + 1)) then (if (wrap64 (x13 + 1)) < (x0.length : Int) then (if 0 ≤ x13 then (if x13 < (x0.length : Int) then (SYM.l1 a80 l81 a82 k ((x0.set (x13 : Int).toNat (rd x0 (wrap64 (x13 + 1)))).set ((wrap64 (x13 + 1)) : Int).toNat (rd x0 x13)) x10 (wrap64 (x13 + 1))) else (none)) else (none)) else (none)) else (none)) else (some x0)
def SYM.l2 (a80 : Int) (l81 : List Int) (a82 : Int) : Nat → List Int → Int → Int → Int → Option (List Int)
 | 0, _, _, _, _ => none
 | k + 1, x0, x2, x14, x15 => if x14 < x15 then (if 0 ≤ x2 then (if x2 < (x0.length : Int) then (if 0 ≤ (wrap64 ((IntKind.u64.wrap (wrap64 (x14 + x15))) / 2)) then (if (wrap64 ((IntKind.u64.wrap (wrap64 (x14 + x15))) / 2)) < (x0.length : Int) then ((impl_share_1_captured.f (rd x0 x2) (rd x0 (wrap64 ((IntKind.u64.wrap (wrap64 (x14 + x15))) / 2))) a80 l81 a82).bind fun t239 => (if t239 < 0 then (SYM.l2 a80 l81 a82 k x0 x2 x14 (wrap64 ((IntKind.u64.wrap (wrap64 (x14 + x15))) / 2))) else (SYM.l2 a80 l81 a82 k x0 x2 (wrap64 ((wrap64 ((IntKind.u64.wrap (wrap64 (x14 + x15))) / 2)) + 1)) x15))) else (none)) else (none)) else (none)) else (none)) else (SYM.l3 a80 l81 a82 k x0 x14 x2)
def SYM.l3 (a80 : Int) (l81 : List Int) (a82 : Int) : Nat → List Int → Int → Int → Option (List Int)
 | 0, _, _, _ => none
 | k + 1, x0, x14, x17 => if x17 > x14 then (if 0 ≤ (wrap64 (x17 - 1)) then (if (wrap64 (x17 - 1)) < (x0.length : Int) then (if 0 ≤ x17 then (if x17 < (x0.length : Int) then (SYM.l3 a80 l81 a82 k ((x0.set (x17 : Int).toNat (rd x0 (wrap64 (x17 - 1)))).set ((wrap64 (x17 - 1)) : Int).toNat (rd x0 x17)) x14 (wrap64 (x17 - 1))) else (none)) else (none)) else (none)) else (none)) else (some x0)
def SYM.j4 (a80 : Int) (l81 : List Int) (a82 : Int) : Nat → List Int → Int → Int → Int → Int → Int → Int → Int → Option (List Int)
 | 0, _, _, _, _, _, _, _, _ => none
 | k + 1, x0, x1, x2, x3, x18, x19, x20, x21 => SYM.l4 a80 l81 a82 k x0 x1 x2 x3 x18 x19 x20 x21 (wrap64 (x19 - 1))
def SYM.l4 (a80 : Int) (l81 : List Int) (a82 : Int) : Nat → List Int → Int → Int → Int → Int → Int → Int → Int → Int → Option (List Int)
 | 0, _, _, _, _, _, _, _, _, _ => none
 | k + 1, x0, x1, x2, x3, x18, x19, x20, x21, x22 => if x20 < x21 then (if 0 ≤ (wrap64 (x22 - (wrap64 ((IntKind.u64.wrap (wrap64 (x20 + x21))) / 2)))) then (if (wrap64 (x22 - (wrap64 ((IntKind.u64.wrap (wrap64 (x20 + x21))) / 2)))) < (x0.length : Int) then (if 0 ≤ (wrap64 ((IntKind.u64.wrap (wrap64 (x20 + x21))) / 2)) then (if (wrap64 ((IntKind.u64.wrap (wrap64 (x20 + x21))) / 2)) < (x0.length : Int) then ((impl_share_1_captured.f (rd x0 (wrap64 (x22 - (wrap64 ((IntKind.u64.wrap (wrap64 (x20 + x21))) / 2))))) (rd x0 (wrap64 ((IntKind.u64.wrap (wrap64 (x20 + x21))) / 2))) a80 l81 a82).bind fun t246 => (if t246 < 0 then (SYM.l4 a80 l81 a82 k x0 x1 x2 x3 x18 x19 x20 (wrap64 ((IntKind.u64.wrap (wrap64 (x20 + x21))) / 2)) x22) else (SYM.l4 a80 l81 a82 k x0 x1 x2 x3 x18 x19 (wrap64 ((wrap64 ((IntKind.u64.wrap (wrap64 (x20 + x21))) / 2)) + 1)) x21 x22))) else (none)) else (none)) else (none)) else (none)) else (if x20 < x2 then (SYM.j6 a80 l81 a82 k x0 x1 x2 x3 x18 x20 (wrap64 (x19 - x20)) (decide (x2 < (wrap64 (x19 - x20))))) else (SYM.j6 a80 l81 a82 k x0 x1 x2 x3 x18 x20 (wrap64 (x19 - x20)) false))
def SYM.j6 (a80 : Int) (l81 : List Int) (a82 : Int) : Nat → List Int → Int → Int → Int → Int → Int → Int → Bool → Option (List Int)
 | 0, _, _, _, _, _, _, _, _ => none
 | k + 1, x0, x1, x2, x3, x18, x20, x24, x185 => if x185 = true then ((ROT.f k x0 x20 x2 x24 a80 l81 a82).bind fun t247 => (SYM.j7 a80 l81 a82 k t247 x1 x3 x18 x20 x24)) else (SYM.j7 a80 l81 a82 k x0 x1 x3 x18 x20 x24)
def SYM.j7 (a80 : Int) (l81 : List Int) (a82 : Int) : Nat → List Int → Int → Int → Int → Int → Int → Option (List Int)
 | 0, _, _, _, _, _, _ => none
 | k + 1, x0, x1, x3, x18, x20, x24 => if x1 < x20 then (SYM.j8 a80 l81 a82 k x0 x1 x3 x18 x20 x24 (decide (x20 < x18))) else (SYM.j8 a80 l81 a82 k x0 x1 x3 x18 x20 x24 false)
def SYM.j8 (a80 : Int) (l81 : List Int) (a82 : Int) : Nat → List Int → Int → Int → Int → Int → Int → Bool → Option (List Int)
 | 0, _, _, _, _, _, _, _ => none
 | k + 1, x0, x1, x3, x18, x20, x24, x199 => if x199 = true then ((SYM.f k x0 x1 x20 x18 a80 l81 a82).bind fun t248 => (if x18 < x24 then (if x24 < x3 then ((SYM.f k t248 x18 x24 x3 a80 l81 a82).bind fun t249 => (some t249)) else (some t248)) else (some t248))) else (if x18 < x24 then (if x24 < x3 then ((SYM.f k x0 x18 x24 x3 a80 l81 a82).bind fun t250 => (some t250)) else (some x0)) else (some x0))
def SYM.f : Nat → List Int → Int → Int → Int → Int → List Int → Int → Option (List Int)
 | 0, _, _, _, _, _, _, _ => none
 | k + 1, l0, a1, a2, a3, a80, l81, a82 => if (wrap64 (a2 - a1)) = 1 then (SYM.l0 a80 l81 a82 k l0 a1 a2 a3) else (if (wrap64 (a3 - a2)) = 1 then (SYM.l2 a80 l81 a82 k l0 a2 a1 a2) else (if a2 > (wrap64 ((IntKind.u64.wrap (wrap64 (a1 + a3))) / 2)) then (SYM.j4 a80 l81 a82 k l0 a1 a2 a3 (wrap64 ((IntKind.u64.wrap (wrap64 (a1 + a3))) / 2)) (wrap64 ((wrap64 ((IntKind.u64.wrap (wrap64 (a1 + a3))) / 2)) + a2)) (wrap64 ((wrap64 ((wrap64 ((IntKind.u64.wrap (wrap64 (a1 + a3))) / 2)) + a2)) - a3)) (wrap64 ((IntKind.u64.wrap (wrap64 (a1 + a3))) / 2))) else (SYM.j4 a80 l81 a82 k l0 a1 a2 a3 (wrap64 ((IntKind.u64.wrap (wrap64 (a1 + a3))) / 2)) (wrap64 ((wrap64 ((IntKind.u64.wrap (wrap64 (a1 + a3))) / 2)) + a2)) a1 a2)))
end
theorem SYM.mono_l : ∀ k, (∀ y0 y1 y2 y3 y4 y5 y6, LeO (SYM.f k y0 y1 y2 y3 y4 y5 y6) (SYM.f (k + 1) y0 y1 y2 y3 y4 y5 y6)) ∧ (∀ a80 l81 a82 y0 y1 y2 y3, LeO (SYM.l0 a80 l81 a82 k y0 y1 y2 y3) (SYM.l0 a80 l81 a82 (k + 1) y0 y1 y2 y3)) ∧ (∀ a80 l81 a82 y0 y1 y2, LeO (SYM.l1 a80 l81 a82 k y0 y1 y2) (SYM.l1 a80 l81 a82 (k + 1) y0 y1 y2)) ∧ (∀ a80 l81 a82 y0 y1 y2 y3, LeO (SYM.l2 a80 l81 a82 k y0 y1 y2 y3) (SYM.l2 a80 l81 a82 (k + 1) y0 y1 y2 y3)) ∧ (∀ a80 l81 a82 y0 y1 y2, LeO (SYM.l3 a80 l81 a82 k y0 y1 y2) (SYM.l3 a80 l81 a82 (k + 1) y0 y1 y2)) ∧ (∀ a80 l81 a82 y0 y1 y2 y3 y4 y5 y6 y7, LeO (SYM.j4 a80 l81 a82 k y0 y1 y2 y3 y4 y5 y6 y7) (SYM.j4 a80 l81 a82 (k + 1) y0 y1 y2 y3 y4 y5 y6 y7)) ∧ (∀ a80 l81 a82 y0 y1 y2 y3 y4 y5 y6 y7 y8, LeO (SYM.l4 a80 l81 a82 k y0 y1 y2 y3 y4 y5 y6 y7 y8) (SYM.l4 a80 l81 a82 (k + 1) y0 y1 y2 y3 y4 y5 y6 y7 y8)) ∧ (∀ a80 l81 a82 y0 y1 y2 y3 y4 y5 y6 y7, LeO (SYM.j6 a80 l81 a82 k y0 y1 y2 y3 y4 y5 y6 y7) (SYM.j6 a80 l81 a82 (k + 1) y0 y1 y2 y3 y4 y5 y6 y7)) ∧ (∀ a80 l81 a82 y0 y1 y2 y3 y4 y5, LeO (SYM.j7 a80 l81 a82 k y0 y1 y2 y3 y4 y5) (SYM.j7 a80 l81 a82 (k + 1) y0 y1 y2 y3 y4 y5)) ∧ (∀ a80 l81 a82 y0 y1 y2 y3 y4 y5 y6, LeO (SYM.j8 a80 l81 a82 k y0 y1 y2 y3 y4 y5 y6) (SYM.j8 a80 l81 a82 (k + 1) y0 y1 y2 y3 y4 y5 y6))
 | 0 => ⟨fun _ _ _ _ _ _ _ r h => by simp [SYM.f] at h, fun _ _ _ _ _ _ _ r h => by simp [SYM.l0] at h, fun _ _ _ _ _ _ r h => by simp [SYM.l1] at h, fun _ _ _ _ _ _ _ r h => by simp [SYM.l2] at h, fun _ _ _ _ _ _ r h => by simp [SYM.l3] at h, fun _ _ _ _ _ _ _ _ _ _ _ r h => by simp [SYM.j4] at h, fun _ _ _ _ _ _ _ _ _ _ _ _ r h => by simp [SYM.l4] at h, fun _ _ _ _ _ _ _ _ _ _ _ r h => by simp [SYM.j6] at h, fun _ _ _ _ _ _ _ _ _ r h => by simp [SYM.j7] at h, fun _ _ _ _ _ _ _ _ _ _ r h => by simp [SYM.j8] at h⟩
 | k + 1 => by
  obtain ⟨ih0, ih1, ih2, ih3, ih4, ih5, ih6, ih7, ih8, ih9⟩ := SYM.mono_l k
  refine ⟨?_, ?_, ?_, ?_, ?_, ?_, ?_, ?_, ?_, ?_⟩
  ·intro y0 y1 y2 y3 y4 y5 y6
   unfold SYM.f
   repeat' first
   | (with_reducible exact ih0 _ _ _ _ _ _ _)
   | (with_reducible exact ih1 _ _ _ _ _ _ _)
   | (with_reducible exact ih2 _ _ _ _ _ _)
   | (with_reducible exact ih3 _ _ _ _ _ _ _)
   | (with_reducible exact ih4 _ _ _ _ _ _)
   | (with_reducible exact ih5 _ _ _ _ _ _ _ _ _ _ _)
   | (with_reducible exact ih6 _ _ _ _ _ _ _ _ _ _ _ _)
   | (with_reducible exact ih7 _ _ _ _ _ _ _ _ _ _ _)
   | (with_reducible exact ih8 _ _ _ _ _ _ _ _ _)
   | (with_reducible exact ih9 _ _ _ _ _ _ _ _ _ _)
   | (with_reducible exact ROT.mono _ _ _ _ _ _ _ _)
   | (with_reducible exact LeO.refl _)
   | (with_reducible exact LeO.none _)
   | (with_reducible refine LeO.ite ?_ ?_)
   | (with_reducible refine LeO.bind ?_ (fun _ => ?_))
   | exact ih0 _ _ _ _ _ _ _
   | exact ih1 _ _ _ _ _ _ _
   | exact ih2 _ _ _ _ _ _
   | exact ih3 _ _ _ _ _ _ _
   | exact ih4 _ _ _ _ _ _
   | exact ih5 _ _ _ _ _ _ _ _ _ _ _
   | exact ih6 _ _ _ _ _ _ _ _ _ _ _ _
   | exact ih7 _ _ _ _ _ _ _ _ _ _ _
   | exact ih8 _ _ _ _ _ _ _ _ _
   | exact ih9 _ _ _ _ _ _ _ _ _ _
   | exact ROT.mono _ _ _ _ _ _ _ _
   | exact LeO.none _
   | refine LeO.ite ?_ ?_
   | refine LeO.bind ?_ (fun _ => ?_)
  ·intro a80 l81 a82 y0 y1 y2 y3
   unfold SYM.l0
   repeat' first
   | (with_reducible exact ih0 _ _ _ _ _ _ _)
   | (with_reducible exact ih1 _ _ _ _ _ _ _)
   | (with_reducible exact ih2 _ _ _ _ _ _)
   | (with_reducible exact ih3 _ _ _ _ _ _ _)
   | (with_reducible exact ih4 _ _ _ _ _ _)
   | (with_reducible exact ih5 _ _ _ _ _ _ _ _ _ _ _)
   | (with_reducible exact ih6 _ _ _ _ _ _ _ _ _ _ _ _)
   | (with_reducible exact ih7 _ _ _ _ _ _ _ _ _ _ _)
   | (with_reducible exact ih8 _ _ _ _ _ _ _ _ _)
   | (with_reducible exact ih9 _ _ _ _ _ _ _ _ _ _)
   | (with_reducible exact ROT.mono _ _ _ _ _ _ _ _)
   | (with_reducible exact LeO.refl _)
   | (with_reducible exact LeO.none _)
   | (with_reducible refine LeO.ite ?_ ?_)
   | (with_reducible refine LeO.bind ?_ (fun _ => ?_))
   | exact ih0 _ _ _ _ _ _ _
   | exact ih1 _ _ _ _ _ _ _
   | exact ih2 _ _ _ _ _ _
   | exact ih3 _ _ _ _ _ _ _
   | exact ih4 _ _ _ _ _ _
   | exact ih5 _ _ _ _ _ _ _ _ _ _ _
   | exact ih6 _ _ _ _ _ _ _ _ _ _ _ _
   | exact ih7 _ _ _ _ _ _ _ _ _ _ _
   | exact ih8 _ _ _ _ _ _ _ _ _
   | exact ih9 _ _ _ _ _ _ _ _ _ _
   | exact ROT.mono _ _ _ _ _ _ _ _
   | exact LeO.none _
   | refine LeO.ite ?_ ?_
   | refine LeO.bind ?_ (fun _ => ?_)
  ·intro a80 l81 a82 y0 y1 y2
   unfold SYM.l1
   repeat' first
   | (with_reducible exact ih0 _ _ _ _ _ _ _)
   | (with_reducible exact ih1 _ _ _ _ _ _ _)
   | (with_reducible exact ih2 _ _ _ _ _ _)
   | (with_reducible exact ih3 _ _ _ _ _ _ _)
   | (with_reducible exact ih4 _ _ _ _ _ _)
   | (with_reducible exact ih5 _ _ _ _ _ _ _ _ _ _ _)
   | (with_reducible exact ih6 _ _ _ _ _ _ _ _ _ _ _ _)
   | (with_reducible exact ih7 _ _ _ _ _ _ _ _ _ _ _)
   | (with_reducible exact ih8 _ _ _ _ _ _ _ _ _)
   | (with_reducible exact ih9 _ _ _ _ _ _ _ _ _ _)
   | (with_reducible exact ROT.mono _ _ _ _ _ _ _ _)
   | (with_reducible exact LeO.refl _)
   | (with_reducible exact LeO.none _)
   | (with_reducible refine LeO.ite ?_ ?_)
   | (with_reducible refine LeO.bind ?_ (fun _ => ?_))
   | exact ih0 _ _ _ _ _ _ _
   | exact ih1 _ _ _ _ _ _ _
   | exact ih2 _ _ _ _ _ _
   | exact ih3 _ _ _ _ _ _ _
   | exact ih4 _ _ _ _ _ _
   | exact ih5 _ _ _ _ _ _ _ _ _ _ _
   | exact ih6 _ _ _ _ _ _ _ _ _ _ _ _
   | exact ih7 _ _ _ _ _ _ _ _ _ _ _
   | exact ih8 _ _ _ _ _ _ _ _ _
   | exact ih9 _ _ _ _ _ _ _ _ _ _
   | exact ROT.mono _ _ _ _ _ _ _ _
   | exact LeO.none _
   | refine LeO.ite ?_ ?_
   | refine LeO.bind ?_ (fun _ => ?_)
  ·intro a80 l81 a82 y0 y1 y2 y3
   unfold SYM.l2
   repeat' first
   | (with_reducible exact ih0 _ _ _ _ _ _ _)
   | (with_reducible exact ih1 _ _ _ _ _ _ _)
   | (with_reducible exact ih2 _ _ _ _ _ _)
   | (with_reducible exact ih3 _ _ _ _ _ _ _)
   | (with_reducible exact ih4 _ _ _ _ _ _)
   | (with_reducible exact ih5 _ _ _ _ _ _ _ _ _ _ _)
   | (with_reducible exact ih6 _ _ _ _ _ _ _ _ _ _ _ _)
   | (with_reducible exact ih7 _ _ _ _ _ _ _ _ _ _ _)
   | (with_reducible exact ih8 _ _ _ _ _ _ _ _ _)
   | (with_reducible exact ih9 _ _ _ _ _ _ _ _ _ _)
   | (with_reducible exact ROT.mono _ _ _ _ _ _ _ _)
   | (with_reducible exact LeO.refl _)
   | (with_reducible exact LeO.none _)
   | (with_reducible refine LeO.ite ?_ ?_)
   | (with_reducible refine LeO.bind ?_ (fun _ => ?_))
   | exact ih0 _ _ _ _ _ _ _
   | exact ih1 _ _ _ _ _ _ _
   | exact ih2 _ _ _ _ _ _
   | exact ih3 _ _ _ _ _ _ _
   | exact ih4 _ _ _ _ _ _
   | exact ih5 _ _ _ _ _ _ _ _ _ _ _
   | exact ih6 _ _ _ _ _ _ _ _ _ _ _ _
   | exact ih7 _ _ _ _ _ _ _ _ _ _ _
   | exact ih8 _ _ _ _ _ _ _ _ _
   | exact ih9 _ _ _ _ _ _ _ _ _ _
   | exact ROT.mono _ _ _ _ _ _ _ _
   | exact LeO.none _
   | refine LeO.ite ?_ ?_
   | refine LeO.bind ?_ (fun _ => ?_)
  ·intro a80 l81 a82 y0 y1 y2
   unfold SYM.l3
   repeat' first
   | (with_reducible exact ih0 _ _ _ _ _ _ _)
   | (with_reducible exact ih1 _ _ _ _ _ _ _)
   | (with_reducible exact ih2 _ _ _ _ _ _)
   | (with_reducible exact ih3 _ _ _ _ _ _ _)
   | (with_reducible exact ih4 _ _ _ _ _ _)
   | (with_reducible exact ih5 _ _ _ _ _ _ _ _ _ _ _)
   | (with_reducible exact ih6 _ _ _ _ _ _ _ _ _ _ _ _)
   | (with_reducible exact ih7 _ _ _ _ _ _ _ _ _ _ _)
   | (with_reducible exact ih8 _ _ _ _ _ _ _ _ _)
   | (with_reducible exact ih9 _ _ _ _ _ _ _ _ _ _)
   | (with_reducible exact ROT.mono _ _ _ _ _ _ _ _)
   | (with_reducible exact LeO.refl _)
   | (with_reducible exact LeO.none _)
   | (with_reducible refine LeO.ite ?_ ?_)
   | (with_reducible refine LeO.bind ?_ (fun _ => ?_))
   | exact ih0 _ _ _ _ _ _ _
   | exact ih1 _ _ _ _ _ _ _
   | exact ih2 _ _ _ _ _ _
   | exact ih3 _ _ _ _ _ _ _
   | exact ih4 _ _ _ _ _ _
   | exact ih5 _ _ _ _ _ _ _ _ _ _ _
   | exact ih6 _ _ _ _ _ _ _ _ _ _ _ _
   | exact ih7 _ _ _ _ _ _ _ _ _ _ _
   | exact ih8 _ _ _ _ _ _ _ _ _
   | exact ih9 _ _ _ _ _ _ _ _ _ _
   | exact ROT.mono _ _ _ _ _ _ _ _
   | exact LeO.none _
   | refine LeO.ite ?_ ?_
   | refine LeO.bind ?_ (fun _ => ?_)
  ·intro a80 l81 a82 y0 y1 y2 y3 y4 y5 y6 y7
   unfold SYM.j4
   repeat' first
   | (with_reducible exact ih0 _ _ _ _ _ _ _)
   | (with_reducible exact ih1 _ _ _ _ _ _ _)
   | (with_reducible exact ih2 _ _ _ _ _ _)
   | (with_reducible exact ih3 _ _ _ _ _ _ _)
   | (with_reducible exact ih4 _ _ _ _ _ _)
   | (with_reducible exact ih5 _ _ _ _ _ _ _ _ _ _ _)
   | (with_reducible exact ih6 _ _ _ _ _ _ _ _ _ _ _ _)
   | (with_reducible exact ih7 _ _ _ _ _ _ _ _ _ _ _)
   | (with_reducible exact ih8 _ _ _ _ _ _ _ _ _)
   | (with_reducible exact ih9 _ _ _ _ _ _ _ _ _ _)
   | (with_reducible exact ROT.mono _ _ _ _ _ _ _ _)
   | (with_reducible exact LeO.refl _)
   | (with_reducible exact LeO.none _)
   | (with_reducible refine LeO.ite ?_ ?_)
   | (with_reducible refine LeO.bind ?_ (fun _ => ?_))
   | exact ih0 _ _ _ _ _ _ _
   | exact ih1 _ _ _ _ _ _ _
   | exact ih2 _ _ _ _ _ _
   | exact ih3 _ _ _ _ _ _ _
   | exact ih4 _ _ _ _ _ _
   | exact ih5 _ _ _ _ _ _ _ _ _ _ _
   | exact ih6 _ _ _ _ _ _ _ _ _ _ _ _
   | exact ih7 _ _ _ _ _ _ _ _ _ _ _
   | exact ih8 _ _ _ _ _ _ _ _ _
   | exact ih9 _ _ _ _ _ _ _ _ _ _
   | exact ROT.mono _ _ _ _ _ _ _ _
   | exact LeO.none _
   | refine LeO.ite ?_ ?_
   | refine LeO.bind ?_ (fun _ => ?_)
  ·intro a80 l81 a82 y0 y1 y2 y3 y4 y5 y6 y7 y8
   unfold SYM.l4
   repeat' first
   | (with_reducible exact ih0 _ _ _ _ _ _ _)
   | (with_reducible exact ih1 _ _ _ _ _ _ _)
   | (with_reducible exact ih2 _ _ _ _ _ _)
   | (with_reducible exact ih3 _ _ _ _ _ _ _)
   | (with_reducible exact ih4 _ _ _ _ _ _)
   | (with_reducible exact ih5 _ _ _ _ _ _ _ _ _ _ _)
   | (with_reducible exact ih6 _ _ _ _ _ _ _ _ _ _ _ _)
   | (with_reducible exact ih7 _ _ _ _ _ _ _ _ _ _ _)
   | (with_reducible exact ih8 _ _ _ _ _ _ _ _ _)
   | (with_reducible exact ih9 _ _ _ _ _ _ _ _ _ _)
   | (with_reducible exact ROT.mono _ _ _ _ _ _ _ _)
   | (with_reducible exact LeO.refl _)
   | (with_reducible exact LeO.none _)
   | (with_reducible refine LeO.ite ?_ ?_)
   | (with_reducible refine LeO.bind ?_ (fun _ => ?_))
   | exact ih0 _ _ _ _ _ _ _
   | exact ih1 _ _ _ _ _ _ _
   | exact ih2 _ _ _ _ _ _
   | exact ih3 _ _ _ _ _ _ _
   | exact ih4 _ _ _ _ _ _
   | exact ih5 _ _ _ _ _ _ _ _ _ _ _
   | exact ih6 _ _ _ _ _ _ _ _ _ _ _ _
   | exact ih7 _ _ _ _ _ _ _ _ _ _ _
   | exact ih8 _ _ _ _ _ _ _ _ _
   | exact ih9 _ _ _ _ _ _ _ _ _ _
   | exact ROT.mono _ _ _ _ _ _ _ _
   | exact LeO.none _
   | refine LeO.ite ?_ ?_
   | refine LeO.bind ?_ (fun _ => ?_)
  ·intro a80 l81 a82 y0 y1 y2 y3 y4 y5 y6 y7
   unfold SYM.j6
   repeat' first
   | (with_reducible exact ih0 _ _ _ _ _ _ _)
   | (with_reducible exact ih1 _ _ _ _ _ _ _)
   | (with_reducible exact ih2 _ _ _ _ _ _)
   | (with_reducible exact ih3 _ _ _ _ _ _ _)
   | (with_reducible exact ih4 _ _ _ _ _ _)
   | (with_reducible exact ih5 _ _ _ _ _ _ _ _ _ _ _)
   | (with_reducible exact ih6 _ _ _ _ _ _ _ _ _ _ _ _)
   | (with_reducible exact ih7 _ _ _ _ _ _ _ _ _ _ _)
   | (with_reducible exact ih8 _ _ _ _ _ _ _ _ _)
   | (with_reducible exact ih9 _ _ _ _ _ _ _ _ _ _)
   | (with_reducible exact ROT.mono _ _ _ _ _ _ _ _)
   | (with_reducible exact LeO.refl _)
   | (with_reducible exact LeO.none _)
   | (with_reducible refine LeO.ite ?_ ?_)
   | (with_reducible refine LeO.bind ?_ (fun _ => ?_))
   | exact ih0 _ _ _ _ _ _ _
   | exact ih1 _ _ _ _ _ _ _
   | exact ih2 _ _ _ _ _ _
   | exact ih3 _ _ _ _ _ _ _
   | exact ih4 _ _ _ _ _ _
   | exact ih5 _ _ _ _ _ _ _ _ _ _ _
   | exact ih6 _ _ _ _ _ _ _ _ _ _ _ _
   | exact ih7 _ _ _ _ _ _ _ _ _ _ _
   | exact ih8 _ _ _ _ _ _ _ _ _
   | exact ih9 _ _ _ _ _ _ _ _ _ _
   | exact ROT.mono _ _ _ _ _ _ _ _
   | exact LeO.none _
   | refine LeO.ite ?_ ?_
   | refine LeO.bind ?_ (fun _ => ?_)
  ·intro a80 l81 a82 y0 y1 y2 y3 y4 y5
   unfold SYM.j7
   repeat' first
   | (with_reducible exact ih0 _ _ _ _ _ _ _)
   | (with_reducible exact ih1 _ _ _ _ _ _ _)
   | (with_reducible exact ih2 _ _ _ _ _ _)
   | (with_reducible exact ih3 _ _ _ _ _ _ _)
   | (with_reducible exact ih4 _ _ _ _ _ _)
   | (with_reducible exact ih5 _ _ _ _ _ _ _ _ _ _ _)
   | (with_reducible exact ih6 _ _ _ _ _ _ _ _ _ _ _ _)
   | (with_reducible exact ih7 _ _ _ _ _ _ _ _ _ _ _)
   | (with_reducible exact ih8 _ _ _ _ _ _ _ _ _)
   | (with_reducible exact ih9 _ _ _ _ _ _ _ _ _ _)
   | (with_reducible exact ROT.mono _ _ _ _ _ _ _ _)
   | (with_reducible exact LeO.refl _)
   | (with_reducible exact LeO.none _)
   | (with_reducible refine LeO.ite ?_ ?_)
   | (with_reducible refine LeO.bind ?_ (fun _ => ?_))
   | exact ih0 _ _ _ _ _ _ _
   | exact ih1 _ _ _ _ _ _ _
   | exact ih2 _ _ _ _ _ _
   | exact ih3 _ _ _ _ _ _ _
   | exact ih4 _ _ _ _ _ _
   | exact ih5 _ _ _ _ _ _ _ _ _ _ _
   | exact ih6 _ _ _ _ _ _ _ _ _ _ _ _
   | exact ih7 _ _ _ _ _ _ _ _ _ _ _
   | exact ih8 _ _ _ _ _ _ _ _ _
   | exact ih9 _ _ _ _ _ _ _ _ _ _
   | exact ROT.mono _ _ _ _ _ _ _ _
   | exact LeO.none _
   | refine LeO.ite ?_ ?_
   | refine LeO.bind ?_ (fun _ => ?_)
  ·intro a80 l81 a82 y0 y1 y2 y3 y4 y5 y6
   unfold SYM.j8
   repeat' first
   | (with_reducible exact ih0 _ _ _ _ _ _ _)
   | (with_reducible exact ih1 _ _ _ _ _ _ _)
   | (with_reducible exact ih2 _ _ _ _ _ _)
   | (with_reducible exact ih3 _ _ _ _ _ _ _)
   | (with_reducible exact ih4 _ _ _ _ _ _)
   | (with_reducible exact ih5 _ _ _ _ _ _ _ _ _ _ _)
   | (with_reducible exact ih6 _ _ _ _ _ _ _ _ _ _ _ _)
   | (with_reducible exact ih7 _ _ _ _ _ _ _ _ _ _ _)
   | (with_reducible exact ih8 _ _ _ _ _ _ _ _ _)
   | (with_reducible exact ih9 _ _ _ _ _ _ _ _ _ _)
   | (with_reducible exact ROT.mono _ _ _ _ _ _ _ _)
   | (with_reducible exact LeO.refl _)
   | (with_reducible exact LeO.none _)
   | (with_reducible refine LeO.ite ?_ ?_)
   | (with_reducible refine LeO.bind ?_ (fun _ => ?_))
   | exact ih0 _ _ _ _ _ _ _
   | exact ih1 _ _ _ _ _ _ _
   | exact ih2 _ _ _ _ _ _
   | exact ih3 _ _ _ _ _ _ _
   | exact ih4 _ _ _ _ _ _
   | exact ih5 _ _ _ _ _ _ _ _ _ _ _
   | exact ih6 _ _ _ _ _ _ _ _ _ _ _ _
   | exact ih7 _ _ _ _ _ _ _ _ _ _ _
   | exact ih8 _ _ _ _ _ _ _ _ _
   | exact ih9 _ _ _ _ _ _ _ _ _ _
   | exact ROT.mono _ _ _ _ _ _ _ _
   | exact LeO.none _
   | refine LeO.ite ?_ ?_
   | refine LeO.bind ?_ (fun _ => ?_)
theorem SYM.mono : ∀ a0 a1 a2 a3 a4 a5 a6 k, LeO (SYM.f k a0 a1 a2 a3 a4 a5 a6) (SYM.f (k + 1) a0 a1 a2 a3 a4 a5 a6) := by
 intro a0 a1 a2 a3 a4 a5 a6 k
 obtain ⟨ih0, ih1, ih2, ih3, ih4, ih5, ih6, ih7, ih8, ih9⟩ := SYM.mono_l k
 exact ih0 a0 a1 a2 a3 a4 a5 a6
def SYM.T5 : Bool × List (List Nat × List Nat) := (true, [([], []), ([], []), ([], []), ([1, 2], [1, 2]), ([3], [3]), ([], []), ([], []), ([5, 6], [5, 6]), ([7], [7]), ([0, 4, 8], [0, 4, 8]), ([9], [9])])
def SYM.B5 : List Nat := [0, 0, 0, 6, 14, 0, 0, 96, 224, 511, 1023]
theorem SYM.tab5 : rtab .any (opsOf Try.f69 5) = SYM.T5 := by kernel_rfl
theorem SYM.bits5 : waitsOk SYM.T5.2 SYM.B5 = true := by kernel_rfl
def SYM.T11 : Bool × List (List Nat × List Nat) := (true, [([], []), ([], []), ([], []), ([], []), ([3], [3]), ([], []), ([], []), ([6], [6]), ([5, 7], [5, 7]), ([8], [8]), ([], []), ([], []), ([10, 11], [10, 11]), ([12], [12]), ([0, 1, 0, 1, 5, 6, 7, 8, 9, 13], [0, 1]), ([14, 9, 0, 1, 5, 6, 7, 8, 9, 13], [9, 14]), ([2, 4, 0, 1, 2, 3, 4, 5, 6, 7, 8, 9, 10, 11, 12, 13, 14, 15], [2, 4]), ([16, 13, 15, 0, 1, 2, 3, 4, 5, 6, 7, 8, 9, 10, 11, 12, 13, 14, 15], [13, 16])])
def SYM.B11 : List Nat := [0, 0, 0, 0, 8, 0, 0, 64, 224, 480, 0, 0, 3072, 7168, 16355, 32739, 65535, 131071]
theorem SYM.tab11 : rtab .any (opsOf Try.f69 11) = SYM.T11 := by kernel_rfl
theorem SYM.bits11 : waitsOk SYM.T11.2 SYM.B11 = true := by kernel_rfl
def SYM.T17 : Bool × List (List Nat × List Nat) := (true, [([], []), ([], []), ([], []), ([1, 2], [1, 2]), ([3], [3]), ([], []), ([], []), ([5, 6], [5, 6]), ([7], [7]), ([0, 4, 8], [0, 4, 8]), ([9], [9]), ([10], [10])])
def SYM.B17 : List Nat := [0, 0, 0, 6, 14, 0, 0, 96, 224, 511, 1023, 2047]
theorem SYM.tab17 : rtab .any (opsOf Try.f69 17) = SYM.T17 := by kernel_rfl
theorem SYM.bits17 : waitsOk SYM.T17.2 SYM.B17 = true := by kernel_rfl
def SYM.T23 : Bool × List (List Nat × List Nat) := (true, [([], []), ([], []), ([], []), ([], []), ([3], [3]), ([], []), ([], []), ([6], [6]), ([5, 7], [5, 7]), ([8], [8]), ([], []), ([], []), ([10, 11], [10, 11]), ([12], [12]), ([0, 1, 0, 1, 5, 6, 7, 8, 9, 13], [0, 1]), ([14, 9, 0, 1, 5, 6, 7, 8, 9, 13], [9, 14]), ([2, 4, 0, 1, 2, 3, 4, 5, 6, 7, 8, 9, 10, 11, 12, 13, 14, 15], [2, 4]), ([16, 13, 15, 0, 1, 2, 3, 4, 5, 6, 7, 8, 9, 10, 11, 12, 13, 14, 15], [13, 16])])
def SYM.B23 : List Nat := [0, 0, 0, 0, 8, 0, 0, 64, 224, 480, 0, 0, 3072, 7168, 16355, 32739, 65535, 131071]
theorem SYM.tab23 : rtab .any (opsOf Try.f69 23) = SYM.T23 := by kernel_rfl
theorem SYM.bits23 : waitsOk SYM.T23.2 SYM.B23 = true := by kernel_rfl
def SYM.T35 : Bool × List (List Nat × List Nat) := (true, [([], []), ([], []), ([], []), ([], []), ([2, 3], [2, 3]), ([1, 4], [1, 4]), ([5], [5]), ([], []), ([], []), ([7, 8], [7, 8]), ([9], [9]), ([0, 6, 10], [0, 6, 10]), ([11], [11]), ([12], [12])])
def SYM.B35 : List Nat := [0, 0, 0, 0, 12, 30, 62, 0, 0, 384, 896, 2047, 4095, 8191]
theorem SYM.tab35 : rtab .any (opsOf Try.f69 35) = SYM.T35 := by kernel_rfl
theorem SYM.bits35 : waitsOk SYM.T35.2 SYM.B35 = true := by kernel_rfl
set_option maxHeartbeats 8000000 in
set_option maxRecDepth 100000 in
theorem SYM.calls (k : Nat) : ∀ (P0_ : Nat → Prop) (u9000_ : Value) (l0 : List Int) (a1 : Int) (a2 : Int) (a3 : Int) (g80_ : Nat) (g81_ : Nat) (g82_ : Nat) (a80 : Int) (A81 : Option Addr) (c81 : Nat) (l81 : List Int) (a82 : Int) (r : List Int) (w0 w : World) (hB : Below w0.heap.size w0 w) (ho0 : Kd.R (Kd.int .i64) 3 w w0.heap.size P0_ u9000_ l0) (hr81 : ∀ W_, Kept w W_ (fun k_ => P0_ k_) → Kd.C (Kd.int .i64) W_ A81 l81.length l81) (hc81 : l81.length ≤ c81) (hq80_0 : ∀ W_, Kept w W_ (fun k_ => P0_ k_) → W_.cell? ⟨g80_, 0, none⟩ = some (.int .i64 a80)) (hq81_0 : ∀ W_, Kept w W_ (fun k_ => P0_ k_) → W_.cell? ⟨g81_, 0, none⟩ = some (.slice A81 l81.length c81)) (hq82_0 : ∀ W_, Kept w W_ (fun k_ => P0_ k_) → W_.cell? ⟨g82_, 0, none⟩ = some (.int .i64 a82)) (h : SYM.f k l0 a1 a2 a3 a80 l81 a82 = some r),
  Calls Try.prog 69 #[u9000_, .int .i64 a1, .int .i64 a2, .int .i64 a3, .func (.func 56) #[] #[.pointer (some ⟨g80_, 0, none⟩), .pointer (some ⟨g81_, 0, none⟩), .pointer (some ⟨g82_, 0, none⟩)]] w fun e w' => e = .returned (.tuple #[]) ∧ Kd.R (Kd.int .i64) 3 w' w0.heap.size (fun k_ => (P0_ k_ ∨ w.heap.size ≤ k_)) u9000_ r ∧ Below w0.heap.size w0 w' ∧ Kept w w' (fun k_ => P0_ k_) := by
 induction k using Nat.strongRecOn with
 | _ k ih =>
 intro P0_ u9000_ l0 a1 a2 a3 g80_ g81_ g82_ a80 A81 c81 l81 a82 r w0 w hB ho0 hr81 hc81 hq80_0 hq81_0 hq82_0 h
 cases k with
 | zero => exact absurd h (by simp [SYM.f])
 | succ k =>
 simp only [SYM.f] at h
 have HO0 := am_ (show Kd.R (Kd.int .i64) 3 w w0.heap.size (fun k_ => (P0_ k_ ∨ w.heap.size ≤ k_)) u9000_ l0 from Kd.R_mono ho0 (fun k_ hk => (.inl hk)))
 have HR81 := am_ hr81
 have HC81 := am_ hc81
 clear hr81 hc81
 have HK := am_ (Kept.refl w (fun k_ => P0_ k_))
 have HW0 := am_ hB.size
 have HB := am_ hB
 clear hB
 have H : (if (wrap64 (a2 - a1)) = 1 then (SYM.l0 a80 l81 a82 k l0 a1 a2 a3) else (if (wrap64 (a3 - a2)) = 1 then (SYM.l2 a80 l81 a82 k l0 a2 a1 a2) else (if a2 > (wrap64 ((IntKind.u64.wrap (wrap64 (a1 + a3))) / 2)) then (SYM.j4 a80 l81 a82 k l0 a1 a2 a3 (wrap64 ((IntKind.u64.wrap (wrap64 (a1 + a3))) / 2)) (wrap64 ((wrap64 ((IntKind.u64.wrap (wrap64 (a1 + a3))) / 2)) + a2)) (wrap64 ((wrap64 ((wrap64 ((IntKind.u64.wrap (wrap64 (a1 + a3))) / 2)) + a2)) - a3)) (wrap64 ((IntKind.u64.wrap (wrap64 (a1 + a3))) / 2))) else (SYM.j4 a80 l81 a82 k l0 a1 a2 a3 (wrap64 ((IntKind.u64.wrap (wrap64 (a1 + a3))) / 2)) (wrap64 ((wrap64 ((IntKind.u64.wrap (wrap64 (a1 + a3))) / 2)) + a2)) a1 a2)))) = some r := h
 clear h
 by_cases c6 : (wrap64 (a2 - a1)) = 1
 ·rw [if_pos c6] at H
  have c6b0 : ((wrap64 (a2 - a1)) == 1) = true := beq_iff_eq.mpr c6
  have c6b1 : ((wrap64 (a2 - a1)) != 1) = false := bne_eq_false_iff_eq.mpr c6
  clear c6
  have H' := am_ H
  clear H
  go_enter Try.func69, Try.ntmps69
  go_wp2
  go_loopg [10, 11] k (fun kq v10 v11 w' => ∃ (x10_1 : Int) (x11_1 : Int), v10 = .int .i64 x10_1 ∧ v11 = .int .i64 x11_1 ∧ Aside0 (SYM.l0 a80 l81 a82 kq l0 a1 x10_1 x11_1 = some r) ∧ Aside0 (kq ≤ k) ∧ Aside0 (Kd.R (Kd.int .i64) 3 w' w0.heap.size (fun k_ => (P0_ k_ ∨ w.heap.size ≤ k_)) u9000_ l0) ∧ Aside0 (Kept w w' (fun k_ => P0_ k_)) ∧ Aside0 (Below w0.heap.size w0 w'))
  case atStart => exact ⟨(a2), (a3), sq_, sq_, H', ⟨Nat.le_refl _⟩, ⟨ra_ HO0.out⟩, ⟨kk_ HK.out⟩, ⟨bw_ HB.out⟩⟩
  case round =>
   clear H'
   try clear c6
   try clear c6b0
   try clear c6b1
   (try clear HO_0)
   obtain ⟨x10_1, x11_1, rfl, rfl, HA, HK1, HO_0, HK, HB⟩ := hrel
   cases gk with
   | zero => exact absurd HA.out (by simp [SYM.l0])
   | succ k1 =>
    have H := HA.out
    clear HA
    simp only [SYM.l0] at H
    by_cases c7 : x10_1 < x11_1
    ·rw [if_pos c7] at H
     have c7b0 : decide (x10_1 < x11_1) = true := decide_eq_true c7
     clear c7
     obtain ⟨ji8, hji8⟩ : ∃ j_ : Int, (wrap64 ((IntKind.u64.wrap (wrap64 (x10_1 + x11_1))) / 2)) = j_ := ⟨_, rfl⟩
     replace H : (if 0 ≤ (ji8) then (if (ji8) < (l0.length : Int) then (if 0 ≤ a1 then (if a1 < (l0.length : Int) then ((impl_share_1_captured.f (rd l0 (ji8)) (rd l0 a1) a80 l81 a82).bind fun t232 => (if t232 < 0 then (SYM.l0 a80 l81 a82 k1 l0 a1 (wrap64 ((ji8) + 1)) x11_1) else (SYM.l0 a80 l81 a82 k1 l0 a1 x10_1 ji8))) else (none)) else (none)) else (none)) else (none)) = some r := by first | (rw [hji8] at H; exact H) | (simp only [hji8] at H ⊢; exact H)
     have hji8w : (IntKind.i64.wrap ((IntKind.u64.wrap (wrap64 (x10_1 + x11_1))) / 2)) = ji8 := (i64_w _).trans hji8
     obtain ⟨c9, H⟩ := ifn_ H
     have c9b0 : decide (0 ≤ (ji8)) = true := decide_eq_true c9
     clear c9
     obtain ⟨c10, H⟩ := ifn_ H
     have c10b0 : decide ((ji8) < (l0.length : Int)) = true := decide_eq_true c10
     clear c10
     obtain ⟨c11, H⟩ := ifn_ H
     have c11b0 : decide (0 ≤ a1) = true := decide_eq_true c11
     clear c11
     obtain ⟨c12, H⟩ := ifn_ H
     have c12b0 : decide (a1 < (l0.length : Int)) = true := decide_eq_true c12
     clear c12
     obtain ⟨t232, A130, H⟩ := bE_ H
     have A13 := am_ A130
     clear A130
     by_cases c14 : t232 < 0
     ·rw [if_pos c14] at H
      have c14b0 : decide (t232 < 0) = true := decide_eq_true c14
      clear c14
      have H' := am_ H
      clear H
      try go_wp2
      have n0_ := am_ (Kd.R_drew HO_0.out)
      have n1_ := am_ (Kept.drew HK.out)
      have n2_ := am_ (below_drew1 HB.out)
      replace HO_0 := n0_
      replace HK := n1_
      replace HB := n2_
      clear n0_ n1_ n2_
      obtain ⟨Ao16, co16, eo16⟩ := Kd.R_slice HO_0.out
      (first | subst eo16 | (injection eo16 with f1_ f2_ f3_; have f4_ := f1_.symm; have f5_ := f3_.symm; clear f1_ f2_ f3_; subst f4_; subst f5_))
      have p230 : 0 ≤ ((ji8) : Int) := od_
      have q230 : (ji8) < (l0.length : Int) := od_
      obtain ⟨ad230, e230, hx230_0⟩ := Kd.at_int (Kd.R_reads' HO_0.out).2.2 (ji8) p230 q230
      cases e230
      replace p230 := eq_true p230
      replace q230 := eq_true q230
      have p231 : 0 ≤ (a1 : Int) := od_
      have q231 : a1 < (l0.length : Int) := od_
      obtain ⟨ad231, e231, hx231_0⟩ := Kd.at_int (Kd.R_reads' HO_0.out).2.2 a1 p231 q231
      obtain rfl : ad230 = ad231 := (by injection e231)
      replace p231 := eq_true p231
      replace q231 := eq_true q231
      refine start_ (n := 11) (S := fun w' => w'.cell? (ad230.add ((ji8)).toNat) = some (.int .i64 (rd l0 (ji8))) ∧ w'.cell? (ad230.add (a1).toNat) = some (.int .i64 (rd l0 a1))) (ds := []) (Array.replicate 11 false) (by kernel_rfl) rfl rfl ⟨hx230_0, hx231_0⟩ (fun hHeld => ?_); refine with_tabW SYM.tab5 SYM.bits5 (fun HT_ HW_ => ?_)
      generalize wr.drew = w15 at HO_0 HK HB hx230_0 hx231_0 hHeld ⊢
      refine pS_ 0 40 HT_ ?_
      refine pS_ 1 41 HT_ ?_
      refine pS_ 2 42 HT_ ?_
      refine pS_ 3 43 HT_ ?_
      refine pS_ 5 45 HT_ ?_
      refine pS_ 6 46 HT_ ?_
      refine pS_ 7 47 HT_ ?_
      refine tS_ 4 44 HT_ HW_ hHeld ?_
      refine tS_ 8 48 HT_ HW_ hHeld ?_
      refine oS_ 9 49 HT_ (fun K hK => ?_)
      refine goesV_ Try.func56 (by kernel_rfl) rfl #[.int .i64 (rd l0 (ji8)), .int .i64 (rd l0 a1), .pointer (some ⟨g80_, 0, none⟩), .pointer (some ⟨g81_, 0, none⟩), .pointer (some ⟨g82_, 0, none⟩)] (by rfl) rfl rfl (by rfl) (by (try simp only [List.map_toArray, List.map_cons, List.map_nil]); first | done | (simp only [hji8]; rfl) | rfl | (simp only [List.length_drop, List.length_take]; rfl)) ?_
      with_reducible refine (impl_share_1_captured.calls (rd l0 (ji8)) (rd l0 a1) g80_ a80 g81_ A81 c81 l81 g82_ a82 t232 _ ?side1 ?side2 ?side3 ?side4 ?side5 A13.out).mono ?_
      (case side1 => exact Kd.C_kept_now HR81.out (kk_ HK.out))
      (case side2 => exact HC81.out)
      (case side3 => exact hq80_0 _ (kk_ HK.out))
      (case side4 => exact hq81_0 _ (kk_ HK.out))
      (case side5 => exact hq82_0 _ (kk_ HK.out))
      rintro e w' ⟨rfl, ⟨nd, rfl⟩⟩
      refine ⟨_, rfl, ?_⟩
      refine hK.out _ _ ⟨hHeld.1, hHeld.2⟩ (fun hHeld => ?_)
      clear hK K
      refine nS_ ?_
      refine pS_ 10 50 HT_ ?_
      refine done_ (done_of HT_.out (by kernel_rfl)) ?_
      try go_wp2
      go_roundg k1
      case measure => have := HK1.out; omega
      case rel => exact ⟨(wrap64 ((ji8) + 1)), (x11_1), (by first | rfl | (simp; done) | (simp only [← hji8] <;> (first | rfl | simp)) | (simp [*]; done)), sq_, H', ⟨by have := HK1.out; omega⟩, ⟨ra_ HO_0.out⟩, ⟨kk_ HK.out⟩, ⟨bw_ HB.out⟩⟩
     ·rw [if_neg c14] at H
      have c14b0 : decide (t232 < 0) = false := decide_eq_false c14
      clear c14
      have H' := am_ H
      clear H
      try go_wp2
      have n0_ := am_ (Kd.R_drew HO_0.out)
      have n1_ := am_ (Kept.drew HK.out)
      have n2_ := am_ (below_drew1 HB.out)
      replace HO_0 := n0_
      replace HK := n1_
      replace HB := n2_
      clear n0_ n1_ n2_
      obtain ⟨Ao18, co18, eo18⟩ := Kd.R_slice HO_0.out
      (first | subst eo18 | (injection eo18 with f1_ f2_ f3_; have f4_ := f1_.symm; have f5_ := f3_.symm; clear f1_ f2_ f3_; subst f4_; subst f5_))
      have p230 : 0 ≤ ((ji8) : Int) := od_
      have q230 : (ji8) < (l0.length : Int) := od_
      obtain ⟨ad230, e230, hx230_0⟩ := Kd.at_int (Kd.R_reads' HO_0.out).2.2 (ji8) p230 q230
      cases e230
      replace p230 := eq_true p230
      replace q230 := eq_true q230
      have p231 : 0 ≤ (a1 : Int) := od_
      have q231 : a1 < (l0.length : Int) := od_
      obtain ⟨ad231, e231, hx231_0⟩ := Kd.at_int (Kd.R_reads' HO_0.out).2.2 a1 p231 q231
      obtain rfl : ad230 = ad231 := (by injection e231)
      replace p231 := eq_true p231
      replace q231 := eq_true q231
      refine start_ (n := 11) (S := fun w' => w'.cell? (ad230.add ((ji8)).toNat) = some (.int .i64 (rd l0 (ji8))) ∧ w'.cell? (ad230.add (a1).toNat) = some (.int .i64 (rd l0 a1))) (ds := []) (Array.replicate 11 false) (by kernel_rfl) rfl rfl ⟨hx230_0, hx231_0⟩ (fun hHeld => ?_); refine with_tabW SYM.tab5 SYM.bits5 (fun HT_ HW_ => ?_)
      generalize wr.drew = w17 at HO_0 HK HB hx230_0 hx231_0 hHeld ⊢
      refine pS_ 0 40 HT_ ?_
      refine pS_ 1 41 HT_ ?_
      refine pS_ 2 42 HT_ ?_
      refine pS_ 3 43 HT_ ?_
      refine pS_ 5 45 HT_ ?_
      refine pS_ 6 46 HT_ ?_
      refine pS_ 7 47 HT_ ?_
      refine tS_ 4 44 HT_ HW_ hHeld ?_
      refine tS_ 8 48 HT_ HW_ hHeld ?_
      refine oS_ 9 49 HT_ (fun K hK => ?_)
      refine goesV_ Try.func56 (by kernel_rfl) rfl #[.int .i64 (rd l0 (ji8)), .int .i64 (rd l0 a1), .pointer (some ⟨g80_, 0, none⟩), .pointer (some ⟨g81_, 0, none⟩), .pointer (some ⟨g82_, 0, none⟩)] (by rfl) rfl rfl (by rfl) (by (try simp only [List.map_toArray, List.map_cons, List.map_nil]); first | done | (simp only [hji8]; rfl) | rfl | (simp only [List.length_drop, List.length_take]; rfl)) ?_
      with_reducible refine (impl_share_1_captured.calls (rd l0 (ji8)) (rd l0 a1) g80_ a80 g81_ A81 c81 l81 g82_ a82 t232 _ ?side1 ?side2 ?side3 ?side4 ?side5 A13.out).mono ?_
      (case side1 => exact Kd.C_kept_now HR81.out (kk_ HK.out))
      (case side2 => exact HC81.out)
      (case side3 => exact hq80_0 _ (kk_ HK.out))
      (case side4 => exact hq81_0 _ (kk_ HK.out))
      (case side5 => exact hq82_0 _ (kk_ HK.out))
      rintro e w' ⟨rfl, ⟨nd, rfl⟩⟩
      refine ⟨_, rfl, ?_⟩
      refine hK.out _ _ ⟨hHeld.1, hHeld.2⟩ (fun hHeld => ?_)
      clear hK K
      refine nS_ ?_
      refine pS_ 10 50 HT_ ?_
      refine done_ (done_of HT_.out (by kernel_rfl)) ?_
      try go_wp2
      go_roundg k1
      case measure => have := HK1.out; omega
      case rel => exact ⟨(x10_1), (ji8), sq_, (by first | rfl | (simp; done) | (simp only [← hji8] <;> (first | rfl | simp)) | (simp [*]; done)), H', ⟨by have := HK1.out; omega⟩, ⟨ra_ HO_0.out⟩, ⟨kk_ HK.out⟩, ⟨bw_ HB.out⟩⟩
    ·rw [if_neg c7] at H
     have c7b0 : decide (x10_1 < x11_1) = false := decide_eq_false c7
     clear c7
     have H' := am_ H
     clear H
     go_wp2
     go_loopg [13] k1 (fun kq v13 w' => ∃ (x0_2 : List Int) (x13_2 : Int), v13 = .int .i64 x13_2 ∧ Aside0 (SYM.l1 a80 l81 a82 kq x0_2 x10_1 x13_2 = some r) ∧ Aside0 (kq ≤ k1) ∧ Aside0 (Kd.R (Kd.int .i64) 3 w' w0.heap.size (fun k_ => (P0_ k_ ∨ w.heap.size ≤ k_)) u9000_ x0_2) ∧ Aside0 (Kept w w' (fun k_ => P0_ k_)) ∧ Aside0 (Below w0.heap.size w0 w'))
     case atStart => exact ⟨(l0), (a1), sq_, H', ⟨Nat.le_refl _⟩, ⟨ra_ HO_0.out⟩, ⟨kk_ HK.out⟩, ⟨bw_ HB.out⟩⟩
     case round =>
      clear H'
      try clear c6
      try clear c6b0
      try clear c6b1
      try clear c7
      try clear c7b0
      (try clear HO_0)
      obtain ⟨x0_2, x13_2, rfl, HA, HK2, HO_0, HK, HB⟩ := hrel
      cases gk with
      | zero => exact absurd HA.out (by simp [SYM.l1])
      | succ k2 =>
       have H := HA.out
       clear HA
       simp only [SYM.l1] at H
       by_cases c19 : x13_2 < (wrap64 (x10_1 - 1))
       ·rw [if_pos c19] at H
        have c19b0 : decide (x13_2 < (wrap64 (x10_1 - 1))) = true := decide_eq_true c19
        clear c19
        obtain ⟨ji20, hji20⟩ : ∃ j_ : Int, (wrap64 (x13_2 + 1)) = j_ := ⟨_, rfl⟩
        replace H : (if 0 ≤ (ji20) then (if (ji20) < (x0_2.length : Int) then (if 0 ≤ x13_2 then (if x13_2 < (x0_2.length : Int) then (SYM.l1 a80 l81 a82 k2 ((x0_2.set (x13_2 : Int).toNat (rd x0_2 (ji20))).set ((ji20) : Int).toNat (rd x0_2 x13_2)) x10_1 ji20) else (none)) else (none)) else (none)) else (none)) = some r := by first | (rw [hji20] at H; exact H) | (simp only [hji20] at H ⊢; exact H)
        have hji20w : (IntKind.i64.wrap (x13_2 + 1)) = ji20 := (i64_w _).trans hji20
        obtain ⟨c21, H⟩ := ifn_ H
        have c21b0 : decide (0 ≤ (ji20)) = true := decide_eq_true c21
        clear c21
        obtain ⟨c22, H⟩ := ifn_ H
        have c22b0 : decide ((ji20) < (x0_2.length : Int)) = true := decide_eq_true c22
        clear c22
        obtain ⟨c23, H⟩ := ifn_ H
        have c23b0 : decide (0 ≤ x13_2) = true := decide_eq_true c23
        clear c23
        obtain ⟨c24, H⟩ := ifn_ H
        have c24b0 : decide (x13_2 < (x0_2.length : Int)) = true := decide_eq_true c24
        clear c24
        obtain ⟨y235, hy235⟩ : ∃ y_ : List Int, y_ = (x0_2.set (x13_2 : Int).toNat (rd x0_2 (ji20))) := ⟨_, rfl⟩
        replace H : (SYM.l1 a80 l81 a82 k2 (y235.set ((ji20) : Int).toNat (rd x0_2 x13_2)) x10_1 ji20) = some r := by first | (rw [hy235]; with_reducible exact H) | (have H2_ := (Option.bind_some _ _).symm.trans H; rw [hy235]; with_reducible exact H2_) | (have H2_ := (Option.bind_some _ _).symm.trans H; with_reducible exact H2_) | with_reducible exact H | (rw [hy235]; exact H) | exact H
        have Ny235 := am_ hy235
        clear hy235
        obtain ⟨y236, hy236⟩ : ∃ y_ : List Int, y_ = (y235.set ((ji20) : Int).toNat (rd x0_2 x13_2)) := ⟨_, rfl⟩
        replace H : (SYM.l1 a80 l81 a82 k2 y236 x10_1 ji20) = some r := by first | (rw [hy236]; with_reducible exact H) | (have H2_ := (Option.bind_some _ _).symm.trans H; rw [hy236]; with_reducible exact H2_) | (have H2_ := (Option.bind_some _ _).symm.trans H; with_reducible exact H2_) | with_reducible exact H | (rw [hy236]; exact H) | exact H
        have Ny236 := am_ hy236
        clear hy236
        have H' := am_ H
        clear H
        try go_wp2
        have n0_ := am_ (Kd.R_drew HO_0.out)
        have n1_ := am_ (Kept.drew HK.out)
        have n2_ := am_ (below_drew1 HB.out)
        replace HO_0 := n0_
        replace HK := n1_
        replace HB := n2_
        clear n0_ n1_ n2_
        obtain ⟨Ao28, co28, eo28⟩ := Kd.R_slice HO_0.out
        (first | subst eo28 | (injection eo28 with f1_ f2_ f3_; have f4_ := f1_.symm; have f5_ := f3_.symm; clear f1_ f2_ f3_; subst f4_; subst f5_))
        have p233 : 0 ≤ ((ji20) : Int) := od_
        have q233 : (ji20) < (x0_2.length : Int) := od_
        obtain ⟨ad233, e233, hx233_0⟩ := Kd.at_int (Kd.R_reads' HO_0.out).2.2 (ji20) p233 q233
        cases e233
        replace p233 := eq_true p233
        replace q233 := eq_true q233
        have p234 : 0 ≤ (x13_2 : Int) := od_
        have q234 : x13_2 < (x0_2.length : Int) := od_
        obtain ⟨ad234, e234, hx234_0⟩ := Kd.at_int (Kd.R_reads' HO_0.out).2.2 x13_2 p234 q234
        obtain rfl : ad233 = ad234 := (by injection e234)
        replace p234 := eq_true p234
        replace q234 := eq_true q234
        have p25 : 0 ≤ (x13_2 : Int) := od_
        have q25 : (x13_2 : Int) < ((x0_2.length : Int) : Int) := od_
        obtain ⟨go25, co25, eo25, gb25, gl25, cl25, HG25⟩ := Kd.R_form HO_0.out (by omega)
        (first | cases eo25 | (injection eo25 with ea_ en_ ec_; (first | subst ea_ | (injection ea_ with ea_; subst ea_)); subst ec_; clear en_))
        have GB25 := am_ gb25
        have GG25 := am_ HG25
        clear gb25 gl25 HG25
        have HMgo25 := am_ (show (P0_ go25 ∨ w.heap.size ≤ go25) from (HO_0.out.1 _ rfl))
        (first | simp only [add_plain] at hx233_0 | skip)
        (first | simp only [add_plain] at hx234_0 | skip)
        obtain ⟨hx25_0, hf25_0⟩ := Kd.R_celln 0 HO_0.out (x13_2 : Int) p25 q25
        replace p25 := eq_true p25
        replace q25 := eq_true q25
        have HP29 := Kd.R_putn HO_0.out (x13_2 : Int) (rd x0_2 (ji20))
        rw [← Ny235.out] at HP29
        have HQ29 := am_ HP29
        clear HP29
        have p26 : 0 ≤ ((ji20) : Int) := od_
        have q26 : ((ji20) : Int) < ((x0_2.length : Int) : Int) := od_
        obtain ⟨hx26_0, hf26_0⟩ := Kd.R_celln 0 HQ29.out ((ji20) : Int) p26 q26
        replace p26 := eq_true p26
        replace q26 := eq_true q26
        have HP30 := Kd.R_putn HQ29.out ((ji20) : Int) (rd x0_2 x13_2)
        rw [← Ny236.out] at HP30
        have HQ30 := am_ HP30
        clear HP30
        refine start_ (n := 18) (S := fun w' => w'.cell? ⟨go25, ((ji20)).toNat, none⟩ = some (.int .i64 (rd x0_2 (ji20))) ∧ w'.cell? ⟨go25, (x13_2).toNat, none⟩ = some (.int .i64 (rd x0_2 x13_2))) (ds := [15, 17]) (Array.replicate 18 false) (by kernel_rfl) rfl rfl ⟨hx233_0, hx234_0⟩ (fun hHeld => ?_); refine with_tabW SYM.tab11 SYM.bits11 (fun HT_ HW_ => ?_)
        generalize wr.drew = w27 at HO_0 HK HB GG25 HQ29 HQ30 hf25_0 hf26_0 hx233_0 hx234_0 hx25_0 hx26_0 hHeld ⊢
        refine pS_ 0 61 HT_ ?_
        refine pS_ 1 62 HT_ ?_
        refine pS_ 2 63 HT_ ?_
        refine pS_ 3 64 HT_ ?_
        refine pS_ 4 65 HT_ ?_
        refine pS_ 5 66 HT_ ?_
        refine pS_ 6 67 HT_ ?_
        refine pS_ 7 68 HT_ ?_
        refine pS_ 8 69 HT_ ?_
        refine pS_ 10 71 HT_ ?_
        refine pS_ 11 72 HT_ ?_
        refine pS_ 12 73 HT_ ?_
        refine tS_ 9 70 HT_ HW_ hHeld ?_
        refine tS_ 13 74 HT_ HW_ hHeld ?_
        refine pS_ 14 75 HT_ ?_
        refine last_ (i := 15) (N := none) #[true, true, true, true, true, true, true, true, true, true, true, true, true, true, true, true, false, false] rfl rfl (one_of HT_.out (by kernel_rfl)) (by decide) (fun K hK => ?_)
        refine skip_ (w1 := ?_) (by rfl) rfl ?_ ?_
        rotate_left
        ·go_simp
         rfl
        refine hK.out _ _ ?_
        clear hK K
        refine pS_ 16 76 HT_ ?_
        refine last_ (i := 17) (N := none) #[true, true, true, true, true, true, true, true, true, true, true, true, true, true, true, true, true, true] rfl rfl (one_of HT_.out (by kernel_rfl)) (by decide) (fun K hK => ?_)
        refine skip_ (w1 := ?_) (by rfl) rfl ?_ ?_
        rotate_left
        ·go_simp
         rfl
        refine hK.out _ _ ?_
        clear hK K
        refine done_ (done_of HT_.out (by kernel_rfl)) ?_
        try go_wp2
        (try simp only [show (⟨go25, ((ji20) : Int).toNat, none⟩ : Addr) = Addr.add ⟨go25, 0, none⟩ ((ji20) : Int).toNat from by simp [Addr.add]])
        (try simp only [show (⟨go25, (x13_2 : Int).toNat, none⟩ : Addr) = Addr.add ⟨go25, 0, none⟩ (x13_2 : Int).toNat from by simp [Addr.add]])
        go_roundg k2
        case measure => have := HK1.out; have := HK2.out; omega
        case rel => first | exact ⟨(y236), (ji20), (by first | rfl | (simp; done) | (simp only [← hji20] <;> (first | rfl | simp)) | (simp [*]; done)), H', ⟨by have := HK1.out; have := HK2.out; omega⟩, ⟨ra_ HQ30.out⟩, ⟨by repeat (first | (with_reducible first | exact HK.out | apply Kept.alloc | apply Kept.drewN | apply Kept.drew | refine Kept.setCell ?_ HMgo25.out _ | refine Kept.setCell ?_ HMgo25.out _) | exact HK.out)⟩, ⟨bw_ HB.out⟩⟩ | (simp only [(show (⟨go25, (x13_2 : Int).toNat, none⟩ : Addr) = Addr.add ⟨go25, 0, none⟩ (x13_2 : Int).toNat from by simp [Addr.add]).symm, (show (⟨go25, ((ji20) : Int).toNat, none⟩ : Addr) = Addr.add ⟨go25, 0, none⟩ ((ji20) : Int).toNat from by simp [Addr.add]).symm]; exact ⟨(y236), (ji20), (by first | rfl | (simp; done) | (simp only [← hji20] <;> (first | rfl | simp)) | (simp [*]; done)), H', ⟨by have := HK1.out; have := HK2.out; omega⟩, ⟨ra_ HQ30.out⟩, ⟨by repeat (first | (with_reducible first | exact HK.out | apply Kept.alloc | apply Kept.drewN | apply Kept.drew | refine Kept.setCell ?_ HMgo25.out _ | refine Kept.setCell ?_ HMgo25.out _) | exact HK.out)⟩, ⟨bw_ HB.out⟩⟩)
       ·rw [if_neg c19] at H
        have c19b0 : decide (x13_2 < (wrap64 (x10_1 - 1))) = false := decide_eq_false c19
        clear c19
        obtain rfl := Option.some.inj H
        go_wp2
        first | go_end0 | ((try simp only [Exit.inBlock, Exit.then]); refine bodyPost_ret (results_none rfl _ _ _) rfl ?_)
        exact ⟨by first | rfl | (simp [errW_none, errW_some] <;> rfl) | (simp [*, errW_none, errW_some] <;> rfl), ra_ HO_0.out, bw_ HB.out, kk_ HK.out⟩
 ·rw [if_neg c6] at H
  have c6b0 : ((wrap64 (a2 - a1)) == 1) = false := beq_eq_false_iff_ne.mpr c6
  have c6b1 : ((wrap64 (a2 - a1)) != 1) = true := bne_iff_ne.mpr c6
  by_cases c31 : (wrap64 (a3 - a2)) = 1
  ·rw [if_pos c31] at H
   have c31b0 : ((wrap64 (a3 - a2)) == 1) = true := beq_iff_eq.mpr c31
   have c31b1 : ((wrap64 (a3 - a2)) != 1) = false := bne_eq_false_iff_eq.mpr c31
   clear c31
   have H' := am_ H
   clear H
   go_enter Try.func69, Try.ntmps69
   go_wp2
   go_loopg [14, 15] k (fun kq v14 v15 w' => ∃ (x14_1 : Int) (x15_1 : Int), v14 = .int .i64 x14_1 ∧ v15 = .int .i64 x15_1 ∧ Aside0 (SYM.l2 a80 l81 a82 kq l0 a2 x14_1 x15_1 = some r) ∧ Aside0 (kq ≤ k) ∧ Aside0 (Kd.R (Kd.int .i64) 3 w' w0.heap.size (fun k_ => (P0_ k_ ∨ w.heap.size ≤ k_)) u9000_ l0) ∧ Aside0 (Kept w w' (fun k_ => P0_ k_)) ∧ Aside0 (Below w0.heap.size w0 w'))
   case atStart => exact ⟨(a1), (a2), sq_, sq_, H', ⟨Nat.le_refl _⟩, ⟨ra_ HO0.out⟩, ⟨kk_ HK.out⟩, ⟨bw_ HB.out⟩⟩
   case round =>
    clear H'
    try clear c6
    try clear c6b0
    try clear c6b1
    try clear c31
    try clear c31b0
    try clear c31b1
    (try clear HO_0)
    obtain ⟨x14_1, x15_1, rfl, rfl, HA, HK1, HO_0, HK, HB⟩ := hrel
    cases gk with
    | zero => exact absurd HA.out (by simp [SYM.l2])
    | succ k1 =>
     have H := HA.out
     clear HA
     simp only [SYM.l2] at H
     by_cases c32 : x14_1 < x15_1
     ·rw [if_pos c32] at H
      have c32b0 : decide (x14_1 < x15_1) = true := decide_eq_true c32
      clear c32
      obtain ⟨c33, H⟩ := ifn_ H
      have c33b0 : decide (0 ≤ a2) = true := decide_eq_true c33
      clear c33
      obtain ⟨c34, H⟩ := ifn_ H
      have c34b0 : decide (a2 < (l0.length : Int)) = true := decide_eq_true c34
      clear c34
      obtain ⟨ji35, hji35⟩ : ∃ j_ : Int, (wrap64 ((IntKind.u64.wrap (wrap64 (x14_1 + x15_1))) / 2)) = j_ := ⟨_, rfl⟩
      replace H : (if 0 ≤ (ji35) then (if (ji35) < (l0.length : Int) then ((impl_share_1_captured.f (rd l0 a2) (rd l0 (ji35)) a80 l81 a82).bind fun t239 => (if t239 < 0 then (SYM.l2 a80 l81 a82 k1 l0 a2 x14_1 ji35) else (SYM.l2 a80 l81 a82 k1 l0 a2 (wrap64 ((ji35) + 1)) x15_1))) else (none)) else (none)) = some r := by first | (rw [hji35] at H; exact H) | (simp only [hji35] at H ⊢; exact H)
      have hji35w : (IntKind.i64.wrap ((IntKind.u64.wrap (wrap64 (x14_1 + x15_1))) / 2)) = ji35 := (i64_w _).trans hji35
      obtain ⟨c36, H⟩ := ifn_ H
      have c36b0 : decide (0 ≤ (ji35)) = true := decide_eq_true c36
      clear c36
      obtain ⟨c37, H⟩ := ifn_ H
      have c37b0 : decide ((ji35) < (l0.length : Int)) = true := decide_eq_true c37
      clear c37
      obtain ⟨t239, A380, H⟩ := bE_ H
      have A38 := am_ A380
      clear A380
      by_cases c39 : t239 < 0
      ·rw [if_pos c39] at H
       have c39b0 : decide (t239 < 0) = true := decide_eq_true c39
       clear c39
       have H' := am_ H
       clear H
       try go_wp2
       have n0_ := am_ (Kd.R_drew HO_0.out)
       have n1_ := am_ (Kept.drew HK.out)
       have n2_ := am_ (below_drew1 HB.out)
       replace HO_0 := n0_
       replace HK := n1_
       replace HB := n2_
       clear n0_ n1_ n2_
       obtain ⟨Ao41, co41, eo41⟩ := Kd.R_slice HO_0.out
       (first | subst eo41 | (injection eo41 with f1_ f2_ f3_; have f4_ := f1_.symm; have f5_ := f3_.symm; clear f1_ f2_ f3_; subst f4_; subst f5_))
       have p237 : 0 ≤ (a2 : Int) := od_
       have q237 : a2 < (l0.length : Int) := od_
       obtain ⟨ad237, e237, hx237_0⟩ := Kd.at_int (Kd.R_reads' HO_0.out).2.2 a2 p237 q237
       cases e237
       replace p237 := eq_true p237
       replace q237 := eq_true q237
       have p238 : 0 ≤ ((ji35) : Int) := od_
       have q238 : (ji35) < (l0.length : Int) := od_
       obtain ⟨ad238, e238, hx238_0⟩ := Kd.at_int (Kd.R_reads' HO_0.out).2.2 (ji35) p238 q238
       obtain rfl : ad237 = ad238 := (by injection e238)
       replace p238 := eq_true p238
       replace q238 := eq_true q238
       refine start_ (n := 12) (S := fun w' => w'.cell? (ad237.add (a2).toNat) = some (.int .i64 (rd l0 a2)) ∧ w'.cell? (ad237.add ((ji35)).toNat) = some (.int .i64 (rd l0 (ji35)))) (ds := []) (Array.replicate 12 false) (by kernel_rfl) rfl rfl ⟨hx237_0, hx238_0⟩ (fun hHeld => ?_); refine with_tabW SYM.tab17 SYM.bits17 (fun HT_ HW_ => ?_)
       generalize wr.drew = w40 at HO_0 HK HB hx237_0 hx238_0 hHeld ⊢
       refine pS_ 0 92 HT_ ?_
       refine pS_ 1 93 HT_ ?_
       refine pS_ 2 94 HT_ ?_
       refine pS_ 3 95 HT_ ?_
       refine pS_ 5 97 HT_ ?_
       refine pS_ 6 98 HT_ ?_
       refine pS_ 7 99 HT_ ?_
       refine tS_ 4 96 HT_ HW_ hHeld ?_
       refine tS_ 8 100 HT_ HW_ hHeld ?_
       refine oS_ 9 101 HT_ (fun K hK => ?_)
       refine goesV_ Try.func56 (by kernel_rfl) rfl #[.int .i64 (rd l0 a2), .int .i64 (rd l0 (ji35)), .pointer (some ⟨g80_, 0, none⟩), .pointer (some ⟨g81_, 0, none⟩), .pointer (some ⟨g82_, 0, none⟩)] (by rfl) rfl rfl (by rfl) (by (try simp only [List.map_toArray, List.map_cons, List.map_nil]); first | done | (simp only [hji35]; rfl) | rfl | (simp only [List.length_drop, List.length_take]; rfl)) ?_
       with_reducible refine (impl_share_1_captured.calls (rd l0 a2) (rd l0 (ji35)) g80_ a80 g81_ A81 c81 l81 g82_ a82 t239 _ ?side1 ?side2 ?side3 ?side4 ?side5 A38.out).mono ?_
       (case side1 => exact Kd.C_kept_now HR81.out (kk_ HK.out))
       (case side2 => exact HC81.out)
       (case side3 => exact hq80_0 _ (kk_ HK.out))
       (case side4 => exact hq81_0 _ (kk_ HK.out))
       (case side5 => exact hq82_0 _ (kk_ HK.out))
       rintro e w' ⟨rfl, ⟨nd, rfl⟩⟩
       refine ⟨_, rfl, ?_⟩
       refine hK.out _ _ ⟨hHeld.1, hHeld.2⟩ (fun hHeld => ?_)
       clear hK K
       refine nS_ ?_
       refine pS_ 10 102 HT_ ?_
       refine pS_ 11 103 HT_ ?_
       refine done_ (done_of HT_.out (by kernel_rfl)) ?_
       try go_wp2
       go_roundg k1
       case measure => have := HK1.out; omega
       case rel => exact ⟨(x14_1), (ji35), sq_, (by first | rfl | (simp; done) | (simp only [← hji35] <;> (first | rfl | simp)) | (simp [*]; done)), H', ⟨by have := HK1.out; omega⟩, ⟨ra_ HO_0.out⟩, ⟨kk_ HK.out⟩, ⟨bw_ HB.out⟩⟩
      ·rw [if_neg c39] at H
       have c39b0 : decide (t239 < 0) = false := decide_eq_false c39
       clear c39
       have H' := am_ H
       clear H
       try go_wp2
       have n0_ := am_ (Kd.R_drew HO_0.out)
       have n1_ := am_ (Kept.drew HK.out)
       have n2_ := am_ (below_drew1 HB.out)
       replace HO_0 := n0_
       replace HK := n1_
       replace HB := n2_
       clear n0_ n1_ n2_
       obtain ⟨Ao43, co43, eo43⟩ := Kd.R_slice HO_0.out
       (first | subst eo43 | (injection eo43 with f1_ f2_ f3_; have f4_ := f1_.symm; have f5_ := f3_.symm; clear f1_ f2_ f3_; subst f4_; subst f5_))
       have p237 : 0 ≤ (a2 : Int) := od_
       have q237 : a2 < (l0.length : Int) := od_
       obtain ⟨ad237, e237, hx237_0⟩ := Kd.at_int (Kd.R_reads' HO_0.out).2.2 a2 p237 q237
       cases e237
       replace p237 := eq_true p237
       replace q237 := eq_true q237
       have p238 : 0 ≤ ((ji35) : Int) := od_
       have q238 : (ji35) < (l0.length : Int) := od_
       obtain ⟨ad238, e238, hx238_0⟩ := Kd.at_int (Kd.R_reads' HO_0.out).2.2 (ji35) p238 q238
       obtain rfl : ad237 = ad238 := (by injection e238)
       replace p238 := eq_true p238
       replace q238 := eq_true q238
       refine start_ (n := 12) (S := fun w' => w'.cell? (ad237.add (a2).toNat) = some (.int .i64 (rd l0 a2)) ∧ w'.cell? (ad237.add ((ji35)).toNat) = some (.int .i64 (rd l0 (ji35)))) (ds := []) (Array.replicate 12 false) (by kernel_rfl) rfl rfl ⟨hx237_0, hx238_0⟩ (fun hHeld => ?_); refine with_tabW SYM.tab17 SYM.bits17 (fun HT_ HW_ => ?_)
       generalize wr.drew = w42 at HO_0 HK HB hx237_0 hx238_0 hHeld ⊢
       refine pS_ 0 92 HT_ ?_
       refine pS_ 1 93 HT_ ?_
       refine pS_ 2 94 HT_ ?_
       refine pS_ 3 95 HT_ ?_
       refine pS_ 5 97 HT_ ?_
       refine pS_ 6 98 HT_ ?_
       refine pS_ 7 99 HT_ ?_
       refine tS_ 4 96 HT_ HW_ hHeld ?_
       refine tS_ 8 100 HT_ HW_ hHeld ?_
       refine oS_ 9 101 HT_ (fun K hK => ?_)
       refine goesV_ Try.func56 (by kernel_rfl) rfl #[.int .i64 (rd l0 a2), .int .i64 (rd l0 (ji35)), .pointer (some ⟨g80_, 0, none⟩), .pointer (some ⟨g81_, 0, none⟩), .pointer (some ⟨g82_, 0, none⟩)] (by rfl) rfl rfl (by rfl) (by (try simp only [List.map_toArray, List.map_cons, List.map_nil]); first | done | (simp only [hji35]; rfl) | rfl | (simp only [List.length_drop, List.length_take]; rfl)) ?_
       with_reducible refine (impl_share_1_captured.calls (rd l0 a2) (rd l0 (ji35)) g80_ a80 g81_ A81 c81 l81 g82_ a82 t239 _ ?side1 ?side2 ?side3 ?side4 ?side5 A38.out).mono ?_
       (case side1 => exact Kd.C_kept_now HR81.out (kk_ HK.out))
       (case side2 => exact HC81.out)
       (case side3 => exact hq80_0 _ (kk_ HK.out))
       (case side4 => exact hq81_0 _ (kk_ HK.out))
       (case side5 => exact hq82_0 _ (kk_ HK.out))
       rintro e w' ⟨rfl, ⟨nd, rfl⟩⟩
       refine ⟨_, rfl, ?_⟩
       refine hK.out _ _ ⟨hHeld.1, hHeld.2⟩ (fun hHeld => ?_)
       clear hK K
       refine nS_ ?_
       refine pS_ 10 102 HT_ ?_
       refine pS_ 11 103 HT_ ?_
       refine done_ (done_of HT_.out (by kernel_rfl)) ?_
       try go_wp2
       go_roundg k1
       case measure => have := HK1.out; omega
       case rel => exact ⟨(wrap64 ((ji35) + 1)), (x15_1), (by first | rfl | (simp; done) | (simp only [← hji35] <;> (first | rfl | simp)) | (simp [*]; done)), sq_, H', ⟨by have := HK1.out; omega⟩, ⟨ra_ HO_0.out⟩, ⟨kk_ HK.out⟩, ⟨bw_ HB.out⟩⟩
     ·rw [if_neg c32] at H
      have c32b0 : decide (x14_1 < x15_1) = false := decide_eq_false c32
      clear c32
      have H' := am_ H
      clear H
      go_wp2
      go_loopg [17] k1 (fun kq v17 w' => ∃ (x0_2 : List Int) (x17_2 : Int), v17 = .int .i64 x17_2 ∧ Aside0 (SYM.l3 a80 l81 a82 kq x0_2 x14_1 x17_2 = some r) ∧ Aside0 (kq ≤ k1) ∧ Aside0 (Kd.R (Kd.int .i64) 3 w' w0.heap.size (fun k_ => (P0_ k_ ∨ w.heap.size ≤ k_)) u9000_ x0_2) ∧ Aside0 (Kept w w' (fun k_ => P0_ k_)) ∧ Aside0 (Below w0.heap.size w0 w'))
      case atStart => exact ⟨(l0), (a2), sq_, H', ⟨Nat.le_refl _⟩, ⟨ra_ HO_0.out⟩, ⟨kk_ HK.out⟩, ⟨bw_ HB.out⟩⟩
      case round =>
       clear H'
       try clear c6
       try clear c6b0
       try clear c6b1
       try clear c31
       try clear c31b0
       try clear c31b1
       try clear c32
       try clear c32b0
       (try clear HO_0)
       obtain ⟨x0_2, x17_2, rfl, HA, HK2, HO_0, HK, HB⟩ := hrel
       cases gk with
       | zero => exact absurd HA.out (by simp [SYM.l3])
       | succ k2 =>
        have H := HA.out
        clear HA
        simp only [SYM.l3] at H
        by_cases c44 : x17_2 > x14_1
        ·rw [if_pos c44] at H
         have c44b0 : decide (x14_1 < x17_2) = true := decide_eq_true c44
         clear c44
         obtain ⟨ji45, hji45⟩ : ∃ j_ : Int, (wrap64 (x17_2 - 1)) = j_ := ⟨_, rfl⟩
         replace H : (if 0 ≤ (ji45) then (if (ji45) < (x0_2.length : Int) then (if 0 ≤ x17_2 then (if x17_2 < (x0_2.length : Int) then (SYM.l3 a80 l81 a82 k2 ((x0_2.set (x17_2 : Int).toNat (rd x0_2 (ji45))).set ((ji45) : Int).toNat (rd x0_2 x17_2)) x14_1 ji45) else (none)) else (none)) else (none)) else (none)) = some r := by first | (rw [hji45] at H; exact H) | (simp only [hji45] at H ⊢; exact H)
         have hji45w : (IntKind.i64.wrap (x17_2 - 1)) = ji45 := (i64_w _).trans hji45
         obtain ⟨c46, H⟩ := ifn_ H
         have c46b0 : decide (0 ≤ (ji45)) = true := decide_eq_true c46
         clear c46
         obtain ⟨c47, H⟩ := ifn_ H
         have c47b0 : decide ((ji45) < (x0_2.length : Int)) = true := decide_eq_true c47
         clear c47
         obtain ⟨c48, H⟩ := ifn_ H
         have c48b0 : decide (0 ≤ x17_2) = true := decide_eq_true c48
         clear c48
         obtain ⟨c49, H⟩ := ifn_ H
         have c49b0 : decide (x17_2 < (x0_2.length : Int)) = true := decide_eq_true c49
         clear c49
         obtain ⟨y242, hy242⟩ : ∃ y_ : List Int, y_ = (x0_2.set (x17_2 : Int).toNat (rd x0_2 (ji45))) := ⟨_, rfl⟩
         replace H : (SYM.l3 a80 l81 a82 k2 (y242.set ((ji45) : Int).toNat (rd x0_2 x17_2)) x14_1 ji45) = some r := by first | (rw [hy242]; with_reducible exact H) | (have H2_ := (Option.bind_some _ _).symm.trans H; rw [hy242]; with_reducible exact H2_) | (have H2_ := (Option.bind_some _ _).symm.trans H; with_reducible exact H2_) | with_reducible exact H | (rw [hy242]; exact H) | exact H
         have Ny242 := am_ hy242
         clear hy242
         obtain ⟨y243, hy243⟩ : ∃ y_ : List Int, y_ = (y242.set ((ji45) : Int).toNat (rd x0_2 x17_2)) := ⟨_, rfl⟩
         replace H : (SYM.l3 a80 l81 a82 k2 y243 x14_1 ji45) = some r := by first | (rw [hy243]; with_reducible exact H) | (have H2_ := (Option.bind_some _ _).symm.trans H; rw [hy243]; with_reducible exact H2_) | (have H2_ := (Option.bind_some _ _).symm.trans H; with_reducible exact H2_) | with_reducible exact H | (rw [hy243]; exact H) | exact H
         have Ny243 := am_ hy243
         clear hy243
         have H' := am_ H
         clear H
         try go_wp2
         have n0_ := am_ (Kd.R_drew HO_0.out)
         have n1_ := am_ (Kept.drew HK.out)
         have n2_ := am_ (below_drew1 HB.out)
         replace HO_0 := n0_
         replace HK := n1_
         replace HB := n2_
         clear n0_ n1_ n2_
         obtain ⟨Ao53, co53, eo53⟩ := Kd.R_slice HO_0.out
         (first | subst eo53 | (injection eo53 with f1_ f2_ f3_; have f4_ := f1_.symm; have f5_ := f3_.symm; clear f1_ f2_ f3_; subst f4_; subst f5_))
         have p240 : 0 ≤ ((ji45) : Int) := od_
         have q240 : (ji45) < (x0_2.length : Int) := od_
         obtain ⟨ad240, e240, hx240_0⟩ := Kd.at_int (Kd.R_reads' HO_0.out).2.2 (ji45) p240 q240
         cases e240
         replace p240 := eq_true p240
         replace q240 := eq_true q240
         have p241 : 0 ≤ (x17_2 : Int) := od_
         have q241 : x17_2 < (x0_2.length : Int) := od_
         obtain ⟨ad241, e241, hx241_0⟩ := Kd.at_int (Kd.R_reads' HO_0.out).2.2 x17_2 p241 q241
         obtain rfl : ad240 = ad241 := (by injection e241)
         replace p241 := eq_true p241
         replace q241 := eq_true q241
         have p50 : 0 ≤ (x17_2 : Int) := od_
         have q50 : (x17_2 : Int) < ((x0_2.length : Int) : Int) := od_
         obtain ⟨go50, co50, eo50, gb50, gl50, cl50, HG50⟩ := Kd.R_form HO_0.out (by omega)
         (first | cases eo50 | (injection eo50 with ea_ en_ ec_; (first | subst ea_ | (injection ea_ with ea_; subst ea_)); subst ec_; clear en_))
         have GB50 := am_ gb50
         have GG50 := am_ HG50
         clear gb50 gl50 HG50
         have HMgo50 := am_ (show (P0_ go50 ∨ w.heap.size ≤ go50) from (HO_0.out.1 _ rfl))
         (first | simp only [add_plain] at hx240_0 | skip)
         (first | simp only [add_plain] at hx241_0 | skip)
         obtain ⟨hx50_0, hf50_0⟩ := Kd.R_celln 0 HO_0.out (x17_2 : Int) p50 q50
         replace p50 := eq_true p50
         replace q50 := eq_true q50
         have HP54 := Kd.R_putn HO_0.out (x17_2 : Int) (rd x0_2 (ji45))
         rw [← Ny242.out] at HP54
         have HQ54 := am_ HP54
         clear HP54
         have p51 : 0 ≤ ((ji45) : Int) := od_
         have q51 : ((ji45) : Int) < ((x0_2.length : Int) : Int) := od_
         obtain ⟨hx51_0, hf51_0⟩ := Kd.R_celln 0 HQ54.out ((ji45) : Int) p51 q51
         replace p51 := eq_true p51
         replace q51 := eq_true q51
         have HP55 := Kd.R_putn HQ54.out ((ji45) : Int) (rd x0_2 x17_2)
         rw [← Ny243.out] at HP55
         have HQ55 := am_ HP55
         clear HP55
         refine start_ (n := 18) (S := fun w' => w'.cell? ⟨go50, ((ji45)).toNat, none⟩ = some (.int .i64 (rd x0_2 (ji45))) ∧ w'.cell? ⟨go50, (x17_2).toNat, none⟩ = some (.int .i64 (rd x0_2 x17_2))) (ds := [15, 17]) (Array.replicate 18 false) (by kernel_rfl) rfl rfl ⟨hx240_0, hx241_0⟩ (fun hHeld => ?_); refine with_tabW SYM.tab23 SYM.bits23 (fun HT_ HW_ => ?_)
         generalize wr.drew = w52 at HO_0 HK HB GG50 HQ54 HQ55 hf50_0 hf51_0 hx240_0 hx241_0 hx50_0 hx51_0 hHeld ⊢
         refine pS_ 0 113 HT_ ?_
         refine pS_ 1 114 HT_ ?_
         refine pS_ 2 115 HT_ ?_
         refine pS_ 3 116 HT_ ?_
         refine pS_ 4 117 HT_ ?_
         refine pS_ 5 118 HT_ ?_
         refine pS_ 6 119 HT_ ?_
         refine pS_ 7 120 HT_ ?_
         refine pS_ 8 121 HT_ ?_
         refine pS_ 10 123 HT_ ?_
         refine pS_ 11 124 HT_ ?_
         refine pS_ 12 125 HT_ ?_
         refine tS_ 9 122 HT_ HW_ hHeld ?_
         refine tS_ 13 126 HT_ HW_ hHeld ?_
         refine pS_ 14 127 HT_ ?_
         refine last_ (i := 15) (N := none) #[true, true, true, true, true, true, true, true, true, true, true, true, true, true, true, true, false, false] rfl rfl (one_of HT_.out (by kernel_rfl)) (by decide) (fun K hK => ?_)
         refine skip_ (w1 := ?_) (by rfl) rfl ?_ ?_
         rotate_left
         ·go_simp
          rfl
         refine hK.out _ _ ?_
         clear hK K
         refine pS_ 16 128 HT_ ?_
         refine last_ (i := 17) (N := none) #[true, true, true, true, true, true, true, true, true, true, true, true, true, true, true, true, true, true] rfl rfl (one_of HT_.out (by kernel_rfl)) (by decide) (fun K hK => ?_)
         refine skip_ (w1 := ?_) (by rfl) rfl ?_ ?_
         rotate_left
         ·go_simp
          rfl
         refine hK.out _ _ ?_
         clear hK K
         refine done_ (done_of HT_.out (by kernel_rfl)) ?_
         try go_wp2
         (try simp only [show (⟨go50, ((ji45) : Int).toNat, none⟩ : Addr) = Addr.add ⟨go50, 0, none⟩ ((ji45) : Int).toNat from by simp [Addr.add]])
         (try simp only [show (⟨go50, (x17_2 : Int).toNat, none⟩ : Addr) = Addr.add ⟨go50, 0, none⟩ (x17_2 : Int).toNat from by simp [Addr.add]])
         go_roundg k2
         case measure => have := HK1.out; have := HK2.out; omega
         case rel => first | exact ⟨(y243), (ji45), (by first | rfl | (simp; done) | (simp only [← hji45] <;> (first | rfl | simp)) | (simp [*]; done)), H', ⟨by have := HK1.out; have := HK2.out; omega⟩, ⟨ra_ HQ55.out⟩, ⟨by repeat (first | (with_reducible first | exact HK.out | apply Kept.alloc | apply Kept.drewN | apply Kept.drew | refine Kept.setCell ?_ HMgo50.out _ | refine Kept.setCell ?_ HMgo50.out _) | exact HK.out)⟩, ⟨bw_ HB.out⟩⟩ | (simp only [(show (⟨go50, (x17_2 : Int).toNat, none⟩ : Addr) = Addr.add ⟨go50, 0, none⟩ (x17_2 : Int).toNat from by simp [Addr.add]).symm, (show (⟨go50, ((ji45) : Int).toNat, none⟩ : Addr) = Addr.add ⟨go50, 0, none⟩ ((ji45) : Int).toNat from by simp [Addr.add]).symm]; exact ⟨(y243), (ji45), (by first | rfl | (simp; done) | (simp only [← hji45] <;> (first | rfl | simp)) | (simp [*]; done)), H', ⟨by have := HK1.out; have := HK2.out; omega⟩, ⟨ra_ HQ55.out⟩, ⟨by repeat (first | (with_reducible first | exact HK.out | apply Kept.alloc | apply Kept.drewN | apply Kept.drew | refine Kept.setCell ?_ HMgo50.out _ | refine Kept.setCell ?_ HMgo50.out _) | exact HK.out)⟩, ⟨bw_ HB.out⟩⟩)
        ·rw [if_neg c44] at H
         have c44b0 : decide (x14_1 < x17_2) = false := decide_eq_false c44
         clear c44
         obtain rfl := Option.some.inj H
         go_wp2
         first | go_end0 | ((try simp only [Exit.inBlock, Exit.then]); refine bodyPost_ret (results_none rfl _ _ _) rfl ?_)
         exact ⟨by first | rfl | (simp [errW_none, errW_some] <;> rfl) | (simp [*, errW_none, errW_some] <;> rfl), ra_ HO_0.out, bw_ HB.out, kk_ HK.out⟩
  ·rw [if_neg c31] at H
   have c31b0 : ((wrap64 (a3 - a2)) == 1) = false := beq_eq_false_iff_ne.mpr c31
   have c31b1 : ((wrap64 (a3 - a2)) != 1) = true := bne_iff_ne.mpr c31
   have HC56 := am_ H
   clear H
   go_enter Try.func69, Try.ntmps69
   go_upto_if 140 with (fail)
   go_cut [20, 21] (fun v20 v21 wc => ∃ (kq : Nat) (x20_55 : Int) (x21_55 : Int), v20 = .int .i64 x20_55 ∧ v21 = .int .i64 x21_55 ∧ Aside0 (SYM.j4 a80 l81 a82 kq l0 a1 a2 a3 (wrap64 ((IntKind.u64.wrap (wrap64 (a1 + a3))) / 2)) (wrap64 ((wrap64 ((IntKind.u64.wrap (wrap64 (a1 + a3))) / 2)) + a2)) x20_55 x21_55 = some r) ∧ Aside0 (kq ≤ k) ∧ Aside0 (Kd.R (Kd.int .i64) 3 wc w0.heap.size (fun k_ => (P0_ k_ ∨ w.heap.size ≤ k_)) u9000_ l0) ∧ Aside0 (Kept w wc (fun k_ => P0_ k_)) ∧ Aside0 (Below w0.heap.size w0 wc))
   case first =>
    have H := HC56.out
    clear HC56
    by_cases c57 : a2 > (wrap64 ((IntKind.u64.wrap (wrap64 (a1 + a3))) / 2))
    ·rw [if_pos c57] at H
     have c57b0 : decide ((wrap64 ((IntKind.u64.wrap (wrap64 (a1 + a3))) / 2)) < a2) = true := decide_eq_true c57
     clear c57
     (first | rw [c57b0] | (simp only [i64_w, i32_w]; rw [c57b0]) | skip)
     have H' := am_ H
     clear H
     go_wp2
     go_meet
     case rel => exact ⟨_, (wrap64 ((wrap64 ((wrap64 ((IntKind.u64.wrap (wrap64 (a1 + a3))) / 2)) + a2)) - a3)), (wrap64 ((IntKind.u64.wrap (wrap64 (a1 + a3))) / 2)), sq_, sq_, H', ⟨by first | omega | exact Nat.le_refl _⟩, ⟨ra_ HO0.out⟩, ⟨kk_ HK.out⟩, ⟨bw_ HB.out⟩⟩
    ·rw [if_neg c57] at H
     have c57b0 : decide ((wrap64 ((IntKind.u64.wrap (wrap64 (a1 + a3))) / 2)) < a2) = false := decide_eq_false c57
     clear c57
     (first | rw [c57b0] | (simp only [i64_w, i32_w]; rw [c57b0]) | skip)
     have H' := am_ H
     clear H
     go_wp2
     go_meet
     case rel => exact ⟨_, (a1), (a2), sq_, sq_, H', ⟨by first | omega | exact Nat.le_refl _⟩, ⟨ra_ HO0.out⟩, ⟨kk_ HK.out⟩, ⟨bw_ HB.out⟩⟩
   case rest => as_aux_lemma =>
    clear HC56
    try clear c6
    try clear c6b0
    try clear c6b1
    try clear c31
    try clear c31b0
    try clear c31b1
    obtain ⟨kq, x20_55, x21_55, rfl, rfl, HA, HJ55, HO_0, HK, HB⟩ := hcut
    cases kq with
    | zero => exact absurd HA.out (by simp [SYM.j4])
    | succ kj55 =>
     have H := HA.out
     clear HA
     simp only [SYM.j4] at H
     have H' := am_ H
     clear H
     go_wp2
     go_loopg [20, 21] kj55 (fun kq v20 v21 w' => ∃ (x20_2 : Int) (x21_2 : Int), v20 = .int .i64 x20_2 ∧ v21 = .int .i64 x21_2 ∧ Aside0 (SYM.l4 a80 l81 a82 kq l0 a1 a2 a3 (wrap64 ((IntKind.u64.wrap (wrap64 (a1 + a3))) / 2)) (wrap64 ((wrap64 ((IntKind.u64.wrap (wrap64 (a1 + a3))) / 2)) + a2)) x20_2 x21_2 (wrap64 ((wrap64 ((wrap64 ((IntKind.u64.wrap (wrap64 (a1 + a3))) / 2)) + a2)) - 1)) = some r) ∧ Aside0 (kq ≤ kj55) ∧ Aside0 (Kd.R (Kd.int .i64) 3 w' w0.heap.size (fun k_ => (P0_ k_ ∨ w.heap.size ≤ k_)) u9000_ l0) ∧ Aside0 (Kept w w' (fun k_ => P0_ k_)) ∧ Aside0 (Below w0.heap.size w0 w'))
     case atStart => exact ⟨(x20_55), (x21_55), sq_, sq_, H', ⟨Nat.le_refl _⟩, ⟨ra_ HO_0.out⟩, ⟨kk_ HK.out⟩, ⟨bw_ HB.out⟩⟩
     case round =>
      clear H'
      try clear c6
      try clear c6b0
      try clear c6b1
      try clear c31
      try clear c31b0
      try clear c31b1
      (try clear HO_0)
      obtain ⟨x20_2, x21_2, rfl, rfl, HA, HK2, HO_0, HK, HB⟩ := hrel
      cases gk with
      | zero => exact absurd HA.out (by simp [SYM.l4])
      | succ k2 =>
       have H := HA.out
       clear HA
       simp only [SYM.l4] at H
       by_cases c58 : x20_2 < x21_2
       ·rw [if_pos c58] at H
        have c58b0 : decide (x20_2 < x21_2) = true := decide_eq_true c58
        clear c58
        obtain ⟨ji59, hji59⟩ : ∃ j_ : Int, (wrap64 ((wrap64 ((wrap64 ((wrap64 ((IntKind.u64.wrap (wrap64 (a1 + a3))) / 2)) + a2)) - 1)) - (wrap64 ((IntKind.u64.wrap (wrap64 (x20_2 + x21_2))) / 2)))) = j_ := ⟨_, rfl⟩
        replace H : (if 0 ≤ (ji59) then (if (ji59) < (l0.length : Int) then (if 0 ≤ (wrap64 ((IntKind.u64.wrap (wrap64 (x20_2 + x21_2))) / 2)) then (if (wrap64 ((IntKind.u64.wrap (wrap64 (x20_2 + x21_2))) / 2)) < (l0.length : Int) then ((impl_share_1_captured.f (rd l0 (ji59)) (rd l0 (wrap64 ((IntKind.u64.wrap (wrap64 (x20_2 + x21_2))) / 2))) a80 l81 a82).bind fun t246 => (if t246 < 0 then (SYM.l4 a80 l81 a82 k2 l0 a1 a2 a3 (wrap64 ((IntKind.u64.wrap (wrap64 (a1 + a3))) / 2)) (wrap64 ((wrap64 ((IntKind.u64.wrap (wrap64 (a1 + a3))) / 2)) + a2)) x20_2 (wrap64 ((IntKind.u64.wrap (wrap64 (x20_2 + x21_2))) / 2)) (wrap64 ((wrap64 ((wrap64 ((IntKind.u64.wrap (wrap64 (a1 + a3))) / 2)) + a2)) - 1))) else (SYM.l4 a80 l81 a82 k2 l0 a1 a2 a3 (wrap64 ((IntKind.u64.wrap (wrap64 (a1 + a3))) / 2)) (wrap64 ((wrap64 ((IntKind.u64.wrap (wrap64 (a1 + a3))) / 2)) + a2)) (wrap64 ((wrap64 ((IntKind.u64.wrap (wrap64 (x20_2 + x21_2))) / 2)) + 1)) x21_2 (wrap64 ((wrap64 ((wrap64 ((IntKind.u64.wrap (wrap64 (a1 + a3))) / 2)) + a2)) - 1))))) else (none)) else (none)) else (none)) else (none)) = some r := by first | (rw [hji59] at H; exact H) | (simp only [hji59] at H ⊢; exact H)
        have hji59w : (IntKind.i64.wrap ((wrap64 ((wrap64 ((wrap64 ((IntKind.u64.wrap (wrap64 (a1 + a3))) / 2)) + a2)) - 1)) - (wrap64 ((IntKind.u64.wrap (wrap64 (x20_2 + x21_2))) / 2)))) = ji59 := (i64_w _).trans hji59
        obtain ⟨c60, H⟩ := ifn_ H
        have c60b0 : decide (0 ≤ (ji59)) = true := decide_eq_true c60
        clear c60
        obtain ⟨c61, H⟩ := ifn_ H
        have c61b0 : decide ((ji59) < (l0.length : Int)) = true := decide_eq_true c61
        clear c61
        obtain ⟨ji62, hji62⟩ : ∃ j_ : Int, (wrap64 ((IntKind.u64.wrap (wrap64 (x20_2 + x21_2))) / 2)) = j_ := ⟨_, rfl⟩
        replace H : (if 0 ≤ (ji62) then (if (ji62) < (l0.length : Int) then ((impl_share_1_captured.f (rd l0 (ji59)) (rd l0 (ji62)) a80 l81 a82).bind fun t246 => (if t246 < 0 then (SYM.l4 a80 l81 a82 k2 l0 a1 a2 a3 (wrap64 ((IntKind.u64.wrap (wrap64 (a1 + a3))) / 2)) (wrap64 ((wrap64 ((IntKind.u64.wrap (wrap64 (a1 + a3))) / 2)) + a2)) x20_2 ji62 (wrap64 ((wrap64 ((wrap64 ((IntKind.u64.wrap (wrap64 (a1 + a3))) / 2)) + a2)) - 1))) else (SYM.l4 a80 l81 a82 k2 l0 a1 a2 a3 (wrap64 ((IntKind.u64.wrap (wrap64 (a1 + a3))) / 2)) (wrap64 ((wrap64 ((IntKind.u64.wrap (wrap64 (a1 + a3))) / 2)) + a2)) (wrap64 ((ji62) + 1)) x21_2 (wrap64 ((wrap64 ((wrap64 ((IntKind.u64.wrap (wrap64 (a1 + a3))) / 2)) + a2)) - 1))))) else (none)) else (none)) = some r := by first | (rw [hji62] at H; exact H) | (simp only [hji62] at H ⊢; exact H)
        have hji62w : (IntKind.i64.wrap ((IntKind.u64.wrap (wrap64 (x20_2 + x21_2))) / 2)) = ji62 := (i64_w _).trans hji62
        (try rw [hji62] at hji59); (try rw [hji62] at hji59w)
        obtain ⟨c63, H⟩ := ifn_ H
        have c63b0 : decide (0 ≤ (ji62)) = true := decide_eq_true c63
        clear c63
        obtain ⟨c64, H⟩ := ifn_ H
        have c64b0 : decide ((ji62) < (l0.length : Int)) = true := decide_eq_true c64
        clear c64
        obtain ⟨t246, A650, H⟩ := bE_ H
        have A65 := am_ A650
        clear A650
        by_cases c66 : t246 < 0
        ·rw [if_pos c66] at H
         have c66b0 : decide (t246 < 0) = true := decide_eq_true c66
         clear c66
         have H' := am_ H
         clear H
         try go_wp2
         have n0_ := am_ (Kd.R_drew HO_0.out)
         have n1_ := am_ (Kept.drew HK.out)
         have n2_ := am_ (below_drew1 HB.out)
         replace HO_0 := n0_
         replace HK := n1_
         replace HB := n2_
         clear n0_ n1_ n2_
         obtain ⟨Ao68, co68, eo68⟩ := Kd.R_slice HO_0.out
         (first | subst eo68 | (injection eo68 with f1_ f2_ f3_; have f4_ := f1_.symm; have f5_ := f3_.symm; clear f1_ f2_ f3_; subst f4_; subst f5_))
         have p244 : 0 ≤ ((ji59) : Int) := od_
         have q244 : (ji59) < (l0.length : Int) := od_
         obtain ⟨ad244, e244, hx244_0⟩ := Kd.at_int (Kd.R_reads' HO_0.out).2.2 (ji59) p244 q244
         cases e244
         replace p244 := eq_true p244
         replace q244 := eq_true q244
         have p245 : 0 ≤ ((ji62) : Int) := od_
         have q245 : (ji62) < (l0.length : Int) := od_
         obtain ⟨ad245, e245, hx245_0⟩ := Kd.at_int (Kd.R_reads' HO_0.out).2.2 (ji62) p245 q245
         obtain rfl : ad244 = ad245 := (by injection e245)
         replace p245 := eq_true p245
         replace q245 := eq_true q245
         refine start_ (n := 14) (S := fun w' => w'.cell? (ad244.add ((ji59)).toNat) = some (.int .i64 (rd l0 (ji59))) ∧ w'.cell? (ad244.add ((ji62)).toNat) = some (.int .i64 (rd l0 (ji62)))) (ds := []) (Array.replicate 14 false) (by kernel_rfl) rfl rfl ⟨hx244_0, hx245_0⟩ (fun hHeld => ?_); refine with_tabW SYM.tab35 SYM.bits35 (fun HT_ HW_ => ?_)
         generalize wr.drew = w67 at HO_0 HK HB hx244_0 hx245_0 hHeld ⊢
         refine pS_ 0 158 HT_ ?_
         refine pS_ 1 159 HT_ ?_
         refine pS_ 2 160 HT_ ?_
         refine pS_ 3 161 HT_ ?_
         refine pS_ 4 162 HT_ ?_
         refine pS_ 5 163 HT_ ?_
         refine pS_ 7 165 HT_ ?_
         refine pS_ 8 166 HT_ ?_
         refine pS_ 9 167 HT_ ?_
         refine tS_ 6 164 HT_ HW_ hHeld ?_
         refine tS_ 10 168 HT_ HW_ hHeld ?_
         refine oS_ 11 169 HT_ (fun K hK => ?_)
         refine goesV_ Try.func56 (by kernel_rfl) rfl #[.int .i64 (rd l0 (ji59)), .int .i64 (rd l0 (ji62)), .pointer (some ⟨g80_, 0, none⟩), .pointer (some ⟨g81_, 0, none⟩), .pointer (some ⟨g82_, 0, none⟩)] (by rfl) rfl rfl (by rfl) (by (try simp only [List.map_toArray, List.map_cons, List.map_nil]); first | done | (simp only [hji59, hji62]; rfl) | rfl | (simp only [List.length_drop, List.length_take]; rfl)) ?_
         with_reducible refine (impl_share_1_captured.calls (rd l0 (ji59)) (rd l0 (ji62)) g80_ a80 g81_ A81 c81 l81 g82_ a82 t246 _ ?side1 ?side2 ?side3 ?side4 ?side5 A65.out).mono ?_
         (case side1 => exact Kd.C_kept_now HR81.out (kk_ HK.out))
         (case side2 => exact HC81.out)
         (case side3 => exact hq80_0 _ (kk_ HK.out))
         (case side4 => exact hq81_0 _ (kk_ HK.out))
         (case side5 => exact hq82_0 _ (kk_ HK.out))
         rintro e w' ⟨rfl, ⟨nd, rfl⟩⟩
         refine ⟨_, rfl, ?_⟩
         refine hK.out _ _ ⟨hHeld.1, hHeld.2⟩ (fun hHeld => ?_)
         clear hK K
         refine nS_ ?_
         refine pS_ 12 170 HT_ ?_
         refine pS_ 13 171 HT_ ?_
         refine done_ (done_of HT_.out (by kernel_rfl)) ?_
         try go_wp2
         go_roundg k2
         case measure => have := HJ55.out; have := HK2.out; omega
         case rel => exact ⟨(x20_2), (ji62), sq_, (by first | rfl | (simp; done) | (simp only [← hji62] <;> (first | rfl | simp)) | (simp [*]; done)), H', ⟨by have := HJ55.out; have := HK2.out; omega⟩, ⟨ra_ HO_0.out⟩, ⟨kk_ HK.out⟩, ⟨bw_ HB.out⟩⟩
        ·rw [if_neg c66] at H
         have c66b0 : decide (t246 < 0) = false := decide_eq_false c66
         clear c66
         have H' := am_ H
         clear H
         try go_wp2
         have n0_ := am_ (Kd.R_drew HO_0.out)
         have n1_ := am_ (Kept.drew HK.out)
         have n2_ := am_ (below_drew1 HB.out)
         replace HO_0 := n0_
         replace HK := n1_
         replace HB := n2_
         clear n0_ n1_ n2_
         obtain ⟨Ao70, co70, eo70⟩ := Kd.R_slice HO_0.out
         (first | subst eo70 | (injection eo70 with f1_ f2_ f3_; have f4_ := f1_.symm; have f5_ := f3_.symm; clear f1_ f2_ f3_; subst f4_; subst f5_))
         have p244 : 0 ≤ ((ji59) : Int) := od_
         have q244 : (ji59) < (l0.length : Int) := od_
         obtain ⟨ad244, e244, hx244_0⟩ := Kd.at_int (Kd.R_reads' HO_0.out).2.2 (ji59) p244 q244
         cases e244
         replace p244 := eq_true p244
         replace q244 := eq_true q244
         have p245 : 0 ≤ ((ji62) : Int) := od_
         have q245 : (ji62) < (l0.length : Int) := od_
         obtain ⟨ad245, e245, hx245_0⟩ := Kd.at_int (Kd.R_reads' HO_0.out).2.2 (ji62) p245 q245
         obtain rfl : ad244 = ad245 := (by injection e245)
         replace p245 := eq_true p245
         replace q245 := eq_true q245
         refine start_ (n := 14) (S := fun w' => w'.cell? (ad244.add ((ji59)).toNat) = some (.int .i64 (rd l0 (ji59))) ∧ w'.cell? (ad244.add ((ji62)).toNat) = some (.int .i64 (rd l0 (ji62)))) (ds := []) (Array.replicate 14 false) (by kernel_rfl) rfl rfl ⟨hx244_0, hx245_0⟩ (fun hHeld => ?_); refine with_tabW SYM.tab35 SYM.bits35 (fun HT_ HW_ => ?_)
         generalize wr.drew = w69 at HO_0 HK HB hx244_0 hx245_0 hHeld ⊢
         refine pS_ 0 158 HT_ ?_
         refine pS_ 1 159 HT_ ?_
         refine pS_ 2 160 HT_ ?_
         refine pS_ 3 161 HT_ ?_
         refine pS_ 4 162 HT_ ?_
         refine pS_ 5 163 HT_ ?_
         refine pS_ 7 165 HT_ ?_
         refine pS_ 8 166 HT_ ?_
         refine pS_ 9 167 HT_ ?_
         refine tS_ 6 164 HT_ HW_ hHeld ?_
         refine tS_ 10 168 HT_ HW_ hHeld ?_
         refine oS_ 11 169 HT_ (fun K hK => ?_)
         refine goesV_ Try.func56 (by kernel_rfl) rfl #[.int .i64 (rd l0 (ji59)), .int .i64 (rd l0 (ji62)), .pointer (some ⟨g80_, 0, none⟩), .pointer (some ⟨g81_, 0, none⟩), .pointer (some ⟨g82_, 0, none⟩)] (by rfl) rfl rfl (by rfl) (by (try simp only [List.map_toArray, List.map_cons, List.map_nil]); first | done | (simp only [hji59, hji62]; rfl) | rfl | (simp only [List.length_drop, List.length_take]; rfl)) ?_
         with_reducible refine (impl_share_1_captured.calls (rd l0 (ji59)) (rd l0 (ji62)) g80_ a80 g81_ A81 c81 l81 g82_ a82 t246 _ ?side1 ?side2 ?side3 ?side4 ?side5 A65.out).mono ?_
         (case side1 => exact Kd.C_kept_now HR81.out (kk_ HK.out))
         (case side2 => exact HC81.out)
         (case side3 => exact hq80_0 _ (kk_ HK.out))
         (case side4 => exact hq81_0 _ (kk_ HK.out))
         (case side5 => exact hq82_0 _ (kk_ HK.out))
         rintro e w' ⟨rfl, ⟨nd, rfl⟩⟩
         refine ⟨_, rfl, ?_⟩
         refine hK.out _ _ ⟨hHeld.1, hHeld.2⟩ (fun hHeld => ?_)
         clear hK K
         refine nS_ ?_
         refine pS_ 12 170 HT_ ?_
         refine pS_ 13 171 HT_ ?_
         refine done_ (done_of HT_.out (by kernel_rfl)) ?_
         try go_wp2
         go_roundg k2
         case measure => have := HJ55.out; have := HK2.out; omega
         case rel => exact ⟨(wrap64 ((ji62) + 1)), (x21_2), (by first | rfl | (simp; done) | (simp only [← hji62] <;> (first | rfl | simp)) | (simp [*]; done)), sq_, H', ⟨by have := HJ55.out; have := HK2.out; omega⟩, ⟨ra_ HO_0.out⟩, ⟨kk_ HK.out⟩, ⟨bw_ HB.out⟩⟩
       ·rw [if_neg c58] at H
        have c58b0 : decide (x20_2 < x21_2) = false := decide_eq_false c58
        clear c58
        have HC71 := am_ H
        clear H
        go_upto_region 39 with (fail)
        go_cut [185] (fun v185 wc => ∃ (kq : Nat) (x185_70 : Bool), v185 = .bool x185_70 ∧ Aside0 (SYM.j6 a80 l81 a82 kq l0 a1 a2 a3 (wrap64 ((IntKind.u64.wrap (wrap64 (a1 + a3))) / 2)) x20_2 (wrap64 ((wrap64 ((wrap64 ((IntKind.u64.wrap (wrap64 (a1 + a3))) / 2)) + a2)) - x20_2)) x185_70 = some r) ∧ Aside0 (kq ≤ k2) ∧ Aside0 (Kd.R (Kd.int .i64) 3 wc w0.heap.size (fun k_ => (P0_ k_ ∨ w.heap.size ≤ k_)) u9000_ l0) ∧ Aside0 (Kept w wc (fun k_ => P0_ k_)) ∧ Aside0 (Below w0.heap.size w0 wc))
        case first =>
         have H := HC71.out
         clear HC71
         by_cases c72 : x20_2 < a2
         ·rw [if_pos c72] at H
          have c72b0 : decide (x20_2 < a2) = true := decide_eq_true c72
          clear c72
          (first | rw [c72b0] | (simp only [i64_w, i32_w]; rw [c72b0]) | skip)
          have H' := am_ H
          clear H
          go_wp2
          go_meet
          case rel => exact ⟨_, (decide (a2 < (wrap64 ((wrap64 ((wrap64 ((IntKind.u64.wrap (wrap64 (a1 + a3))) / 2)) + a2)) - x20_2)))), sq_, H', ⟨by have := HJ55.out; have := HK2.out; first | omega | exact Nat.le_refl _⟩, ⟨ra_ HO_0.out⟩, ⟨kk_ HK.out⟩, ⟨bw_ HB.out⟩⟩
         ·rw [if_neg c72] at H
          have c72b0 : decide (x20_2 < a2) = false := decide_eq_false c72
          clear c72
          (first | rw [c72b0] | (simp only [i64_w, i32_w]; rw [c72b0]) | skip)
          have H' := am_ H
          clear H
          go_wp2
          go_meet
          case rel => exact ⟨_, (false), sq_, H', ⟨by have := HJ55.out; have := HK2.out; first | omega | exact Nat.le_refl _⟩, ⟨ra_ HO_0.out⟩, ⟨kk_ HK.out⟩, ⟨bw_ HB.out⟩⟩
        case rest => as_aux_lemma =>
         clear HC71
         try clear c6
         try clear c6b0
         try clear c6b1
         try clear c31
         try clear c31b0
         try clear c31b1
         try clear c58
         try clear c58b0
         obtain ⟨kq, x185_70, rfl, HA, HJ70, HO_0, HK, HB⟩ := hcut
         cases kq with
         | zero => exact absurd HA.out (by simp [SYM.j6])
         | succ kj70 =>
          have H := HA.out
          clear HA
          simp only [SYM.j6] at H
          have HC73 := am_ H
          clear H
          go_upto_if 185 with (fail)
          go_cut [] (fun wc => ∃ (kq : Nat) (x0_72 : List Int), Aside0 (SYM.j7 a80 l81 a82 kq x0_72 a1 a3 (wrap64 ((IntKind.u64.wrap (wrap64 (a1 + a3))) / 2)) x20_2 (wrap64 ((wrap64 ((wrap64 ((IntKind.u64.wrap (wrap64 (a1 + a3))) / 2)) + a2)) - x20_2)) = some r) ∧ Aside0 (kq ≤ kj70) ∧ Aside0 (Kd.R (Kd.int .i64) 3 wc w0.heap.size (fun k_ => (P0_ k_ ∨ w.heap.size ≤ k_)) u9000_ x0_72) ∧ Aside0 (Kept w wc (fun k_ => P0_ k_)) ∧ Aside0 (Below w0.heap.size w0 wc))
          case first =>
           have H := HC73.out
           clear HC73
           by_cases c74 : x185_70 = true
           ·subst c74
            replace H := it_ H rfl
            obtain ⟨t247, A750, H⟩ := bE_ H
            have A75 := am_ A750
            clear A750
            have H' := am_ H
            clear H
            obtain ⟨Ao76, co76, eo76⟩ := Kd.R_slice HO_0.out
            subst eo76
            go_wp2_with (first | ((with_reducible refine gate_callee (f := 70) rfl ?_); refine goesL_ (some 191) rfl rfl Try.func70 (by kernel_rfl) rfl #[.slice Ao76 l0.length co76, .int .i64 x20_2, .int .i64 a2, .int .i64 (wrap64 ((wrap64 ((wrap64 ((IntKind.u64.wrap (wrap64 (a1 + a3))) / 2)) + a2)) - x20_2)), .func (.func 56) #[] #[.pointer (some ⟨g80_, 0, none⟩), .pointer (some ⟨g81_, 0, none⟩), .pointer (some ⟨g82_, 0, none⟩)]] rfl (by (try simp only [List.map_toArray, List.map_cons, List.map_nil]); first | done | rfl | (simp only [List.length_drop, List.length_take]; rfl)) ?_; (with_reducible refine (ROT.calls kj70 (fun k_ => some k_ = (.slice Ao76 l0.length co76 : Value).ownBlock) (.slice Ao76 l0.length co76) l0 x20_2 a2 (wrap64 ((wrap64 ((wrap64 ((IntKind.u64.wrap (wrap64 (a1 + a3))) / 2)) + a2)) - x20_2)) g80_ g81_ g82_ a80 A81 c81 l81 a82 t247 w0 _ ?side1 ?side2 ?side3 ?side4 ?side5 ?side6 ?side7 A75.out).mono ?_); (case side1 => repeat (first | (with_reducible first | exact HB.out | apply below_alloc | apply pw_below_drewN | apply below_drew1) | exact HB.out)); (case side2 => exact Kd.R_tight rfl HO_0.out); (case side3 => exact Kd.C_kept_call HR81.out (kk_ HK.out) (fun k_ hs_ => (fun e_ => (HO_0.out.1 k_ e_.symm)) hs_)); (case side4 => exact HC81.out); (case side5 => exact fun W_ hk_ => hq80_0 W_ (Kept.then_ (S := (fun k_ => P0_ k_)) (kk_ HK.out) hk_ (fun k_ hs_ => (fun e_ => (HO_0.out.1 k_ e_.symm)) hs_))); (case side6 => exact fun W_ hk_ => hq81_0 W_ (Kept.then_ (S := (fun k_ => P0_ k_)) (kk_ HK.out) hk_ (fun k_ hs_ => (fun e_ => (HO_0.out.1 k_ e_.symm)) hs_))); (case side7 => exact fun W_ hk_ => hq82_0 W_ (Kept.then_ (S := (fun k_ => P0_ k_)) (kk_ HK.out) hk_ (fun k_ hs_ => (fun e_ => (HO_0.out.1 k_ e_.symm)) hs_))); rintro e w77 ⟨rfl, hy0, hb, hkp⟩; refine ⟨_, rfl, ?_⟩; have n0_ := am_ (Kd.R_reok rfl hy0 (fun k_ e_ => HO_0.out.1 k_ e_)); have n1_ := am_ (Kept.then_ (S := (fun k_ => P0_ k_)) (kk_ HK.out) hkp (fun k_ hs_ => (fun e_ => (HO_0.out.1 k_ e_.symm)) hs_)); have n2_ := am_ (hb); replace HO_0 := n0_; replace HK := n1_; replace HB := n2_; clear n0_ n1_ n2_; (try clear hb); (try clear hkp); (try clear hy0)))
            go_meet
            case rel => exact ⟨_, (t247), H', ⟨by have := HJ55.out; have := HK2.out; have := HJ70.out; first | omega | exact Nat.le_refl _⟩, ⟨ra_ HO_0.out⟩, ⟨kk_ HK.out⟩, ⟨bw_ HB.out⟩⟩
           ·replace c74 := Bool.eq_false_iff.mpr c74
            subst c74
            replace H := if_ H Bool.false_ne_true
            have H' := am_ H
            clear H
            go_wp2
            go_meet
            case rel => exact ⟨_, (l0), H', ⟨by have := HJ55.out; have := HK2.out; have := HJ70.out; first | omega | exact Nat.le_refl _⟩, ⟨ra_ HO_0.out⟩, ⟨kk_ HK.out⟩, ⟨bw_ HB.out⟩⟩
          case rest => as_aux_lemma =>
           clear HC73
           try clear c6
           try clear c6b0
           try clear c6b1
           try clear c31
           try clear c31b0
           try clear c31b1
           try clear c58
           try clear c58b0
           obtain ⟨kq, x0_72, HA, HJ72, HO_0, HK, HB⟩ := hcut
           cases kq with
           | zero => exact absurd HA.out (by simp [SYM.j7])
           | succ kj72 =>
            have H := HA.out
            clear HA
            simp only [SYM.j7] at H
            have HC78 := am_ H
            clear H
            go_upto_region 41 with (fail)
            go_cut [199] (fun v199 wc => ∃ (kq : Nat) (x199_77 : Bool), v199 = .bool x199_77 ∧ Aside0 (SYM.j8 a80 l81 a82 kq x0_72 a1 a3 (wrap64 ((IntKind.u64.wrap (wrap64 (a1 + a3))) / 2)) x20_2 (wrap64 ((wrap64 ((wrap64 ((IntKind.u64.wrap (wrap64 (a1 + a3))) / 2)) + a2)) - x20_2)) x199_77 = some r) ∧ Aside0 (kq ≤ kj72) ∧ Aside0 (Kd.R (Kd.int .i64) 3 wc w0.heap.size (fun k_ => (P0_ k_ ∨ w.heap.size ≤ k_)) u9000_ x0_72) ∧ Aside0 (Kept w wc (fun k_ => P0_ k_)) ∧ Aside0 (Below w0.heap.size w0 wc))
            case first =>
             have H := HC78.out
             clear HC78
             by_cases c79 : a1 < x20_2
             ·rw [if_pos c79] at H
              have c79b0 : decide (a1 < x20_2) = true := decide_eq_true c79
              clear c79
              (first | rw [c79b0] | (simp only [i64_w, i32_w]; rw [c79b0]) | skip)
              have H' := am_ H
              clear H
              go_wp2
              go_meet
              case rel => exact ⟨_, (decide (x20_2 < (wrap64 ((IntKind.u64.wrap (wrap64 (a1 + a3))) / 2)))), sq_, H', ⟨by have := HJ55.out; have := HK2.out; have := HJ70.out; have := HJ72.out; first | omega | exact Nat.le_refl _⟩, ⟨ra_ HO_0.out⟩, ⟨kk_ HK.out⟩, ⟨bw_ HB.out⟩⟩
             ·rw [if_neg c79] at H
              have c79b0 : decide (a1 < x20_2) = false := decide_eq_false c79
              clear c79
              (first | rw [c79b0] | (simp only [i64_w, i32_w]; rw [c79b0]) | skip)
              have H' := am_ H
              clear H
              go_wp2
              go_meet
              case rel => exact ⟨_, (false), sq_, H', ⟨by have := HJ55.out; have := HK2.out; have := HJ70.out; have := HJ72.out; first | omega | exact Nat.le_refl _⟩, ⟨ra_ HO_0.out⟩, ⟨kk_ HK.out⟩, ⟨bw_ HB.out⟩⟩
            case rest => as_aux_lemma =>
             clear HC78
             try clear c6
             try clear c6b0
             try clear c6b1
             try clear c31
             try clear c31b0
             try clear c31b1
             try clear c58
             try clear c58b0
             obtain ⟨kq, x199_77, rfl, HA, HJ77, HO_0, HK, HB⟩ := hcut
             cases kq with
             | zero => exact absurd HA.out (by simp [SYM.j8])
             | succ kj77 =>
              have H := HA.out
              clear HA
              simp only [SYM.j8] at H
              by_cases c80 : x199_77 = true
              ·subst c80
               replace H := it_ H rfl
               obtain ⟨t248, A810, H⟩ := bE_ H
               have AA81 := am_ A810
               clear A810
               by_cases c82 : (wrap64 ((IntKind.u64.wrap (wrap64 (a1 + a3))) / 2)) < (wrap64 ((wrap64 ((wrap64 ((IntKind.u64.wrap (wrap64 (a1 + a3))) / 2)) + a2)) - x20_2))
               ·rw [if_pos c82] at H
                have c82b0 : decide ((wrap64 ((IntKind.u64.wrap (wrap64 (a1 + a3))) / 2)) < (wrap64 ((wrap64 ((wrap64 ((IntKind.u64.wrap (wrap64 (a1 + a3))) / 2)) + a2)) - x20_2))) = true := decide_eq_true c82
                clear c82
                by_cases c83 : (wrap64 ((wrap64 ((wrap64 ((IntKind.u64.wrap (wrap64 (a1 + a3))) / 2)) + a2)) - x20_2)) < a3
                ·rw [if_pos c83] at H
                 have c83b0 : decide ((wrap64 ((wrap64 ((wrap64 ((IntKind.u64.wrap (wrap64 (a1 + a3))) / 2)) + a2)) - x20_2)) < a3) = true := decide_eq_true c83
                 clear c83
                 obtain ⟨t249, A840, H⟩ := bE_ H
                 have A84 := am_ A840
                 clear A840
                 obtain rfl := Option.some.inj H
                 obtain ⟨Ao85, co85, eo85⟩ := Kd.R_slice HO_0.out
                 subst eo85
                 go_wp2_with (first | ((with_reducible refine gate_callee (f := 69) rfl ?_); refine goesL_ (some 205) rfl rfl Try.func69 (by kernel_rfl) rfl #[.slice Ao85 x0_72.length co85, .int .i64 a1, .int .i64 x20_2, .int .i64 (wrap64 ((IntKind.u64.wrap (wrap64 (a1 + a3))) / 2)), .func (.func 56) #[] #[.pointer (some ⟨g80_, 0, none⟩), .pointer (some ⟨g81_, 0, none⟩), .pointer (some ⟨g82_, 0, none⟩)]] rfl (by (try simp only [List.map_toArray, List.map_cons, List.map_nil]); first | done | rfl | (simp only [List.length_drop, List.length_take]; rfl)) ?_; (with_reducible refine (ih kj77 (by have := HJ55.out; have := HK2.out; have := HJ70.out; have := HJ72.out; have := HJ77.out; omega) (fun k_ => some k_ = (.slice Ao85 x0_72.length co85 : Value).ownBlock) (.slice Ao85 x0_72.length co85) x0_72 a1 x20_2 (wrap64 ((IntKind.u64.wrap (wrap64 (a1 + a3))) / 2)) g80_ g81_ g82_ a80 A81 c81 l81 a82 t248 w0 _ ?side1 ?side2 ?side3 ?side4 ?side5 ?side6 ?side7 AA81.out).mono ?_); (case side1 => repeat (first | (with_reducible first | exact HB.out | apply below_alloc | apply pw_below_drewN | apply below_drew1) | exact HB.out)); (case side2 => exact Kd.R_tight rfl HO_0.out); (case side3 => exact Kd.C_kept_call HR81.out (kk_ HK.out) (fun k_ hs_ => (fun e_ => (HO_0.out.1 k_ e_.symm)) hs_)); (case side4 => exact HC81.out); (case side5 => exact fun W_ hk_ => hq80_0 W_ (Kept.then_ (S := (fun k_ => P0_ k_)) (kk_ HK.out) hk_ (fun k_ hs_ => (fun e_ => (HO_0.out.1 k_ e_.symm)) hs_))); (case side6 => exact fun W_ hk_ => hq81_0 W_ (Kept.then_ (S := (fun k_ => P0_ k_)) (kk_ HK.out) hk_ (fun k_ hs_ => (fun e_ => (HO_0.out.1 k_ e_.symm)) hs_))); (case side7 => exact fun W_ hk_ => hq82_0 W_ (Kept.then_ (S := (fun k_ => P0_ k_)) (kk_ HK.out) hk_ (fun k_ hs_ => (fun e_ => (HO_0.out.1 k_ e_.symm)) hs_))); rintro e w86 ⟨rfl, hy0, hb, hkp⟩; refine ⟨_, rfl, ?_⟩; have n0_ := am_ (Kd.R_reok rfl hy0 (fun k_ e_ => HO_0.out.1 k_ e_)); have n1_ := am_ (Kept.then_ (S := (fun k_ => P0_ k_)) (kk_ HK.out) hkp (fun k_ hs_ => (fun e_ => (HO_0.out.1 k_ e_.symm)) hs_)); have n2_ := am_ (hb); replace HO_0 := n0_; replace HK := n1_; replace HB := n2_; clear n0_ n1_ n2_; (try clear hb); (try clear hkp); (try clear hy0)) | ((with_reducible refine gate_callee (f := 69) rfl ?_); refine goesL_ (some 219) rfl rfl Try.func69 (by kernel_rfl) rfl #[.slice Ao85 x0_72.length co85, .int .i64 (wrap64 ((IntKind.u64.wrap (wrap64 (a1 + a3))) / 2)), .int .i64 (wrap64 ((wrap64 ((wrap64 ((IntKind.u64.wrap (wrap64 (a1 + a3))) / 2)) + a2)) - x20_2)), .int .i64 a3, .func (.func 56) #[] #[.pointer (some ⟨g80_, 0, none⟩), .pointer (some ⟨g81_, 0, none⟩), .pointer (some ⟨g82_, 0, none⟩)]] rfl (by (try simp only [List.map_toArray, List.map_cons, List.map_nil]); first | done | rfl | (simp only [List.length_drop, List.length_take]; rfl)) ?_; (with_reducible refine (ih kj77 (by have := HJ55.out; have := HK2.out; have := HJ70.out; have := HJ72.out; have := HJ77.out; omega) (fun k_ => some k_ = (.slice Ao85 x0_72.length co85 : Value).ownBlock) (.slice Ao85 x0_72.length co85) t248 (wrap64 ((IntKind.u64.wrap (wrap64 (a1 + a3))) / 2)) (wrap64 ((wrap64 ((wrap64 ((IntKind.u64.wrap (wrap64 (a1 + a3))) / 2)) + a2)) - x20_2)) a3 g80_ g81_ g82_ a80 A81 c81 l81 a82 t249 w0 _ ?side1 ?side2 ?side3 ?side4 ?side5 ?side6 ?side7 A84.out).mono ?_); (case side1 => repeat (first | (with_reducible first | exact HB.out | apply below_alloc | apply pw_below_drewN | apply below_drew1) | exact HB.out)); (case side2 => exact Kd.R_tight rfl HO_0.out); (case side3 => exact Kd.C_kept_call HR81.out (kk_ HK.out) (fun k_ hs_ => (fun e_ => (HO_0.out.1 k_ e_.symm)) hs_)); (case side4 => exact HC81.out); (case side5 => exact fun W_ hk_ => hq80_0 W_ (Kept.then_ (S := (fun k_ => P0_ k_)) (kk_ HK.out) hk_ (fun k_ hs_ => (fun e_ => (HO_0.out.1 k_ e_.symm)) hs_))); (case side6 => exact fun W_ hk_ => hq81_0 W_ (Kept.then_ (S := (fun k_ => P0_ k_)) (kk_ HK.out) hk_ (fun k_ hs_ => (fun e_ => (HO_0.out.1 k_ e_.symm)) hs_))); (case side7 => exact fun W_ hk_ => hq82_0 W_ (Kept.then_ (S := (fun k_ => P0_ k_)) (kk_ HK.out) hk_ (fun k_ hs_ => (fun e_ => (HO_0.out.1 k_ e_.symm)) hs_))); rintro e w87 ⟨rfl, hy0, hb, hkp⟩; refine ⟨_, rfl, ?_⟩; have n0_ := am_ (Kd.R_reok rfl hy0 (fun k_ e_ => HO_0.out.1 k_ e_)); have n1_ := am_ (Kept.then_ (S := (fun k_ => P0_ k_)) (kk_ HK.out) hkp (fun k_ hs_ => (fun e_ => (HO_0.out.1 k_ e_.symm)) hs_)); have n2_ := am_ (hb); replace HO_0 := n0_; replace HK := n1_; replace HB := n2_; clear n0_ n1_ n2_; (try clear hb); (try clear hkp); (try clear hy0)))
                 first | go_end0 | ((try simp only [Exit.inBlock, Exit.then]); refine bodyPost_ret (results_none rfl _ _ _) rfl ?_)
                 exact ⟨by first | rfl | (simp [errW_none, errW_some] <;> rfl) | (simp [*, errW_none, errW_some] <;> rfl), ra_ HO_0.out, bw_ HB.out, kk_ HK.out⟩
                ·rw [if_neg c83] at H
                 have c83b0 : decide ((wrap64 ((wrap64 ((wrap64 ((IntKind.u64.wrap (wrap64 (a1 + a3))) / 2)) + a2)) - x20_2)) < a3) = false := decide_eq_false c83
                 clear c83
                 obtain rfl := Option.some.inj H
                 obtain ⟨Ao88, co88, eo88⟩ := Kd.R_slice HO_0.out
                 subst eo88
                 go_wp2_with (first | ((with_reducible refine gate_callee (f := 69) rfl ?_); refine goesL_ (some 205) rfl rfl Try.func69 (by kernel_rfl) rfl #[.slice Ao88 x0_72.length co88, .int .i64 a1, .int .i64 x20_2, .int .i64 (wrap64 ((IntKind.u64.wrap (wrap64 (a1 + a3))) / 2)), .func (.func 56) #[] #[.pointer (some ⟨g80_, 0, none⟩), .pointer (some ⟨g81_, 0, none⟩), .pointer (some ⟨g82_, 0, none⟩)]] rfl (by (try simp only [List.map_toArray, List.map_cons, List.map_nil]); first | done | rfl | (simp only [List.length_drop, List.length_take]; rfl)) ?_; (with_reducible refine (ih kj77 (by have := HJ55.out; have := HK2.out; have := HJ70.out; have := HJ72.out; have := HJ77.out; omega) (fun k_ => some k_ = (.slice Ao88 x0_72.length co88 : Value).ownBlock) (.slice Ao88 x0_72.length co88) x0_72 a1 x20_2 (wrap64 ((IntKind.u64.wrap (wrap64 (a1 + a3))) / 2)) g80_ g81_ g82_ a80 A81 c81 l81 a82 t248 w0 _ ?side1 ?side2 ?side3 ?side4 ?side5 ?side6 ?side7 AA81.out).mono ?_); (case side1 => repeat (first | (with_reducible first | exact HB.out | apply below_alloc | apply pw_below_drewN | apply below_drew1) | exact HB.out)); (case side2 => exact Kd.R_tight rfl HO_0.out); (case side3 => exact Kd.C_kept_call HR81.out (kk_ HK.out) (fun k_ hs_ => (fun e_ => (HO_0.out.1 k_ e_.symm)) hs_)); (case side4 => exact HC81.out); (case side5 => exact fun W_ hk_ => hq80_0 W_ (Kept.then_ (S := (fun k_ => P0_ k_)) (kk_ HK.out) hk_ (fun k_ hs_ => (fun e_ => (HO_0.out.1 k_ e_.symm)) hs_))); (case side6 => exact fun W_ hk_ => hq81_0 W_ (Kept.then_ (S := (fun k_ => P0_ k_)) (kk_ HK.out) hk_ (fun k_ hs_ => (fun e_ => (HO_0.out.1 k_ e_.symm)) hs_))); (case side7 => exact fun W_ hk_ => hq82_0 W_ (Kept.then_ (S := (fun k_ => P0_ k_)) (kk_ HK.out) hk_ (fun k_ hs_ => (fun e_ => (HO_0.out.1 k_ e_.symm)) hs_))); rintro e w89 ⟨rfl, hy0, hb, hkp⟩; refine ⟨_, rfl, ?_⟩; have n0_ := am_ (Kd.R_reok rfl hy0 (fun k_ e_ => HO_0.out.1 k_ e_)); have n1_ := am_ (Kept.then_ (S := (fun k_ => P0_ k_)) (kk_ HK.out) hkp (fun k_ hs_ => (fun e_ => (HO_0.out.1 k_ e_.symm)) hs_)); have n2_ := am_ (hb); replace HO_0 := n0_; replace HK := n1_; replace HB := n2_; clear n0_ n1_ n2_; (try clear hb); (try clear hkp); (try clear hy0)))
                 first | go_end0 | ((try simp only [Exit.inBlock, Exit.then]); refine bodyPost_ret (results_none rfl _ _ _) rfl ?_)
                 exact ⟨by first | rfl | (simp [errW_none, errW_some] <;> rfl) | (simp [*, errW_none, errW_some] <;> rfl), ra_ HO_0.out, bw_ HB.out, kk_ HK.out⟩
               ·rw [if_neg c82] at H
                have c82b0 : decide ((wrap64 ((IntKind.u64.wrap (wrap64 (a1 + a3))) / 2)) < (wrap64 ((wrap64 ((wrap64 ((IntKind.u64.wrap (wrap64 (a1 + a3))) / 2)) + a2)) - x20_2))) = false := decide_eq_false c82
                clear c82
                obtain rfl := Option.some.inj H
                obtain ⟨Ao90, co90, eo90⟩ := Kd.R_slice HO_0.out
                subst eo90
                go_wp2_with (first | ((with_reducible refine gate_callee (f := 69) rfl ?_); refine goesL_ (some 205) rfl rfl Try.func69 (by kernel_rfl) rfl #[.slice Ao90 x0_72.length co90, .int .i64 a1, .int .i64 x20_2, .int .i64 (wrap64 ((IntKind.u64.wrap (wrap64 (a1 + a3))) / 2)), .func (.func 56) #[] #[.pointer (some ⟨g80_, 0, none⟩), .pointer (some ⟨g81_, 0, none⟩), .pointer (some ⟨g82_, 0, none⟩)]] rfl (by (try simp only [List.map_toArray, List.map_cons, List.map_nil]); first | done | rfl | (simp only [List.length_drop, List.length_take]; rfl)) ?_; (with_reducible refine (ih kj77 (by have := HJ55.out; have := HK2.out; have := HJ70.out; have := HJ72.out; have := HJ77.out; omega) (fun k_ => some k_ = (.slice Ao90 x0_72.length co90 : Value).ownBlock) (.slice Ao90 x0_72.length co90) x0_72 a1 x20_2 (wrap64 ((IntKind.u64.wrap (wrap64 (a1 + a3))) / 2)) g80_ g81_ g82_ a80 A81 c81 l81 a82 t248 w0 _ ?side1 ?side2 ?side3 ?side4 ?side5 ?side6 ?side7 AA81.out).mono ?_); (case side1 => repeat (first | (with_reducible first | exact HB.out | apply below_alloc | apply pw_below_drewN | apply below_drew1) | exact HB.out)); (case side2 => exact Kd.R_tight rfl HO_0.out); (case side3 => exact Kd.C_kept_call HR81.out (kk_ HK.out) (fun k_ hs_ => (fun e_ => (HO_0.out.1 k_ e_.symm)) hs_)); (case side4 => exact HC81.out); (case side5 => exact fun W_ hk_ => hq80_0 W_ (Kept.then_ (S := (fun k_ => P0_ k_)) (kk_ HK.out) hk_ (fun k_ hs_ => (fun e_ => (HO_0.out.1 k_ e_.symm)) hs_))); (case side6 => exact fun W_ hk_ => hq81_0 W_ (Kept.then_ (S := (fun k_ => P0_ k_)) (kk_ HK.out) hk_ (fun k_ hs_ => (fun e_ => (HO_0.out.1 k_ e_.symm)) hs_))); (case side7 => exact fun W_ hk_ => hq82_0 W_ (Kept.then_ (S := (fun k_ => P0_ k_)) (kk_ HK.out) hk_ (fun k_ hs_ => (fun e_ => (HO_0.out.1 k_ e_.symm)) hs_))); rintro e w91 ⟨rfl, hy0, hb, hkp⟩; refine ⟨_, rfl, ?_⟩; have n0_ := am_ (Kd.R_reok rfl hy0 (fun k_ e_ => HO_0.out.1 k_ e_)); have n1_ := am_ (Kept.then_ (S := (fun k_ => P0_ k_)) (kk_ HK.out) hkp (fun k_ hs_ => (fun e_ => (HO_0.out.1 k_ e_.symm)) hs_)); have n2_ := am_ (hb); replace HO_0 := n0_; replace HK := n1_; replace HB := n2_; clear n0_ n1_ n2_; (try clear hb); (try clear hkp); (try clear hy0)))
                first | go_end0 | ((try simp only [Exit.inBlock, Exit.then]); refine bodyPost_ret (results_none rfl _ _ _) rfl ?_)
                exact ⟨by first | rfl | (simp [errW_none, errW_some] <;> rfl) | (simp [*, errW_none, errW_some] <;> rfl), ra_ HO_0.out, bw_ HB.out, kk_ HK.out⟩
              ·replace c80 := Bool.eq_false_iff.mpr c80
               subst c80
               replace H := if_ H Bool.false_ne_true
               by_cases c92 : (wrap64 ((IntKind.u64.wrap (wrap64 (a1 + a3))) / 2)) < (wrap64 ((wrap64 ((wrap64 ((IntKind.u64.wrap (wrap64 (a1 + a3))) / 2)) + a2)) - x20_2))
               ·rw [if_pos c92] at H
                have c92b0 : decide ((wrap64 ((IntKind.u64.wrap (wrap64 (a1 + a3))) / 2)) < (wrap64 ((wrap64 ((wrap64 ((IntKind.u64.wrap (wrap64 (a1 + a3))) / 2)) + a2)) - x20_2))) = true := decide_eq_true c92
                clear c92
                by_cases c93 : (wrap64 ((wrap64 ((wrap64 ((IntKind.u64.wrap (wrap64 (a1 + a3))) / 2)) + a2)) - x20_2)) < a3
                ·rw [if_pos c93] at H
                 have c93b0 : decide ((wrap64 ((wrap64 ((wrap64 ((IntKind.u64.wrap (wrap64 (a1 + a3))) / 2)) + a2)) - x20_2)) < a3) = true := decide_eq_true c93
                 clear c93
                 obtain ⟨t250, A940, H⟩ := bE_ H
                 have A94 := am_ A940
                 clear A940
                 obtain rfl := Option.some.inj H
                 obtain ⟨Ao95, co95, eo95⟩ := Kd.R_slice HO_0.out
                 subst eo95
                 go_wp2_with (first | ((with_reducible refine gate_callee (f := 69) rfl ?_); refine goesL_ (some 219) rfl rfl Try.func69 (by kernel_rfl) rfl #[.slice Ao95 x0_72.length co95, .int .i64 (wrap64 ((IntKind.u64.wrap (wrap64 (a1 + a3))) / 2)), .int .i64 (wrap64 ((wrap64 ((wrap64 ((IntKind.u64.wrap (wrap64 (a1 + a3))) / 2)) + a2)) - x20_2)), .int .i64 a3, .func (.func 56) #[] #[.pointer (some ⟨g80_, 0, none⟩), .pointer (some ⟨g81_, 0, none⟩), .pointer (some ⟨g82_, 0, none⟩)]] rfl (by (try simp only [List.map_toArray, List.map_cons, List.map_nil]); first | done | rfl | (simp only [List.length_drop, List.length_take]; rfl)) ?_; (with_reducible refine (ih kj77 (by have := HJ55.out; have := HK2.out; have := HJ70.out; have := HJ72.out; have := HJ77.out; omega) (fun k_ => some k_ = (.slice Ao95 x0_72.length co95 : Value).ownBlock) (.slice Ao95 x0_72.length co95) x0_72 (wrap64 ((IntKind.u64.wrap (wrap64 (a1 + a3))) / 2)) (wrap64 ((wrap64 ((wrap64 ((IntKind.u64.wrap (wrap64 (a1 + a3))) / 2)) + a2)) - x20_2)) a3 g80_ g81_ g82_ a80 A81 c81 l81 a82 t250 w0 _ ?side1 ?side2 ?side3 ?side4 ?side5 ?side6 ?side7 A94.out).mono ?_); (case side1 => repeat (first | (with_reducible first | exact HB.out | apply below_alloc | apply pw_below_drewN | apply below_drew1) | exact HB.out)); (case side2 => exact Kd.R_tight rfl HO_0.out); (case side3 => exact Kd.C_kept_call HR81.out (kk_ HK.out) (fun k_ hs_ => (fun e_ => (HO_0.out.1 k_ e_.symm)) hs_)); (case side4 => exact HC81.out); (case side5 => exact fun W_ hk_ => hq80_0 W_ (Kept.then_ (S := (fun k_ => P0_ k_)) (kk_ HK.out) hk_ (fun k_ hs_ => (fun e_ => (HO_0.out.1 k_ e_.symm)) hs_))); (case side6 => exact fun W_ hk_ => hq81_0 W_ (Kept.then_ (S := (fun k_ => P0_ k_)) (kk_ HK.out) hk_ (fun k_ hs_ => (fun e_ => (HO_0.out.1 k_ e_.symm)) hs_))); (case side7 => exact fun W_ hk_ => hq82_0 W_ (Kept.then_ (S := (fun k_ => P0_ k_)) (kk_ HK.out) hk_ (fun k_ hs_ => (fun e_ => (HO_0.out.1 k_ e_.symm)) hs_))); rintro e w96 ⟨rfl, hy0, hb, hkp⟩; refine ⟨_, rfl, ?_⟩; have n0_ := am_ (Kd.R_reok rfl hy0 (fun k_ e_ => HO_0.out.1 k_ e_)); have n1_ := am_ (Kept.then_ (S := (fun k_ => P0_ k_)) (kk_ HK.out) hkp (fun k_ hs_ => (fun e_ => (HO_0.out.1 k_ e_.symm)) hs_)); have n2_ := am_ (hb); replace HO_0 := n0_; replace HK := n1_; replace HB := n2_; clear n0_ n1_ n2_; (try clear hb); (try clear hkp); (try clear hy0)))
                 first | go_end0 | ((try simp only [Exit.inBlock, Exit.then]); refine bodyPost_ret (results_none rfl _ _ _) rfl ?_)
                 exact ⟨by first | rfl | (simp [errW_none, errW_some] <;> rfl) | (simp [*, errW_none, errW_some] <;> rfl), ra_ HO_0.out, bw_ HB.out, kk_ HK.out⟩
                ·rw [if_neg c93] at H
                 have c93b0 : decide ((wrap64 ((wrap64 ((wrap64 ((IntKind.u64.wrap (wrap64 (a1 + a3))) / 2)) + a2)) - x20_2)) < a3) = false := decide_eq_false c93
                 clear c93
                 obtain rfl := Option.some.inj H
                 go_wp2
                 first | go_end0 | ((try simp only [Exit.inBlock, Exit.then]); refine bodyPost_ret (results_none rfl _ _ _) rfl ?_)
                 exact ⟨by first | rfl | (simp [errW_none, errW_some] <;> rfl) | (simp [*, errW_none, errW_some] <;> rfl), ra_ HO_0.out, bw_ HB.out, kk_ HK.out⟩
               ·rw [if_neg c92] at H
                have c92b0 : decide ((wrap64 ((IntKind.u64.wrap (wrap64 (a1 + a3))) / 2)) < (wrap64 ((wrap64 ((wrap64 ((IntKind.u64.wrap (wrap64 (a1 + a3))) / 2)) + a2)) - x20_2))) = false := decide_eq_false c92
                clear c92
                obtain rfl := Option.some.inj H
                go_wp2
                first | go_end0 | ((try simp only [Exit.inBlock, Exit.then]); refine bodyPost_ret (results_none rfl _ _ _) rfl ?_)
                exact ⟨by first | rfl | (simp [errW_none, errW_some] <;> rfl) | (simp [*, errW_none, errW_some] <;> rfl), ra_ HO_0.out, bw_ HB.out, kk_ HK.out⟩

end Go.Proofs.Ytgfppioaggeleaa.XFnExactLayOut
