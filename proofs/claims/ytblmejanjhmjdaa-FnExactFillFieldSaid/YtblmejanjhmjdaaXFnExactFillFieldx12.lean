/- What the Go functions that this law comes to compute, each walked; written by a program of this session. -/
import Derived.Test.YtblmejanjhmjdaaXMark
import Derived.Test.YtblmejanjhmjdaaXFnExactFillFieldx0
import Derived.Test.YtblmejanjhmjdaaXFnExactFillFieldx8
import Derived.Test.YtblmejanjhmjdaaXFnExactFillFieldx10
import Derived.Test.YtblmejanjhmjdaaXFnExactFillFieldx11
namespace Go.Proofs.Ytblmejanjhmjdaa.XFnExactFillField
open Go.RowKit Go.Proofs.YtblmejanjhmjdaaW.PrintWords Go.Proofs.YtblmejanjhmjdaaW.PrintLast Go.Proofs.YtblmejanjhmjdaaW.PrintMore
attribute [local go_sem] str_geq max2_int min2_int max_two min_two max_three min_three max_four min_four   -- for this text's walks alone
set_option linter.unusedVariables false
set_option linter.unusedSimpArgs false

/-! ### impl_FillField: function 19 -/
mutual
def impl_FillField.l0 : Nat → List Int → Int → List Int → Int → Int → Int → List (List Int) → List (List Int) → Int → Int → List Int → Option (Bool × Int × Int × List Int × Int × Bool)
 | 0, _, _, _, _, _, _, _, _, _, _, _ => none
 | k + 1, x7, x8, x34, x35, x36, x267000, x267001, x267002, x278000, x278001, x278002 => if x36 < x35 then (if 0 ≤ x36 then (if x36 < (x34.length : Int) then (if (rd x34 x36) < 0 then (if x7.length < 17592186044416 then (impl_FillField.l0 k (x7 ++ [x36]) x8 x34 x35 (wrap64 (x36 + 1)) x267000 x267001 x267002 x278000 x278001 x278002) else (none)) else (impl_FillField.l0 k x7 x8 x34 x35 (wrap64 (x36 + 1)) x267000 x267001 x267002 x278000 x278001 x278002)) else (none)) else (none)) else (impl_FillField.l1 k x7 x8 0 x267000 x267001 x267002 x278000 x278001 x278002)
def impl_FillField.l1 : Nat → List Int → Int → Int → Int → List (List Int) → List (List Int) → Int → Int → List Int → Option (Bool × Int × Int × List Int × Int × Bool)
 | 0, _, _, _, _, _, _, _, _, _ => none
 | k + 1, x7, x8, x11, x267000, x267001, x267002, x278000, x278001, x278002 => if x11 < (x7.length : Int) then (if 0 ≤ x11 then (if 0 ≤ (rd x7 x11) then (if (rd x7 x11) < (x278002.length : Int) then (impl_FillField.l2 k x7 x8 x11 (rd x7 x11) (wrap64 ((rd x278002 (rd x7 x11)) + 1)) x267000 x267001 x267002 x278000 x278001 (x278002.set ((rd x7 x11) : Int).toNat (-1))) else (none)) else (none)) else (none)) else (some (true, x278000, x278001, x278002, x8, true))
def impl_FillField.j3 : Nat → List Int → Int → Int → Int → Int → Int → List (List Int) → List (List Int) → Int → Int → List Int → Option (Bool × Int × Int × List Int × Int × Bool)
 | 0, _, _, _, _, _, _, _, _, _, _, _ => none
 | k + 1, x7, x8, x11, x12, x13, x267000, x267001, x267002, x278000, x278001, x278002 => if x13 < x267000 then (impl_FillField.j4 k x7 x8 x11 x12 x13 (x8 == 5000) x267000 x267001 x267002 x278000 x278001 x278002) else (impl_FillField.j4 k x7 x8 x11 x12 x13 false x267000 x267001 x267002 x278000 x278001 x278002)
def impl_FillField.j4 : Nat → List Int → Int → Int → Int → Int → Bool → Int → List (List Int) → List (List Int) → Int → Int → List Int → Option (Bool × Int × Int × List Int × Int × Bool)
 | 0, _, _, _, _, _, _, _, _, _, _, _, _ => none
 | k + 1, x7, x8, x11, x12, x13, x82, x267000, x267001, x267002, x278000, x278001, x278002 => if x82 = true then (some (false, 0, 0, ([] : List Int), x8, true)) else (if x13 < x267000 then (if 0 ≤ x12 then (if x12 < (x278002.length : Int) then (impl_FillField.l1 k x7 (wrap64 (x8 + 1)) (wrap64 (x11 + 1)) x267000 x267001 x267002 x278000 x278001 (x278002.set (x12 : Int).toNat x13)) else (none)) else (none)) else (if x11 = 0 then (some (false, 0, 0, ([] : List Int), x8, true)) else (impl_FillField.l1 k x7 x8 (wrap64 (x11 - 1)) x267000 x267001 x267002 x278000 x278001 x278002)))
def impl_FillField.l2 : Nat → List Int → Int → Int → Int → Int → Int → List (List Int) → List (List Int) → Int → Int → List Int → Option (Bool × Int × Int × List Int × Int × Bool)
 | 0, _, _, _, _, _, _, _, _, _, _, _ => none
 | k + 1, x7, x8, x11, x12, x13, x267000, x267001, x267002, x278000, x278001, x278002 => if x13 < x267000 then ((impl_Rules_may.f k x267000 x267001 x267002 x278000 x278001 x278002 x12 x13).bind fun t285 => (if t285 = true then (impl_FillField.j3 k x7 x8 x11 x12 x13 x267000 x267001 x267002 x278000 x278001 x278002) else (impl_FillField.l2 k x7 x8 x11 x12 (wrap64 (x13 + 1)) x267000 x267001 x267002 x278000 x278001 x278002))) else (impl_FillField.j3 k x7 x8 x11 x12 x13 x267000 x267001 x267002 x278000 x278001 x278002)
end
def impl_FillField.f (k : Nat) (a0_0 : Int) (l0_1 : List (List Int)) (l0_2 : List (List Int)) (a1_0 : Int) (a1_1 : Int) (l1_2 : List Int) : Option (Bool × Int × Int × List Int × Int × Bool) := (impl_GoodField.f k a0_0 l0_1 l0_2 a1_0 a1_1 l1_2).bind fun t269 => (if t269 = true then ((impl_Rules_holds.f k a0_0 l0_1 l0_2 a1_0 a1_1 l1_2).bind fun t270 => (if t270 = true then ((slices_Clone_int_int.f l1_2).bind fun t271 => (impl_FillField.l0 k (([] : List Int)) 0 l1_2 (l1_2.length : Int) 0 a0_0 l0_1 l0_2 a1_0 a1_1 t271)) else (some (false, 0, 0, ([] : List Int), 0, true)))) else (some (false, 0, 0, ([] : List Int), 0, false)))
theorem impl_FillField.mono_l : ∀ k, (∀ y0 y1 y2 y3 y4 y5 y6 y7 y8 y9 y10, LeO (impl_FillField.l0 k y0 y1 y2 y3 y4 y5 y6 y7 y8 y9 y10) (impl_FillField.l0 (k + 1) y0 y1 y2 y3 y4 y5 y6 y7 y8 y9 y10)) ∧ (∀ y0 y1 y2 y3 y4 y5 y6 y7 y8, LeO (impl_FillField.l1 k y0 y1 y2 y3 y4 y5 y6 y7 y8) (impl_FillField.l1 (k + 1) y0 y1 y2 y3 y4 y5 y6 y7 y8)) ∧ (∀ y0 y1 y2 y3 y4 y5 y6 y7 y8 y9 y10, LeO (impl_FillField.j3 k y0 y1 y2 y3 y4 y5 y6 y7 y8 y9 y10) (impl_FillField.j3 (k + 1) y0 y1 y2 y3 y4 y5 y6 y7 y8 y9 y10)) ∧ (∀ y0 y1 y2 y3 y4 y5 y6 y7 y8 y9 y10 y11, LeO (impl_FillField.j4 k y0 y1 y2 y3 y4 y5 y6 y7 y8 y9 y10 y11) (impl_FillField.j4 (k + 1) y0 y1 y2 y3 y4 y5 y6 y7 y8 y9 y10 y11)) ∧ (∀ y0 y1 y2 y3 y4 y5 y6 y7 y8 y9 y10, LeO (impl_FillField.l2 k y0 y1 y2 y3 y4 y5 y6 y7 y8 y9 y10) (impl_FillField.l2 (k + 1) y0 y1 y2 y3 y4 y5 y6 y7 y8 y9 y10))
 | 0 => ⟨fun _ _ _ _ _ _ _ _ _ _ _ r h => by simp [impl_FillField.l0] at h, fun _ _ _ _ _ _ _ _ _ r h => by simp [impl_FillField.l1] at h, fun _ _ _ _ _ _ _ _ _ _ _ r h => by simp [impl_FillField.j3] at h, fun _ _ _ _ _ _ _ _ _ _ _ _ r h => by simp [impl_FillField.j4] at h, fun _ _ _ _ _ _ _ _ _ _ _ r h => by simp [impl_FillField.l2] at h⟩
 | k + 1 => by
  obtain ⟨ih0, ih1, ih2, ih3, ih4⟩ := impl_FillField.mono_l k
  refine ⟨?_, ?_, ?_, ?_, ?_⟩
  ·intro y0 y1 y2 y3 y4 y5 y6 y7 y8 y9 y10
   unfold impl_FillField.l0
   repeat' first
   | (with_reducible exact ih0 _ _ _ _ _ _ _ _ _ _ _)
   | (with_reducible exact ih1 _ _ _ _ _ _ _ _ _)
   | (with_reducible exact ih2 _ _ _ _ _ _ _ _ _ _ _)
   | (with_reducible exact ih3 _ _ _ _ _ _ _ _ _ _ _ _)
   | (with_reducible exact ih4 _ _ _ _ _ _ _ _ _ _ _)
   | (with_reducible exact impl_GoodField.mono _ _ _ _ _ _ _)
   | (with_reducible exact impl_Rules_holds.mono _ _ _ _ _ _ _)
   | (with_reducible exact impl_Rules_may.mono _ _ _ _ _ _ _ _ _)
   | (with_reducible exact LeO.refl _)
   | (with_reducible exact LeO.none _)
   | (with_reducible refine LeO.ite ?_ ?_)
   | (with_reducible refine LeO.bind ?_ (fun _ => ?_))
   | exact ih0 _ _ _ _ _ _ _ _ _ _ _
   | exact ih1 _ _ _ _ _ _ _ _ _
   | exact ih2 _ _ _ _ _ _ _ _ _ _ _
   | exact ih3 _ _ _ _ _ _ _ _ _ _ _ _
   | exact ih4 _ _ _ _ _ _ _ _ _ _ _
   | exact impl_GoodField.mono _ _ _ _ _ _ _
   | exact impl_Rules_holds.mono _ _ _ _ _ _ _
   | exact impl_Rules_may.mono _ _ _ _ _ _ _ _ _
   | exact LeO.none _
   | refine LeO.ite ?_ ?_
   | refine LeO.bind ?_ (fun _ => ?_)
  ·intro y0 y1 y2 y3 y4 y5 y6 y7 y8
   unfold impl_FillField.l1
   repeat' first
   | (with_reducible exact ih0 _ _ _ _ _ _ _ _ _ _ _)
   | (with_reducible exact ih1 _ _ _ _ _ _ _ _ _)
   | (with_reducible exact ih2 _ _ _ _ _ _ _ _ _ _ _)
   | (with_reducible exact ih3 _ _ _ _ _ _ _ _ _ _ _ _)
   | (with_reducible exact ih4 _ _ _ _ _ _ _ _ _ _ _)
   | (with_reducible exact impl_GoodField.mono _ _ _ _ _ _ _)
   | (with_reducible exact impl_Rules_holds.mono _ _ _ _ _ _ _)
   | (with_reducible exact impl_Rules_may.mono _ _ _ _ _ _ _ _ _)
   | (with_reducible exact LeO.refl _)
   | (with_reducible exact LeO.none _)
   | (with_reducible refine LeO.ite ?_ ?_)
   | (with_reducible refine LeO.bind ?_ (fun _ => ?_))
   | exact ih0 _ _ _ _ _ _ _ _ _ _ _
   | exact ih1 _ _ _ _ _ _ _ _ _
   | exact ih2 _ _ _ _ _ _ _ _ _ _ _
   | exact ih3 _ _ _ _ _ _ _ _ _ _ _ _
   | exact ih4 _ _ _ _ _ _ _ _ _ _ _
   | exact impl_GoodField.mono _ _ _ _ _ _ _
   | exact impl_Rules_holds.mono _ _ _ _ _ _ _
   | exact impl_Rules_may.mono _ _ _ _ _ _ _ _ _
   | exact LeO.none _
   | refine LeO.ite ?_ ?_
   | refine LeO.bind ?_ (fun _ => ?_)
  ·intro y0 y1 y2 y3 y4 y5 y6 y7 y8 y9 y10
   unfold impl_FillField.j3
   repeat' first
   | (with_reducible exact ih0 _ _ _ _ _ _ _ _ _ _ _)
   | (with_reducible exact ih1 _ _ _ _ _ _ _ _ _)
   | (with_reducible exact ih2 _ _ _ _ _ _ _ _ _ _ _)
   | (with_reducible exact ih3 _ _ _ _ _ _ _ _ _ _ _ _)
   | (with_reducible exact ih4 _ _ _ _ _ _ _ _ _ _ _)
   | (with_reducible exact impl_GoodField.mono _ _ _ _ _ _ _)
   | (with_reducible exact impl_Rules_holds.mono _ _ _ _ _ _ _)
   | (with_reducible exact impl_Rules_may.mono _ _ _ _ _ _ _ _ _)
   | (with_reducible exact LeO.refl _)
   | (with_reducible exact LeO.none _)
   | (with_reducible refine LeO.ite ?_ ?_)
   | (with_reducible refine LeO.bind ?_ (fun _ => ?_))
   | exact ih0 _ _ _ _ _ _ _ _ _ _ _
   | exact ih1 _ _ _ _ _ _ _ _ _
   | exact ih2 _ _ _ _ _ _ _ _ _ _ _
   | exact ih3 _ _ _ _ _ _ _ _ _ _ _ _
   | exact ih4 _ _ _ _ _ _ _ _ _ _ _
   | exact impl_GoodField.mono _ _ _ _ _ _ _
   | exact impl_Rules_holds.mono _ _ _ _ _ _ _
   | exact impl_Rules_may.mono _ _ _ _ _ _ _ _ _
   | exact LeO.none _
   | refine LeO.ite ?_ ?_
   | refine LeO.bind ?_ (fun _ => ?_)
  ·intro y0 y1 y2 y3 y4 y5 y6 y7 y8 y9 y10 y11
   unfold impl_FillField.j4
   repeat' first
   | (with_reducible exact ih0 _ _ _ _ _ _ _ _ _ _ _)
   | (with_reducible exact ih1 _ _ _ _ _ _ _ _ _)
   | (with_reducible exact ih2 _ _ _ _ _ _ _ _ _ _ _)
   | (with_reducible exact ih3 _ _ _ _ _ _ _ _ _ _ _ _)
   | (with_reducible exact ih4 _ _ _ _ _ _ _ _ _ _ _)
   | (with_reducible exact impl_GoodField.mono _ _ _ _ _ _ _)
   | (with_reducible exact impl_Rules_holds.mono _ _ _ _ _ _ _)
   | (with_reducible exact impl_Rules_may.mono _ _ _ _ _ _ _ _ _)
   | (with_reducible exact LeO.refl _)
   | (with_reducible exact LeO.none _)
   | (with_reducible refine LeO.ite ?_ ?_)
   | (with_reducible refine LeO.bind ?_ (fun _ => ?_))
   | exact ih0 _ _ _ _ _ _ _ _ _ _ _
   | exact ih1 _ _ _ _ _ _ _ _ _
   | exact ih2 _ _ _ _ _ _ _ _ _ _ _
   | exact ih3 _ _ _ _ _ _ _ _ _ _ _ _
   | exact ih4 _ _ _ _ _ _ _ _ _ _ _
   | exact impl_GoodField.mono _ _ _ _ _ _ _
   | exact impl_Rules_holds.mono _ _ _ _ _ _ _
   | exact impl_Rules_may.mono _ _ _ _ _ _ _ _ _
   | exact LeO.none _
   | refine LeO.ite ?_ ?_
   | refine LeO.bind ?_ (fun _ => ?_)
  ·intro y0 y1 y2 y3 y4 y5 y6 y7 y8 y9 y10
   unfold impl_FillField.l2
   repeat' first
   | (with_reducible exact ih0 _ _ _ _ _ _ _ _ _ _ _)
   | (with_reducible exact ih1 _ _ _ _ _ _ _ _ _)
   | (with_reducible exact ih2 _ _ _ _ _ _ _ _ _ _ _)
   | (with_reducible exact ih3 _ _ _ _ _ _ _ _ _ _ _ _)
   | (with_reducible exact ih4 _ _ _ _ _ _ _ _ _ _ _)
   | (with_reducible exact impl_GoodField.mono _ _ _ _ _ _ _)
   | (with_reducible exact impl_Rules_holds.mono _ _ _ _ _ _ _)
   | (with_reducible exact impl_Rules_may.mono _ _ _ _ _ _ _ _ _)
   | (with_reducible exact LeO.refl _)
   | (with_reducible exact LeO.none _)
   | (with_reducible refine LeO.ite ?_ ?_)
   | (with_reducible refine LeO.bind ?_ (fun _ => ?_))
   | exact ih0 _ _ _ _ _ _ _ _ _ _ _
   | exact ih1 _ _ _ _ _ _ _ _ _
   | exact ih2 _ _ _ _ _ _ _ _ _ _ _
   | exact ih3 _ _ _ _ _ _ _ _ _ _ _ _
   | exact ih4 _ _ _ _ _ _ _ _ _ _ _
   | exact impl_GoodField.mono _ _ _ _ _ _ _
   | exact impl_Rules_holds.mono _ _ _ _ _ _ _
   | exact impl_Rules_may.mono _ _ _ _ _ _ _ _ _
   | exact LeO.none _
   | refine LeO.ite ?_ ?_
   | refine LeO.bind ?_ (fun _ => ?_)
theorem impl_FillField.mono : ∀ a0 a1 a2 a3 a4 a5 k, LeO (impl_FillField.f k a0 a1 a2 a3 a4 a5) (impl_FillField.f (k + 1) a0 a1 a2 a3 a4 a5) := by
 intro a0 a1 a2 a3 a4 a5 k
 obtain ⟨ih0, ih1, ih2, ih3, ih4⟩ := impl_FillField.mono_l k
 unfold impl_FillField.f
 repeat' first
   | (with_reducible exact ih0 _ _ _ _ _ _ _ _ _ _ _)
   | (with_reducible exact ih1 _ _ _ _ _ _ _ _ _)
   | (with_reducible exact ih2 _ _ _ _ _ _ _ _ _ _ _)
   | (with_reducible exact ih3 _ _ _ _ _ _ _ _ _ _ _ _)
   | (with_reducible exact ih4 _ _ _ _ _ _ _ _ _ _ _)
   | (with_reducible exact impl_GoodField.mono _ _ _ _ _ _ _)
   | (with_reducible exact impl_Rules_holds.mono _ _ _ _ _ _ _)
   | (with_reducible exact impl_Rules_may.mono _ _ _ _ _ _ _ _ _)
   | (with_reducible exact LeO.refl _)
   | (with_reducible exact LeO.none _)
   | (with_reducible refine LeO.ite ?_ ?_)
   | (with_reducible refine LeO.bind ?_ (fun _ => ?_))
   | exact ih0 _ _ _ _ _ _ _ _ _ _ _
   | exact ih1 _ _ _ _ _ _ _ _ _
   | exact ih2 _ _ _ _ _ _ _ _ _ _ _
   | exact ih3 _ _ _ _ _ _ _ _ _ _ _ _
   | exact ih4 _ _ _ _ _ _ _ _ _ _ _
   | exact impl_GoodField.mono _ _ _ _ _ _ _
   | exact impl_Rules_holds.mono _ _ _ _ _ _ _
   | exact impl_Rules_may.mono _ _ _ _ _ _ _ _ _
   | exact LeO.none _
   | refine LeO.ite ?_ ?_
   | refine LeO.bind ?_ (fun _ => ?_)
def impl_FillField.T5 : Bool × List (List Nat × List Nat) := (true, [([], []), ([0], [0]), ([], []), ([2], [2]), ([], []), ([4], [4]), ([5], [5]), ([1, 3, 6], [1, 3, 6]), ([], []), ([], []), ([9, 7, 6, 0, 1, 2, 3, 4, 5, 6, 7, 9], [7, 9]), ([8, 10, 0, 1, 2, 3, 4, 5, 6, 7, 8, 9, 10], [8]), ([11, 0, 1, 2, 3, 4, 5, 6, 7, 8, 9, 10, 11], [])])
def impl_FillField.B5 : List Nat := [0, 1, 0, 4, 0, 16, 48, 127, 0, 0, 767, 2047, 4095]
theorem impl_FillField.tab5 : rtab .any (opsOf Try.f19 5) = impl_FillField.T5 := by kernel_rfl
theorem impl_FillField.bits5 : waitsOk impl_FillField.T5.2 impl_FillField.B5 = true := by kernel_rfl
set_option maxHeartbeats 8000000 in
set_option maxRecDepth 100000 in
theorem impl_FillField.calls (k : Nat) (a0_0 : Int) (A0_1 : Option Addr) (c0_1 : Nat) (l0_1 : List (List Int)) (A0_2 : Option Addr) (c0_2 : Nat) (l0_2 : List (List Int)) (a1_0 : Int) (a1_1 : Int) (A1_2 : Option Addr) (c1_2 : Nat) (l1_2 : List Int) (r1 : Bool) (r2 : Int) (r3 : Int) (r4 : List Int) (r5 : Int) (r6 : Bool) (w : World) (hr0_1 : Kd.C (Kd.slice 3 (Kd.int .i64)) w A0_1 l0_1.length l0_1) (hc0_1 : l0_1.length ≤ c0_1) (hr0_2 : Kd.C (Kd.slice 3 (Kd.int .i64)) w A0_2 l0_2.length l0_2) (hc0_2 : l0_2.length ≤ c0_2) (hr1_2 : Kd.C (Kd.int .i64) w A1_2 l1_2.length l1_2) (hc1_2 : l1_2.length ≤ c1_2) (h : impl_FillField.f k a0_0 l0_1 l0_2 a1_0 a1_1 l1_2 = some (r1, r2, r3, r4, r5, r6)) :
  Calls Try.prog 19 #[.agg #[.int .i64 a0_0, .slice A0_1 l0_1.length c0_1, .slice A0_2 l0_2.length c0_2], .agg #[.int .i64 a1_0, .int .i64 a1_1, .slice A1_2 l1_2.length c1_2]] w fun e w' => ∃ v3_ : Value, e = .returned (.tuple #[.agg #[.bool r1, .int .i64 r2, .int .i64 r3, v3_, .int .i64 r5], .bool r6]) ∧ Kd.R (Kd.int .i64) 3 w' w.heap.size (fun _ => True) v3_ r4 ∧ Below w.heap.size w w' := by
 have hu32 := Try.underlying32
 have hu34 := Try.underlying34
 have hu44 := Try.underlying44
 have HR0_1 := Aside0.mk hr0_1
 have HC0_1 := Aside0.mk hc0_1
 clear hr0_1 hc0_1
 have HR0_2 := Aside0.mk hr0_2
 have HC0_2 := Aside0.mk hc0_2
 clear hr0_2 hc0_2
 have HR1_2 := Aside0.mk hr1_2
 have HC1_2 := Aside0.mk hc1_2
 clear hr1_2 hc1_2
 have HB := Aside0.mk (Below.refl w.heap.size w)
 have H : ((impl_GoodField.f k a0_0 l0_1 l0_2 a1_0 a1_1 l1_2).bind fun t269 => (if t269 = true then ((impl_Rules_holds.f k a0_0 l0_1 l0_2 a1_0 a1_1 l1_2).bind fun t270 => (if t270 = true then ((slices_Clone_int_int.f l1_2).bind fun t271 => (impl_FillField.l0 k (([] : List Int)) 0 l1_2 (l1_2.length : Int) 0 a0_0 l0_1 l0_2 a1_0 a1_1 t271)) else (some (false, 0, 0, ([] : List Int), 0, true)))) else (some (false, 0, 0, ([] : List Int), 0, false)))) = some (r1, r2, r3, r4, r5, r6) := h
 clear h
 obtain ⟨t269, A30, H⟩ := bE_ H
 have A3 := Aside0.mk A30
 clear A30
 by_cases c4 : t269 = true
 ·subst c4
  replace H := it_ H rfl
  obtain ⟨t270, A50, H⟩ := bE_ H
  have A5 := Aside0.mk A50
  clear A50
  by_cases c6 : t270 = true
  ·subst c6
   replace H := it_ H rfl
   obtain ⟨t271, A70, H⟩ := bE_ H
   have A7 := Aside0.mk A70
   clear A70
   obtain ⟨y274, hy274⟩ : ∃ y_ : List Int, y_ = (([] : List Int)) := ⟨_, rfl⟩
   replace H : (impl_FillField.l0 k y274 0 l1_2 (l1_2.length : Int) 0 a0_0 l0_1 l0_2 a1_0 a1_1 t271) = some (r1, r2, r3, r4, r5, r6) := by first | (rw [hy274]; with_reducible exact H) | (have H2_ := (Option.bind_some _ _).symm.trans H; rw [hy274]; with_reducible exact H2_) | (have H2_ := (Option.bind_some _ _).symm.trans H; with_reducible exact H2_) | with_reducible exact H | (rw [hy274]; exact H) | exact H
   have Ny274 := Aside0.mk hy274
   clear hy274
   have H' := Aside0.mk H
   clear H
   go_enter Try.func19, Try.ntmps19
   try go_wp2_with (first | ((with_reducible refine gate_dst (N := 2) rfl ?_); refine bx_ 2 #[.int .i64 a0_0, .slice A0_1 l0_1.length c0_1, .slice A0_2 l0_2.length c0_2] 32 ?_; intro gb266 hg w8 hbox hb; have n0_ := Aside0.mk (below_step (bw_ HB.out) hb); have n1_ := Aside0.mk (hbox); have n2_ := Aside0.mk (gs_ hg (bw_ HB.out)); have n3_ := Aside0.mk (gs_ hg (bw_ HB.out)); clear HB; have HB := n0_; have BK266 := n1_; have GW266 := n2_; have GE266 := n3_; clear n0_ n1_ n2_ n3_; clear hb hbox hg) | ((with_reducible refine gate_dst (N := 3) rfl ?_); refine bx_ 3 #[.int .i64 a1_0, .int .i64 a1_1, .slice A1_2 l1_2.length c1_2] 34 ?_; intro gb267 hg w9 hbox hb; have n0_ := Aside0.mk (blk_below (bk_ BK266.out) hb); have n1_ := Aside0.mk (below_step (bw_ HB.out) hb); have n2_ := Aside0.mk (hbox); have n3_ := Aside0.mk (gs_ hg (bw_ HB.out)); have n4_ := Aside0.mk (gs_ hg (bw_ HB.out)); have n5_ := Aside0.mk (nl_ hg (bk_ BK266.out)); have n6_ := Aside0.mk (ng_ hg (bk_ BK266.out)); clear BK266; clear HB; have BK266 := n0_; have HB := n1_; have BK267 := n2_; have GW267 := n3_; have GE267 := n4_; have NB266_267 := n5_; have NB267_266 := n6_; clear n0_ n1_ n2_ n3_ n4_ n5_ n6_; clear hb hbox hg) | ((with_reducible refine gate_dst (N := 4) rfl ?_); refine bx_ 4 #[.bool false, .int .i64 0, .int .i64 0, .slice none 0 0, .int .i64 0] 44 ?_; intro gb268 hg w10 hbox hb; have n0_ := Aside0.mk (blk_below (bk_ BK266.out) hb); have n1_ := Aside0.mk (blk_below (bk_ BK267.out) hb); have n2_ := Aside0.mk (below_step (bw_ HB.out) hb); have n3_ := Aside0.mk (hbox); have n4_ := Aside0.mk (gs_ hg (bw_ HB.out)); have n5_ := Aside0.mk (gs_ hg (bw_ HB.out)); have n6_ := Aside0.mk (nl_ hg (bk_ BK266.out)); have n7_ := Aside0.mk (ng_ hg (bk_ BK266.out)); have n8_ := Aside0.mk (nl_ hg (bk_ BK267.out)); have n9_ := Aside0.mk (ng_ hg (bk_ BK267.out)); clear BK266; clear BK267; clear HB; have BK266 := n0_; have BK267 := n1_; have HB := n2_; have BK268 := n3_; have GW268 := n4_; have GE268 := n5_; have NB266_268 := n6_; have NB268_266 := n7_; have NB267_268 := n8_; have NB268_267 := n9_; clear n0_ n1_ n2_ n3_ n4_ n5_ n6_ n7_ n8_ n9_; clear hb hbox hg; have hnb11 := NB266_267.out; have hnc11 := NB267_266.out; have hnb12 := NB266_268.out; have hnc12 := NB268_266.out; have hcz13_0 := cz_ BK266.out 0; have hcz13_1 := cz_ BK266.out 1; have hcz13_2 := cz_ BK266.out 2; have hfz13_0 := blk_frozen BK266.out 0; have hfz13_1 := blk_frozen BK266.out 1; have hfz13_2 := blk_frozen BK266.out 2; have hnb14 := NB267_268.out; have hnc14 := NB268_267.out; have hcz15_0 := cz_ BK267.out 0; have hcz15_1 := cz_ BK267.out 1; have hcz15_2 := cz_ BK267.out 2; have hfz15_0 := blk_frozen BK267.out 0; have hfz15_1 := blk_frozen BK267.out 1; have hfz15_2 := blk_frozen BK267.out 2) | ((with_reducible refine gate_callee (f := 30) rfl ?_); refine goesL_ (some 16) rfl rfl Try.func30 (by kernel_rfl) rfl #[.agg #[.int .i64 a0_0, .slice A0_1 l0_1.length c0_1, .slice A0_2 l0_2.length c0_2], .agg #[.int .i64 a1_0, .int .i64 a1_1, .slice A1_2 l1_2.length c1_2]] rfl (by (try simp only [List.map_toArray, List.map_cons, List.map_nil]); first | done | rfl | (simp only [List.length_drop, List.length_take]; rfl)) ?_; (with_reducible refine (impl_GoodField.calls k a0_0 _ _ l0_1 _ _ l0_2 a1_0 a1_1 _ _ l1_2 true _ ?side1 ?side2 ?side3 ?side4 ?side5 ?side6 A3.out).mono ?_); (case side1 => repeat (first | exact (Kd.C_below HR0_1.out HB.out) | (with_reducible refine Kd.C_alloc ?_ _) | (with_reducible refine Kd.C_drewN ?_ _) | (with_reducible refine Kd.C_drew ?_))); (case side2 => exact HC0_1.out); (case side3 => repeat (first | exact (Kd.C_below HR0_2.out HB.out) | (with_reducible refine Kd.C_alloc ?_ _) | (with_reducible refine Kd.C_drewN ?_ _) | (with_reducible refine Kd.C_drew ?_))); (case side4 => exact HC0_2.out); (case side5 => repeat (first | exact (Kd.C_below HR1_2.out HB.out) | (with_reducible refine Kd.C_alloc ?_ _) | (with_reducible refine Kd.C_drewN ?_ _) | (with_reducible refine Kd.C_drew ?_))); (case side6 => exact HC1_2.out); rintro e w16 ⟨rfl, hb⟩; refine ⟨_, rfl, ?_⟩; have n0_ := Aside0.mk (blk_below (bk_ BK266.out) hb); have n1_ := Aside0.mk (blk_below (bk_ BK267.out) hb); have n2_ := Aside0.mk (blk_below (bk_ BK268.out) hb); have n3_ := Aside0.mk (below_step (bw_ HB.out) hb); clear BK266; clear BK267; clear BK268; clear HB; have BK266 := n0_; have BK267 := n1_; have BK268 := n2_; have HB := n3_; clear n0_ n1_ n2_ n3_; (try clear hb); (try clear hb2); (try clear hk); (try clear hi); have hcz17_0 := cz_ BK266.out 0; have hcz17_1 := cz_ BK266.out 1; have hcz17_2 := cz_ BK266.out 2; have hfz17_0 := blk_frozen BK266.out 0; have hfz17_1 := blk_frozen BK266.out 1; have hfz17_2 := blk_frozen BK266.out 2; have hcz18_0 := cz_ BK267.out 0; have hcz18_1 := cz_ BK267.out 1; have hcz18_2 := cz_ BK267.out 2; have hfz18_0 := blk_frozen BK267.out 0; have hfz18_1 := blk_frozen BK267.out 1; have hfz18_2 := blk_frozen BK267.out 2) | ((with_reducible refine gate_callee (f := 37) rfl ?_); refine goesL_ (some 21) rfl rfl Try.func37 (by kernel_rfl) rfl #[.agg #[.int .i64 a0_0, .slice A0_1 l0_1.length c0_1, .slice A0_2 l0_2.length c0_2], .agg #[.int .i64 a1_0, .int .i64 a1_1, .slice A1_2 l1_2.length c1_2]] rfl (by (try simp only [List.map_toArray, List.map_cons, List.map_nil]); first | done | rfl | (simp only [List.length_drop, List.length_take]; rfl)) ?_; (with_reducible refine (impl_Rules_holds.calls k a0_0 _ _ l0_1 _ _ l0_2 a1_0 a1_1 _ _ l1_2 true _ ?side1 ?side2 ?side3 ?side4 ?side5 ?side6 A5.out).mono ?_); (case side1 => repeat (first | exact (Kd.C_below HR0_1.out HB.out) | (with_reducible refine Kd.C_alloc ?_ _) | (with_reducible refine Kd.C_drewN ?_ _) | (with_reducible refine Kd.C_drew ?_))); (case side2 => exact HC0_1.out); (case side3 => repeat (first | exact (Kd.C_below HR0_2.out HB.out) | (with_reducible refine Kd.C_alloc ?_ _) | (with_reducible refine Kd.C_drewN ?_ _) | (with_reducible refine Kd.C_drew ?_))); (case side4 => exact HC0_2.out); (case side5 => repeat (first | exact (Kd.C_below HR1_2.out HB.out) | (with_reducible refine Kd.C_alloc ?_ _) | (with_reducible refine Kd.C_drewN ?_ _) | (with_reducible refine Kd.C_drew ?_))); (case side6 => exact HC1_2.out); rintro e w19 ⟨rfl, hb⟩; refine ⟨_, rfl, ?_⟩; have n0_ := Aside0.mk (blk_below (bk_ BK266.out) hb); have n1_ := Aside0.mk (blk_below (bk_ BK267.out) hb); have n2_ := Aside0.mk (blk_below (bk_ BK268.out) hb); have n3_ := Aside0.mk (below_step (bw_ HB.out) hb); clear BK266; clear BK267; clear BK268; clear HB; have BK266 := n0_; have BK267 := n1_; have BK268 := n2_; have HB := n3_; clear n0_ n1_ n2_ n3_; (try clear hb); (try clear hb2); (try clear hk); (try clear hi)))
   have n0_ := Aside0.mk (blk_drew BK266.out)
   have n1_ := Aside0.mk (blk_drew BK267.out)
   have n2_ := Aside0.mk (blk_drew BK268.out)
   have n3_ := Aside0.mk (below_drew1 HB.out)
   clear BK266
   clear BK267
   clear BK268
   clear HB
   have BK266 := n0_
   have BK267 := n1_
   have BK268 := n2_
   have HB := n3_
   clear n0_ n1_ n2_ n3_
   refine start_ (n := 13) (S := fun w' => w'.cell? ⟨gb267, 0, none⟩ = some (.int .i64 a1_0) ∧ w'.cell? ⟨gb267, 1, none⟩ = some (.int .i64 a1_1) ∧ w'.cell? ⟨gb267, 2, none⟩ = some (.slice A1_2 l1_2.length c1_2)) (ds := []) (Array.replicate 13 false) (by kernel_rfl) rfl rfl ⟨cz_ BK267.out 0, cz_ BK267.out 1, cz_ BK267.out 2⟩ (fun hHeld => ?_); refine with_tabW impl_FillField.tab5 impl_FillField.bits5 (fun HT_ HW_ => ?_)
   generalize w19.drew = w20 at BK266 BK267 BK268 HB hHeld ⊢
   refine pS_ 0 24 HT_ ?_
   refine pS_ 2 26 HT_ ?_
   refine pS_ 4 28 HT_ ?_
   refine tS_ 1 25 HT_ HW_ hHeld ?_
   refine tS_ 3 27 HT_ HW_ hHeld ?_
   refine tS_ 5 29 HT_ HW_ hHeld ?_
   refine join_ (σ := Value × Value × Nat) 2 #[true, true, true, true, true, true, true, true, true, true, true, false, false] (fun s_ => [(30, s_.1), (32, s_.2.1), (6, .pointer (some ⟨s_.2.2, 0, none⟩)), (31, .agg #[.int .i64 a1_0, .int .i64 a1_1, s_.1])]) (fun s_ w' => (w'.cell? ⟨gb267, 0, none⟩ = some (.int .i64 a1_0) ∧ w'.cell? ⟨gb267, 1, none⟩ = some (.int .i64 a1_1) ∧ w'.cell? ⟨gb267, 2, none⟩ = some (.slice A1_2 l1_2.length c1_2)) ∧ (Kd.R (Kd.int .i64) 3 w' w.heap.size (fun k_ => some k_ ≠ (s_.2.1 : Value).ownBlock) s_.1 t271) ∧ (Kd.R (Kd.int .i64) 3 w' w.heap.size (fun k_ => some k_ ≠ (s_.1 : Value).ownBlock) s_.2.1 y274) ∧ (w'.heap[gb266]? = some (.cells #[.int .i64 a0_0, .slice A0_1 l0_1.length c0_1, .slice A0_2 l0_2.length c0_2] 32 (0, 0))) ∧ (w'.heap[gb267]? = some (.cells #[.int .i64 a1_0, .int .i64 a1_1, .slice A1_2 l1_2.length c1_2] 34 (0, 0))) ∧ (w'.heap[gb268]? = some (.cells #[.bool false, .int .i64 0, .int .i64 0, .slice none 0 0, .int .i64 0] 44 (0, 0))) ∧ (w'.heap[s_.2.2]? = some (.cells #[.int .i64 a1_0, .int .i64 a1_1, s_.1] 34 (0, 0))) ∧ (w.heap.size ≤ s_.2.2) ∧ (w.heap.size ≤ s_.2.2) ∧ (gb266 ≠ s_.2.2) ∧ (s_.2.2 ≠ gb266) ∧ (gb267 ≠ s_.2.2) ∧ (s_.2.2 ≠ gb267) ∧ (gb268 ≠ s_.2.2) ∧ (s_.2.2 ≠ gb268) ∧ (Below w.heap.size w w')) ?_ ?_
   rotate_left
   ·intro hJ6_8_9_10
    refine join_ (σ := Value × Value × Nat) 3 #[true, true, true, true, true, true, true, true, true, true, false, false, false] (fun s_ => [(30, s_.1), (32, s_.2.1), (6, .pointer (some ⟨s_.2.2, 0, none⟩)), (31, .agg #[.int .i64 a1_0, .int .i64 a1_1, s_.1])]) (fun s_ w' => (w'.cell? ⟨gb267, 0, none⟩ = some (.int .i64 a1_0) ∧ w'.cell? ⟨gb267, 1, none⟩ = some (.int .i64 a1_1) ∧ w'.cell? ⟨gb267, 2, none⟩ = some (.slice A1_2 l1_2.length c1_2)) ∧ (Kd.R (Kd.int .i64) 3 w' w.heap.size (fun k_ => some k_ ≠ (s_.2.1 : Value).ownBlock) s_.1 t271) ∧ (Kd.R (Kd.int .i64) 3 w' w.heap.size (fun k_ => some k_ ≠ (s_.1 : Value).ownBlock) s_.2.1 y274) ∧ (w'.heap[gb266]? = some (.cells #[.int .i64 a0_0, .slice A0_1 l0_1.length c0_1, .slice A0_2 l0_2.length c0_2] 32 (0, 0))) ∧ (w'.heap[gb267]? = some (.cells #[.int .i64 a1_0, .int .i64 a1_1, .slice A1_2 l1_2.length c1_2] 34 (0, 0))) ∧ (w'.heap[gb268]? = some (.cells #[.bool false, .int .i64 0, .int .i64 0, .slice none 0 0, .int .i64 0] 44 (0, 0))) ∧ (w'.heap[s_.2.2]? = some (.cells #[.int .i64 0, .int .i64 0, .slice none 0 0] 34 (0, 0))) ∧ (w.heap.size ≤ s_.2.2) ∧ (w.heap.size ≤ s_.2.2) ∧ (gb266 ≠ s_.2.2) ∧ (s_.2.2 ≠ gb266) ∧ (gb267 ≠ s_.2.2) ∧ (s_.2.2 ≠ gb267) ∧ (gb268 ≠ s_.2.2) ∧ (s_.2.2 ≠ gb268) ∧ (Below w.heap.size w w')) ?_ ?_
    rotate_left
    ·intro hJ6_8_9
     refine join_ (σ := Value × Nat) 3 #[true, true, true, true, true, true, true, true, false, true, true, false, false] (fun s_ => [(30, s_.1), (6, .pointer (some ⟨s_.2, 0, none⟩)), (31, .agg #[.int .i64 a1_0, .int .i64 a1_1, s_.1])]) (fun s_ w' => (w'.cell? ⟨gb267, 0, none⟩ = some (.int .i64 a1_0) ∧ w'.cell? ⟨gb267, 1, none⟩ = some (.int .i64 a1_1) ∧ w'.cell? ⟨gb267, 2, none⟩ = some (.slice A1_2 l1_2.length c1_2)) ∧ (Kd.R (Kd.int .i64) 3 w' w.heap.size (fun _ => True) s_.1 t271) ∧ (w'.heap[gb266]? = some (.cells #[.int .i64 a0_0, .slice A0_1 l0_1.length c0_1, .slice A0_2 l0_2.length c0_2] 32 (0, 0))) ∧ (w'.heap[gb267]? = some (.cells #[.int .i64 a1_0, .int .i64 a1_1, .slice A1_2 l1_2.length c1_2] 34 (0, 0))) ∧ (w'.heap[gb268]? = some (.cells #[.bool false, .int .i64 0, .int .i64 0, .slice none 0 0, .int .i64 0] 44 (0, 0))) ∧ (w'.heap[s_.2]? = some (.cells #[.int .i64 a1_0, .int .i64 a1_1, s_.1] 34 (0, 0))) ∧ (w.heap.size ≤ s_.2) ∧ (w.heap.size ≤ s_.2) ∧ (gb266 ≠ s_.2) ∧ (s_.2 ≠ gb266) ∧ (gb267 ≠ s_.2) ∧ (s_.2 ≠ gb267) ∧ (gb268 ≠ s_.2) ∧ (s_.2 ≠ gb268) ∧ (Below w.heap.size w w')) ?_ ?_
     rotate_left
     ·intro hJ6_9_10
      refine join_ (σ := Value × Value) 4 #[true, true, true, true, true, true, true, true, true, false, false, false, false] (fun s_ => [(30, s_.1), (32, s_.2), (31, .agg #[.int .i64 a1_0, .int .i64 a1_1, s_.1])]) (fun s_ w' => (w'.cell? ⟨gb267, 0, none⟩ = some (.int .i64 a1_0) ∧ w'.cell? ⟨gb267, 1, none⟩ = some (.int .i64 a1_1) ∧ w'.cell? ⟨gb267, 2, none⟩ = some (.slice A1_2 l1_2.length c1_2)) ∧ (Kd.R (Kd.int .i64) 3 w' w.heap.size (fun k_ => some k_ ≠ (s_.2 : Value).ownBlock) s_.1 t271) ∧ (Kd.R (Kd.int .i64) 3 w' w.heap.size (fun k_ => some k_ ≠ (s_.1 : Value).ownBlock) s_.2 y274) ∧ (w'.heap[gb266]? = some (.cells #[.int .i64 a0_0, .slice A0_1 l0_1.length c0_1, .slice A0_2 l0_2.length c0_2] 32 (0, 0))) ∧ (w'.heap[gb267]? = some (.cells #[.int .i64 a1_0, .int .i64 a1_1, .slice A1_2 l1_2.length c1_2] 34 (0, 0))) ∧ (w'.heap[gb268]? = some (.cells #[.bool false, .int .i64 0, .int .i64 0, .slice none 0 0, .int .i64 0] 44 (0, 0))) ∧ (Below w.heap.size w w')) ?_ ?_
      rotate_left
      ·intro hJ6_8
       refine join_ (σ := Value × Nat) 4 #[true, true, true, true, true, true, true, true, false, true, false, false, false] (fun s_ => [(30, s_.1), (6, .pointer (some ⟨s_.2, 0, none⟩)), (31, .agg #[.int .i64 a1_0, .int .i64 a1_1, s_.1])]) (fun s_ w' => (w'.cell? ⟨gb267, 0, none⟩ = some (.int .i64 a1_0) ∧ w'.cell? ⟨gb267, 1, none⟩ = some (.int .i64 a1_1) ∧ w'.cell? ⟨gb267, 2, none⟩ = some (.slice A1_2 l1_2.length c1_2)) ∧ (Kd.R (Kd.int .i64) 3 w' w.heap.size (fun _ => True) s_.1 t271) ∧ (w'.heap[gb266]? = some (.cells #[.int .i64 a0_0, .slice A0_1 l0_1.length c0_1, .slice A0_2 l0_2.length c0_2] 32 (0, 0))) ∧ (w'.heap[gb267]? = some (.cells #[.int .i64 a1_0, .int .i64 a1_1, .slice A1_2 l1_2.length c1_2] 34 (0, 0))) ∧ (w'.heap[gb268]? = some (.cells #[.bool false, .int .i64 0, .int .i64 0, .slice none 0 0, .int .i64 0] 44 (0, 0))) ∧ (w'.heap[s_.2]? = some (.cells #[.int .i64 0, .int .i64 0, .slice none 0 0] 34 (0, 0))) ∧ (w.heap.size ≤ s_.2) ∧ (w.heap.size ≤ s_.2) ∧ (gb266 ≠ s_.2) ∧ (s_.2 ≠ gb266) ∧ (gb267 ≠ s_.2) ∧ (s_.2 ≠ gb267) ∧ (gb268 ≠ s_.2) ∧ (s_.2 ≠ gb268) ∧ (Below w.heap.size w w')) ?_ ?_
       rotate_left
       ·intro hJ6_9
        refine join_ (σ := Value × Nat) 5 #[true, true, true, true, true, true, false, false, true, true, false, false, false] (fun s_ => [(32, s_.1), (6, .pointer (some ⟨s_.2, 0, none⟩))]) (fun s_ w' => (w'.cell? ⟨gb267, 0, none⟩ = some (.int .i64 a1_0) ∧ w'.cell? ⟨gb267, 1, none⟩ = some (.int .i64 a1_1) ∧ w'.cell? ⟨gb267, 2, none⟩ = some (.slice A1_2 l1_2.length c1_2)) ∧ (Kd.R (Kd.int .i64) 3 w' w.heap.size (fun _ => True) s_.1 y274) ∧ (w'.heap[gb266]? = some (.cells #[.int .i64 a0_0, .slice A0_1 l0_1.length c0_1, .slice A0_2 l0_2.length c0_2] 32 (0, 0))) ∧ (w'.heap[gb267]? = some (.cells #[.int .i64 a1_0, .int .i64 a1_1, .slice A1_2 l1_2.length c1_2] 34 (0, 0))) ∧ (w'.heap[gb268]? = some (.cells #[.bool false, .int .i64 0, .int .i64 0, .slice none 0 0, .int .i64 0] 44 (0, 0))) ∧ (w'.heap[s_.2]? = some (.cells #[.int .i64 0, .int .i64 0, .slice none 0 0] 34 (0, 0))) ∧ (w.heap.size ≤ s_.2) ∧ (w.heap.size ≤ s_.2) ∧ (gb266 ≠ s_.2) ∧ (s_.2 ≠ gb266) ∧ (gb267 ≠ s_.2) ∧ (s_.2 ≠ gb267) ∧ (gb268 ≠ s_.2) ∧ (s_.2 ≠ gb268) ∧ (Below w.heap.size w w')) ?_ ?_
        rotate_left
        ·intro hJ8_9
         refine join_ (σ := Value) 5 #[true, true, true, true, true, true, true, true, false, false, false, false, false] (fun s_ => [(30, s_), (31, .agg #[.int .i64 a1_0, .int .i64 a1_1, s_])]) (fun s_ w' => (w'.cell? ⟨gb267, 0, none⟩ = some (.int .i64 a1_0) ∧ w'.cell? ⟨gb267, 1, none⟩ = some (.int .i64 a1_1) ∧ w'.cell? ⟨gb267, 2, none⟩ = some (.slice A1_2 l1_2.length c1_2)) ∧ (Kd.R (Kd.int .i64) 3 w' w.heap.size (fun _ => True) s_ t271) ∧ (w'.heap[gb266]? = some (.cells #[.int .i64 a0_0, .slice A0_1 l0_1.length c0_1, .slice A0_2 l0_2.length c0_2] 32 (0, 0))) ∧ (w'.heap[gb267]? = some (.cells #[.int .i64 a1_0, .int .i64 a1_1, .slice A1_2 l1_2.length c1_2] 34 (0, 0))) ∧ (w'.heap[gb268]? = some (.cells #[.bool false, .int .i64 0, .int .i64 0, .slice none 0 0, .int .i64 0] 44 (0, 0))) ∧ (Below w.heap.size w w')) ?_ ?_
         rotate_left
         ·intro hJ6
          refine join_ (σ := Value) 6 #[true, true, true, true, true, true, false, false, true, false, false, false, false] (fun s_ => [(32, s_)]) (fun s_ w' => (w'.cell? ⟨gb267, 0, none⟩ = some (.int .i64 a1_0) ∧ w'.cell? ⟨gb267, 1, none⟩ = some (.int .i64 a1_1) ∧ w'.cell? ⟨gb267, 2, none⟩ = some (.slice A1_2 l1_2.length c1_2)) ∧ (Kd.R (Kd.int .i64) 3 w' w.heap.size (fun _ => True) s_ y274) ∧ (w'.heap[gb266]? = some (.cells #[.int .i64 a0_0, .slice A0_1 l0_1.length c0_1, .slice A0_2 l0_2.length c0_2] 32 (0, 0))) ∧ (w'.heap[gb267]? = some (.cells #[.int .i64 a1_0, .int .i64 a1_1, .slice A1_2 l1_2.length c1_2] 34 (0, 0))) ∧ (w'.heap[gb268]? = some (.cells #[.bool false, .int .i64 0, .int .i64 0, .slice none 0 0, .int .i64 0] 44 (0, 0))) ∧ (Below w.heap.size w w')) ?_ ?_
          rotate_left
          ·intro hJ8
           refine join_ (σ := Nat) 6 #[true, true, true, true, true, true, false, false, false, true, false, false, false] (fun s_ => [(6, .pointer (some ⟨s_, 0, none⟩))]) (fun s_ w' => (w'.cell? ⟨gb267, 0, none⟩ = some (.int .i64 a1_0) ∧ w'.cell? ⟨gb267, 1, none⟩ = some (.int .i64 a1_1) ∧ w'.cell? ⟨gb267, 2, none⟩ = some (.slice A1_2 l1_2.length c1_2)) ∧ (w'.heap[gb266]? = some (.cells #[.int .i64 a0_0, .slice A0_1 l0_1.length c0_1, .slice A0_2 l0_2.length c0_2] 32 (0, 0))) ∧ (w'.heap[gb267]? = some (.cells #[.int .i64 a1_0, .int .i64 a1_1, .slice A1_2 l1_2.length c1_2] 34 (0, 0))) ∧ (w'.heap[gb268]? = some (.cells #[.bool false, .int .i64 0, .int .i64 0, .slice none 0 0, .int .i64 0] 44 (0, 0))) ∧ (w'.heap[s_]? = some (.cells #[.int .i64 0, .int .i64 0, .slice none 0 0] 34 (0, 0))) ∧ (w.heap.size ≤ s_) ∧ (w.heap.size ≤ s_) ∧ (gb266 ≠ s_) ∧ (s_ ≠ gb266) ∧ (gb267 ≠ s_) ∧ (s_ ≠ gb267) ∧ (gb268 ≠ s_) ∧ (s_ ≠ gb268) ∧ (Below w.heap.size w w')) ?_ ?_
           rotate_left
           ·intro hJ9
            refine three_ (i := 6) (j := 8) (k := 9) (Ni := some 30) (Nj := some 32) (Nk := some 6) #[true, true, true, true, true, true, true, false, false, false, false, false, false] #[true, true, true, true, true, true, false, false, true, false, false, false, false] #[true, true, true, true, true, true, false, false, false, true, false, false, false] rfl rfl rfl rfl rfl rfl (three_of HT_.out (by kernel_rfl)) (by decide) (by decide) (by decide) (fun K hK => ?_) (fun K hK => ?_) (fun K hK => ?_)
            ·skip
             refine goes_ Try.func38 (by kernel_rfl) rfl #[.slice A1_2 l1_2.length c1_2] (by rfl) rfl rfl (by (try simp only [List.map_toArray, List.map_cons, List.map_nil]); first | done | rfl | (simp only [List.length_drop, List.length_take]; rfl)) ?_
             with_reducible refine (slices_Clone_int_int.calls _ _ l1_2 t271 _ ?side1 ?side2 A7.out).mono ?_
             (case side1 => repeat (first | exact (Kd.C_below HR1_2.out HB.out) | (with_reducible refine Kd.C_alloc ?_ _) | (with_reducible refine Kd.C_drewN ?_ _) | (with_reducible refine Kd.C_drew ?_)))
             (case side2 => exact HC1_2.out)
             rintro e w21 ⟨v272, rfl, ho0, hb⟩
             refine ⟨_, rfl, ?_⟩
             have n0_ := Aside0.mk (Kd.R_lower ho0 (below_size (bw_ HB.out)))
             have n1_ := Aside0.mk (blk_below (bk_ BK266.out) hb)
             have n2_ := Aside0.mk (blk_below (bk_ BK267.out) hb)
             have n3_ := Aside0.mk (blk_below (bk_ BK268.out) hb)
             have n4_ := Aside0.mk (below_step (bw_ HB.out) hb)
             clear BK266
             clear BK267
             clear BK268
             clear HB
             have HO273 := n0_
             have BK266 := n1_
             have BK267 := n2_
             have BK268 := n3_
             have HB := n4_
             clear n0_ n1_ n2_ n3_ n4_
             (try clear hb)
             (try clear hb2)
             (try clear hk)
             (try clear hi)
             (try clear ho0)
             obtain ⟨Ao22, co22, eo22⟩ := Kd.R_slice HO273.out
             (first | subst eo22 | (injection eo22 with f1_ f2_ f3_; have f4_ := f1_.symm; have f5_ := f3_.symm; clear f1_ f2_ f3_; subst f4_; subst f5_))
             refine hK.out _ _ ⟨cz_ BK267.out 0, cz_ BK267.out 1, cz_ BK267.out 2⟩ (fun hHeld => ?_)
             clear hK K
             refine nS_ ?_
             refine pS_ 7 31 HT_ ?_
             exact norm_ (by first | (simp only [putAll, Act.put, List.setIfInBounds_toArray, List.set_cons_zero, List.set_cons_succ]; done) | (simp only [putAll, Act.put, List.setIfInBounds_toArray, List.set_cons_zero, List.set_cons_succ]; rfl)) (hJ6 (.slice Ao22 t271.length co22) _ ⟨hHeld, (by (with_reducible repeat (first | apply Kd.R_alloc | apply Kd.R_drewN | apply Kd.R_drew)); exact HO273.out), (bk_ BK266.out), (bk_ BK267.out), (bk_ BK268.out), (bw_ HB.out)⟩)
            ·skip
             refine Kd.R_lit_step (Kd.int .i64) _ 3 ?hg (N := 32) ?hd (xs := ([] : List Int)) (inner := []) (ok := fun _ => True) (okp := fun _ => True) ?hr ?hp (fun _ hk => hk) trivial (Below.refl _ _) (Nat.le_refl _) (by simp) ?_; (case hd => rfl); (case hg => rfl); (case hr => first | (go_simp; done) | (go_simp; rfl)); (case hp => exact (Reps.none _ _))
             intro v275 w21 ho22 hb hg_ hnew_
             clear hg_ hnew_
             (first | rw [← Ny274.out] at ho22 | (simp only [Int.reduceToNat] at ho22; rw [← Ny274.out] at ho22))
             have n0_ := Aside0.mk (Kd.R_lower ho22 (below_size (bw_ HB.out)))
             have n1_ := Aside0.mk (blk_below (bk_ BK266.out) hb)
             have n2_ := Aside0.mk (blk_below (bk_ BK267.out) hb)
             have n3_ := Aside0.mk (blk_below (bk_ BK268.out) hb)
             have n4_ := Aside0.mk (below_step (bw_ HB.out) hb)
             clear BK266
             clear BK267
             clear BK268
             clear HB
             have HO276 := n0_
             have BK266 := n1_
             have BK267 := n2_
             have BK268 := n3_
             have HB := n4_
             clear n0_ n1_ n2_ n3_ n4_
             clear hb ho22
             refine hK.out _ _ ⟨cz_ BK267.out 0, cz_ BK267.out 1, cz_ BK267.out 2⟩ (fun hHeld => ?_)
             clear hK K
             refine nS_ ?_
             exact norm_ (by first | (simp only [putAll, Act.put, List.setIfInBounds_toArray, List.set_cons_zero, List.set_cons_succ]; done) | (simp only [putAll, Act.put, List.setIfInBounds_toArray, List.set_cons_zero, List.set_cons_succ]; rfl)) (hJ8 (v275) _ ⟨hHeld, (by (with_reducible repeat (first | apply Kd.R_alloc | apply Kd.R_drewN | apply Kd.R_drew)); exact HO276.out), (bk_ BK266.out), (bk_ BK267.out), (bk_ BK268.out), (bw_ HB.out)⟩)
            ·skip
             refine box_step ?hg (N := 6) ?hd (cs := #[.int .i64 0, .int .i64 0, .slice none 0 0]) (t := 34) ?hr ?_; (case hd => rfl); (case hg => rfl); (case hr => first | (go_simp; done) | (go_simp; rfl))
             intro gb277 hg w21 hbox hb
             have n0_ := Aside0.mk (blk_below (bk_ BK266.out) hb)
             have n1_ := Aside0.mk (blk_below (bk_ BK267.out) hb)
             have n2_ := Aside0.mk (blk_below (bk_ BK268.out) hb)
             have n3_ := Aside0.mk (below_step (bw_ HB.out) hb)
             have n4_ := Aside0.mk (hbox)
             have n5_ := Aside0.mk (gs_ hg (bw_ HB.out))
             have n6_ := Aside0.mk (gs_ hg (bw_ HB.out))
             have n7_ := Aside0.mk (nl_ hg (bk_ BK266.out))
             have n8_ := Aside0.mk (ng_ hg (bk_ BK266.out))
             have n9_ := Aside0.mk (nl_ hg (bk_ BK267.out))
             have n10_ := Aside0.mk (ng_ hg (bk_ BK267.out))
             have n11_ := Aside0.mk (nl_ hg (bk_ BK268.out))
             have n12_ := Aside0.mk (ng_ hg (bk_ BK268.out))
             clear BK266
             clear BK267
             clear BK268
             clear HB
             have BK266 := n0_
             have BK267 := n1_
             have BK268 := n2_
             have HB := n3_
             have BK277 := n4_
             have GW277 := n5_
             have GE277 := n6_
             have NB266_277 := n7_
             have NB277_266 := n8_
             have NB267_277 := n9_
             have NB277_267 := n10_
             have NB268_277 := n11_
             have NB277_268 := n12_
             clear n0_ n1_ n2_ n3_ n4_ n5_ n6_ n7_ n8_ n9_ n10_ n11_ n12_
             clear hb hbox hg
             refine hK.out _ _ ⟨cz_ BK267.out 0, cz_ BK267.out 1, cz_ BK267.out 2⟩ (fun hHeld => ?_)
             clear hK K
             refine nS_ ?_
             exact norm_ (by first | (simp only [putAll, Act.put, List.setIfInBounds_toArray, List.set_cons_zero, List.set_cons_succ]; done) | (simp only [putAll, Act.put, List.setIfInBounds_toArray, List.set_cons_zero, List.set_cons_succ]; rfl)) (hJ9 (gb277) _ ⟨hHeld, (bk_ BK266.out), (bk_ BK267.out), (bk_ BK268.out), (bk_ BK277.out), GW277.out, GE277.out, NB266_277.out, NB277_266.out, NB267_277.out, NB277_267.out, NB268_277.out, NB277_268.out, (bw_ HB.out)⟩)
           ·skip
            rintro gb277 w22 ⟨hS_, h0_, h1_, h2_, h3_, h4_, h5_, h6_, h7_, h8_, h9_, h10_, h11_, h12_⟩
            have n0_ : Aside0 (w22.heap[gb266]? = some (.cells #[.int .i64 a0_0, .slice A0_1 l0_1.length c0_1, .slice A0_2 l0_2.length c0_2] 32 (0, 0))) := ⟨h0_⟩
            have n1_ : Aside0 (w22.heap[gb267]? = some (.cells #[.int .i64 a1_0, .int .i64 a1_1, .slice A1_2 l1_2.length c1_2] 34 (0, 0))) := ⟨h1_⟩
            have n2_ : Aside0 (w22.heap[gb268]? = some (.cells #[.bool false, .int .i64 0, .int .i64 0, .slice none 0 0, .int .i64 0] 44 (0, 0))) := ⟨h2_⟩
            have n3_ : Aside0 (w22.heap[gb277]? = some (.cells #[.int .i64 0, .int .i64 0, .slice none 0 0] 34 (0, 0))) := ⟨h3_⟩
            have n4_ : Aside0 (w.heap.size ≤ gb277) := ⟨h4_⟩
            have n5_ : Aside0 (w.heap.size ≤ gb277) := ⟨h5_⟩
            have n6_ : Aside0 (gb266 ≠ gb277) := ⟨h6_⟩
            have n7_ : Aside0 (gb277 ≠ gb266) := ⟨h7_⟩
            have n8_ : Aside0 (gb267 ≠ gb277) := ⟨h8_⟩
            have n9_ : Aside0 (gb277 ≠ gb267) := ⟨h9_⟩
            have n10_ : Aside0 (gb268 ≠ gb277) := ⟨h10_⟩
            have n11_ : Aside0 (gb277 ≠ gb268) := ⟨h11_⟩
            have n12_ : Aside0 (Below w.heap.size w w22) := ⟨h12_⟩
            clear BK266
            clear BK267
            clear BK268
            clear HB
            clear h0_ h1_ h2_ h3_ h4_ h5_ h6_ h7_ h8_ h9_ h10_ h11_ h12_
            have BK266 := n0_
            have BK267 := n1_
            have BK268 := n2_
            have BK277 := n3_
            have GW277 := n4_
            have GE277 := n5_
            have NB266_277 := n6_
            have NB277_266 := n7_
            have NB267_277 := n8_
            have NB277_267 := n9_
            have NB268_277 := n10_
            have NB277_268 := n11_
            have HB := n12_
            clear n0_ n1_ n2_ n3_ n4_ n5_ n6_ n7_ n8_ n9_ n10_ n11_ n12_
            have hHeld : w22.cell? ⟨gb267, 0, none⟩ = some (.int .i64 a1_0) ∧ w22.cell? ⟨gb267, 1, none⟩ = some (.int .i64 a1_1) ∧ w22.cell? ⟨gb267, 2, none⟩ = some (.slice A1_2 l1_2.length c1_2) := hS_
            refine norm_ (a' := ?_) ?_ ?_
            rotate_left
            ·simp only [putAll, Act.put, List.setIfInBounds_toArray, List.set_cons_zero, List.set_cons_succ]
             rfl
            refine two_ (i := 6) (j := 8) (Ni := some 30) (Nj := some 32) #[true, true, true, true, true, true, true, false, false, true, false, false, false] #[true, true, true, true, true, true, false, false, true, true, false, false, false] rfl rfl rfl rfl (two_of HT_.out (by kernel_rfl)) (by decide) (by decide) (fun K hK => ?_) (fun K hK => ?_)
            ·skip
             refine goes_ Try.func38 (by kernel_rfl) rfl #[.slice A1_2 l1_2.length c1_2] (by rfl) rfl rfl (by (try simp only [List.map_toArray, List.map_cons, List.map_nil]); first | done | rfl | (simp only [List.length_drop, List.length_take]; rfl)) ?_
             with_reducible refine (slices_Clone_int_int.calls _ _ l1_2 t271 _ ?side1 ?side2 A7.out).mono ?_
             (case side1 => repeat (first | exact (Kd.C_below HR1_2.out HB.out) | (with_reducible refine Kd.C_alloc ?_ _) | (with_reducible refine Kd.C_drewN ?_ _) | (with_reducible refine Kd.C_drew ?_)))
             (case side2 => exact HC1_2.out)
             rintro e w23 ⟨v272, rfl, ho0, hb⟩
             refine ⟨_, rfl, ?_⟩
             have n0_ := Aside0.mk (Kd.R_lower ho0 (below_size (bw_ HB.out)))
             have n1_ := Aside0.mk (blk_below (bk_ BK266.out) hb)
             have n2_ := Aside0.mk (blk_below (bk_ BK267.out) hb)
             have n3_ := Aside0.mk (blk_below (bk_ BK268.out) hb)
             have n4_ := Aside0.mk (blk_below (bk_ BK277.out) hb)
             have n5_ := Aside0.mk (below_step (bw_ HB.out) hb)
             clear BK266
             clear BK267
             clear BK268
             clear BK277
             clear HB
             have HO273 := n0_
             have BK266 := n1_
             have BK267 := n2_
             have BK268 := n3_
             have BK277 := n4_
             have HB := n5_
             clear n0_ n1_ n2_ n3_ n4_ n5_
             (try clear hb)
             (try clear hb2)
             (try clear hk)
             (try clear hi)
             (try clear ho0)
             obtain ⟨Ao24, co24, eo24⟩ := Kd.R_slice HO273.out
             (first | subst eo24 | (injection eo24 with f1_ f2_ f3_; have f4_ := f1_.symm; have f5_ := f3_.symm; clear f1_ f2_ f3_; subst f4_; subst f5_))
             refine hK.out _ _ ⟨cz_ BK267.out 0, cz_ BK267.out 1, cz_ BK267.out 2⟩ (fun hHeld => ?_)
             clear hK K
             refine nS_ ?_
             refine pS_ 7 31 HT_ ?_
             exact norm_ (by first | (simp only [putAll, Act.put, List.setIfInBounds_toArray, List.set_cons_zero, List.set_cons_succ]; done) | (simp only [putAll, Act.put, List.setIfInBounds_toArray, List.set_cons_zero, List.set_cons_succ]; rfl)) (hJ6_9 (.slice Ao24 t271.length co24, gb277) _ ⟨hHeld, (by (with_reducible repeat (first | apply Kd.R_alloc | apply Kd.R_drewN | apply Kd.R_drew)); exact HO273.out), (bk_ BK266.out), (bk_ BK267.out), (bk_ BK268.out), (bk_ BK277.out), GW277.out, GE277.out, NB266_277.out, NB277_266.out, NB267_277.out, NB277_267.out, NB268_277.out, NB277_268.out, (bw_ HB.out)⟩)
            ·skip
             refine Kd.R_lit_step (Kd.int .i64) _ 3 ?hg (N := 32) ?hd (xs := ([] : List Int)) (inner := []) (ok := fun _ => True) (okp := fun _ => True) ?hr ?hp (fun _ hk => hk) trivial (Below.refl _ _) (Nat.le_refl _) (by simp) ?_; (case hd => rfl); (case hg => rfl); (case hr => first | (go_simp; done) | (go_simp; rfl)); (case hp => exact (Reps.none _ _))
             intro v275 w23 ho24 hb hg_ hnew_
             clear hg_ hnew_
             (first | rw [← Ny274.out] at ho24 | (simp only [Int.reduceToNat] at ho24; rw [← Ny274.out] at ho24))
             have n0_ := Aside0.mk (Kd.R_lower ho24 (below_size (bw_ HB.out)))
             have n1_ := Aside0.mk (blk_below (bk_ BK266.out) hb)
             have n2_ := Aside0.mk (blk_below (bk_ BK267.out) hb)
             have n3_ := Aside0.mk (blk_below (bk_ BK268.out) hb)
             have n4_ := Aside0.mk (blk_below (bk_ BK277.out) hb)
             have n5_ := Aside0.mk (below_step (bw_ HB.out) hb)
             clear BK266
             clear BK267
             clear BK268
             clear BK277
             clear HB
             have HO276 := n0_
             have BK266 := n1_
             have BK267 := n2_
             have BK268 := n3_
             have BK277 := n4_
             have HB := n5_
             clear n0_ n1_ n2_ n3_ n4_ n5_
             clear hb ho24
             refine hK.out _ _ ⟨cz_ BK267.out 0, cz_ BK267.out 1, cz_ BK267.out 2⟩ (fun hHeld => ?_)
             clear hK K
             refine nS_ ?_
             exact norm_ (by first | (simp only [putAll, Act.put, List.setIfInBounds_toArray, List.set_cons_zero, List.set_cons_succ]; done) | (simp only [putAll, Act.put, List.setIfInBounds_toArray, List.set_cons_zero, List.set_cons_succ]; rfl)) (hJ8_9 (v275, gb277) _ ⟨hHeld, (by (with_reducible repeat (first | apply Kd.R_alloc | apply Kd.R_drewN | apply Kd.R_drew)); exact HO276.out), (bk_ BK266.out), (bk_ BK267.out), (bk_ BK268.out), (bk_ BK277.out), GW277.out, GE277.out, NB266_277.out, NB277_266.out, NB267_277.out, NB277_267.out, NB268_277.out, NB277_268.out, (bw_ HB.out)⟩)
          ·skip
           rintro v275 w23 ⟨hS_, h0_, h1_, h2_, h3_, h4_⟩
           have n0_ : Aside0 (Kd.R (Kd.int .i64) 3 w23 w.heap.size (fun _ => True) v275 y274) := ⟨h0_⟩
           have n1_ : Aside0 (w23.heap[gb266]? = some (.cells #[.int .i64 a0_0, .slice A0_1 l0_1.length c0_1, .slice A0_2 l0_2.length c0_2] 32 (0, 0))) := ⟨h1_⟩
           have n2_ : Aside0 (w23.heap[gb267]? = some (.cells #[.int .i64 a1_0, .int .i64 a1_1, .slice A1_2 l1_2.length c1_2] 34 (0, 0))) := ⟨h2_⟩
           have n3_ : Aside0 (w23.heap[gb268]? = some (.cells #[.bool false, .int .i64 0, .int .i64 0, .slice none 0 0, .int .i64 0] 44 (0, 0))) := ⟨h3_⟩
           have n4_ : Aside0 (Below w.heap.size w w23) := ⟨h4_⟩
           clear BK266
           clear BK267
           clear BK268
           clear HB
           clear h0_ h1_ h2_ h3_ h4_
           have HO276 := n0_
           have BK266 := n1_
           have BK267 := n2_
           have BK268 := n3_
           have HB := n4_
           clear n0_ n1_ n2_ n3_ n4_
           have hHeld : w23.cell? ⟨gb267, 0, none⟩ = some (.int .i64 a1_0) ∧ w23.cell? ⟨gb267, 1, none⟩ = some (.int .i64 a1_1) ∧ w23.cell? ⟨gb267, 2, none⟩ = some (.slice A1_2 l1_2.length c1_2) := hS_
           refine norm_ (a' := ?_) ?_ ?_
           rotate_left
           ·simp only [putAll, Act.put, List.setIfInBounds_toArray, List.set_cons_zero, List.set_cons_succ]
            rfl
           refine two_ (i := 6) (j := 9) (Ni := some 30) (Nj := some 6) #[true, true, true, true, true, true, true, false, true, false, false, false, false] #[true, true, true, true, true, true, false, false, true, true, false, false, false] rfl rfl rfl rfl (two_of HT_.out (by kernel_rfl)) (by decide) (by decide) (fun K hK => ?_) (fun K hK => ?_)
           ·skip
            refine goes_ Try.func38 (by kernel_rfl) rfl #[.slice A1_2 l1_2.length c1_2] (by rfl) rfl rfl (by (try simp only [List.map_toArray, List.map_cons, List.map_nil]); first | done | rfl | (simp only [List.length_drop, List.length_take]; rfl)) ?_
            with_reducible refine (slices_Clone_int_int.calls _ _ l1_2 t271 _ ?side1 ?side2 A7.out).mono ?_
            (case side1 => repeat (first | exact (Kd.C_below HR1_2.out HB.out) | (with_reducible refine Kd.C_alloc ?_ _) | (with_reducible refine Kd.C_drewN ?_ _) | (with_reducible refine Kd.C_drew ?_)))
            (case side2 => exact HC1_2.out)
            rintro e w24 ⟨v272, rfl, ho0, hb⟩
            refine ⟨_, rfl, ?_⟩
            have n0_ := Aside0.mk (Kd.R_elder' (by (with_reducible repeat (first | apply Kd.R_alloc | apply Kd.R_drewN | apply Kd.R_drew)); exact HO276.out) (Kd.R_base ho0) hb)
            have n1_ := Aside0.mk (Kd.R_lower (Kd.R_new' ho0 (Kd.R_lt (by (with_reducible repeat (first | apply Kd.R_alloc | apply Kd.R_drewN | apply Kd.R_drew)); exact HO276.out))) (below_size (bw_ HB.out)))
            have n2_ := Aside0.mk (blk_below (bk_ BK266.out) hb)
            have n3_ := Aside0.mk (blk_below (bk_ BK267.out) hb)
            have n4_ := Aside0.mk (blk_below (bk_ BK268.out) hb)
            have n5_ := Aside0.mk (below_step (bw_ HB.out) hb)
            clear HO276
            clear BK266
            clear BK267
            clear BK268
            clear HB
            have HO276 := n0_
            have HO273 := n1_
            have BK266 := n2_
            have BK267 := n3_
            have BK268 := n4_
            have HB := n5_
            clear n0_ n1_ n2_ n3_ n4_ n5_
            (try clear hb)
            (try clear hb2)
            (try clear hk)
            (try clear hi)
            (try clear ho0)
            obtain ⟨Ao25, co25, eo25⟩ := Kd.R_slice HO273.out
            (first | subst eo25 | (injection eo25 with f1_ f2_ f3_; have f4_ := f1_.symm; have f5_ := f3_.symm; clear f1_ f2_ f3_; subst f4_; subst f5_))
            refine hK.out _ _ ⟨cz_ BK267.out 0, cz_ BK267.out 1, cz_ BK267.out 2⟩ (fun hHeld => ?_)
            clear hK K
            refine nS_ ?_
            refine pS_ 7 31 HT_ ?_
            exact norm_ (by first | (simp only [putAll, Act.put, List.setIfInBounds_toArray, List.set_cons_zero, List.set_cons_succ]; done) | (simp only [putAll, Act.put, List.setIfInBounds_toArray, List.set_cons_zero, List.set_cons_succ]; rfl)) (hJ6_8 (.slice Ao25 t271.length co25, v275) _ ⟨hHeld, (by (with_reducible repeat (first | apply Kd.R_alloc | apply Kd.R_drewN | apply Kd.R_drew)); exact Kd.R_mono HO273.out (fun _ hk => hk.2)), (by (with_reducible repeat (first | apply Kd.R_alloc | apply Kd.R_drewN | apply Kd.R_drew)); exact Kd.R_mono HO276.out (fun _ hk => hk.2)), (bk_ BK266.out), (bk_ BK267.out), (bk_ BK268.out), (bw_ HB.out)⟩)
           ·skip
            refine box_step ?hg (N := 6) ?hd (cs := #[.int .i64 0, .int .i64 0, .slice none 0 0]) (t := 34) ?hr ?_; (case hd => rfl); (case hg => rfl); (case hr => first | (go_simp; done) | (go_simp; rfl))
            intro gb277 hg w24 hbox hb
            have n0_ := Aside0.mk (Kd.R_below (by (with_reducible repeat (first | apply Kd.R_alloc | apply Kd.R_drewN | apply Kd.R_drew)); exact HO276.out) hb)
            have n1_ := Aside0.mk (blk_below (bk_ BK266.out) hb)
            have n2_ := Aside0.mk (blk_below (bk_ BK267.out) hb)
            have n3_ := Aside0.mk (blk_below (bk_ BK268.out) hb)
            have n4_ := Aside0.mk (below_step (bw_ HB.out) hb)
            have n5_ := Aside0.mk (hbox)
            have n6_ := Aside0.mk (gs_ hg (bw_ HB.out))
            have n7_ := Aside0.mk (gs_ hg (bw_ HB.out))
            have n8_ := Aside0.mk (nl_ hg (bk_ BK266.out))
            have n9_ := Aside0.mk (ng_ hg (bk_ BK266.out))
            have n10_ := Aside0.mk (nl_ hg (bk_ BK267.out))
            have n11_ := Aside0.mk (ng_ hg (bk_ BK267.out))
            have n12_ := Aside0.mk (nl_ hg (bk_ BK268.out))
            have n13_ := Aside0.mk (ng_ hg (bk_ BK268.out))
            clear HO276
            clear BK266
            clear BK267
            clear BK268
            clear HB
            have HO276 := n0_
            have BK266 := n1_
            have BK267 := n2_
            have BK268 := n3_
            have HB := n4_
            have BK277 := n5_
            have GW277 := n6_
            have GE277 := n7_
            have NB266_277 := n8_
            have NB277_266 := n9_
            have NB267_277 := n10_
            have NB277_267 := n11_
            have NB268_277 := n12_
            have NB277_268 := n13_
            clear n0_ n1_ n2_ n3_ n4_ n5_ n6_ n7_ n8_ n9_ n10_ n11_ n12_ n13_
            clear hb hbox hg
            refine hK.out _ _ ⟨cz_ BK267.out 0, cz_ BK267.out 1, cz_ BK267.out 2⟩ (fun hHeld => ?_)
            clear hK K
            refine nS_ ?_
            exact norm_ (by first | (simp only [putAll, Act.put, List.setIfInBounds_toArray, List.set_cons_zero, List.set_cons_succ]; done) | (simp only [putAll, Act.put, List.setIfInBounds_toArray, List.set_cons_zero, List.set_cons_succ]; rfl)) (hJ8_9 (v275, gb277) _ ⟨hHeld, (by (with_reducible repeat (first | apply Kd.R_alloc | apply Kd.R_drewN | apply Kd.R_drew)); exact HO276.out), (bk_ BK266.out), (bk_ BK267.out), (bk_ BK268.out), (bk_ BK277.out), GW277.out, GE277.out, NB266_277.out, NB277_266.out, NB267_277.out, NB277_267.out, NB268_277.out, NB277_268.out, (bw_ HB.out)⟩)
         ·skip
          rintro v272 w23 ⟨hS_, h0_, h1_, h2_, h3_, h4_⟩
          have n0_ : Aside0 (Kd.R (Kd.int .i64) 3 w23 w.heap.size (fun _ => True) v272 t271) := ⟨h0_⟩
          have n1_ : Aside0 (w23.heap[gb266]? = some (.cells #[.int .i64 a0_0, .slice A0_1 l0_1.length c0_1, .slice A0_2 l0_2.length c0_2] 32 (0, 0))) := ⟨h1_⟩
          have n2_ : Aside0 (w23.heap[gb267]? = some (.cells #[.int .i64 a1_0, .int .i64 a1_1, .slice A1_2 l1_2.length c1_2] 34 (0, 0))) := ⟨h2_⟩
          have n3_ : Aside0 (w23.heap[gb268]? = some (.cells #[.bool false, .int .i64 0, .int .i64 0, .slice none 0 0, .int .i64 0] 44 (0, 0))) := ⟨h3_⟩
          have n4_ : Aside0 (Below w.heap.size w w23) := ⟨h4_⟩
          clear BK266
          clear BK267
          clear BK268
          clear HB
          clear h0_ h1_ h2_ h3_ h4_
          have HO273 := n0_
          have BK266 := n1_
          have BK267 := n2_
          have BK268 := n3_
          have HB := n4_
          clear n0_ n1_ n2_ n3_ n4_
          have hHeld : w23.cell? ⟨gb267, 0, none⟩ = some (.int .i64 a1_0) ∧ w23.cell? ⟨gb267, 1, none⟩ = some (.int .i64 a1_1) ∧ w23.cell? ⟨gb267, 2, none⟩ = some (.slice A1_2 l1_2.length c1_2) := hS_
          obtain ⟨Ao24, co24, eo24⟩ := Kd.R_slice HO273.out
          (first | subst eo24 | (injection eo24 with f1_ f2_ f3_; have f4_ := f1_.symm; have f5_ := f3_.symm; clear f1_ f2_ f3_; subst f4_; subst f5_))
          refine norm_ (a' := ?_) ?_ ?_
          rotate_left
          ·simp only [putAll, Act.put, List.setIfInBounds_toArray, List.set_cons_zero, List.set_cons_succ]
           rfl
          refine two_ (i := 8) (j := 9) (Ni := some 32) (Nj := some 6) #[true, true, true, true, true, true, true, true, true, false, false, false, false] #[true, true, true, true, true, true, true, true, false, true, false, false, false] rfl rfl rfl rfl (two_of HT_.out (by kernel_rfl)) (by decide) (by decide) (fun K hK => ?_) (fun K hK => ?_)
          ·skip
           refine Kd.R_lit_step (Kd.int .i64) _ 3 ?hg (N := 32) ?hd (xs := ([] : List Int)) (inner := []) (ok := fun _ => True) (okp := fun _ => True) ?hr ?hp (fun _ hk => hk) trivial (Below.refl _ _) (Nat.le_refl _) (by simp) ?_; (case hd => rfl); (case hg => rfl); (case hr => first | (go_simp; done) | (go_simp; rfl)); (case hp => exact (Reps.none _ _))
           intro v275 w25 ho26 hb hg_ hnew_
           clear hg_ hnew_
           (first | rw [← Ny274.out] at ho26 | (simp only [Int.reduceToNat] at ho26; rw [← Ny274.out] at ho26))
           have n0_ := Aside0.mk (Kd.R_elder' (by (with_reducible repeat (first | apply Kd.R_alloc | apply Kd.R_drewN | apply Kd.R_drew)); exact HO273.out) (Kd.R_base ho26) hb)
           have n1_ := Aside0.mk (Kd.R_lower (Kd.R_new' ho26 (Kd.R_lt (by (with_reducible repeat (first | apply Kd.R_alloc | apply Kd.R_drewN | apply Kd.R_drew)); exact HO273.out))) (below_size (bw_ HB.out)))
           have n2_ := Aside0.mk (blk_below (bk_ BK266.out) hb)
           have n3_ := Aside0.mk (blk_below (bk_ BK267.out) hb)
           have n4_ := Aside0.mk (blk_below (bk_ BK268.out) hb)
           have n5_ := Aside0.mk (below_step (bw_ HB.out) hb)
           clear HO273
           clear BK266
           clear BK267
           clear BK268
           clear HB
           have HO273 := n0_
           have HO276 := n1_
           have BK266 := n2_
           have BK267 := n3_
           have BK268 := n4_
           have HB := n5_
           clear n0_ n1_ n2_ n3_ n4_ n5_
           clear hb ho26
           refine hK.out _ _ ⟨cz_ BK267.out 0, cz_ BK267.out 1, cz_ BK267.out 2⟩ (fun hHeld => ?_)
           clear hK K
           refine nS_ ?_
           exact norm_ (by first | (simp only [putAll, Act.put, List.setIfInBounds_toArray, List.set_cons_zero, List.set_cons_succ]; done) | (simp only [putAll, Act.put, List.setIfInBounds_toArray, List.set_cons_zero, List.set_cons_succ]; rfl)) (hJ6_8 (.slice Ao24 t271.length co24, v275) _ ⟨hHeld, (by (with_reducible repeat (first | apply Kd.R_alloc | apply Kd.R_drewN | apply Kd.R_drew)); exact Kd.R_mono HO273.out (fun _ hk => hk.2)), (by (with_reducible repeat (first | apply Kd.R_alloc | apply Kd.R_drewN | apply Kd.R_drew)); exact Kd.R_mono HO276.out (fun _ hk => hk.2)), (bk_ BK266.out), (bk_ BK267.out), (bk_ BK268.out), (bw_ HB.out)⟩)
          ·skip
           refine box_step ?hg (N := 6) ?hd (cs := #[.int .i64 0, .int .i64 0, .slice none 0 0]) (t := 34) ?hr ?_; (case hd => rfl); (case hg => rfl); (case hr => first | (go_simp; done) | (go_simp; rfl))
           intro gb277 hg w25 hbox hb
           have n0_ := Aside0.mk (Kd.R_below (by (with_reducible repeat (first | apply Kd.R_alloc | apply Kd.R_drewN | apply Kd.R_drew)); exact HO273.out) hb)
           have n1_ := Aside0.mk (blk_below (bk_ BK266.out) hb)
           have n2_ := Aside0.mk (blk_below (bk_ BK267.out) hb)
           have n3_ := Aside0.mk (blk_below (bk_ BK268.out) hb)
           have n4_ := Aside0.mk (below_step (bw_ HB.out) hb)
           have n5_ := Aside0.mk (hbox)
           have n6_ := Aside0.mk (gs_ hg (bw_ HB.out))
           have n7_ := Aside0.mk (gs_ hg (bw_ HB.out))
           have n8_ := Aside0.mk (nl_ hg (bk_ BK266.out))
           have n9_ := Aside0.mk (ng_ hg (bk_ BK266.out))
           have n10_ := Aside0.mk (nl_ hg (bk_ BK267.out))
           have n11_ := Aside0.mk (ng_ hg (bk_ BK267.out))
           have n12_ := Aside0.mk (nl_ hg (bk_ BK268.out))
           have n13_ := Aside0.mk (ng_ hg (bk_ BK268.out))
           clear HO273
           clear BK266
           clear BK267
           clear BK268
           clear HB
           have HO273 := n0_
           have BK266 := n1_
           have BK267 := n2_
           have BK268 := n3_
           have HB := n4_
           have BK277 := n5_
           have GW277 := n6_
           have GE277 := n7_
           have NB266_277 := n8_
           have NB277_266 := n9_
           have NB267_277 := n10_
           have NB277_267 := n11_
           have NB268_277 := n12_
           have NB277_268 := n13_
           clear n0_ n1_ n2_ n3_ n4_ n5_ n6_ n7_ n8_ n9_ n10_ n11_ n12_ n13_
           clear hb hbox hg
           refine hK.out _ _ ⟨cz_ BK267.out 0, cz_ BK267.out 1, cz_ BK267.out 2⟩ (fun hHeld => ?_)
           clear hK K
           refine nS_ ?_
           exact norm_ (by first | (simp only [putAll, Act.put, List.setIfInBounds_toArray, List.set_cons_zero, List.set_cons_succ]; done) | (simp only [putAll, Act.put, List.setIfInBounds_toArray, List.set_cons_zero, List.set_cons_succ]; rfl)) (hJ6_9 (.slice Ao24 t271.length co24, gb277) _ ⟨hHeld, (by (with_reducible repeat (first | apply Kd.R_alloc | apply Kd.R_drewN | apply Kd.R_drew)); exact HO273.out), (bk_ BK266.out), (bk_ BK267.out), (bk_ BK268.out), (bk_ BK277.out), GW277.out, GE277.out, NB266_277.out, NB277_266.out, NB267_277.out, NB277_267.out, NB268_277.out, NB277_268.out, (bw_ HB.out)⟩)
        ·skip
         rintro ⟨v275, gb277⟩ w24 ⟨hS_, h0_, h1_, h2_, h3_, h4_, h5_, h6_, h7_, h8_, h9_, h10_, h11_, h12_, h13_⟩
         have n0_ : Aside0 (Kd.R (Kd.int .i64) 3 w24 w.heap.size (fun _ => True) v275 y274) := ⟨h0_⟩
         have n1_ : Aside0 (w24.heap[gb266]? = some (.cells #[.int .i64 a0_0, .slice A0_1 l0_1.length c0_1, .slice A0_2 l0_2.length c0_2] 32 (0, 0))) := ⟨h1_⟩
         have n2_ : Aside0 (w24.heap[gb267]? = some (.cells #[.int .i64 a1_0, .int .i64 a1_1, .slice A1_2 l1_2.length c1_2] 34 (0, 0))) := ⟨h2_⟩
         have n3_ : Aside0 (w24.heap[gb268]? = some (.cells #[.bool false, .int .i64 0, .int .i64 0, .slice none 0 0, .int .i64 0] 44 (0, 0))) := ⟨h3_⟩
         have n4_ : Aside0 (w24.heap[gb277]? = some (.cells #[.int .i64 0, .int .i64 0, .slice none 0 0] 34 (0, 0))) := ⟨h4_⟩
         have n5_ : Aside0 (w.heap.size ≤ gb277) := ⟨h5_⟩
         have n6_ : Aside0 (w.heap.size ≤ gb277) := ⟨h6_⟩
         have n7_ : Aside0 (gb266 ≠ gb277) := ⟨h7_⟩
         have n8_ : Aside0 (gb277 ≠ gb266) := ⟨h8_⟩
         have n9_ : Aside0 (gb267 ≠ gb277) := ⟨h9_⟩
         have n10_ : Aside0 (gb277 ≠ gb267) := ⟨h10_⟩
         have n11_ : Aside0 (gb268 ≠ gb277) := ⟨h11_⟩
         have n12_ : Aside0 (gb277 ≠ gb268) := ⟨h12_⟩
         have n13_ : Aside0 (Below w.heap.size w w24) := ⟨h13_⟩
         clear BK266
         clear BK267
         clear BK268
         clear HB
         clear h0_ h1_ h2_ h3_ h4_ h5_ h6_ h7_ h8_ h9_ h10_ h11_ h12_ h13_
         have HO276 := n0_
         have BK266 := n1_
         have BK267 := n2_
         have BK268 := n3_
         have BK277 := n4_
         have GW277 := n5_
         have GE277 := n6_
         have NB266_277 := n7_
         have NB277_266 := n8_
         have NB267_277 := n9_
         have NB277_267 := n10_
         have NB268_277 := n11_
         have NB277_268 := n12_
         have HB := n13_
         clear n0_ n1_ n2_ n3_ n4_ n5_ n6_ n7_ n8_ n9_ n10_ n11_ n12_ n13_
         have hHeld : w24.cell? ⟨gb267, 0, none⟩ = some (.int .i64 a1_0) ∧ w24.cell? ⟨gb267, 1, none⟩ = some (.int .i64 a1_1) ∧ w24.cell? ⟨gb267, 2, none⟩ = some (.slice A1_2 l1_2.length c1_2) := hS_
         refine norm_ (a' := ?_) ?_ ?_
         rotate_left
         ·simp only [putAll, Act.put, List.setIfInBounds_toArray, List.set_cons_zero, List.set_cons_succ]
          rfl
         refine oS_ 6 30 HT_ (fun K hK => ?_)
         refine goes_ Try.func38 (by kernel_rfl) rfl #[.slice A1_2 l1_2.length c1_2] (by rfl) rfl rfl (by (try simp only [List.map_toArray, List.map_cons, List.map_nil]); first | done | rfl | (simp only [List.length_drop, List.length_take]; rfl)) ?_
         with_reducible refine (slices_Clone_int_int.calls _ _ l1_2 t271 _ ?side1 ?side2 A7.out).mono ?_
         (case side1 => repeat (first | exact (Kd.C_below HR1_2.out HB.out) | (with_reducible refine Kd.C_alloc ?_ _) | (with_reducible refine Kd.C_drewN ?_ _) | (with_reducible refine Kd.C_drew ?_)))
         (case side2 => exact HC1_2.out)
         rintro e w25 ⟨v272, rfl, ho0, hb⟩
         refine ⟨_, rfl, ?_⟩
         have n0_ := Aside0.mk (Kd.R_elder' (by (with_reducible repeat (first | apply Kd.R_alloc | apply Kd.R_drewN | apply Kd.R_drew)); exact HO276.out) (Kd.R_base ho0) hb)
         have n1_ := Aside0.mk (Kd.R_lower (Kd.R_new' ho0 (Kd.R_lt (by (with_reducible repeat (first | apply Kd.R_alloc | apply Kd.R_drewN | apply Kd.R_drew)); exact HO276.out))) (below_size (bw_ HB.out)))
         have n2_ := Aside0.mk (blk_below (bk_ BK266.out) hb)
         have n3_ := Aside0.mk (blk_below (bk_ BK267.out) hb)
         have n4_ := Aside0.mk (blk_below (bk_ BK268.out) hb)
         have n5_ := Aside0.mk (blk_below (bk_ BK277.out) hb)
         have n6_ := Aside0.mk (below_step (bw_ HB.out) hb)
         clear HO276
         clear BK266
         clear BK267
         clear BK268
         clear BK277
         clear HB
         have HO276 := n0_
         have HO273 := n1_
         have BK266 := n2_
         have BK267 := n3_
         have BK268 := n4_
         have BK277 := n5_
         have HB := n6_
         clear n0_ n1_ n2_ n3_ n4_ n5_ n6_
         (try clear hb)
         (try clear hb2)
         (try clear hk)
         (try clear hi)
         (try clear ho0)
         obtain ⟨Ao26, co26, eo26⟩ := Kd.R_slice HO273.out
         (first | subst eo26 | (injection eo26 with f1_ f2_ f3_; have f4_ := f1_.symm; have f5_ := f3_.symm; clear f1_ f2_ f3_; subst f4_; subst f5_))
         refine hK.out _ _ ⟨cz_ BK267.out 0, cz_ BK267.out 1, cz_ BK267.out 2⟩ (fun hHeld => ?_)
         clear hK K
         refine nS_ ?_
         refine pS_ 7 31 HT_ ?_
         exact norm_ (by first | (simp only [putAll, Act.put, List.setIfInBounds_toArray, List.set_cons_zero, List.set_cons_succ]; done) | (simp only [putAll, Act.put, List.setIfInBounds_toArray, List.set_cons_zero, List.set_cons_succ]; rfl)) (hJ6_8_9 (.slice Ao26 t271.length co26, v275, gb277) _ ⟨hHeld, (by (with_reducible repeat (first | apply Kd.R_alloc | apply Kd.R_drewN | apply Kd.R_drew)); exact Kd.R_mono HO273.out (fun _ hk => hk.2)), (by (with_reducible repeat (first | apply Kd.R_alloc | apply Kd.R_drewN | apply Kd.R_drew)); exact Kd.R_mono HO276.out (fun _ hk => hk.2)), (bk_ BK266.out), (bk_ BK267.out), (bk_ BK268.out), (bk_ BK277.out), GW277.out, GE277.out, NB266_277.out, NB277_266.out, NB267_277.out, NB277_267.out, NB268_277.out, NB277_268.out, (bw_ HB.out)⟩)
       ·skip
        rintro ⟨v272, gb277⟩ w24 ⟨hS_, h0_, h1_, h2_, h3_, h4_, h5_, h6_, h7_, h8_, h9_, h10_, h11_, h12_, h13_⟩
        have n0_ : Aside0 (Kd.R (Kd.int .i64) 3 w24 w.heap.size (fun _ => True) v272 t271) := ⟨h0_⟩
        have n1_ : Aside0 (w24.heap[gb266]? = some (.cells #[.int .i64 a0_0, .slice A0_1 l0_1.length c0_1, .slice A0_2 l0_2.length c0_2] 32 (0, 0))) := ⟨h1_⟩
        have n2_ : Aside0 (w24.heap[gb267]? = some (.cells #[.int .i64 a1_0, .int .i64 a1_1, .slice A1_2 l1_2.length c1_2] 34 (0, 0))) := ⟨h2_⟩
        have n3_ : Aside0 (w24.heap[gb268]? = some (.cells #[.bool false, .int .i64 0, .int .i64 0, .slice none 0 0, .int .i64 0] 44 (0, 0))) := ⟨h3_⟩
        have n4_ : Aside0 (w24.heap[gb277]? = some (.cells #[.int .i64 0, .int .i64 0, .slice none 0 0] 34 (0, 0))) := ⟨h4_⟩
        have n5_ : Aside0 (w.heap.size ≤ gb277) := ⟨h5_⟩
        have n6_ : Aside0 (w.heap.size ≤ gb277) := ⟨h6_⟩
        have n7_ : Aside0 (gb266 ≠ gb277) := ⟨h7_⟩
        have n8_ : Aside0 (gb277 ≠ gb266) := ⟨h8_⟩
        have n9_ : Aside0 (gb267 ≠ gb277) := ⟨h9_⟩
        have n10_ : Aside0 (gb277 ≠ gb267) := ⟨h10_⟩
        have n11_ : Aside0 (gb268 ≠ gb277) := ⟨h11_⟩
        have n12_ : Aside0 (gb277 ≠ gb268) := ⟨h12_⟩
        have n13_ : Aside0 (Below w.heap.size w w24) := ⟨h13_⟩
        clear BK266
        clear BK267
        clear BK268
        clear HB
        clear h0_ h1_ h2_ h3_ h4_ h5_ h6_ h7_ h8_ h9_ h10_ h11_ h12_ h13_
        have HO273 := n0_
        have BK266 := n1_
        have BK267 := n2_
        have BK268 := n3_
        have BK277 := n4_
        have GW277 := n5_
        have GE277 := n6_
        have NB266_277 := n7_
        have NB277_266 := n8_
        have NB267_277 := n9_
        have NB277_267 := n10_
        have NB268_277 := n11_
        have NB277_268 := n12_
        have HB := n13_
        clear n0_ n1_ n2_ n3_ n4_ n5_ n6_ n7_ n8_ n9_ n10_ n11_ n12_ n13_
        have hHeld : w24.cell? ⟨gb267, 0, none⟩ = some (.int .i64 a1_0) ∧ w24.cell? ⟨gb267, 1, none⟩ = some (.int .i64 a1_1) ∧ w24.cell? ⟨gb267, 2, none⟩ = some (.slice A1_2 l1_2.length c1_2) := hS_
        obtain ⟨Ao25, co25, eo25⟩ := Kd.R_slice HO273.out
        (first | subst eo25 | (injection eo25 with f1_ f2_ f3_; have f4_ := f1_.symm; have f5_ := f3_.symm; clear f1_ f2_ f3_; subst f4_; subst f5_))
        refine norm_ (a' := ?_) ?_ ?_
        rotate_left
        ·simp only [putAll, Act.put, List.setIfInBounds_toArray, List.set_cons_zero, List.set_cons_succ]
         rfl
        refine two_ (i := 8) (j := 10) (Ni := some 32) (Nj := none) #[true, true, true, true, true, true, true, true, true, true, false, false, false] #[true, true, true, true, true, true, true, true, false, true, true, false, false] rfl rfl rfl rfl (two_of HT_.out (by kernel_rfl)) (by decide) (by decide) (fun K hK => ?_) (fun K hK => ?_)
        ·skip
         refine Kd.R_lit_step (Kd.int .i64) _ 3 ?hg (N := 32) ?hd (xs := ([] : List Int)) (inner := []) (ok := fun _ => True) (okp := fun _ => True) ?hr ?hp (fun _ hk => hk) trivial (Below.refl _ _) (Nat.le_refl _) (by simp) ?_; (case hd => rfl); (case hg => rfl); (case hr => first | (go_simp; done) | (go_simp; rfl)); (case hp => exact (Reps.none _ _))
         intro v275 w26 ho27 hb hg_ hnew_
         clear hg_ hnew_
         (first | rw [← Ny274.out] at ho27 | (simp only [Int.reduceToNat] at ho27; rw [← Ny274.out] at ho27))
         have n0_ := Aside0.mk (Kd.R_elder' (by (with_reducible repeat (first | apply Kd.R_alloc | apply Kd.R_drewN | apply Kd.R_drew)); exact HO273.out) (Kd.R_base ho27) hb)
         have n1_ := Aside0.mk (Kd.R_lower (Kd.R_new' ho27 (Kd.R_lt (by (with_reducible repeat (first | apply Kd.R_alloc | apply Kd.R_drewN | apply Kd.R_drew)); exact HO273.out))) (below_size (bw_ HB.out)))
         have n2_ := Aside0.mk (blk_below (bk_ BK266.out) hb)
         have n3_ := Aside0.mk (blk_below (bk_ BK267.out) hb)
         have n4_ := Aside0.mk (blk_below (bk_ BK268.out) hb)
         have n5_ := Aside0.mk (blk_below (bk_ BK277.out) hb)
         have n6_ := Aside0.mk (below_step (bw_ HB.out) hb)
         clear HO273
         clear BK266
         clear BK267
         clear BK268
         clear BK277
         clear HB
         have HO273 := n0_
         have HO276 := n1_
         have BK266 := n2_
         have BK267 := n3_
         have BK268 := n4_
         have BK277 := n5_
         have HB := n6_
         clear n0_ n1_ n2_ n3_ n4_ n5_ n6_
         clear hb ho27
         refine hK.out _ _ ⟨cz_ BK267.out 0, cz_ BK267.out 1, cz_ BK267.out 2⟩ (fun hHeld => ?_)
         clear hK K
         refine nS_ ?_
         exact norm_ (by first | (simp only [putAll, Act.put, List.setIfInBounds_toArray, List.set_cons_zero, List.set_cons_succ]; done) | (simp only [putAll, Act.put, List.setIfInBounds_toArray, List.set_cons_zero, List.set_cons_succ]; rfl)) (hJ6_8_9 (.slice Ao25 t271.length co25, v275, gb277) _ ⟨hHeld, (by (with_reducible repeat (first | apply Kd.R_alloc | apply Kd.R_drewN | apply Kd.R_drew)); exact Kd.R_mono HO273.out (fun _ hk => hk.2)), (by (with_reducible repeat (first | apply Kd.R_alloc | apply Kd.R_drewN | apply Kd.R_drew)); exact Kd.R_mono HO276.out (fun _ hk => hk.2)), (bk_ BK266.out), (bk_ BK267.out), (bk_ BK268.out), (bk_ BK277.out), GW277.out, GE277.out, NB266_277.out, NB277_266.out, NB267_277.out, NB277_267.out, NB268_277.out, NB277_268.out, (bw_ HB.out)⟩)
        ·skip
         have hs26 : w24.cell? ⟨gb277, 0, none⟩ = some (.int .i64 0) := cz_ BK277.out 0
         have hfs26 := blk_frozen BK277.out 0
         have hns26_0 := NB266_277.out
         have hns26_1 := NB267_277.out
         have hns26_2 := NB268_277.out
         have hms26_0 := NB277_266.out
         have hms26_1 := NB277_267.out
         have hms26_2 := NB277_268.out
         have hs27 : w24.cell? ⟨gb277, 1, none⟩ = some (.int .i64 0) := cz_ BK277.out 1
         have hfs27 := blk_frozen BK277.out 1
         have hns27_0 := NB266_277.out
         have hns27_1 := NB267_277.out
         have hns27_2 := NB268_277.out
         have hms27_0 := NB277_266.out
         have hms27_1 := NB277_267.out
         have hms27_2 := NB277_268.out
         have hs28 : w24.cell? ⟨gb277, 2, none⟩ = some (.slice none 0 0) := cz_ BK277.out 2
         have hfs28 := blk_frozen BK277.out 2
         have hns28_0 := NB266_277.out
         have hns28_1 := NB267_277.out
         have hns28_2 := NB268_277.out
         have hms28_0 := NB277_266.out
         have hms28_1 := NB277_267.out
         have hms28_2 := NB277_268.out
         refine skip_ (w1 := ?_) (by rfl) rfl ?_ ?_
         rotate_left
         ·go_simp
          rfl
         refine hK.out _ _ ⟨((cell_far (p := ⟨gb277, _, none⟩) NB267_277.out _).trans (((cell_far (p := ⟨gb277, _, none⟩) NB267_277.out _).trans (((cell_far (p := ⟨gb277, _, none⟩) NB267_277.out _).trans (hHeld.1)))))), ((cell_far (p := ⟨gb277, _, none⟩) NB267_277.out _).trans (((cell_far (p := ⟨gb277, _, none⟩) NB267_277.out _).trans (((cell_far (p := ⟨gb277, _, none⟩) NB267_277.out _).trans (hHeld.2.1)))))), ((cell_far (p := ⟨gb277, _, none⟩) NB267_277.out _).trans (((cell_far (p := ⟨gb277, _, none⟩) NB267_277.out _).trans (((cell_far (p := ⟨gb277, _, none⟩) NB267_277.out _).trans (hHeld.2.2))))))⟩ (fun hHeld => ?_)
         clear hK K
         exact norm_ (by first | (simp only [putAll, Act.put, List.setIfInBounds_toArray, List.set_cons_zero, List.set_cons_succ]; done) | (simp only [putAll, Act.put, List.setIfInBounds_toArray, List.set_cons_zero, List.set_cons_succ]; rfl)) (hJ6_9_10 (.slice Ao25 t271.length co25, gb277) _ ⟨hHeld, (by (with_reducible repeat (first | apply Kd.R_alloc | apply Kd.R_drewN | apply Kd.R_drew)); exact Kd.R_mono (Kd.R_far (p := ⟨gb277, 2, none⟩) (Kd.R_far (p := ⟨gb277, 1, none⟩) (Kd.R_far (p := ⟨gb277, 0, none⟩) (Kd.R_types HO273.out BK277.out (by decide)) (fun _ hk => hk.2) (.int .i64 a1_0)) (fun _ hk => hk.2) (.int .i64 a1_1)) (fun _ hk => hk.2) (.slice Ao25 t271.length co25)) (fun _ hk => trivial)), (by (with_reducible repeat (first | refine blk_drewN ?_ _ | refine blk_drew ?_ | refine blk_alloc ?_ _)); refine blk_far ?_ NB266_277.out _; (with_reducible repeat (first | refine blk_drewN ?_ _ | refine blk_drew ?_ | refine blk_alloc ?_ _)); refine blk_far ?_ NB266_277.out _; (with_reducible repeat (first | refine blk_drewN ?_ _ | refine blk_drew ?_ | refine blk_alloc ?_ _)); refine blk_far ?_ NB266_277.out _; (with_reducible repeat (first | refine blk_drewN ?_ _ | refine blk_drew ?_ | refine blk_alloc ?_ _)); exact BK266.out), (by (with_reducible repeat (first | refine blk_drewN ?_ _ | refine blk_drew ?_ | refine blk_alloc ?_ _)); refine blk_far ?_ NB267_277.out _; (with_reducible repeat (first | refine blk_drewN ?_ _ | refine blk_drew ?_ | refine blk_alloc ?_ _)); refine blk_far ?_ NB267_277.out _; (with_reducible repeat (first | refine blk_drewN ?_ _ | refine blk_drew ?_ | refine blk_alloc ?_ _)); refine blk_far ?_ NB267_277.out _; (with_reducible repeat (first | refine blk_drewN ?_ _ | refine blk_drew ?_ | refine blk_alloc ?_ _)); exact BK267.out), (by (with_reducible repeat (first | refine blk_drewN ?_ _ | refine blk_drew ?_ | refine blk_alloc ?_ _)); refine blk_far ?_ NB268_277.out _; (with_reducible repeat (first | refine blk_drewN ?_ _ | refine blk_drew ?_ | refine blk_alloc ?_ _)); refine blk_far ?_ NB268_277.out _; (with_reducible repeat (first | refine blk_drewN ?_ _ | refine blk_drew ?_ | refine blk_alloc ?_ _)); refine blk_far ?_ NB268_277.out _; (with_reducible repeat (first | refine blk_drewN ?_ _ | refine blk_drew ?_ | refine blk_alloc ?_ _)); exact BK268.out), (by (with_reducible repeat (first | refine blk_drewN ?_ _ | refine blk_drew ?_ | refine blk_alloc ?_ _)); refine blk_put (cs := #[.int .i64 a1_0, .int .i64 a1_1, .slice none 0 0]) ?_ 2 _ rfl; (with_reducible repeat (first | refine blk_drewN ?_ _ | refine blk_drew ?_ | refine blk_alloc ?_ _)); refine blk_put (cs := #[.int .i64 a1_0, .int .i64 0, .slice none 0 0]) ?_ 1 _ rfl; (with_reducible repeat (first | refine blk_drewN ?_ _ | refine blk_drew ?_ | refine blk_alloc ?_ _)); refine blk_put (cs := #[.int .i64 0, .int .i64 0, .slice none 0 0]) ?_ 0 _ rfl; (with_reducible repeat (first | refine blk_drewN ?_ _ | refine blk_drew ?_ | refine blk_alloc ?_ _)); exact BK277.out), GW277.out, GE277.out, NB266_277.out, NB277_266.out, NB267_277.out, NB277_267.out, NB268_277.out, NB277_268.out, (bw_ HB.out)⟩)
      ·skip
       rintro ⟨v272, v275⟩ w25 ⟨hS_, h0_, h1_, h2_, h3_, h4_, h5_⟩
       have n0_ : Aside0 (Kd.R (Kd.int .i64) 3 w25 w.heap.size (fun k_ => some k_ ≠ (v275 : Value).ownBlock) v272 t271) := ⟨h0_⟩
       have n1_ : Aside0 (Kd.R (Kd.int .i64) 3 w25 w.heap.size (fun k_ => some k_ ≠ (v272 : Value).ownBlock) v275 y274) := ⟨h1_⟩
       have n2_ : Aside0 (w25.heap[gb266]? = some (.cells #[.int .i64 a0_0, .slice A0_1 l0_1.length c0_1, .slice A0_2 l0_2.length c0_2] 32 (0, 0))) := ⟨h2_⟩
       have n3_ : Aside0 (w25.heap[gb267]? = some (.cells #[.int .i64 a1_0, .int .i64 a1_1, .slice A1_2 l1_2.length c1_2] 34 (0, 0))) := ⟨h3_⟩
       have n4_ : Aside0 (w25.heap[gb268]? = some (.cells #[.bool false, .int .i64 0, .int .i64 0, .slice none 0 0, .int .i64 0] 44 (0, 0))) := ⟨h4_⟩
       have n5_ : Aside0 (Below w.heap.size w w25) := ⟨h5_⟩
       clear BK266
       clear BK267
       clear BK268
       clear HB
       clear h0_ h1_ h2_ h3_ h4_ h5_
       have HO273 := n0_
       have HO276 := n1_
       have BK266 := n2_
       have BK267 := n3_
       have BK268 := n4_
       have HB := n5_
       clear n0_ n1_ n2_ n3_ n4_ n5_
       have hHeld : w25.cell? ⟨gb267, 0, none⟩ = some (.int .i64 a1_0) ∧ w25.cell? ⟨gb267, 1, none⟩ = some (.int .i64 a1_1) ∧ w25.cell? ⟨gb267, 2, none⟩ = some (.slice A1_2 l1_2.length c1_2) := hS_
       obtain ⟨Ao26, co26, eo26⟩ := Kd.R_slice HO273.out
       (first | subst eo26 | (injection eo26 with f1_ f2_ f3_; have f4_ := f1_.symm; have f5_ := f3_.symm; clear f1_ f2_ f3_; subst f4_; subst f5_))
       refine norm_ (a' := ?_) ?_ ?_
       rotate_left
       ·simp only [putAll, Act.put, List.setIfInBounds_toArray, List.set_cons_zero, List.set_cons_succ]
        rfl
       refine oS_ 9 6 HT_ (fun K hK => ?_)
       refine box_step ?hg (N := 6) ?hd (cs := #[.int .i64 0, .int .i64 0, .slice none 0 0]) (t := 34) ?hr ?_; (case hd => rfl); (case hg => rfl); (case hr => first | (go_simp; done) | (go_simp; rfl))
       intro gb277 hg w27 hbox hb
       have n0_ := Aside0.mk (Kd.R_below (by (with_reducible repeat (first | apply Kd.R_alloc | apply Kd.R_drewN | apply Kd.R_drew)); exact HO273.out) hb)
       have n1_ := Aside0.mk (Kd.R_below (by (with_reducible repeat (first | apply Kd.R_alloc | apply Kd.R_drewN | apply Kd.R_drew)); exact HO276.out) hb)
       have n2_ := Aside0.mk (blk_below (bk_ BK266.out) hb)
       have n3_ := Aside0.mk (blk_below (bk_ BK267.out) hb)
       have n4_ := Aside0.mk (blk_below (bk_ BK268.out) hb)
       have n5_ := Aside0.mk (below_step (bw_ HB.out) hb)
       have n6_ := Aside0.mk (hbox)
       have n7_ := Aside0.mk (gs_ hg (bw_ HB.out))
       have n8_ := Aside0.mk (gs_ hg (bw_ HB.out))
       have n9_ := Aside0.mk (nl_ hg (bk_ BK266.out))
       have n10_ := Aside0.mk (ng_ hg (bk_ BK266.out))
       have n11_ := Aside0.mk (nl_ hg (bk_ BK267.out))
       have n12_ := Aside0.mk (ng_ hg (bk_ BK267.out))
       have n13_ := Aside0.mk (nl_ hg (bk_ BK268.out))
       have n14_ := Aside0.mk (ng_ hg (bk_ BK268.out))
       clear HO273
       clear HO276
       clear BK266
       clear BK267
       clear BK268
       clear HB
       have HO273 := n0_
       have HO276 := n1_
       have BK266 := n2_
       have BK267 := n3_
       have BK268 := n4_
       have HB := n5_
       have BK277 := n6_
       have GW277 := n7_
       have GE277 := n8_
       have NB266_277 := n9_
       have NB277_266 := n10_
       have NB267_277 := n11_
       have NB277_267 := n12_
       have NB268_277 := n13_
       have NB277_268 := n14_
       clear n0_ n1_ n2_ n3_ n4_ n5_ n6_ n7_ n8_ n9_ n10_ n11_ n12_ n13_ n14_
       clear hb hbox hg
       refine hK.out _ _ ⟨cz_ BK267.out 0, cz_ BK267.out 1, cz_ BK267.out 2⟩ (fun hHeld => ?_)
       clear hK K
       refine nS_ ?_
       exact norm_ (by first | (simp only [putAll, Act.put, List.setIfInBounds_toArray, List.set_cons_zero, List.set_cons_succ]; done) | (simp only [putAll, Act.put, List.setIfInBounds_toArray, List.set_cons_zero, List.set_cons_succ]; rfl)) (hJ6_8_9 (.slice Ao26 t271.length co26, v275, gb277) _ ⟨hHeld, (by (with_reducible repeat (first | apply Kd.R_alloc | apply Kd.R_drewN | apply Kd.R_drew)); exact HO273.out), (by (with_reducible repeat (first | apply Kd.R_alloc | apply Kd.R_drewN | apply Kd.R_drew)); exact HO276.out), (bk_ BK266.out), (bk_ BK267.out), (bk_ BK268.out), (bk_ BK277.out), GW277.out, GE277.out, NB266_277.out, NB277_266.out, NB267_277.out, NB277_267.out, NB268_277.out, NB277_268.out, (bw_ HB.out)⟩)
     ·skip
      rintro ⟨v272, gb277⟩ w27 ⟨hS_, h0_, h1_, h2_, h3_, h4_, h5_, h6_, h7_, h8_, h9_, h10_, h11_, h12_, h13_⟩
      have n0_ : Aside0 (Kd.R (Kd.int .i64) 3 w27 w.heap.size (fun _ => True) v272 t271) := ⟨h0_⟩
      have n1_ : Aside0 (w27.heap[gb266]? = some (.cells #[.int .i64 a0_0, .slice A0_1 l0_1.length c0_1, .slice A0_2 l0_2.length c0_2] 32 (0, 0))) := ⟨h1_⟩
      have n2_ : Aside0 (w27.heap[gb267]? = some (.cells #[.int .i64 a1_0, .int .i64 a1_1, .slice A1_2 l1_2.length c1_2] 34 (0, 0))) := ⟨h2_⟩
      have n3_ : Aside0 (w27.heap[gb268]? = some (.cells #[.bool false, .int .i64 0, .int .i64 0, .slice none 0 0, .int .i64 0] 44 (0, 0))) := ⟨h3_⟩
      have n4_ : Aside0 (w27.heap[gb277]? = some (.cells #[.int .i64 a1_0, .int .i64 a1_1, v272] 34 (0, 0))) := ⟨h4_⟩
      have n5_ : Aside0 (w.heap.size ≤ gb277) := ⟨h5_⟩
      have n6_ : Aside0 (w.heap.size ≤ gb277) := ⟨h6_⟩
      have n7_ : Aside0 (gb266 ≠ gb277) := ⟨h7_⟩
      have n8_ : Aside0 (gb277 ≠ gb266) := ⟨h8_⟩
      have n9_ : Aside0 (gb267 ≠ gb277) := ⟨h9_⟩
      have n10_ : Aside0 (gb277 ≠ gb267) := ⟨h10_⟩
      have n11_ : Aside0 (gb268 ≠ gb277) := ⟨h11_⟩
      have n12_ : Aside0 (gb277 ≠ gb268) := ⟨h12_⟩
      have n13_ : Aside0 (Below w.heap.size w w27) := ⟨h13_⟩
      clear BK266
      clear BK267
      clear BK268
      clear HB
      clear h0_ h1_ h2_ h3_ h4_ h5_ h6_ h7_ h8_ h9_ h10_ h11_ h12_ h13_
      have HO273 := n0_
      have BK266 := n1_
      have BK267 := n2_
      have BK268 := n3_
      have BK277 := n4_
      have GW277 := n5_
      have GE277 := n6_
      have NB266_277 := n7_
      have NB277_266 := n8_
      have NB267_277 := n9_
      have NB277_267 := n10_
      have NB268_277 := n11_
      have NB277_268 := n12_
      have HB := n13_
      clear n0_ n1_ n2_ n3_ n4_ n5_ n6_ n7_ n8_ n9_ n10_ n11_ n12_ n13_
      have hHeld : w27.cell? ⟨gb267, 0, none⟩ = some (.int .i64 a1_0) ∧ w27.cell? ⟨gb267, 1, none⟩ = some (.int .i64 a1_1) ∧ w27.cell? ⟨gb267, 2, none⟩ = some (.slice A1_2 l1_2.length c1_2) := hS_
      obtain ⟨Ao28, co28, eo28⟩ := Kd.R_slice HO273.out
      (first | subst eo28 | (injection eo28 with f1_ f2_ f3_; have f4_ := f1_.symm; have f5_ := f3_.symm; clear f1_ f2_ f3_; subst f4_; subst f5_))
      refine norm_ (a' := ?_) ?_ ?_
      rotate_left
      ·simp only [putAll, Act.put, List.setIfInBounds_toArray, List.set_cons_zero, List.set_cons_succ]
       rfl
      refine oS_ 8 32 HT_ (fun K hK => ?_)
      refine Kd.R_lit_step (Kd.int .i64) _ 3 ?hg (N := 32) ?hd (xs := ([] : List Int)) (inner := []) (ok := fun _ => True) (okp := fun _ => True) ?hr ?hp (fun _ hk => hk) trivial (Below.refl _ _) (Nat.le_refl _) (by simp) ?_; (case hd => rfl); (case hg => rfl); (case hr => first | (go_simp; done) | (go_simp; rfl)); (case hp => exact (Reps.none _ _))
      intro v275 w29 ho30 hb hg_ hnew_
      clear hg_ hnew_
      (first | rw [← Ny274.out] at ho30 | (simp only [Int.reduceToNat] at ho30; rw [← Ny274.out] at ho30))
      have n0_ := Aside0.mk (Kd.R_elder' (by (with_reducible repeat (first | apply Kd.R_alloc | apply Kd.R_drewN | apply Kd.R_drew)); exact HO273.out) (Kd.R_base ho30) hb)
      have n1_ := Aside0.mk (Kd.R_lower (Kd.R_new' ho30 (Kd.R_lt (by (with_reducible repeat (first | apply Kd.R_alloc | apply Kd.R_drewN | apply Kd.R_drew)); exact HO273.out))) (below_size (bw_ HB.out)))
      have n2_ := Aside0.mk (blk_below (bk_ BK266.out) hb)
      have n3_ := Aside0.mk (blk_below (bk_ BK267.out) hb)
      have n4_ := Aside0.mk (blk_below (bk_ BK268.out) hb)
      have n5_ := Aside0.mk (blk_below (bk_ BK277.out) hb)
      have n6_ := Aside0.mk (below_step (bw_ HB.out) hb)
      clear HO273
      clear BK266
      clear BK267
      clear BK268
      clear BK277
      clear HB
      have HO273 := n0_
      have HO276 := n1_
      have BK266 := n2_
      have BK267 := n3_
      have BK268 := n4_
      have BK277 := n5_
      have HB := n6_
      clear n0_ n1_ n2_ n3_ n4_ n5_ n6_
      clear hb ho30
      refine hK.out _ _ ⟨cz_ BK267.out 0, cz_ BK267.out 1, cz_ BK267.out 2⟩ (fun hHeld => ?_)
      clear hK K
      refine nS_ ?_
      exact norm_ (by first | (simp only [putAll, Act.put, List.setIfInBounds_toArray, List.set_cons_zero, List.set_cons_succ]; done) | (simp only [putAll, Act.put, List.setIfInBounds_toArray, List.set_cons_zero, List.set_cons_succ]; rfl)) (hJ6_8_9_10 (.slice Ao28 t271.length co28, v275, gb277) _ ⟨hHeld, (by (with_reducible repeat (first | apply Kd.R_alloc | apply Kd.R_drewN | apply Kd.R_drew)); exact Kd.R_mono HO273.out (fun _ hk => hk.2)), (by (with_reducible repeat (first | apply Kd.R_alloc | apply Kd.R_drewN | apply Kd.R_drew)); exact Kd.R_mono HO276.out (fun _ hk => hk.2)), (bk_ BK266.out), (bk_ BK267.out), (bk_ BK268.out), (bk_ BK277.out), GW277.out, GE277.out, NB266_277.out, NB277_266.out, NB267_277.out, NB277_267.out, NB268_277.out, NB277_268.out, (bw_ HB.out)⟩)
    ·skip
     rintro ⟨v272, v275, gb277⟩ w26 ⟨hS_, h0_, h1_, h2_, h3_, h4_, h5_, h6_, h7_, h8_, h9_, h10_, h11_, h12_, h13_, h14_⟩
     have n0_ : Aside0 (Kd.R (Kd.int .i64) 3 w26 w.heap.size (fun k_ => some k_ ≠ (v275 : Value).ownBlock) v272 t271) := ⟨h0_⟩
     have n1_ : Aside0 (Kd.R (Kd.int .i64) 3 w26 w.heap.size (fun k_ => some k_ ≠ (v272 : Value).ownBlock) v275 y274) := ⟨h1_⟩
     have n2_ : Aside0 (w26.heap[gb266]? = some (.cells #[.int .i64 a0_0, .slice A0_1 l0_1.length c0_1, .slice A0_2 l0_2.length c0_2] 32 (0, 0))) := ⟨h2_⟩
     have n3_ : Aside0 (w26.heap[gb267]? = some (.cells #[.int .i64 a1_0, .int .i64 a1_1, .slice A1_2 l1_2.length c1_2] 34 (0, 0))) := ⟨h3_⟩
     have n4_ : Aside0 (w26.heap[gb268]? = some (.cells #[.bool false, .int .i64 0, .int .i64 0, .slice none 0 0, .int .i64 0] 44 (0, 0))) := ⟨h4_⟩
     have n5_ : Aside0 (w26.heap[gb277]? = some (.cells #[.int .i64 0, .int .i64 0, .slice none 0 0] 34 (0, 0))) := ⟨h5_⟩
     have n6_ : Aside0 (w.heap.size ≤ gb277) := ⟨h6_⟩
     have n7_ : Aside0 (w.heap.size ≤ gb277) := ⟨h7_⟩
     have n8_ : Aside0 (gb266 ≠ gb277) := ⟨h8_⟩
     have n9_ : Aside0 (gb277 ≠ gb266) := ⟨h9_⟩
     have n10_ : Aside0 (gb267 ≠ gb277) := ⟨h10_⟩
     have n11_ : Aside0 (gb277 ≠ gb267) := ⟨h11_⟩
     have n12_ : Aside0 (gb268 ≠ gb277) := ⟨h12_⟩
     have n13_ : Aside0 (gb277 ≠ gb268) := ⟨h13_⟩
     have n14_ : Aside0 (Below w.heap.size w w26) := ⟨h14_⟩
     clear BK266
     clear BK267
     clear BK268
     clear HB
     clear h0_ h1_ h2_ h3_ h4_ h5_ h6_ h7_ h8_ h9_ h10_ h11_ h12_ h13_ h14_
     have HO273 := n0_
     have HO276 := n1_
     have BK266 := n2_
     have BK267 := n3_
     have BK268 := n4_
     have BK277 := n5_
     have GW277 := n6_
     have GE277 := n7_
     have NB266_277 := n8_
     have NB277_266 := n9_
     have NB267_277 := n10_
     have NB277_267 := n11_
     have NB268_277 := n12_
     have NB277_268 := n13_
     have HB := n14_
     clear n0_ n1_ n2_ n3_ n4_ n5_ n6_ n7_ n8_ n9_ n10_ n11_ n12_ n13_ n14_
     have hHeld : w26.cell? ⟨gb267, 0, none⟩ = some (.int .i64 a1_0) ∧ w26.cell? ⟨gb267, 1, none⟩ = some (.int .i64 a1_1) ∧ w26.cell? ⟨gb267, 2, none⟩ = some (.slice A1_2 l1_2.length c1_2) := hS_
     obtain ⟨Ao27, co27, eo27⟩ := Kd.R_slice HO273.out
     (first | subst eo27 | (injection eo27 with f1_ f2_ f3_; have f4_ := f1_.symm; have f5_ := f3_.symm; clear f1_ f2_ f3_; subst f4_; subst f5_))
     refine norm_ (a' := ?_) ?_ ?_
     rotate_left
     ·simp only [putAll, Act.put, List.setIfInBounds_toArray, List.set_cons_zero, List.set_cons_succ]
      rfl
     refine one_ (i := 10) (N := none) #[true, true, true, true, true, true, true, true, true, true, true, false, false] rfl rfl (one_of HT_.out (by kernel_rfl)) (by decide) (fun K hK => ?_)
     have hs28 : w26.cell? ⟨gb277, 0, none⟩ = some (.int .i64 0) := cz_ BK277.out 0
     have hfs28 := blk_frozen BK277.out 0
     have hns28_0 := NB266_277.out
     have hns28_1 := NB267_277.out
     have hns28_2 := NB268_277.out
     have hms28_0 := NB277_266.out
     have hms28_1 := NB277_267.out
     have hms28_2 := NB277_268.out
     have hs29 : w26.cell? ⟨gb277, 1, none⟩ = some (.int .i64 0) := cz_ BK277.out 1
     have hfs29 := blk_frozen BK277.out 1
     have hns29_0 := NB266_277.out
     have hns29_1 := NB267_277.out
     have hns29_2 := NB268_277.out
     have hms29_0 := NB277_266.out
     have hms29_1 := NB277_267.out
     have hms29_2 := NB277_268.out
     have hs30 : w26.cell? ⟨gb277, 2, none⟩ = some (.slice none 0 0) := cz_ BK277.out 2
     have hfs30 := blk_frozen BK277.out 2
     have hns30_0 := NB266_277.out
     have hns30_1 := NB267_277.out
     have hns30_2 := NB268_277.out
     have hms30_0 := NB277_266.out
     have hms30_1 := NB277_267.out
     have hms30_2 := NB277_268.out
     refine skip_ (w1 := ?_) (by rfl) rfl ?_ ?_
     rotate_left
     ·go_simp
      rfl
     refine hK.out _ _ ⟨((cell_far (p := ⟨gb277, _, none⟩) NB267_277.out _).trans (((cell_far (p := ⟨gb277, _, none⟩) NB267_277.out _).trans (((cell_far (p := ⟨gb277, _, none⟩) NB267_277.out _).trans (hHeld.1)))))), ((cell_far (p := ⟨gb277, _, none⟩) NB267_277.out _).trans (((cell_far (p := ⟨gb277, _, none⟩) NB267_277.out _).trans (((cell_far (p := ⟨gb277, _, none⟩) NB267_277.out _).trans (hHeld.2.1)))))), ((cell_far (p := ⟨gb277, _, none⟩) NB267_277.out _).trans (((cell_far (p := ⟨gb277, _, none⟩) NB267_277.out _).trans (((cell_far (p := ⟨gb277, _, none⟩) NB267_277.out _).trans (hHeld.2.2))))))⟩ (fun hHeld => ?_)
     clear hK K
     exact norm_ (by first | (simp only [putAll, Act.put, List.setIfInBounds_toArray, List.set_cons_zero, List.set_cons_succ]; done) | (simp only [putAll, Act.put, List.setIfInBounds_toArray, List.set_cons_zero, List.set_cons_succ]; rfl)) (hJ6_8_9_10 (.slice Ao27 t271.length co27, v275, gb277) _ ⟨hHeld, (by (with_reducible repeat (first | apply Kd.R_alloc | apply Kd.R_drewN | apply Kd.R_drew)); exact Kd.R_mono (Kd.R_far (p := ⟨gb277, 2, none⟩) (Kd.R_far (p := ⟨gb277, 1, none⟩) (Kd.R_far (p := ⟨gb277, 0, none⟩) (Kd.R_types HO273.out BK277.out (by decide)) (fun _ hk => hk.2) (.int .i64 a1_0)) (fun _ hk => hk.2) (.int .i64 a1_1)) (fun _ hk => hk.2) (.slice Ao27 t271.length co27)) (fun _ hk => hk.1)), (by (with_reducible repeat (first | apply Kd.R_alloc | apply Kd.R_drewN | apply Kd.R_drew)); exact Kd.R_mono (Kd.R_far (p := ⟨gb277, 2, none⟩) (Kd.R_far (p := ⟨gb277, 1, none⟩) (Kd.R_far (p := ⟨gb277, 0, none⟩) (Kd.R_types HO276.out BK277.out (by decide)) (fun _ hk => hk.2) (.int .i64 a1_0)) (fun _ hk => hk.2) (.int .i64 a1_1)) (fun _ hk => hk.2) (.slice Ao27 t271.length co27)) (fun _ hk => hk.1)), (by (with_reducible repeat (first | refine blk_drewN ?_ _ | refine blk_drew ?_ | refine blk_alloc ?_ _)); refine blk_far ?_ NB266_277.out _; (with_reducible repeat (first | refine blk_drewN ?_ _ | refine blk_drew ?_ | refine blk_alloc ?_ _)); refine blk_far ?_ NB266_277.out _; (with_reducible repeat (first | refine blk_drewN ?_ _ | refine blk_drew ?_ | refine blk_alloc ?_ _)); refine blk_far ?_ NB266_277.out _; (with_reducible repeat (first | refine blk_drewN ?_ _ | refine blk_drew ?_ | refine blk_alloc ?_ _)); exact BK266.out), (by (with_reducible repeat (first | refine blk_drewN ?_ _ | refine blk_drew ?_ | refine blk_alloc ?_ _)); refine blk_far ?_ NB267_277.out _; (with_reducible repeat (first | refine blk_drewN ?_ _ | refine blk_drew ?_ | refine blk_alloc ?_ _)); refine blk_far ?_ NB267_277.out _; (with_reducible repeat (first | refine blk_drewN ?_ _ | refine blk_drew ?_ | refine blk_alloc ?_ _)); refine blk_far ?_ NB267_277.out _; (with_reducible repeat (first | refine blk_drewN ?_ _ | refine blk_drew ?_ | refine blk_alloc ?_ _)); exact BK267.out), (by (with_reducible repeat (first | refine blk_drewN ?_ _ | refine blk_drew ?_ | refine blk_alloc ?_ _)); refine blk_far ?_ NB268_277.out _; (with_reducible repeat (first | refine blk_drewN ?_ _ | refine blk_drew ?_ | refine blk_alloc ?_ _)); refine blk_far ?_ NB268_277.out _; (with_reducible repeat (first | refine blk_drewN ?_ _ | refine blk_drew ?_ | refine blk_alloc ?_ _)); refine blk_far ?_ NB268_277.out _; (with_reducible repeat (first | refine blk_drewN ?_ _ | refine blk_drew ?_ | refine blk_alloc ?_ _)); exact BK268.out), (by (with_reducible repeat (first | refine blk_drewN ?_ _ | refine blk_drew ?_ | refine blk_alloc ?_ _)); refine blk_put (cs := #[.int .i64 a1_0, .int .i64 a1_1, .slice none 0 0]) ?_ 2 _ rfl; (with_reducible repeat (first | refine blk_drewN ?_ _ | refine blk_drew ?_ | refine blk_alloc ?_ _)); refine blk_put (cs := #[.int .i64 a1_0, .int .i64 0, .slice none 0 0]) ?_ 1 _ rfl; (with_reducible repeat (first | refine blk_drewN ?_ _ | refine blk_drew ?_ | refine blk_alloc ?_ _)); refine blk_put (cs := #[.int .i64 0, .int .i64 0, .slice none 0 0]) ?_ 0 _ rfl; (with_reducible repeat (first | refine blk_drewN ?_ _ | refine blk_drew ?_ | refine blk_alloc ?_ _)); exact BK277.out), GW277.out, GE277.out, NB266_277.out, NB277_266.out, NB267_277.out, NB277_267.out, NB268_277.out, NB277_268.out, (bw_ HB.out)⟩)
   rintro ⟨v272, v275, gb277⟩ w29 ⟨hS_, h0_, h1_, h2_, h3_, h4_, h5_, h6_, h7_, h8_, h9_, h10_, h11_, h12_, h13_, h14_⟩
   have n0_ : Aside0 (Kd.R (Kd.int .i64) 3 w29 w.heap.size (fun k_ => some k_ ≠ (v275 : Value).ownBlock) v272 t271) := ⟨h0_⟩
   have n1_ : Aside0 (Kd.R (Kd.int .i64) 3 w29 w.heap.size (fun k_ => some k_ ≠ (v272 : Value).ownBlock) v275 y274) := ⟨h1_⟩
   have n2_ : Aside0 (w29.heap[gb266]? = some (.cells #[.int .i64 a0_0, .slice A0_1 l0_1.length c0_1, .slice A0_2 l0_2.length c0_2] 32 (0, 0))) := ⟨h2_⟩
   have n3_ : Aside0 (w29.heap[gb267]? = some (.cells #[.int .i64 a1_0, .int .i64 a1_1, .slice A1_2 l1_2.length c1_2] 34 (0, 0))) := ⟨h3_⟩
   have n4_ : Aside0 (w29.heap[gb268]? = some (.cells #[.bool false, .int .i64 0, .int .i64 0, .slice none 0 0, .int .i64 0] 44 (0, 0))) := ⟨h4_⟩
   have n5_ : Aside0 (w29.heap[gb277]? = some (.cells #[.int .i64 a1_0, .int .i64 a1_1, v272] 34 (0, 0))) := ⟨h5_⟩
   have n6_ : Aside0 (w.heap.size ≤ gb277) := ⟨h6_⟩
   have n7_ : Aside0 (w.heap.size ≤ gb277) := ⟨h7_⟩
   have n8_ : Aside0 (gb266 ≠ gb277) := ⟨h8_⟩
   have n9_ : Aside0 (gb277 ≠ gb266) := ⟨h9_⟩
   have n10_ : Aside0 (gb267 ≠ gb277) := ⟨h10_⟩
   have n11_ : Aside0 (gb277 ≠ gb267) := ⟨h11_⟩
   have n12_ : Aside0 (gb268 ≠ gb277) := ⟨h12_⟩
   have n13_ : Aside0 (gb277 ≠ gb268) := ⟨h13_⟩
   have n14_ : Aside0 (Below w.heap.size w w29) := ⟨h14_⟩
   clear BK266
   clear BK267
   clear BK268
   clear HB
   clear h0_ h1_ h2_ h3_ h4_ h5_ h6_ h7_ h8_ h9_ h10_ h11_ h12_ h13_ h14_
   have HO273 := n0_
   have HO276 := n1_
   have BK266 := n2_
   have BK267 := n3_
   have BK268 := n4_
   have BK277 := n5_
   have GW277 := n6_
   have GE277 := n7_
   have NB266_277 := n8_
   have NB277_266 := n9_
   have NB267_277 := n10_
   have NB277_267 := n11_
   have NB268_277 := n12_
   have NB277_268 := n13_
   have HB := n14_
   clear n0_ n1_ n2_ n3_ n4_ n5_ n6_ n7_ n8_ n9_ n10_ n11_ n12_ n13_ n14_
   have hHeld : w29.cell? ⟨gb267, 0, none⟩ = some (.int .i64 a1_0) ∧ w29.cell? ⟨gb267, 1, none⟩ = some (.int .i64 a1_1) ∧ w29.cell? ⟨gb267, 2, none⟩ = some (.slice A1_2 l1_2.length c1_2) := hS_
   obtain ⟨Ao30, co30, eo30⟩ := Kd.R_slice HO273.out
   (first | subst eo30 | (injection eo30 with f1_ f2_ f3_; have f4_ := f1_.symm; have f5_ := f3_.symm; clear f1_ f2_ f3_; subst f4_; subst f5_))
   refine norm_ (a' := ?_) ?_ ?_
   rotate_left
   ·simp only [putAll, Act.put, List.setIfInBounds_toArray, List.set_cons_zero, List.set_cons_succ]
    rfl
   refine pS_ 11 7 HT_ ?_
   refine pS_ 12 8 HT_ ?_
   refine done_ (done_of HT_.out (by kernel_rfl)) ?_
   have hnb31 := NB267_277.out
   have hnc31 := NB277_267.out
   have hcz32_0 := cz_ BK267.out 0
   have hcz32_1 := cz_ BK267.out 1
   have hcz32_2 := cz_ BK267.out 2
   have hfz32_0 := blk_frozen BK267.out 0
   have hfz32_1 := blk_frozen BK267.out 1
   have hfz32_2 := blk_frozen BK267.out 2
   try go_wp2
   go_loopg [7, 36] k (fun kq v7 v36 w' => ∃ (x7_1 : List Int) (x36_1 : Int), v36 = .int .i64 x36_1 ∧ Aside0 (impl_FillField.l0 kq x7_1 0 l1_2 (l1_2.length : Int) x36_1 a0_0 l0_1 l0_2 a1_0 a1_1 t271 = some (r1, r2, r3, r4, r5, r6)) ∧ Aside0 (kq ≤ k) ∧ Aside0 (Kd.R (Kd.int .i64) 3 w' w.heap.size (fun k_ => some k_ ≠ ((.slice Ao30 t271.length co30) : Value).ownBlock) v7 x7_1) ∧ Aside0 (Kd.R (Kd.int .i64) 3 w' w.heap.size (fun k_ => some k_ ≠ (v7 : Value).ownBlock) (.slice Ao30 t271.length co30) t271) ∧ Aside0 (w'.heap[gb266]? = some (.cells #[.int .i64 a0_0, (.slice A0_1 l0_1.length c0_1), (.slice A0_2 l0_2.length c0_2)] 32 (0, 0))) ∧ Aside0 (w'.heap[gb267]? = some (.cells #[.int .i64 a1_0, .int .i64 a1_1, (.slice A1_2 l1_2.length c1_2)] 34 (0, 0))) ∧ Aside0 (w'.heap[gb268]? = some (.cells #[.bool false, .int .i64 0, .int .i64 0, (.slice none 0 0), .int .i64 0] 44 (0, 0))) ∧ Aside0 (w'.heap[gb277]? = some (.cells #[.int .i64 a1_0, .int .i64 a1_1, (.slice Ao30 t271.length co30)] 34 (0, 0))) ∧ Aside0 (Below w.heap.size w w'))
   case atStart => exact ⟨(y274), (0), (by first | rfl | (simp; done) | (simp [*]; done) | (simp [wrap64]; done)), H', ⟨Nat.le_refl _⟩, ⟨by (with_reducible repeat (first | apply Kd.R_alloc | apply Kd.R_drewN | apply Kd.R_drew)); exact HO276.out⟩, ⟨by (with_reducible repeat (first | apply Kd.R_alloc | apply Kd.R_drewN | apply Kd.R_drew)); exact HO273.out⟩, ⟨by (with_reducible repeat (first | refine blk_drewN ?_ _ | refine blk_drew ?_ | refine blk_alloc ?_ _)); exact BK266.out⟩, ⟨by (with_reducible repeat (first | refine blk_drewN ?_ _ | refine blk_drew ?_ | refine blk_alloc ?_ _)); exact BK267.out⟩, ⟨by (with_reducible repeat (first | refine blk_drewN ?_ _ | refine blk_drew ?_ | refine blk_alloc ?_ _)); exact BK268.out⟩, ⟨by (with_reducible repeat (first | refine blk_drewN ?_ _ | refine blk_drew ?_ | refine blk_alloc ?_ _)); exact BK277.out⟩, ⟨bw_ HB.out⟩⟩
   case round =>
    clear H'
    try clear c1
    try clear p2
    try clear c3
    try clear c31
    try clear hcz32_0
    try clear hcz32_1
    try clear hcz32_2
    try clear hfz32_0
    try clear hfz32_1
    try clear hfz32_2
    obtain ⟨x7_1, x36_1, rfl, HA, HK1, HO_7, HO_278002, BK266, BK267, BK268, BK277, HB⟩ := hrel
    cases gk with
    | zero => exact absurd HA.out (by simp [impl_FillField.l0])
    | succ k1 =>
     have H := HA.out
     clear HA
     simp only [impl_FillField.l0] at H
     by_cases c33 : x36_1 < (l1_2.length : Int)
     ·rw [if_pos c33] at H
      have c33b0 : decide (x36_1 < (l1_2.length : Int)) = true := decide_eq_true c33
      clear c33
      by_cases c34 : 0 ≤ x36_1
      ·rw [if_pos c34] at H
       have c34b0 : decide (0 ≤ x36_1) = true := decide_eq_true c34
       clear c34
       by_cases c35 : x36_1 < (l1_2.length : Int)
       ·rw [if_pos c35] at H
        have c35b0 : decide (x36_1 < (l1_2.length : Int)) = true := decide_eq_true c35
        clear c35
        by_cases c36 : (rd l1_2 x36_1) < 0
        ·rw [if_pos c36] at H
         have c36b0 : decide ((rd l1_2 x36_1) < 0) = true := decide_eq_true c36
         clear c36
         by_cases c37 : x7_1.length < 17592186044416
         ·rw [if_pos c37] at H
          have LMc37 := Aside0.mk c37
          clear c37
          obtain ⟨y279, hy279⟩ : ∃ y_ : List Int, y_ = (x7_1 ++ [x36_1]) := ⟨_, rfl⟩
          replace H : (impl_FillField.l0 k1 y279 0 l1_2 (l1_2.length : Int) (wrap64 (x36_1 + 1)) a0_0 l0_1 l0_2 a1_0 a1_1 t271) = some (r1, r2, r3, r4, r5, r6) := by first | (rw [hy279]; with_reducible exact H) | (have H2_ := (Option.bind_some _ _).symm.trans H; rw [hy279]; with_reducible exact H2_) | (have H2_ := (Option.bind_some _ _).symm.trans H; with_reducible exact H2_) | with_reducible exact H | (rw [hy279]; exact H) | exact H
          have Ny279 := Aside0.mk hy279
          clear hy279
          have H' := Aside0.mk H
          clear H
          have p278 : 0 ≤ (x36_1 : Int) := of_decide_eq_true (by first | (with_reducible assumption) | assumption)
          have q278 : x36_1 < (l1_2.length : Int) := of_decide_eq_true (by first | (with_reducible assumption) | assumption)
          obtain ⟨ad278, e278, hx278_0⟩ := Kd.at_int HR1_2.out x36_1 p278 q278
          cases e278
          (try replace hx278_0 := (HB.out.cell (World.block_lt_of_cell? w _ hx278_0)).trans hx278_0)
          replace p278 := eq_true p278
          replace q278 := eq_true q278
          go_wp2_with (first | ((with_reducible refine gate_builtin (b := .append) (xs := #[.tmp 43, .tmp 45]) rfl ?_); at_builtin; refine Kd.R_append (Kd.int .i64) (w0 := w) w.heap.size rfl (.tmp 43) (.tmp 45) 25 3 (.int .i64 0) 8 rfl Try.underlying25 info3 rfl (by decide) (by omega) u7 x7_1 x36_1 [.int .i64 x36_1] (fun k_ => some k_ ≠ (.slice Ao30 t271.length co30 : Value).ownBlock) (fun _ => False) rfl rfl ?aP (fun _ hk => hk.elim) ?aF ?aO ?aB ?aS ?aL ?_; (case aP => exact rfl); (case aB => exact (bw_ HB.out)); (case aF => exact (fun k_ hk => Kd.fresh' (Kd.R_lt (by (with_reducible repeat (first | apply Kd.R_alloc | apply Kd.R_drewN | apply Kd.R_drew)); exact HO_278002.out)) k_ hk)); (case aO => exact (by (with_reducible repeat (first | apply Kd.R_alloc | apply Kd.R_drewN | apply Kd.R_drew)); exact HO_7.out)); (case aS => exact (below_size (bw_ HB.out))); (case aL => have := LMc37.out; omega); intro v280 w38 ho hb hg hat; rw [← Ny279.out] at ho; have n0_ := Aside0.mk (Kd.R_after (ok := (fun _ => True)) (by (with_reducible repeat (first | apply Kd.R_alloc | apply Kd.R_drewN | apply Kd.R_drew)); exact Kd.R_mono HO_278002.out (fun _ hk => ⟨trivial, hk⟩)) hg hat); have n1_ := Aside0.mk (blk_grown (bk_ BK266.out) hg (Kd.R_ne HO_7.out BK266.out (by decide))); have n2_ := Aside0.mk (blk_grown (bk_ BK267.out) hg (Kd.R_ne HO_7.out BK267.out (by decide))); have n3_ := Aside0.mk (blk_grown (bk_ BK268.out) hg (Kd.R_ne HO_7.out BK268.out (by decide))); have n4_ := Aside0.mk (blk_grown (bk_ BK277.out) hg (Kd.R_ne HO_7.out BK277.out (by decide))); have n5_ := Aside0.mk (hb); have n6_ := Aside0.mk (ho); clear HO_278002; clear BK266; clear BK267; clear BK268; clear BK277; clear HB; clear HO_7; have HO_278002 := n0_; have BK266 := n1_; have BK267 := n2_; have BK268 := n3_; have BK277 := n4_; have HB := n5_; have HO281 := n6_; clear n0_ n1_ n2_ n3_ n4_ n5_ n6_; clear ho hb hg hat))
          go_roundg k1
          case measure => have := HK1.out; omega
          case rel => exact ⟨(y279), (wrap64 (x36_1 + 1)), (by first | rfl | (simp; done) | (simp [*]; done) | (simp [wrap64]; done)), H', ⟨by have := HK1.out; omega⟩, ⟨by (with_reducible repeat (first | apply Kd.R_alloc | apply Kd.R_drewN | apply Kd.R_drew)); exact HO281.out⟩, ⟨by (with_reducible repeat (first | apply Kd.R_alloc | apply Kd.R_drewN | apply Kd.R_drew)); exact Kd.R_mono HO_278002.out (fun _ hk => hk.2)⟩, ⟨by (with_reducible repeat (first | refine blk_drewN ?_ _ | refine blk_drew ?_ | refine blk_alloc ?_ _)); exact BK266.out⟩, ⟨by (with_reducible repeat (first | refine blk_drewN ?_ _ | refine blk_drew ?_ | refine blk_alloc ?_ _)); exact BK267.out⟩, ⟨by (with_reducible repeat (first | refine blk_drewN ?_ _ | refine blk_drew ?_ | refine blk_alloc ?_ _)); exact BK268.out⟩, ⟨by (with_reducible repeat (first | refine blk_drewN ?_ _ | refine blk_drew ?_ | refine blk_alloc ?_ _)); exact BK277.out⟩, ⟨bw_ HB.out⟩⟩
         ·rw [if_neg c37] at H
          exact absurd H (by simp)
        ·rw [if_neg c36] at H
         have c36b0 : decide ((rd l1_2 x36_1) < 0) = false := decide_eq_false c36
         clear c36
         have H' := Aside0.mk H
         clear H
         have p278 : 0 ≤ (x36_1 : Int) := of_decide_eq_true (by first | (with_reducible assumption) | assumption)
         have q278 : x36_1 < (l1_2.length : Int) := of_decide_eq_true (by first | (with_reducible assumption) | assumption)
         obtain ⟨ad278, e278, hx278_0⟩ := Kd.at_int HR1_2.out x36_1 p278 q278
         cases e278
         (try replace hx278_0 := (HB.out.cell (World.block_lt_of_cell? w _ hx278_0)).trans hx278_0)
         replace p278 := eq_true p278
         replace q278 := eq_true q278
         go_wp2
         go_roundg k1
         case measure => have := HK1.out; omega
         case rel => exact ⟨(x7_1), (wrap64 (x36_1 + 1)), (by first | rfl | (simp; done) | (simp [*]; done) | (simp [wrap64]; done)), H', ⟨by have := HK1.out; omega⟩, ⟨by (with_reducible repeat (first | apply Kd.R_alloc | apply Kd.R_drewN | apply Kd.R_drew)); exact HO_7.out⟩, ⟨by (with_reducible repeat (first | apply Kd.R_alloc | apply Kd.R_drewN | apply Kd.R_drew)); exact HO_278002.out⟩, ⟨by (with_reducible repeat (first | refine blk_drewN ?_ _ | refine blk_drew ?_ | refine blk_alloc ?_ _)); exact BK266.out⟩, ⟨by (with_reducible repeat (first | refine blk_drewN ?_ _ | refine blk_drew ?_ | refine blk_alloc ?_ _)); exact BK267.out⟩, ⟨by (with_reducible repeat (first | refine blk_drewN ?_ _ | refine blk_drew ?_ | refine blk_alloc ?_ _)); exact BK268.out⟩, ⟨by (with_reducible repeat (first | refine blk_drewN ?_ _ | refine blk_drew ?_ | refine blk_alloc ?_ _)); exact BK277.out⟩, ⟨bw_ HB.out⟩⟩
       ·rw [if_neg c35] at H
        exact absurd H (by simp)
      ·rw [if_neg c34] at H
       exact absurd H (by simp)
     ·rw [if_neg c33] at H
      have c33b0 : decide (x36_1 < (l1_2.length : Int)) = false := decide_eq_false c33
      clear c33
      have H' := Aside0.mk H
      clear H
      go_wp2
      go_loopg [8, 11] k1 (fun kq v8 v11 w' => ∃ (x7_2 : List Int) (x8_2 : Int) (x11_2 : Int) (x269000_2 : Bool) (x269001_2 : Int) (x269002_2 : Int) (x269004_2 : Int) (x278002_2 : List Int) (u278002 : Value), v8 = .int .i64 x8_2 ∧ v11 = .int .i64 x11_2 ∧ Aside0 (impl_FillField.l1 kq x7_2 x8_2 x11_2 a0_0 l0_1 l0_2 a1_0 a1_1 x278002_2 = some (r1, r2, r3, r4, r5, r6)) ∧ Aside0 (kq ≤ k1) ∧ Aside0 (Kd.R (Kd.int .i64) 3 w' w.heap.size (fun k_ => some k_ ≠ (u278002 : Value).ownBlock) u7 x7_2) ∧ Aside0 (Kd.R (Kd.int .i64) 3 w' w.heap.size (fun k_ => some k_ ≠ (u7 : Value).ownBlock) u278002 x278002_2) ∧ Aside0 (w'.heap[gb266]? = some (.cells #[.int .i64 a0_0, (.slice A0_1 l0_1.length c0_1), (.slice A0_2 l0_2.length c0_2)] 32 (0, 0))) ∧ Aside0 (w'.heap[gb267]? = some (.cells #[.int .i64 a1_0, .int .i64 a1_1, (.slice A1_2 l1_2.length c1_2)] 34 (0, 0))) ∧ Aside0 (w'.heap[gb268]? = some (.cells #[.bool x269000_2, .int .i64 x269001_2, .int .i64 x269002_2, (.slice none 0 0), .int .i64 x269004_2] 44 (0, 0))) ∧ Aside0 (w'.heap[gb277]? = some (.cells #[.int .i64 a1_0, .int .i64 a1_1, u278002] 34 (0, 0))) ∧ Aside0 (Below w.heap.size w w'))
      case atStart => exact ⟨(x7_1), (0), (0), (false), (0), (0), (0), (t271), (.slice Ao30 t271.length co30), (by first | rfl | (simp; done) | (simp [*]; done) | (simp [wrap64]; done)), (by first | rfl | (simp; done) | (simp [*]; done) | (simp [wrap64]; done)), H', ⟨Nat.le_refl _⟩, ⟨by (with_reducible repeat (first | apply Kd.R_alloc | apply Kd.R_drewN | apply Kd.R_drew)); exact HO_7.out⟩, ⟨by (with_reducible repeat (first | apply Kd.R_alloc | apply Kd.R_drewN | apply Kd.R_drew)); exact HO_278002.out⟩, ⟨by (with_reducible repeat (first | refine blk_drewN ?_ _ | refine blk_drew ?_ | refine blk_alloc ?_ _)); exact BK266.out⟩, ⟨by (with_reducible repeat (first | refine blk_drewN ?_ _ | refine blk_drew ?_ | refine blk_alloc ?_ _)); exact BK267.out⟩, ⟨by (with_reducible repeat (first | refine blk_drewN ?_ _ | refine blk_drew ?_ | refine blk_alloc ?_ _)); exact BK268.out⟩, ⟨by (with_reducible repeat (first | refine blk_drewN ?_ _ | refine blk_drew ?_ | refine blk_alloc ?_ _)); exact BK277.out⟩, ⟨bw_ HB.out⟩⟩
      case round =>
       clear H'
       try clear c1
       try clear p2
       try clear q2
       try clear hx2
       try clear c3
       try clear p6
       try clear p27
       try clear q27
       try clear hx27
       try clear c31
       try clear c33
       try clear c33b0
       try clear c34
       try clear c34b0
       try clear c35
       try clear c35b0
       try clear c36
       try clear c36b0
       try clear c37
       try clear c38
       try clear hcz32_0
       try clear hcz32_1
       try clear hcz32_2
       try clear hfz32_0
       try clear hfz32_1
       try clear hfz32_2
       try clear hx278_0
       try clear p2
       try clear p278
       try clear q278
       obtain ⟨x7_2, x8_2, x11_2, x269000_2, x269001_2, x269002_2, x269004_2, x278002_2, u278002, rfl, rfl, HA, HK2, HO_7, HO_278002, BK266, BK267, BK268, BK277, HB⟩ := hrel
       cases gk with
       | zero => exact absurd HA.out (by simp [impl_FillField.l1])
       | succ k2 =>
        have H := HA.out
        clear HA
        simp only [impl_FillField.l1] at H
        by_cases c39 : x11_2 < (x7_2.length : Int)
        ·rw [if_pos c39] at H
         have c39b0 : decide (x11_2 < (x7_2.length : Int)) = true := decide_eq_true c39
         clear c39
         by_cases c40 : 0 ≤ x11_2
         ·rw [if_pos c40] at H
          have c40b0 : decide (0 ≤ x11_2) = true := decide_eq_true c40
          clear c40
          by_cases c41 : 0 ≤ (rd x7_2 x11_2)
          ·rw [if_pos c41] at H
           have c41b0 : decide (0 ≤ (rd x7_2 x11_2)) = true := decide_eq_true c41
           clear c41
           by_cases c42 : (rd x7_2 x11_2) < (x278002_2.length : Int)
           ·rw [if_pos c42] at H
            have c42b0 : decide ((rd x7_2 x11_2) < (x278002_2.length : Int)) = true := decide_eq_true c42
            clear c42
            obtain ⟨y284, hy284⟩ : ∃ y_ : List Int, y_ = (x278002_2.set ((rd x7_2 x11_2) : Int).toNat (-1)) := ⟨_, rfl⟩
            replace H : (impl_FillField.l2 k2 x7_2 x8_2 x11_2 (rd x7_2 x11_2) (wrap64 ((rd x278002_2 (rd x7_2 x11_2)) + 1)) a0_0 l0_1 l0_2 a1_0 a1_1 y284) = some (r1, r2, r3, r4, r5, r6) := by first | (rw [hy284]; with_reducible exact H) | (have H2_ := (Option.bind_some _ _).symm.trans H; rw [hy284]; with_reducible exact H2_) | (have H2_ := (Option.bind_some _ _).symm.trans H; with_reducible exact H2_) | with_reducible exact H | (rw [hy284]; exact H) | exact H
            have Ny284 := Aside0.mk hy284
            clear hy284
            have HC44 := Aside0.mk H
            clear H
            obtain ⟨Ao45, co45, eo45⟩ := Kd.R_slice HO_7.out
            subst eo45
            have p282 : 0 ≤ (x11_2 : Int) := of_decide_eq_true (by first | (with_reducible assumption) | assumption)
            have q282 : x11_2 < (x7_2.length : Int) := of_decide_eq_true (by first | (with_reducible assumption) | assumption)
            obtain ⟨ad282, e282, hx282_0⟩ := Kd.at_int (Kd.R_reads' HO_7.out).2.2 x11_2 p282 q282
            cases e282
            replace p282 := eq_true p282
            replace q282 := eq_true q282
            have hnb46 := NB277_266.out
            have hnc46 := NB266_277.out
            have hnb47 := NB277_267.out
            have hnc47 := NB267_277.out
            have hnb48 := NB277_268.out
            have hnc48 := NB268_277.out
            have hcz49_0 := cz_ BK277.out 0
            have hcz49_1 := cz_ BK277.out 1
            have hcz49_2 := cz_ BK277.out 2
            have hfz49_0 := blk_frozen BK277.out 0
            have hfz49_1 := blk_frozen BK277.out 1
            have hfz49_2 := blk_frozen BK277.out 2
            obtain ⟨Ao50, co50, eo50⟩ := Kd.R_slice HO_278002.out
            subst eo50
            have p283 : 0 ≤ ((rd x7_2 x11_2) : Int) := of_decide_eq_true (by first | (with_reducible assumption) | assumption)
            have q283 : (rd x7_2 x11_2) < (x278002_2.length : Int) := of_decide_eq_true (by first | (with_reducible assumption) | assumption)
            obtain ⟨ad283, e283, hx283_0⟩ := Kd.at_int (Kd.R_reads' HO_278002.out).2.2 (rd x7_2 x11_2) p283 q283
            cases e283
            replace p283 := eq_true p283
            replace q283 := eq_true q283
            have p43 : 0 ≤ ((rd x7_2 x11_2) : Int) := of_decide_eq_true (by first | (with_reducible assumption) | assumption)
            have q43 : ((rd x7_2 x11_2) : Int) < ((x278002_2.length : Int) : Int) := of_decide_eq_true (by first | (with_reducible assumption) | assumption)
            obtain ⟨go43, co43, eo43, gb43, gl43, cl43, HG43⟩ := Kd.R_form HO_278002.out (by omega)
            (first | cases eo43 | (injection eo43 with ea_ en_ ec_; (first | subst ea_ | (injection ea_ with ea_; subst ea_)); subst ec_; clear en_))
            have GB43 := Aside0.mk gb43
            have GG43 := Aside0.mk HG43
            clear gb43 gl43 HG43
            (first | simp only [add_plain] at hx283_0 | skip)
            obtain ⟨hx43_0, hf43_0⟩ := Kd.R_celln 0 HO_278002.out ((rd x7_2 x11_2) : Int) p43 q43
            replace p43 := eq_true p43
            replace q43 := eq_true q43
            have HP51 := Kd.R_putg HO_278002.out ((rd x7_2 x11_2) : Int) (-1)
            go_upto_block 4 with (first | ((with_reducible refine gate_store (t := 3) (p := 65) rfl ?_); refine se_ 3 65 (wr.setCell ⟨go43, ((rd x7_2 x11_2) : Int).toNat, none⟩ (.int .i64 (-1))) ?_; intro w52 hw; have hg : wr.grownBy w52 (some go43) := (by rw [hw]; exact HP51.2); have hp_ : Kd.R (Kd.int .i64) 3 w52 w.heap.size (fun k_ => some k_ ≠ (.slice (some ad282) x7_2.length co45 : Value).ownBlock) (.slice (some ⟨go43, 0, none⟩) x278002_2.length co50) y284 := (by rw [hw, Ny284.out]; exact HP51.1); clear HP51; have n0_ := Aside0.mk (Kd.R_after (v := (.slice (some ⟨go43, 0, none⟩) x278002_2.length co50)) (v1 := (.slice (some ⟨go43, 0, none⟩) x278002_2.length co50)) (ok := (fun _ => True)) (by (with_reducible repeat (first | apply Kd.R_alloc | apply Kd.R_drewN | apply Kd.R_drew)); exact Kd.R_mono HO_7.out (fun _ hk => ⟨trivial, hk⟩)) hg (.inl rfl)); have n1_ := Aside0.mk (hp_); have n2_ := Aside0.mk (blk_grown (bk_ BK266.out) hg (Kd.R_ne HO_278002.out BK266.out (by decide))); have n3_ := Aside0.mk (blk_grown (bk_ BK267.out) hg (Kd.R_ne HO_278002.out BK267.out (by decide))); have n4_ := Aside0.mk (blk_grown (bk_ BK268.out) hg (Kd.R_ne HO_278002.out BK268.out (by decide))); have n5_ := Aside0.mk (blk_grown (bk_ BK277.out) hg (Kd.R_ne HO_278002.out BK277.out (by decide))); have n6_ := Aside0.mk ((by rw [hw]; exact below_set (HB.out) GB43.out : Below w.heap.size w w52)); clear HO_7; clear HO_278002; clear BK266; clear BK267; clear BK268; clear BK277; clear HB; have HO_7 := n0_; have HO_278002 := n1_; have BK266 := n2_; have BK267 := n3_; have BK268 := n4_; have BK277 := n5_; have HB := n6_; clear n0_ n1_ n2_ n3_ n4_ n5_ n6_; clear hg hw hp_))
            (try simp only [Act.put, List.setIfInBounds_toArray, List.set_cons_zero, List.set_cons_succ])
            go_cut [13] (fun v13 wc => ∃ (kq : Nat) (x13_43 : Int), v13 = .int .i64 x13_43 ∧ Aside0 (impl_FillField.j3 kq x7_2 x8_2 x11_2 (rd x7_2 x11_2) x13_43 a0_0 l0_1 l0_2 a1_0 a1_1 y284 = some (r1, r2, r3, r4, r5, r6)) ∧ Aside0 (kq ≤ k2) ∧ Aside0 (Kd.R (Kd.int .i64) 3 wc w.heap.size (fun k_ => some k_ ≠ ((.slice (some ⟨go43, 0, none⟩) x278002_2.length co50) : Value).ownBlock) (.slice (some ad282) x7_2.length co45) x7_2) ∧ Aside0 (Kd.R (Kd.int .i64) 3 wc w.heap.size (fun k_ => some k_ ≠ ((.slice (some ad282) x7_2.length co45) : Value).ownBlock) (.slice (some ⟨go43, 0, none⟩) x278002_2.length co50) y284) ∧ Aside0 (wc.heap[gb266]? = some (.cells #[.int .i64 a0_0, (.slice A0_1 l0_1.length c0_1), (.slice A0_2 l0_2.length c0_2)] 32 (0, 0))) ∧ Aside0 (wc.heap[gb267]? = some (.cells #[.int .i64 a1_0, .int .i64 a1_1, (.slice A1_2 l1_2.length c1_2)] 34 (0, 0))) ∧ Aside0 (wc.heap[gb268]? = some (.cells #[.bool x269000_2, .int .i64 x269001_2, .int .i64 x269002_2, (.slice none 0 0), .int .i64 x269004_2] 44 (0, 0))) ∧ Aside0 (wc.heap[gb277]? = some (.cells #[.int .i64 a1_0, .int .i64 a1_1, (.slice (some ⟨go43, 0, none⟩) x278002_2.length co50)] 34 (0, 0))) ∧ Aside0 (Below w.heap.size w wc))
            case first =>
             have H := HC44.out
             clear HC44
             have H' := Aside0.mk H
             clear H
             go_wp2
             go_loopg [13] k2 (fun kq v13 w' => ∃ (x13_3 : Int), v13 = .int .i64 x13_3 ∧ Aside0 (impl_FillField.l2 kq x7_2 x8_2 x11_2 (rd x7_2 x11_2) x13_3 a0_0 l0_1 l0_2 a1_0 a1_1 y284 = some (r1, r2, r3, r4, r5, r6)) ∧ Aside0 (kq ≤ k2) ∧ Aside0 (Kd.R (Kd.int .i64) 3 w' w.heap.size (fun k_ => some k_ ≠ ((.slice (some ⟨go43, 0, none⟩) x278002_2.length co50) : Value).ownBlock) (.slice (some ad282) x7_2.length co45) x7_2) ∧ Aside0 (Kd.R (Kd.int .i64) 3 w' w.heap.size (fun k_ => some k_ ≠ ((.slice (some ad282) x7_2.length co45) : Value).ownBlock) (.slice (some ⟨go43, 0, none⟩) x278002_2.length co50) y284) ∧ Aside0 (w'.heap[gb266]? = some (.cells #[.int .i64 a0_0, (.slice A0_1 l0_1.length c0_1), (.slice A0_2 l0_2.length c0_2)] 32 (0, 0))) ∧ Aside0 (w'.heap[gb267]? = some (.cells #[.int .i64 a1_0, .int .i64 a1_1, (.slice A1_2 l1_2.length c1_2)] 34 (0, 0))) ∧ Aside0 (w'.heap[gb268]? = some (.cells #[.bool x269000_2, .int .i64 x269001_2, .int .i64 x269002_2, (.slice none 0 0), .int .i64 x269004_2] 44 (0, 0))) ∧ Aside0 (w'.heap[gb277]? = some (.cells #[.int .i64 a1_0, .int .i64 a1_1, (.slice (some ⟨go43, 0, none⟩) x278002_2.length co50)] 34 (0, 0))) ∧ Aside0 (Below w.heap.size w w'))
             case atStart => exact ⟨(wrap64 ((rd x278002_2 (rd x7_2 x11_2)) + 1)), (by first | rfl | (simp; done) | (simp [*]; done) | (simp [wrap64]; done)), H', ⟨Nat.le_refl _⟩, ⟨by (with_reducible repeat (first | apply Kd.R_alloc | apply Kd.R_drewN | apply Kd.R_drew)); exact Kd.R_mono HO_7.out (fun _ hk => hk.2)⟩, ⟨by (with_reducible repeat (first | apply Kd.R_alloc | apply Kd.R_drewN | apply Kd.R_drew)); exact HO_278002.out⟩, ⟨by (with_reducible repeat (first | refine blk_drewN ?_ _ | refine blk_drew ?_ | refine blk_alloc ?_ _)); exact BK266.out⟩, ⟨by (with_reducible repeat (first | refine blk_drewN ?_ _ | refine blk_drew ?_ | refine blk_alloc ?_ _)); exact BK267.out⟩, ⟨by (with_reducible repeat (first | refine blk_drewN ?_ _ | refine blk_drew ?_ | refine blk_alloc ?_ _)); exact BK268.out⟩, ⟨by (with_reducible repeat (first | refine blk_drewN ?_ _ | refine blk_drew ?_ | refine blk_alloc ?_ _)); exact BK277.out⟩, ⟨bw_ HB.out⟩⟩
             case round =>
              clear H'
              try clear c1
              try clear p2
              try clear q2
              try clear hx2
              try clear c3
              try clear c4
              try clear p4
              try clear q4
              try clear hx4
              try clear hf4
              try clear p6
              try clear p27
              try clear q27
              try clear hx27
              try clear p28
              try clear q28
              try clear hx28
              try clear c31
              try clear c33
              try clear c33b0
              try clear c34
              try clear c34b0
              try clear c35
              try clear c35b0
              try clear c36
              try clear c36b0
              try clear c37
              try clear c38
              try clear c39
              try clear c39b0
              try clear c40
              try clear c40b0
              try clear c41
              try clear c41b0
              try clear c42
              try clear c42b0
              try clear p43
              try clear q43
              try clear hx43
              try clear hf43
              try clear c46
              try clear c47
              try clear c48
              try clear hcz32_0
              try clear hcz32_1
              try clear hcz32_2
              try clear hcz49_0
              try clear hcz49_1
              try clear hcz49_2
              try clear hfz32_0
              try clear hfz32_1
              try clear hfz32_2
              try clear hfz49_0
              try clear hfz49_1
              try clear hfz49_2
              try clear hx278_0
              try clear hx282_0
              try clear hx283_0
              try clear hx43_0
              try clear p2
              try clear p27
              try clear p278
              try clear p282
              try clear p283
              try clear p43
              try clear p6
              try clear q2
              try clear q27
              try clear q278
              try clear q282
              try clear q283
              try clear q43
              obtain ⟨x13_3, rfl, HA, HK3, HO_7, HO_278002, BK266, BK267, BK268, BK277, HB⟩ := hrel
              have hl278002_3 := (Kd.R_reads' HO_278002.out).1
              rw [hl278002_3] at HO_278002
              (try simp only [hl278002_3])
              (try simp only [hl278002_3] at BK266)
              (try simp only [hl278002_3] at BK267)
              (try simp only [hl278002_3] at BK268)
              (try simp only [hl278002_3] at BK277)
              (try simp only [hl278002_3] at HO_7)
              cases gk with
              | zero => exact absurd HA.out (by simp [impl_FillField.l2])
              | succ k3 =>
               have H := HA.out
               clear HA
               simp only [impl_FillField.l2] at H
               by_cases c53 : x13_3 < a0_0
               ·rw [if_pos c53] at H
                have c53b0 : decide (x13_3 < a0_0) = true := decide_eq_true c53
                clear c53
                (first | rw [c53b0] | (simp only [i64_w, i32_w]; rw [c53b0]) | skip)
                obtain ⟨t285, A540, H⟩ := bE_ H
                have A54 := Aside0.mk A540
                clear A540
                by_cases c55 : t285 = true
                ·subst c55
                 replace H := it_ H rfl
                 have H' := Aside0.mk H
                 clear H
                 have hnb56 := NB266_267.out
                 have hnc56 := NB267_266.out
                 have hnb57 := NB266_268.out
                 have hnc57 := NB268_266.out
                 have hnb58 := NB266_277.out
                 have hnc58 := NB277_266.out
                 have hcz59_0 := cz_ BK266.out 0
                 have hcz59_1 := cz_ BK266.out 1
                 have hcz59_2 := cz_ BK266.out 2
                 have hfz59_0 := blk_frozen BK266.out 0
                 have hfz59_1 := blk_frozen BK266.out 1
                 have hfz59_2 := blk_frozen BK266.out 2
                 have hnb60 := NB277_267.out
                 have hnc60 := NB267_277.out
                 have hnb61 := NB277_268.out
                 have hnc61 := NB268_277.out
                 have hcz62_0 := cz_ BK277.out 0
                 have hcz62_1 := cz_ BK277.out 1
                 have hcz62_2 := cz_ BK277.out 2
                 have hfz62_0 := blk_frozen BK277.out 0
                 have hfz62_1 := blk_frozen BK277.out 1
                 have hfz62_2 := blk_frozen BK277.out 2
                 go_wp2_with (first | (go_at_call 32; (with_reducible refine (impl_Rules_may.calls k3 a0_0 _ _ l0_1 _ _ l0_2 a1_0 a1_1 _ _ y284 (rd x7_2 x11_2) x13_3 true _ ?side1 ?side2 ?side3 ?side4 ?side5 ?side6 A54.out).mono ?_); (case side1 => repeat (first | exact (Kd.C_below HR0_1.out HB.out) | (with_reducible refine Kd.C_alloc ?_ _) | (with_reducible refine Kd.C_drewN ?_ _) | (with_reducible refine Kd.C_drew ?_))); (case side2 => exact HC0_1.out); (case side3 => repeat (first | exact (Kd.C_below HR0_2.out HB.out) | (with_reducible refine Kd.C_alloc ?_ _) | (with_reducible refine Kd.C_drewN ?_ _) | (with_reducible refine Kd.C_drew ?_))); (case side4 => exact HC0_2.out); (case side5 => repeat (first | exact (Kd.R_reads' HO_278002.out).2.2 | (with_reducible refine Kd.C_alloc ?_ _) | (with_reducible refine Kd.C_drewN ?_ _) | (with_reducible refine Kd.C_drew ?_))); (case side6 => exact (Kd.R_reads' HO_278002.out).2.1); rintro e w63 ⟨rfl, hb⟩; have n0_ := Aside0.mk (Kd.R_below (by (with_reducible repeat (first | apply Kd.R_alloc | apply Kd.R_drewN | apply Kd.R_drew)); exact HO_7.out) hb); have n1_ := Aside0.mk (Kd.R_below (by (with_reducible repeat (first | apply Kd.R_alloc | apply Kd.R_drewN | apply Kd.R_drew)); exact HO_278002.out) hb); have n2_ := Aside0.mk (blk_below (bk_ BK266.out) hb); have n3_ := Aside0.mk (blk_below (bk_ BK267.out) hb); have n4_ := Aside0.mk (blk_below (bk_ BK268.out) hb); have n5_ := Aside0.mk (blk_below (bk_ BK277.out) hb); have n6_ := Aside0.mk (below_step (bw_ HB.out) hb); clear HO_7; clear HO_278002; clear BK266; clear BK267; clear BK268; clear BK277; clear HB; have HO_7 := n0_; have HO_278002 := n1_; have BK266 := n2_; have BK267 := n3_; have BK268 := n4_; have BK277 := n5_; have HB := n6_; clear n0_ n1_ n2_ n3_ n4_ n5_ n6_; (try clear hb); (try clear hb2); (try clear hk); (try clear hi)))
                 (try simp only [← hl278002_3])
                 go_meet
                 case rel => exact ⟨_, (x13_3), (by first | rfl | (simp; done) | (simp [*]; done) | (simp [wrap64]; done)), H', ⟨by have := HK1.out; have := HK2.out; have := HK3.out; first | omega | exact Nat.le_refl _⟩, ⟨by (try simp only [hl278002_3]); (with_reducible repeat (first | apply Kd.R_alloc | apply Kd.R_drewN | apply Kd.R_drew)); exact HO_7.out⟩, ⟨by (try simp only [hl278002_3]); (with_reducible repeat (first | apply Kd.R_alloc | apply Kd.R_drewN | apply Kd.R_drew)); exact HO_278002.out⟩, ⟨by (try simp only [hl278002_3]); (with_reducible repeat (first | refine blk_drewN ?_ _ | refine blk_drew ?_ | refine blk_alloc ?_ _)); exact BK266.out⟩, ⟨by (try simp only [hl278002_3]); (with_reducible repeat (first | refine blk_drewN ?_ _ | refine blk_drew ?_ | refine blk_alloc ?_ _)); exact BK267.out⟩, ⟨by (try simp only [hl278002_3]); (with_reducible repeat (first | refine blk_drewN ?_ _ | refine blk_drew ?_ | refine blk_alloc ?_ _)); exact BK268.out⟩, ⟨by (try simp only [hl278002_3]); (with_reducible repeat (first | refine blk_drewN ?_ _ | refine blk_drew ?_ | refine blk_alloc ?_ _)); exact BK277.out⟩, ⟨bw_ HB.out⟩⟩
                ·replace c55 := Bool.eq_false_iff.mpr c55
                 subst c55
                 replace H := if_ H Bool.false_ne_true
                 have H' := Aside0.mk H
                 clear H
                 have hnb64 := NB266_267.out
                 have hnc64 := NB267_266.out
                 have hnb65 := NB266_268.out
                 have hnc65 := NB268_266.out
                 have hnb66 := NB266_277.out
                 have hnc66 := NB277_266.out
                 have hcz67_0 := cz_ BK266.out 0
                 have hcz67_1 := cz_ BK266.out 1
                 have hcz67_2 := cz_ BK266.out 2
                 have hfz67_0 := blk_frozen BK266.out 0
                 have hfz67_1 := blk_frozen BK266.out 1
                 have hfz67_2 := blk_frozen BK266.out 2
                 have hnb68 := NB277_267.out
                 have hnc68 := NB267_277.out
                 have hnb69 := NB277_268.out
                 have hnc69 := NB268_277.out
                 have hcz70_0 := cz_ BK277.out 0
                 have hcz70_1 := cz_ BK277.out 1
                 have hcz70_2 := cz_ BK277.out 2
                 have hfz70_0 := blk_frozen BK277.out 0
                 have hfz70_1 := blk_frozen BK277.out 1
                 have hfz70_2 := blk_frozen BK277.out 2
                 go_wp2_with (first | (go_at_call 32; (with_reducible refine (impl_Rules_may.calls k3 a0_0 _ _ l0_1 _ _ l0_2 a1_0 a1_1 _ _ y284 (rd x7_2 x11_2) x13_3 false _ ?side1 ?side2 ?side3 ?side4 ?side5 ?side6 A54.out).mono ?_); (case side1 => repeat (first | exact (Kd.C_below HR0_1.out HB.out) | (with_reducible refine Kd.C_alloc ?_ _) | (with_reducible refine Kd.C_drewN ?_ _) | (with_reducible refine Kd.C_drew ?_))); (case side2 => exact HC0_1.out); (case side3 => repeat (first | exact (Kd.C_below HR0_2.out HB.out) | (with_reducible refine Kd.C_alloc ?_ _) | (with_reducible refine Kd.C_drewN ?_ _) | (with_reducible refine Kd.C_drew ?_))); (case side4 => exact HC0_2.out); (case side5 => repeat (first | exact (Kd.R_reads' HO_278002.out).2.2 | (with_reducible refine Kd.C_alloc ?_ _) | (with_reducible refine Kd.C_drewN ?_ _) | (with_reducible refine Kd.C_drew ?_))); (case side6 => exact (Kd.R_reads' HO_278002.out).2.1); rintro e w71 ⟨rfl, hb⟩; have n0_ := Aside0.mk (Kd.R_below (by (with_reducible repeat (first | apply Kd.R_alloc | apply Kd.R_drewN | apply Kd.R_drew)); exact HO_7.out) hb); have n1_ := Aside0.mk (Kd.R_below (by (with_reducible repeat (first | apply Kd.R_alloc | apply Kd.R_drewN | apply Kd.R_drew)); exact HO_278002.out) hb); have n2_ := Aside0.mk (blk_below (bk_ BK266.out) hb); have n3_ := Aside0.mk (blk_below (bk_ BK267.out) hb); have n4_ := Aside0.mk (blk_below (bk_ BK268.out) hb); have n5_ := Aside0.mk (blk_below (bk_ BK277.out) hb); have n6_ := Aside0.mk (below_step (bw_ HB.out) hb); clear HO_7; clear HO_278002; clear BK266; clear BK267; clear BK268; clear BK277; clear HB; have HO_7 := n0_; have HO_278002 := n1_; have BK266 := n2_; have BK267 := n3_; have BK268 := n4_; have BK277 := n5_; have HB := n6_; clear n0_ n1_ n2_ n3_ n4_ n5_ n6_; (try clear hb); (try clear hb2); (try clear hk); (try clear hi)))
                 (try simp only [← hl278002_3])
                 go_roundg k3
                 case measure => have := HK1.out; have := HK2.out; have := HK3.out; omega
                 case rel => exact ⟨(wrap64 (x13_3 + 1)), (by first | rfl | (simp; done) | (simp [*]; done) | (simp [wrap64]; done)), H', ⟨by have := HK1.out; have := HK2.out; have := HK3.out; omega⟩, ⟨by (try simp only [hl278002_3]); (with_reducible repeat (first | apply Kd.R_alloc | apply Kd.R_drewN | apply Kd.R_drew)); exact HO_7.out⟩, ⟨by (try simp only [hl278002_3]); (with_reducible repeat (first | apply Kd.R_alloc | apply Kd.R_drewN | apply Kd.R_drew)); exact HO_278002.out⟩, ⟨by (try simp only [hl278002_3]); (with_reducible repeat (first | refine blk_drewN ?_ _ | refine blk_drew ?_ | refine blk_alloc ?_ _)); exact BK266.out⟩, ⟨by (try simp only [hl278002_3]); (with_reducible repeat (first | refine blk_drewN ?_ _ | refine blk_drew ?_ | refine blk_alloc ?_ _)); exact BK267.out⟩, ⟨by (try simp only [hl278002_3]); (with_reducible repeat (first | refine blk_drewN ?_ _ | refine blk_drew ?_ | refine blk_alloc ?_ _)); exact BK268.out⟩, ⟨by (try simp only [hl278002_3]); (with_reducible repeat (first | refine blk_drewN ?_ _ | refine blk_drew ?_ | refine blk_alloc ?_ _)); exact BK277.out⟩, ⟨bw_ HB.out⟩⟩
               ·rw [if_neg c53] at H
                have c53b0 : decide (x13_3 < a0_0) = false := decide_eq_false c53
                clear c53
                (first | rw [c53b0] | (simp only [i64_w, i32_w]; rw [c53b0]) | skip)
                have H' := Aside0.mk H
                clear H
                have hnb72 := NB266_267.out
                have hnc72 := NB267_266.out
                have hnb73 := NB266_268.out
                have hnc73 := NB268_266.out
                have hnb74 := NB266_277.out
                have hnc74 := NB277_266.out
                have hcz75_0 := cz_ BK266.out 0
                have hcz75_1 := cz_ BK266.out 1
                have hcz75_2 := cz_ BK266.out 2
                have hfz75_0 := blk_frozen BK266.out 0
                have hfz75_1 := blk_frozen BK266.out 1
                have hfz75_2 := blk_frozen BK266.out 2
                go_wp2
                (try simp only [← hl278002_3])
                go_meet
                case rel => exact ⟨_, (x13_3), (by first | rfl | (simp; done) | (simp [*]; done) | (simp [wrap64]; done)), H', ⟨by have := HK1.out; have := HK2.out; have := HK3.out; first | omega | exact Nat.le_refl _⟩, ⟨by (try simp only [hl278002_3]); (with_reducible repeat (first | apply Kd.R_alloc | apply Kd.R_drewN | apply Kd.R_drew)); exact HO_7.out⟩, ⟨by (try simp only [hl278002_3]); (with_reducible repeat (first | apply Kd.R_alloc | apply Kd.R_drewN | apply Kd.R_drew)); exact HO_278002.out⟩, ⟨by (try simp only [hl278002_3]); (with_reducible repeat (first | refine blk_drewN ?_ _ | refine blk_drew ?_ | refine blk_alloc ?_ _)); exact BK266.out⟩, ⟨by (try simp only [hl278002_3]); (with_reducible repeat (first | refine blk_drewN ?_ _ | refine blk_drew ?_ | refine blk_alloc ?_ _)); exact BK267.out⟩, ⟨by (try simp only [hl278002_3]); (with_reducible repeat (first | refine blk_drewN ?_ _ | refine blk_drew ?_ | refine blk_alloc ?_ _)); exact BK268.out⟩, ⟨by (try simp only [hl278002_3]); (with_reducible repeat (first | refine blk_drewN ?_ _ | refine blk_drew ?_ | refine blk_alloc ?_ _)); exact BK277.out⟩, ⟨bw_ HB.out⟩⟩
            case rest =>
             clear HC44
             try clear c1
             try clear p2
             try clear q2
             try clear hx2
             try clear c3
             try clear c4
             try clear p4
             try clear q4
             try clear hx4
             try clear hf4
             try clear c5
             try clear c6
             try clear p6
             try clear c7
             try clear p27
             try clear q27
             try clear hx27
             try clear p28
             try clear q28
             try clear hx28
             try clear c31
             try clear c33
             try clear c33b0
             try clear c34
             try clear c34b0
             try clear c35
             try clear c35b0
             try clear c36
             try clear c36b0
             try clear c37
             try clear c38
             try clear c39
             try clear c39b0
             try clear c40
             try clear c40b0
             try clear c41
             try clear c41b0
             try clear c42
             try clear c42b0
             try clear p43
             try clear q43
             try clear hx43
             try clear hf43
             try clear c46
             try clear c47
             try clear c48
             try clear c53
             try clear c53b0
             try clear c55
             try clear c56
             try clear c57
             try clear c58
             try clear c60
             try clear c61
             try clear c64
             try clear p64
             try clear c65
             try clear c66
             try clear c68
             try clear c69
             try clear c72
             try clear c73
             try clear c74
             try clear hcz32_0
             try clear hcz32_1
             try clear hcz32_2
             try clear hcz49_0
             try clear hcz49_1
             try clear hcz49_2
             try clear hcz59_0
             try clear hcz59_1
             try clear hcz59_2
             try clear hcz62_0
             try clear hcz62_1
             try clear hcz62_2
             try clear hcz67_0
             try clear hcz67_1
             try clear hcz67_2
             try clear hcz70_0
             try clear hcz70_1
             try clear hcz70_2
             try clear hcz75_0
             try clear hcz75_1
             try clear hcz75_2
             try clear hfz32_0
             try clear hfz32_1
             try clear hfz32_2
             try clear hfz49_0
             try clear hfz49_1
             try clear hfz49_2
             try clear hfz59_0
             try clear hfz59_1
             try clear hfz59_2
             try clear hfz62_0
             try clear hfz62_1
             try clear hfz62_2
             try clear hfz67_0
             try clear hfz67_1
             try clear hfz67_2
             try clear hfz70_0
             try clear hfz70_1
             try clear hfz70_2
             try clear hfz75_0
             try clear hfz75_1
             try clear hfz75_2
             try clear hx278_0
             try clear hx282_0
             try clear hx283_0
             try clear hx43_0
             try clear p2
             try clear p27
             try clear p278
             try clear p28
             try clear p282
             try clear p283
             try clear p4
             try clear p43
             try clear p6
             try clear q2
             try clear q27
             try clear q278
             try clear q28
             try clear q282
             try clear q283
             try clear q4
             try clear q43
             obtain ⟨kq, x13_43, rfl, HA, HJ43, HO_7, HO_278002, BK266, BK267, BK268, BK277, HB⟩ := hcut
             have hl278002_43 := (Kd.R_reads' HO_278002.out).1
             rw [hl278002_43] at HO_278002
             (try simp only [hl278002_43])
             (try simp only [hl278002_43] at BK266)
             (try simp only [hl278002_43] at BK267)
             (try simp only [hl278002_43] at BK268)
             (try simp only [hl278002_43] at BK277)
             (try simp only [hl278002_43] at HO_7)
             cases kq with
             | zero => exact absurd HA.out (by simp [impl_FillField.j3])
             | succ kj43 =>
              have H := HA.out
              clear HA
              simp only [impl_FillField.j3] at H
              have HC76 := Aside0.mk H
              clear H
              go_upto_region 20 with (fail)
              go_cut [82] (fun v82 wc => ∃ (kq : Nat) (x82_75 : Bool), v82 = .bool x82_75 ∧ Aside0 (impl_FillField.j4 kq x7_2 x8_2 x11_2 (rd x7_2 x11_2) x13_43 x82_75 a0_0 l0_1 l0_2 a1_0 a1_1 y284 = some (r1, r2, r3, r4, r5, r6)) ∧ Aside0 (kq ≤ kj43) ∧ Aside0 (Kd.R (Kd.int .i64) 3 wc w.heap.size (fun k_ => some k_ ≠ ((.slice (some ⟨go43, 0, none⟩) y284.length co50) : Value).ownBlock) (.slice (some ad282) x7_2.length co45) x7_2) ∧ Aside0 (Kd.R (Kd.int .i64) 3 wc w.heap.size (fun k_ => some k_ ≠ ((.slice (some ad282) x7_2.length co45) : Value).ownBlock) (.slice (some ⟨go43, 0, none⟩) y284.length co50) y284) ∧ Aside0 (wc.heap[gb266]? = some (.cells #[.int .i64 a0_0, (.slice A0_1 l0_1.length c0_1), (.slice A0_2 l0_2.length c0_2)] 32 (0, 0))) ∧ Aside0 (wc.heap[gb267]? = some (.cells #[.int .i64 a1_0, .int .i64 a1_1, (.slice A1_2 l1_2.length c1_2)] 34 (0, 0))) ∧ Aside0 (wc.heap[gb268]? = some (.cells #[.bool x269000_2, .int .i64 x269001_2, .int .i64 x269002_2, (.slice none 0 0), .int .i64 x269004_2] 44 (0, 0))) ∧ Aside0 (wc.heap[gb277]? = some (.cells #[.int .i64 a1_0, .int .i64 a1_1, (.slice (some ⟨go43, 0, none⟩) y284.length co50)] 34 (0, 0))) ∧ Aside0 (Below w.heap.size w wc))
              case first =>
               have H := HC76.out
               clear HC76
               by_cases c77 : x13_43 < a0_0
               ·rw [if_pos c77] at H
                have c77b0 : decide (x13_43 < a0_0) = true := decide_eq_true c77
                clear c77
                (first | rw [c77b0] | (simp only [i64_w, i32_w]; rw [c77b0]) | skip)
                have H' := Aside0.mk H
                clear H
                have hnb78 := NB266_267.out
                have hnc78 := NB267_266.out
                have hnb79 := NB266_268.out
                have hnc79 := NB268_266.out
                have hnb80 := NB266_277.out
                have hnc80 := NB277_266.out
                have hcz81_0 := cz_ BK266.out 0
                have hcz81_1 := cz_ BK266.out 1
                have hcz81_2 := cz_ BK266.out 2
                have hfz81_0 := blk_frozen BK266.out 0
                have hfz81_1 := blk_frozen BK266.out 1
                have hfz81_2 := blk_frozen BK266.out 2
                go_wp2
                go_meet
                case rel => exact ⟨_, ((x8_2 == 5000)), (by first | rfl | (simp; done) | (simp [*]; done) | (simp [wrap64]; done)), H', ⟨by have := HK1.out; have := HK2.out; have := HJ43.out; first | omega | exact Nat.le_refl _⟩, ⟨by (try simp only [hl278002_43]); (with_reducible repeat (first | apply Kd.R_alloc | apply Kd.R_drewN | apply Kd.R_drew)); exact HO_7.out⟩, ⟨by (try simp only [hl278002_43]); (with_reducible repeat (first | apply Kd.R_alloc | apply Kd.R_drewN | apply Kd.R_drew)); exact HO_278002.out⟩, ⟨by (try simp only [hl278002_43]); (with_reducible repeat (first | refine blk_drewN ?_ _ | refine blk_drew ?_ | refine blk_alloc ?_ _)); exact BK266.out⟩, ⟨by (try simp only [hl278002_43]); (with_reducible repeat (first | refine blk_drewN ?_ _ | refine blk_drew ?_ | refine blk_alloc ?_ _)); exact BK267.out⟩, ⟨by (try simp only [hl278002_43]); (with_reducible repeat (first | refine blk_drewN ?_ _ | refine blk_drew ?_ | refine blk_alloc ?_ _)); exact BK268.out⟩, ⟨by (try simp only [hl278002_43]); (with_reducible repeat (first | refine blk_drewN ?_ _ | refine blk_drew ?_ | refine blk_alloc ?_ _)); exact BK277.out⟩, ⟨bw_ HB.out⟩⟩
               ·rw [if_neg c77] at H
                have c77b0 : decide (x13_43 < a0_0) = false := decide_eq_false c77
                clear c77
                (first | rw [c77b0] | (simp only [i64_w, i32_w]; rw [c77b0]) | skip)
                have H' := Aside0.mk H
                clear H
                have hnb82 := NB266_267.out
                have hnc82 := NB267_266.out
                have hnb83 := NB266_268.out
                have hnc83 := NB268_266.out
                have hnb84 := NB266_277.out
                have hnc84 := NB277_266.out
                have hcz85_0 := cz_ BK266.out 0
                have hcz85_1 := cz_ BK266.out 1
                have hcz85_2 := cz_ BK266.out 2
                have hfz85_0 := blk_frozen BK266.out 0
                have hfz85_1 := blk_frozen BK266.out 1
                have hfz85_2 := blk_frozen BK266.out 2
                go_wp2
                go_meet
                case rel => exact ⟨_, (false), (by first | rfl | (simp; done) | (simp [*]; done) | (simp [wrap64]; done)), H', ⟨by have := HK1.out; have := HK2.out; have := HJ43.out; first | omega | exact Nat.le_refl _⟩, ⟨by (try simp only [hl278002_43]); (with_reducible repeat (first | apply Kd.R_alloc | apply Kd.R_drewN | apply Kd.R_drew)); exact HO_7.out⟩, ⟨by (try simp only [hl278002_43]); (with_reducible repeat (first | apply Kd.R_alloc | apply Kd.R_drewN | apply Kd.R_drew)); exact HO_278002.out⟩, ⟨by (try simp only [hl278002_43]); (with_reducible repeat (first | refine blk_drewN ?_ _ | refine blk_drew ?_ | refine blk_alloc ?_ _)); exact BK266.out⟩, ⟨by (try simp only [hl278002_43]); (with_reducible repeat (first | refine blk_drewN ?_ _ | refine blk_drew ?_ | refine blk_alloc ?_ _)); exact BK267.out⟩, ⟨by (try simp only [hl278002_43]); (with_reducible repeat (first | refine blk_drewN ?_ _ | refine blk_drew ?_ | refine blk_alloc ?_ _)); exact BK268.out⟩, ⟨by (try simp only [hl278002_43]); (with_reducible repeat (first | refine blk_drewN ?_ _ | refine blk_drew ?_ | refine blk_alloc ?_ _)); exact BK277.out⟩, ⟨bw_ HB.out⟩⟩
              case rest =>
               clear HC76
               try clear c1
               try clear p2
               try clear q2
               try clear hx2
               try clear c3
               try clear c4
               try clear p4
               try clear q4
               try clear hx4
               try clear hf4
               try clear c5
               try clear c6
               try clear p6
               try clear c7
               try clear c8
               try clear p27
               try clear q27
               try clear hx27
               try clear p28
               try clear q28
               try clear hx28
               try clear c31
               try clear c33
               try clear c33b0
               try clear c34
               try clear c34b0
               try clear c35
               try clear c35b0
               try clear c36
               try clear c36b0
               try clear c37
               try clear c38
               try clear c39
               try clear c39b0
               try clear c40
               try clear c40b0
               try clear c41
               try clear c41b0
               try clear c42
               try clear c42b0
               try clear p43
               try clear q43
               try clear hx43
               try clear hf43
               try clear c46
               try clear c47
               try clear c48
               try clear c53
               try clear c53b0
               try clear c55
               try clear c56
               try clear c57
               try clear c58
               try clear c60
               try clear c61
               try clear c64
               try clear p64
               try clear c65
               try clear c66
               try clear c68
               try clear c69
               try clear c72
               try clear c73
               try clear c74
               try clear c77
               try clear c77b0
               try clear c78
               try clear c79
               try clear c80
               try clear c82
               try clear c83
               try clear c84
               try clear hcz32_0
               try clear hcz32_1
               try clear hcz32_2
               try clear hcz49_0
               try clear hcz49_1
               try clear hcz49_2
               try clear hcz59_0
               try clear hcz59_1
               try clear hcz59_2
               try clear hcz62_0
               try clear hcz62_1
               try clear hcz62_2
               try clear hcz67_0
               try clear hcz67_1
               try clear hcz67_2
               try clear hcz70_0
               try clear hcz70_1
               try clear hcz70_2
               try clear hcz75_0
               try clear hcz75_1
               try clear hcz75_2
               try clear hcz81_0
               try clear hcz81_1
               try clear hcz81_2
               try clear hcz85_0
               try clear hcz85_1
               try clear hcz85_2
               try clear hfz32_0
               try clear hfz32_1
               try clear hfz32_2
               try clear hfz49_0
               try clear hfz49_1
               try clear hfz49_2
               try clear hfz59_0
               try clear hfz59_1
               try clear hfz59_2
               try clear hfz62_0
               try clear hfz62_1
               try clear hfz62_2
               try clear hfz67_0
               try clear hfz67_1
               try clear hfz67_2
               try clear hfz70_0
               try clear hfz70_1
               try clear hfz70_2
               try clear hfz75_0
               try clear hfz75_1
               try clear hfz75_2
               try clear hfz81_0
               try clear hfz81_1
               try clear hfz81_2
               try clear hfz85_0
               try clear hfz85_1
               try clear hfz85_2
               try clear hx278_0
               try clear hx282_0
               try clear hx283_0
               try clear hx43_0
               try clear p2
               try clear p27
               try clear p278
               try clear p28
               try clear p282
               try clear p283
               try clear p4
               try clear p43
               try clear p6
               try clear p64
               try clear q2
               try clear q27
               try clear q278
               try clear q28
               try clear q282
               try clear q283
               try clear q4
               try clear q43
               obtain ⟨kq, x82_75, rfl, HA, HJ75, HO_7, HO_278002, BK266, BK267, BK268, BK277, HB⟩ := hcut
               cases kq with
               | zero => exact absurd HA.out (by simp [impl_FillField.j4])
               | succ kj75 =>
                have H := HA.out
                clear HA
                simp only [impl_FillField.j4] at H
                by_cases c86 : x82_75 = true
                ·subst c86
                 replace H := it_ H rfl
                 simp only [Option.some.injEq, Prod.mk.injEq] at H
                 obtain ⟨rfl, rfl, rfl, rfl, rfl, rfl⟩ := H
                 have hnb87 := NB268_266.out
                 have hnc87 := NB266_268.out
                 have hnb88 := NB268_267.out
                 have hnc88 := NB267_268.out
                 have hnb89 := NB268_277.out
                 have hnc89 := NB277_268.out
                 have hcz90_0 := cz_ BK268.out 0
                 have hcz90_1 := cz_ BK268.out 1
                 have hcz90_2 := cz_ BK268.out 2
                 have hcz90_3 := cz_ BK268.out 3
                 have hcz90_4 := cz_ BK268.out 4
                 have hfz90_0 := blk_frozen BK268.out 0
                 have hfz90_1 := blk_frozen BK268.out 1
                 have hfz90_2 := blk_frozen BK268.out 2
                 have hfz90_3 := blk_frozen BK268.out 3
                 have hfz90_4 := blk_frozen BK268.out 4
                 go_wp2
                 refine bodyPost_ret (results_ct rfl _ _ gb268 44 #[.bool false, .int .i64 0, .int .i64 0, .slice none 0 0, .int .i64 x8_2] (0, 0) _ rfl (by (with_reducible repeat (first | refine blk_drewN ?_ _ | refine blk_drew ?_ | refine blk_alloc ?_ _)); refine blk_put (cs := #[.bool false, .int .i64 0, .int .i64 0, .slice none 0 0, .int .i64 x269004_2]) ?_ 4 _ rfl; (with_reducible repeat (first | refine blk_drewN ?_ _ | refine blk_drew ?_ | refine blk_alloc ?_ _)); refine blk_put (cs := #[.bool false, .int .i64 0, .int .i64 0, .slice none 0 0, .int .i64 x269004_2]) ?_ 3 _ rfl; (with_reducible repeat (first | refine blk_drewN ?_ _ | refine blk_drew ?_ | refine blk_alloc ?_ _)); refine blk_put (cs := #[.bool false, .int .i64 0, .int .i64 x269002_2, .slice none 0 0, .int .i64 x269004_2]) ?_ 2 _ rfl; (with_reducible repeat (first | refine blk_drewN ?_ _ | refine blk_drew ?_ | refine blk_alloc ?_ _)); refine blk_put (cs := #[.bool false, .int .i64 x269001_2, .int .i64 x269002_2, .slice none 0 0, .int .i64 x269004_2]) ?_ 1 _ rfl; (with_reducible repeat (first | refine blk_drewN ?_ _ | refine blk_drew ?_ | refine blk_alloc ?_ _)); refine blk_put (cs := #[.bool x269000_2, .int .i64 x269001_2, .int .i64 x269002_2, .slice none 0 0, .int .i64 x269004_2]) ?_ 0 _ rfl; (with_reducible repeat (first | refine blk_drewN ?_ _ | refine blk_drew ?_ | refine blk_alloc ?_ _)); exact BK268.out) Try.underlying44 rfl (by kernel_rfl)) rfl ?_
                 exact ⟨_, by first | rfl | (simp [errW_none, errW_some] <;> rfl) | (simp [*, errW_none, errW_some] <;> rfl), by first | exact Kd.R_nil _ _ _ _ _ | exact Kd.N_nil _ _ _ _ _ | exact Kd.V_nil _ _ _ _ _ | exact Kd.Q_nil _ _ _ _ _ | exact Kd.S_nil _ _ _ _ _, bw_ HB.out⟩
                ·replace c86 := Bool.eq_false_iff.mpr c86
                 subst c86
                 replace H := if_ H Bool.false_ne_true
                 by_cases c91 : x13_43 < a0_0
                 ·rw [if_pos c91] at H
                  have c91b0 : decide (x13_43 < a0_0) = true := decide_eq_true c91
                  clear c91
                  by_cases c92 : 0 ≤ (rd x7_2 x11_2)
                  ·rw [if_pos c92] at H
                   have c92b0 : decide (0 ≤ (rd x7_2 x11_2)) = true := decide_eq_true c92
                   clear c92
                   by_cases c93 : (rd x7_2 x11_2) < (y284.length : Int)
                   ·rw [if_pos c93] at H
                    have c93b0 : decide ((rd x7_2 x11_2) < (y284.length : Int)) = true := decide_eq_true c93
                    (try rw [hl278002_43] at c93b0)
                    clear c93
                    obtain ⟨y286, hy286⟩ : ∃ y_ : List Int, y_ = (y284.set ((rd x7_2 x11_2) : Int).toNat x13_43) := ⟨_, rfl⟩
                    replace H : (impl_FillField.l1 kj75 x7_2 (wrap64 (x8_2 + 1)) (wrap64 (x11_2 + 1)) a0_0 l0_1 l0_2 a1_0 a1_1 y286) = some (r1, r2, r3, r4, r5, r6) := by first | (rw [hy286]; with_reducible exact H) | (have H2_ := (Option.bind_some _ _).symm.trans H; rw [hy286]; with_reducible exact H2_) | (have H2_ := (Option.bind_some _ _).symm.trans H; with_reducible exact H2_) | with_reducible exact H | (rw [hy286]; exact H) | exact H
                    have Ny286 := Aside0.mk hy286
                    clear hy286
                    have H' := Aside0.mk H
                    clear H
                    have hnb95 := NB266_267.out
                    have hnc95 := NB267_266.out
                    have hnb96 := NB266_268.out
                    have hnc96 := NB268_266.out
                    have hnb97 := NB266_277.out
                    have hnc97 := NB277_266.out
                    have hcz98_0 := cz_ BK266.out 0
                    have hcz98_1 := cz_ BK266.out 1
                    have hcz98_2 := cz_ BK266.out 2
                    have hfz98_0 := blk_frozen BK266.out 0
                    have hfz98_1 := blk_frozen BK266.out 1
                    have hfz98_2 := blk_frozen BK266.out 2
                    have hnb99 := NB277_267.out
                    have hnc99 := NB267_277.out
                    have hnb100 := NB277_268.out
                    have hnc100 := NB268_277.out
                    have hcz101_0 := cz_ BK277.out 0
                    have hcz101_1 := cz_ BK277.out 1
                    have hcz101_2 := cz_ BK277.out 2
                    have hfz101_0 := blk_frozen BK277.out 0
                    have hfz101_1 := blk_frozen BK277.out 1
                    have hfz101_2 := blk_frozen BK277.out 2
                    have p94 : 0 ≤ ((rd x7_2 x11_2) : Int) := of_decide_eq_true (by first | (with_reducible assumption) | assumption)
                    have q94 : ((rd x7_2 x11_2) : Int) < ((y284.length : Int) : Int) := of_decide_eq_true (by first | (with_reducible assumption) | assumption)
                    obtain ⟨hx94_0, hf94_0⟩ := Kd.R_celln 0 HO_278002.out ((rd x7_2 x11_2) : Int) p94 q94
                    replace p94 := eq_true p94
                    replace q94 := eq_true q94
                    have HP102 := Kd.R_putg HO_278002.out ((rd x7_2 x11_2) : Int) x13_43
                    go_wp2_with (first | ((with_reducible refine gate_store (t := 3) (p := 102) rfl ?_); refine se_ 3 102 (wc.setCell ⟨go43, ((rd x7_2 x11_2) : Int).toNat, none⟩ (.int .i64 x13_43)) ?_; intro w103 hw; have hg : wc.grownBy w103 (some go43) := (by rw [hw]; exact HP102.2); have hp_ : Kd.R (Kd.int .i64) 3 w103 w.heap.size (fun k_ => some k_ ≠ (.slice (some ad282) x7_2.length co45 : Value).ownBlock) (.slice (some ⟨go43, 0, none⟩) y284.length co50) y286 := (by rw [hw, Ny286.out]; exact HP102.1); clear HP102; have n0_ := Aside0.mk (Kd.R_after (v := (.slice (some ⟨go43, 0, none⟩) y284.length co50)) (v1 := (.slice (some ⟨go43, 0, none⟩) y284.length co50)) (ok := (fun _ => True)) (by (with_reducible repeat (first | apply Kd.R_alloc | apply Kd.R_drewN | apply Kd.R_drew)); exact Kd.R_mono HO_7.out (fun _ hk => ⟨trivial, hk⟩)) hg (.inl rfl)); have n1_ := Aside0.mk (hp_); have n2_ := Aside0.mk (blk_grown (bk_ BK266.out) hg (Kd.R_ne HO_278002.out BK266.out (by decide))); have n3_ := Aside0.mk (blk_grown (bk_ BK267.out) hg (Kd.R_ne HO_278002.out BK267.out (by decide))); have n4_ := Aside0.mk (blk_grown (bk_ BK268.out) hg (Kd.R_ne HO_278002.out BK268.out (by decide))); have n5_ := Aside0.mk (blk_grown (bk_ BK277.out) hg (Kd.R_ne HO_278002.out BK277.out (by decide))); have n6_ := Aside0.mk ((by rw [hw]; exact below_set (HB.out) GB43.out : Below w.heap.size w w103)); clear HO_7; clear HO_278002; clear BK266; clear BK267; clear BK268; clear BK277; clear HB; have HO_7 := n0_; have HO_278002 := n1_; have BK266 := n2_; have BK267 := n3_; have BK268 := n4_; have BK277 := n5_; have HB := n6_; clear n0_ n1_ n2_ n3_ n4_ n5_ n6_; clear hg hw hp_))
                    (try simp only [← hl278002_43])
                    (try simp only [show (⟨go43, ((rd x7_2 x11_2) : Int).toNat, none⟩ : Addr) = Addr.add ⟨go43, 0, none⟩ ((rd x7_2 x11_2) : Int).toNat from by simp [Addr.add]])
                    (try simp only [show (⟨go43, (x11_2 : Int).toNat, none⟩ : Addr) = Addr.add ⟨go43, 0, none⟩ (x11_2 : Int).toNat from by simp [Addr.add]])
                    go_roundg kj75
                    case measure => have := HK1.out; have := HK2.out; have := HJ43.out; have := HJ75.out; omega
                    case rel => exact ⟨(x7_2), (wrap64 (x8_2 + 1)), (wrap64 (x11_2 + 1)), (x269000_2), (x269001_2), (x269002_2), (x269004_2), (y286), (.slice (some ⟨go43, 0, none⟩) y284.length co50), (by first | rfl | (simp; done) | (simp [*]; done) | (simp [wrap64]; done)), (by first | rfl | (simp; done) | (simp [*]; done) | (simp [wrap64]; done)), H', ⟨by have := HK1.out; have := HK2.out; have := HJ43.out; have := HJ75.out; omega⟩, ⟨by (try simp only [hl278002_43]); (with_reducible repeat (first | apply Kd.R_alloc | apply Kd.R_drewN | apply Kd.R_drew)); exact Kd.R_mono HO_7.out (fun _ hk => hk.2)⟩, ⟨by (try simp only [hl278002_43]); (with_reducible repeat (first | apply Kd.R_alloc | apply Kd.R_drewN | apply Kd.R_drew)); exact HO_278002.out⟩, ⟨by (try simp only [hl278002_43]); (with_reducible repeat (first | refine blk_drewN ?_ _ | refine blk_drew ?_ | refine blk_alloc ?_ _)); exact BK266.out⟩, ⟨by (try simp only [hl278002_43]); (with_reducible repeat (first | refine blk_drewN ?_ _ | refine blk_drew ?_ | refine blk_alloc ?_ _)); exact BK267.out⟩, ⟨by (try simp only [hl278002_43]); (with_reducible repeat (first | refine blk_drewN ?_ _ | refine blk_drew ?_ | refine blk_alloc ?_ _)); exact BK268.out⟩, ⟨by (try simp only [hl278002_43]); (with_reducible repeat (first | refine blk_drewN ?_ _ | refine blk_drew ?_ | refine blk_alloc ?_ _)); exact BK277.out⟩, ⟨bw_ HB.out⟩⟩
                   ·rw [if_neg c93] at H
                    exact absurd H (by simp)
                  ·rw [if_neg c92] at H
                   exact absurd H (by simp)
                 ·rw [if_neg c91] at H
                  have c91b0 : decide (x13_43 < a0_0) = false := decide_eq_false c91
                  clear c91
                  by_cases c104 : x11_2 = 0
                  ·rw [if_pos c104] at H
                   have c104b0 : (x11_2 == 0) = true := beq_iff_eq.mpr c104
                   have c104b1 : (x11_2 != 0) = false := bne_eq_false_iff_eq.mpr c104
                   clear c104
                   simp only [Option.some.injEq, Prod.mk.injEq] at H
                   obtain ⟨rfl, rfl, rfl, rfl, rfl, rfl⟩ := H
                   have hnb105 := NB266_267.out
                   have hnc105 := NB267_266.out
                   have hnb106 := NB266_268.out
                   have hnc106 := NB268_266.out
                   have hnb107 := NB266_277.out
                   have hnc107 := NB277_266.out
                   have hcz108_0 := cz_ BK266.out 0
                   have hcz108_1 := cz_ BK266.out 1
                   have hcz108_2 := cz_ BK266.out 2
                   have hfz108_0 := blk_frozen BK266.out 0
                   have hfz108_1 := blk_frozen BK266.out 1
                   have hfz108_2 := blk_frozen BK266.out 2
                   have hnb109 := NB268_267.out
                   have hnc109 := NB267_268.out
                   have hnb110 := NB268_277.out
                   have hnc110 := NB277_268.out
                   have hcz111_0 := cz_ BK268.out 0
                   have hcz111_1 := cz_ BK268.out 1
                   have hcz111_2 := cz_ BK268.out 2
                   have hcz111_3 := cz_ BK268.out 3
                   have hcz111_4 := cz_ BK268.out 4
                   have hfz111_0 := blk_frozen BK268.out 0
                   have hfz111_1 := blk_frozen BK268.out 1
                   have hfz111_2 := blk_frozen BK268.out 2
                   have hfz111_3 := blk_frozen BK268.out 3
                   have hfz111_4 := blk_frozen BK268.out 4
                   go_wp2
                   refine bodyPost_ret (results_ct rfl _ _ gb268 44 #[.bool false, .int .i64 0, .int .i64 0, .slice none 0 0, .int .i64 x8_2] (0, 0) _ rfl (by (with_reducible repeat (first | refine blk_drewN ?_ _ | refine blk_drew ?_ | refine blk_alloc ?_ _)); refine blk_put (cs := #[.bool false, .int .i64 0, .int .i64 0, .slice none 0 0, .int .i64 x269004_2]) ?_ 4 _ rfl; (with_reducible repeat (first | refine blk_drewN ?_ _ | refine blk_drew ?_ | refine blk_alloc ?_ _)); refine blk_put (cs := #[.bool false, .int .i64 0, .int .i64 0, .slice none 0 0, .int .i64 x269004_2]) ?_ 3 _ rfl; (with_reducible repeat (first | refine blk_drewN ?_ _ | refine blk_drew ?_ | refine blk_alloc ?_ _)); refine blk_put (cs := #[.bool false, .int .i64 0, .int .i64 x269002_2, .slice none 0 0, .int .i64 x269004_2]) ?_ 2 _ rfl; (with_reducible repeat (first | refine blk_drewN ?_ _ | refine blk_drew ?_ | refine blk_alloc ?_ _)); refine blk_put (cs := #[.bool false, .int .i64 x269001_2, .int .i64 x269002_2, .slice none 0 0, .int .i64 x269004_2]) ?_ 1 _ rfl; (with_reducible repeat (first | refine blk_drewN ?_ _ | refine blk_drew ?_ | refine blk_alloc ?_ _)); refine blk_put (cs := #[.bool x269000_2, .int .i64 x269001_2, .int .i64 x269002_2, .slice none 0 0, .int .i64 x269004_2]) ?_ 0 _ rfl; (with_reducible repeat (first | refine blk_drewN ?_ _ | refine blk_drew ?_ | refine blk_alloc ?_ _)); exact BK268.out) Try.underlying44 rfl (by kernel_rfl)) rfl ?_
                   exact ⟨_, by first | rfl | (simp [errW_none, errW_some] <;> rfl) | (simp [*, errW_none, errW_some] <;> rfl), by first | exact Kd.R_nil _ _ _ _ _ | exact Kd.N_nil _ _ _ _ _ | exact Kd.V_nil _ _ _ _ _ | exact Kd.Q_nil _ _ _ _ _ | exact Kd.S_nil _ _ _ _ _, bw_ HB.out⟩
                  ·rw [if_neg c104] at H
                   have c104b0 : (x11_2 == 0) = false := beq_eq_false_iff_ne.mpr c104
                   have c104b1 : (x11_2 != 0) = true := bne_iff_ne.mpr c104
                   have H' := Aside0.mk H
                   clear H
                   have hnb112 := NB266_267.out
                   have hnc112 := NB267_266.out
                   have hnb113 := NB266_268.out
                   have hnc113 := NB268_266.out
                   have hnb114 := NB266_277.out
                   have hnc114 := NB277_266.out
                   have hcz115_0 := cz_ BK266.out 0
                   have hcz115_1 := cz_ BK266.out 1
                   have hcz115_2 := cz_ BK266.out 2
                   have hfz115_0 := blk_frozen BK266.out 0
                   have hfz115_1 := blk_frozen BK266.out 1
                   have hfz115_2 := blk_frozen BK266.out 2
                   go_wp2
                   (try simp only [← hl278002_43])
                   (try simp only [show (⟨go43, ((rd x7_2 x11_2) : Int).toNat, none⟩ : Addr) = Addr.add ⟨go43, 0, none⟩ ((rd x7_2 x11_2) : Int).toNat from by simp [Addr.add]])
                   (try simp only [show (⟨go43, (x11_2 : Int).toNat, none⟩ : Addr) = Addr.add ⟨go43, 0, none⟩ (x11_2 : Int).toNat from by simp [Addr.add]])
                   go_roundg kj75
                   case measure => have := HK1.out; have := HK2.out; have := HJ43.out; have := HJ75.out; omega
                   case rel => exact ⟨(x7_2), (x8_2), (wrap64 (x11_2 - 1)), (x269000_2), (x269001_2), (x269002_2), (x269004_2), (y284), (.slice (some ⟨go43, 0, none⟩) y284.length co50), (by first | rfl | (simp; done) | (simp [*]; done) | (simp [wrap64]; done)), (by first | rfl | (simp; done) | (simp [*]; done) | (simp [wrap64]; done)), H', ⟨by have := HK1.out; have := HK2.out; have := HJ43.out; have := HJ75.out; omega⟩, ⟨by (try simp only [hl278002_43]); (with_reducible repeat (first | apply Kd.R_alloc | apply Kd.R_drewN | apply Kd.R_drew)); exact HO_7.out⟩, ⟨by (try simp only [hl278002_43]); (with_reducible repeat (first | apply Kd.R_alloc | apply Kd.R_drewN | apply Kd.R_drew)); exact HO_278002.out⟩, ⟨by (try simp only [hl278002_43]); (with_reducible repeat (first | refine blk_drewN ?_ _ | refine blk_drew ?_ | refine blk_alloc ?_ _)); exact BK266.out⟩, ⟨by (try simp only [hl278002_43]); (with_reducible repeat (first | refine blk_drewN ?_ _ | refine blk_drew ?_ | refine blk_alloc ?_ _)); exact BK267.out⟩, ⟨by (try simp only [hl278002_43]); (with_reducible repeat (first | refine blk_drewN ?_ _ | refine blk_drew ?_ | refine blk_alloc ?_ _)); exact BK268.out⟩, ⟨by (try simp only [hl278002_43]); (with_reducible repeat (first | refine blk_drewN ?_ _ | refine blk_drew ?_ | refine blk_alloc ?_ _)); exact BK277.out⟩, ⟨bw_ HB.out⟩⟩
           ·rw [if_neg c42] at H
            exact absurd H (by simp)
          ·rw [if_neg c41] at H
           exact absurd H (by simp)
         ·rw [if_neg c40] at H
          exact absurd H (by simp)
        ·rw [if_neg c39] at H
         have c39b0 : decide (x11_2 < (x7_2.length : Int)) = false := decide_eq_false c39
         clear c39
         simp only [Option.some.injEq, Prod.mk.injEq] at H
         obtain ⟨rfl, rfl, rfl, rfl, rfl, rfl⟩ := H
         obtain ⟨Ao116, co116, eo116⟩ := Kd.R_slice HO_7.out
         subst eo116
         have hnb117 := NB277_266.out
         have hnc117 := NB266_277.out
         have hnb118 := NB277_267.out
         have hnc118 := NB267_277.out
         have hnb119 := NB277_268.out
         have hnc119 := NB268_277.out
         have hcz120_0 := cz_ BK277.out 0
         have hcz120_1 := cz_ BK277.out 1
         have hcz120_2 := cz_ BK277.out 2
         have hfz120_0 := blk_frozen BK277.out 0
         have hfz120_1 := blk_frozen BK277.out 1
         have hfz120_2 := blk_frozen BK277.out 2
         obtain ⟨Ao121, co121, eo121⟩ := Kd.R_slice HO_278002.out
         subst eo121
         have hnb122 := NB268_266.out
         have hnc122 := NB266_268.out
         have hnb123 := NB268_267.out
         have hnc123 := NB267_268.out
         have hcz124_0 := cz_ BK268.out 0
         have hcz124_1 := cz_ BK268.out 1
         have hcz124_2 := cz_ BK268.out 2
         have hcz124_3 := cz_ BK268.out 3
         have hcz124_4 := cz_ BK268.out 4
         have hfz124_0 := blk_frozen BK268.out 0
         have hfz124_1 := blk_frozen BK268.out 1
         have hfz124_2 := blk_frozen BK268.out 2
         have hfz124_3 := blk_frozen BK268.out 3
         have hfz124_4 := blk_frozen BK268.out 4
         go_wp2
         refine bodyPost_ret (results_ct rfl _ _ gb268 44 #[.bool true, .int .i64 a1_0, .int .i64 a1_1, .slice Ao121 x278002_2.length co121, .int .i64 x8_2] (0, 0) _ rfl (by (with_reducible repeat (first | refine blk_drewN ?_ _ | refine blk_drew ?_ | refine blk_alloc ?_ _)); refine blk_put (cs := #[.bool true, .int .i64 a1_0, .int .i64 a1_1, .slice Ao121 x278002_2.length co121, .int .i64 x269004_2]) ?_ 4 _ rfl; (with_reducible repeat (first | refine blk_drewN ?_ _ | refine blk_drew ?_ | refine blk_alloc ?_ _)); refine blk_put (cs := #[.bool true, .int .i64 a1_0, .int .i64 a1_1, .slice none 0 0, .int .i64 x269004_2]) ?_ 3 _ rfl; (with_reducible repeat (first | refine blk_drewN ?_ _ | refine blk_drew ?_ | refine blk_alloc ?_ _)); refine blk_put (cs := #[.bool true, .int .i64 a1_0, .int .i64 x269002_2, .slice none 0 0, .int .i64 x269004_2]) ?_ 2 _ rfl; (with_reducible repeat (first | refine blk_drewN ?_ _ | refine blk_drew ?_ | refine blk_alloc ?_ _)); refine blk_put (cs := #[.bool true, .int .i64 x269001_2, .int .i64 x269002_2, .slice none 0 0, .int .i64 x269004_2]) ?_ 1 _ rfl; (with_reducible repeat (first | refine blk_drewN ?_ _ | refine blk_drew ?_ | refine blk_alloc ?_ _)); refine blk_put (cs := #[.bool x269000_2, .int .i64 x269001_2, .int .i64 x269002_2, .slice none 0 0, .int .i64 x269004_2]) ?_ 0 _ rfl; (with_reducible repeat (first | refine blk_drewN ?_ _ | refine blk_drew ?_ | refine blk_alloc ?_ _)); exact BK268.out) Try.underlying44 rfl (by kernel_rfl)) rfl ?_
         exact ⟨_, by first | rfl | (simp [errW_none, errW_some] <;> rfl) | (simp [*, errW_none, errW_some] <;> rfl), by (with_reducible repeat (first | apply Kd.R_alloc | apply Kd.R_drewN | apply Kd.R_drew)); exact Kd.R_mono (Kd.R_far (p := ⟨gb268, 4, none⟩) (Kd.R_far (p := ⟨gb268, 3, none⟩) (Kd.R_far (p := ⟨gb268, 2, none⟩) (Kd.R_far (p := ⟨gb268, 1, none⟩) (Kd.R_far (p := ⟨gb268, 0, none⟩) (Kd.R_types HO_278002.out BK268.out (by decide)) (fun _ hk => hk.2) (.bool true)) (fun _ hk => hk.2) (.int .i64 a1_0)) (fun _ hk => hk.2) (.int .i64 a1_1)) (fun _ hk => hk.2) (.slice Ao121 x278002_2.length co121)) (fun _ hk => hk.2) (.int .i64 x8_2)) (fun _ hk => trivial), bw_ HB.out⟩
  ·replace c6 := Bool.eq_false_iff.mpr c6
   subst c6
   replace H := if_ H Bool.false_ne_true
   simp only [Option.some.injEq, Prod.mk.injEq] at H
   obtain ⟨rfl, rfl, rfl, rfl, rfl, rfl⟩ := H
   go_enter Try.func19, Try.ntmps19
   go_wp2_with (first | ((with_reducible refine gate_dst (N := 2) rfl ?_); refine bx_ 2 #[.int .i64 a0_0, .slice A0_1 l0_1.length c0_1, .slice A0_2 l0_2.length c0_2] 32 ?_; intro gb266 hg w125 hbox hb; have n0_ := Aside0.mk (below_step (bw_ HB.out) hb); have n1_ := Aside0.mk (hbox); have n2_ := Aside0.mk (gs_ hg (bw_ HB.out)); have n3_ := Aside0.mk (gs_ hg (bw_ HB.out)); clear HB; have HB := n0_; have BK266 := n1_; have GW266 := n2_; have GE266 := n3_; clear n0_ n1_ n2_ n3_; clear hb hbox hg) | ((with_reducible refine gate_dst (N := 3) rfl ?_); refine bx_ 3 #[.int .i64 a1_0, .int .i64 a1_1, .slice A1_2 l1_2.length c1_2] 34 ?_; intro gb267 hg w126 hbox hb; have n0_ := Aside0.mk (blk_below (bk_ BK266.out) hb); have n1_ := Aside0.mk (below_step (bw_ HB.out) hb); have n2_ := Aside0.mk (hbox); have n3_ := Aside0.mk (gs_ hg (bw_ HB.out)); have n4_ := Aside0.mk (gs_ hg (bw_ HB.out)); have n5_ := Aside0.mk (nl_ hg (bk_ BK266.out)); have n6_ := Aside0.mk (ng_ hg (bk_ BK266.out)); clear BK266; clear HB; have BK266 := n0_; have HB := n1_; have BK267 := n2_; have GW267 := n3_; have GE267 := n4_; have NB266_267 := n5_; have NB267_266 := n6_; clear n0_ n1_ n2_ n3_ n4_ n5_ n6_; clear hb hbox hg) | ((with_reducible refine gate_dst (N := 4) rfl ?_); refine bx_ 4 #[.bool false, .int .i64 0, .int .i64 0, .slice none 0 0, .int .i64 0] 44 ?_; intro gb268 hg w127 hbox hb; have n0_ := Aside0.mk (blk_below (bk_ BK266.out) hb); have n1_ := Aside0.mk (blk_below (bk_ BK267.out) hb); have n2_ := Aside0.mk (below_step (bw_ HB.out) hb); have n3_ := Aside0.mk (hbox); have n4_ := Aside0.mk (gs_ hg (bw_ HB.out)); have n5_ := Aside0.mk (gs_ hg (bw_ HB.out)); have n6_ := Aside0.mk (nl_ hg (bk_ BK266.out)); have n7_ := Aside0.mk (ng_ hg (bk_ BK266.out)); have n8_ := Aside0.mk (nl_ hg (bk_ BK267.out)); have n9_ := Aside0.mk (ng_ hg (bk_ BK267.out)); clear BK266; clear BK267; clear HB; have BK266 := n0_; have BK267 := n1_; have HB := n2_; have BK268 := n3_; have GW268 := n4_; have GE268 := n5_; have NB266_268 := n6_; have NB268_266 := n7_; have NB267_268 := n8_; have NB268_267 := n9_; clear n0_ n1_ n2_ n3_ n4_ n5_ n6_ n7_ n8_ n9_; clear hb hbox hg; have hnb128 := NB266_267.out; have hnc128 := NB267_266.out; have hnb129 := NB266_268.out; have hnc129 := NB268_266.out; have hcz130_0 := cz_ BK266.out 0; have hcz130_1 := cz_ BK266.out 1; have hcz130_2 := cz_ BK266.out 2; have hfz130_0 := blk_frozen BK266.out 0; have hfz130_1 := blk_frozen BK266.out 1; have hfz130_2 := blk_frozen BK266.out 2; have hnb131 := NB267_268.out; have hnc131 := NB268_267.out; have hcz132_0 := cz_ BK267.out 0; have hcz132_1 := cz_ BK267.out 1; have hcz132_2 := cz_ BK267.out 2; have hfz132_0 := blk_frozen BK267.out 0; have hfz132_1 := blk_frozen BK267.out 1; have hfz132_2 := blk_frozen BK267.out 2) | ((with_reducible refine gate_callee (f := 30) rfl ?_); refine goesL_ (some 16) rfl rfl Try.func30 (by kernel_rfl) rfl #[.agg #[.int .i64 a0_0, .slice A0_1 l0_1.length c0_1, .slice A0_2 l0_2.length c0_2], .agg #[.int .i64 a1_0, .int .i64 a1_1, .slice A1_2 l1_2.length c1_2]] rfl (by (try simp only [List.map_toArray, List.map_cons, List.map_nil]); first | done | rfl | (simp only [List.length_drop, List.length_take]; rfl)) ?_; (with_reducible refine (impl_GoodField.calls k a0_0 _ _ l0_1 _ _ l0_2 a1_0 a1_1 _ _ l1_2 true _ ?side1 ?side2 ?side3 ?side4 ?side5 ?side6 A3.out).mono ?_); (case side1 => repeat (first | exact (Kd.C_below HR0_1.out HB.out) | (with_reducible refine Kd.C_alloc ?_ _) | (with_reducible refine Kd.C_drewN ?_ _) | (with_reducible refine Kd.C_drew ?_))); (case side2 => exact HC0_1.out); (case side3 => repeat (first | exact (Kd.C_below HR0_2.out HB.out) | (with_reducible refine Kd.C_alloc ?_ _) | (with_reducible refine Kd.C_drewN ?_ _) | (with_reducible refine Kd.C_drew ?_))); (case side4 => exact HC0_2.out); (case side5 => repeat (first | exact (Kd.C_below HR1_2.out HB.out) | (with_reducible refine Kd.C_alloc ?_ _) | (with_reducible refine Kd.C_drewN ?_ _) | (with_reducible refine Kd.C_drew ?_))); (case side6 => exact HC1_2.out); rintro e w133 ⟨rfl, hb⟩; refine ⟨_, rfl, ?_⟩; have n0_ := Aside0.mk (blk_below (bk_ BK266.out) hb); have n1_ := Aside0.mk (blk_below (bk_ BK267.out) hb); have n2_ := Aside0.mk (blk_below (bk_ BK268.out) hb); have n3_ := Aside0.mk (below_step (bw_ HB.out) hb); clear BK266; clear BK267; clear BK268; clear HB; have BK266 := n0_; have BK267 := n1_; have BK268 := n2_; have HB := n3_; clear n0_ n1_ n2_ n3_; (try clear hb); (try clear hb2); (try clear hk); (try clear hi); have hcz134_0 := cz_ BK266.out 0; have hcz134_1 := cz_ BK266.out 1; have hcz134_2 := cz_ BK266.out 2; have hfz134_0 := blk_frozen BK266.out 0; have hfz134_1 := blk_frozen BK266.out 1; have hfz134_2 := blk_frozen BK266.out 2; have hcz135_0 := cz_ BK267.out 0; have hcz135_1 := cz_ BK267.out 1; have hcz135_2 := cz_ BK267.out 2; have hfz135_0 := blk_frozen BK267.out 0; have hfz135_1 := blk_frozen BK267.out 1; have hfz135_2 := blk_frozen BK267.out 2) | ((with_reducible refine gate_callee (f := 37) rfl ?_); refine goesL_ (some 21) rfl rfl Try.func37 (by kernel_rfl) rfl #[.agg #[.int .i64 a0_0, .slice A0_1 l0_1.length c0_1, .slice A0_2 l0_2.length c0_2], .agg #[.int .i64 a1_0, .int .i64 a1_1, .slice A1_2 l1_2.length c1_2]] rfl (by (try simp only [List.map_toArray, List.map_cons, List.map_nil]); first | done | rfl | (simp only [List.length_drop, List.length_take]; rfl)) ?_; (with_reducible refine (impl_Rules_holds.calls k a0_0 _ _ l0_1 _ _ l0_2 a1_0 a1_1 _ _ l1_2 false _ ?side1 ?side2 ?side3 ?side4 ?side5 ?side6 A5.out).mono ?_); (case side1 => repeat (first | exact (Kd.C_below HR0_1.out HB.out) | (with_reducible refine Kd.C_alloc ?_ _) | (with_reducible refine Kd.C_drewN ?_ _) | (with_reducible refine Kd.C_drew ?_))); (case side2 => exact HC0_1.out); (case side3 => repeat (first | exact (Kd.C_below HR0_2.out HB.out) | (with_reducible refine Kd.C_alloc ?_ _) | (with_reducible refine Kd.C_drewN ?_ _) | (with_reducible refine Kd.C_drew ?_))); (case side4 => exact HC0_2.out); (case side5 => repeat (first | exact (Kd.C_below HR1_2.out HB.out) | (with_reducible refine Kd.C_alloc ?_ _) | (with_reducible refine Kd.C_drewN ?_ _) | (with_reducible refine Kd.C_drew ?_))); (case side6 => exact HC1_2.out); rintro e w136 ⟨rfl, hb⟩; refine ⟨_, rfl, ?_⟩; have n0_ := Aside0.mk (blk_below (bk_ BK266.out) hb); have n1_ := Aside0.mk (blk_below (bk_ BK267.out) hb); have n2_ := Aside0.mk (blk_below (bk_ BK268.out) hb); have n3_ := Aside0.mk (below_step (bw_ HB.out) hb); clear BK266; clear BK267; clear BK268; clear HB; have BK266 := n0_; have BK267 := n1_; have BK268 := n2_; have HB := n3_; clear n0_ n1_ n2_ n3_; (try clear hb); (try clear hb2); (try clear hk); (try clear hi); have hcz137_0 := cz_ BK268.out 0; have hcz137_1 := cz_ BK268.out 1; have hcz137_2 := cz_ BK268.out 2; have hcz137_3 := cz_ BK268.out 3; have hcz137_4 := cz_ BK268.out 4; have hfz137_0 := blk_frozen BK268.out 0; have hfz137_1 := blk_frozen BK268.out 1; have hfz137_2 := blk_frozen BK268.out 2; have hfz137_3 := blk_frozen BK268.out 3; have hfz137_4 := blk_frozen BK268.out 4))
   refine bodyPost_ret (results_ct rfl _ _ gb268 44 #[.bool false, .int .i64 0, .int .i64 0, .slice none 0 0, .int .i64 0] (0, 0) _ rfl (by (with_reducible repeat (first | refine blk_drewN ?_ _ | refine blk_drew ?_ | refine blk_alloc ?_ _)); refine blk_put (cs := #[.bool false, .int .i64 0, .int .i64 0, .slice none 0 0, .int .i64 0]) ?_ 4 _ rfl; (with_reducible repeat (first | refine blk_drewN ?_ _ | refine blk_drew ?_ | refine blk_alloc ?_ _)); refine blk_put (cs := #[.bool false, .int .i64 0, .int .i64 0, .slice none 0 0, .int .i64 0]) ?_ 3 _ rfl; (with_reducible repeat (first | refine blk_drewN ?_ _ | refine blk_drew ?_ | refine blk_alloc ?_ _)); refine blk_put (cs := #[.bool false, .int .i64 0, .int .i64 0, .slice none 0 0, .int .i64 0]) ?_ 2 _ rfl; (with_reducible repeat (first | refine blk_drewN ?_ _ | refine blk_drew ?_ | refine blk_alloc ?_ _)); refine blk_put (cs := #[.bool false, .int .i64 0, .int .i64 0, .slice none 0 0, .int .i64 0]) ?_ 1 _ rfl; (with_reducible repeat (first | refine blk_drewN ?_ _ | refine blk_drew ?_ | refine blk_alloc ?_ _)); refine blk_put (cs := #[.bool false, .int .i64 0, .int .i64 0, .slice none 0 0, .int .i64 0]) ?_ 0 _ rfl; (with_reducible repeat (first | refine blk_drewN ?_ _ | refine blk_drew ?_ | refine blk_alloc ?_ _)); exact BK268.out) Try.underlying44 rfl (by kernel_rfl)) rfl ?_
   exact ⟨_, by first | rfl | (simp [errW_none, errW_some] <;> rfl) | (simp [*, errW_none, errW_some] <;> rfl), by first | exact Kd.R_nil _ _ _ _ _ | exact Kd.N_nil _ _ _ _ _ | exact Kd.V_nil _ _ _ _ _ | exact Kd.Q_nil _ _ _ _ _ | exact Kd.S_nil _ _ _ _ _, bw_ HB.out⟩
 ·replace c4 := Bool.eq_false_iff.mpr c4
  subst c4
  replace H := if_ H Bool.false_ne_true
  simp only [Option.some.injEq, Prod.mk.injEq] at H
  obtain ⟨rfl, rfl, rfl, rfl, rfl, rfl⟩ := H
  go_enter Try.func19, Try.ntmps19
  go_wp2_with (first | ((with_reducible refine gate_dst (N := 2) rfl ?_); refine bx_ 2 #[.int .i64 a0_0, .slice A0_1 l0_1.length c0_1, .slice A0_2 l0_2.length c0_2] 32 ?_; intro gb266 hg w138 hbox hb; have n0_ := Aside0.mk (below_step (bw_ HB.out) hb); have n1_ := Aside0.mk (hbox); have n2_ := Aside0.mk (gs_ hg (bw_ HB.out)); have n3_ := Aside0.mk (gs_ hg (bw_ HB.out)); clear HB; have HB := n0_; have BK266 := n1_; have GW266 := n2_; have GE266 := n3_; clear n0_ n1_ n2_ n3_; clear hb hbox hg) | ((with_reducible refine gate_dst (N := 3) rfl ?_); refine bx_ 3 #[.int .i64 a1_0, .int .i64 a1_1, .slice A1_2 l1_2.length c1_2] 34 ?_; intro gb267 hg w139 hbox hb; have n0_ := Aside0.mk (blk_below (bk_ BK266.out) hb); have n1_ := Aside0.mk (below_step (bw_ HB.out) hb); have n2_ := Aside0.mk (hbox); have n3_ := Aside0.mk (gs_ hg (bw_ HB.out)); have n4_ := Aside0.mk (gs_ hg (bw_ HB.out)); have n5_ := Aside0.mk (nl_ hg (bk_ BK266.out)); have n6_ := Aside0.mk (ng_ hg (bk_ BK266.out)); clear BK266; clear HB; have BK266 := n0_; have HB := n1_; have BK267 := n2_; have GW267 := n3_; have GE267 := n4_; have NB266_267 := n5_; have NB267_266 := n6_; clear n0_ n1_ n2_ n3_ n4_ n5_ n6_; clear hb hbox hg) | ((with_reducible refine gate_dst (N := 4) rfl ?_); refine bx_ 4 #[.bool false, .int .i64 0, .int .i64 0, .slice none 0 0, .int .i64 0] 44 ?_; intro gb268 hg w140 hbox hb; have n0_ := Aside0.mk (blk_below (bk_ BK266.out) hb); have n1_ := Aside0.mk (blk_below (bk_ BK267.out) hb); have n2_ := Aside0.mk (below_step (bw_ HB.out) hb); have n3_ := Aside0.mk (hbox); have n4_ := Aside0.mk (gs_ hg (bw_ HB.out)); have n5_ := Aside0.mk (gs_ hg (bw_ HB.out)); have n6_ := Aside0.mk (nl_ hg (bk_ BK266.out)); have n7_ := Aside0.mk (ng_ hg (bk_ BK266.out)); have n8_ := Aside0.mk (nl_ hg (bk_ BK267.out)); have n9_ := Aside0.mk (ng_ hg (bk_ BK267.out)); clear BK266; clear BK267; clear HB; have BK266 := n0_; have BK267 := n1_; have HB := n2_; have BK268 := n3_; have GW268 := n4_; have GE268 := n5_; have NB266_268 := n6_; have NB268_266 := n7_; have NB267_268 := n8_; have NB268_267 := n9_; clear n0_ n1_ n2_ n3_ n4_ n5_ n6_ n7_ n8_ n9_; clear hb hbox hg; have hnb141 := NB266_267.out; have hnc141 := NB267_266.out; have hnb142 := NB266_268.out; have hnc142 := NB268_266.out; have hcz143_0 := cz_ BK266.out 0; have hcz143_1 := cz_ BK266.out 1; have hcz143_2 := cz_ BK266.out 2; have hfz143_0 := blk_frozen BK266.out 0; have hfz143_1 := blk_frozen BK266.out 1; have hfz143_2 := blk_frozen BK266.out 2; have hnb144 := NB267_268.out; have hnc144 := NB268_267.out; have hcz145_0 := cz_ BK267.out 0; have hcz145_1 := cz_ BK267.out 1; have hcz145_2 := cz_ BK267.out 2; have hfz145_0 := blk_frozen BK267.out 0; have hfz145_1 := blk_frozen BK267.out 1; have hfz145_2 := blk_frozen BK267.out 2) | ((with_reducible refine gate_callee (f := 30) rfl ?_); refine goesL_ (some 16) rfl rfl Try.func30 (by kernel_rfl) rfl #[.agg #[.int .i64 a0_0, .slice A0_1 l0_1.length c0_1, .slice A0_2 l0_2.length c0_2], .agg #[.int .i64 a1_0, .int .i64 a1_1, .slice A1_2 l1_2.length c1_2]] rfl (by (try simp only [List.map_toArray, List.map_cons, List.map_nil]); first | done | rfl | (simp only [List.length_drop, List.length_take]; rfl)) ?_; (with_reducible refine (impl_GoodField.calls k a0_0 _ _ l0_1 _ _ l0_2 a1_0 a1_1 _ _ l1_2 false _ ?side1 ?side2 ?side3 ?side4 ?side5 ?side6 A3.out).mono ?_); (case side1 => repeat (first | exact (Kd.C_below HR0_1.out HB.out) | (with_reducible refine Kd.C_alloc ?_ _) | (with_reducible refine Kd.C_drewN ?_ _) | (with_reducible refine Kd.C_drew ?_))); (case side2 => exact HC0_1.out); (case side3 => repeat (first | exact (Kd.C_below HR0_2.out HB.out) | (with_reducible refine Kd.C_alloc ?_ _) | (with_reducible refine Kd.C_drewN ?_ _) | (with_reducible refine Kd.C_drew ?_))); (case side4 => exact HC0_2.out); (case side5 => repeat (first | exact (Kd.C_below HR1_2.out HB.out) | (with_reducible refine Kd.C_alloc ?_ _) | (with_reducible refine Kd.C_drewN ?_ _) | (with_reducible refine Kd.C_drew ?_))); (case side6 => exact HC1_2.out); rintro e w146 ⟨rfl, hb⟩; refine ⟨_, rfl, ?_⟩; have n0_ := Aside0.mk (blk_below (bk_ BK266.out) hb); have n1_ := Aside0.mk (blk_below (bk_ BK267.out) hb); have n2_ := Aside0.mk (blk_below (bk_ BK268.out) hb); have n3_ := Aside0.mk (below_step (bw_ HB.out) hb); clear BK266; clear BK267; clear BK268; clear HB; have BK266 := n0_; have BK267 := n1_; have BK268 := n2_; have HB := n3_; clear n0_ n1_ n2_ n3_; (try clear hb); (try clear hb2); (try clear hk); (try clear hi); have hcz147_0 := cz_ BK268.out 0; have hcz147_1 := cz_ BK268.out 1; have hcz147_2 := cz_ BK268.out 2; have hcz147_3 := cz_ BK268.out 3; have hcz147_4 := cz_ BK268.out 4; have hfz147_0 := blk_frozen BK268.out 0; have hfz147_1 := blk_frozen BK268.out 1; have hfz147_2 := blk_frozen BK268.out 2; have hfz147_3 := blk_frozen BK268.out 3; have hfz147_4 := blk_frozen BK268.out 4))
  refine bodyPost_ret (results_ct rfl _ _ gb268 44 #[.bool false, .int .i64 0, .int .i64 0, .slice none 0 0, .int .i64 0] (0, 0) _ rfl (by (with_reducible repeat (first | refine blk_drewN ?_ _ | refine blk_drew ?_ | refine blk_alloc ?_ _)); refine blk_put (cs := #[.bool false, .int .i64 0, .int .i64 0, .slice none 0 0, .int .i64 0]) ?_ 4 _ rfl; (with_reducible repeat (first | refine blk_drewN ?_ _ | refine blk_drew ?_ | refine blk_alloc ?_ _)); refine blk_put (cs := #[.bool false, .int .i64 0, .int .i64 0, .slice none 0 0, .int .i64 0]) ?_ 3 _ rfl; (with_reducible repeat (first | refine blk_drewN ?_ _ | refine blk_drew ?_ | refine blk_alloc ?_ _)); refine blk_put (cs := #[.bool false, .int .i64 0, .int .i64 0, .slice none 0 0, .int .i64 0]) ?_ 2 _ rfl; (with_reducible repeat (first | refine blk_drewN ?_ _ | refine blk_drew ?_ | refine blk_alloc ?_ _)); refine blk_put (cs := #[.bool false, .int .i64 0, .int .i64 0, .slice none 0 0, .int .i64 0]) ?_ 1 _ rfl; (with_reducible repeat (first | refine blk_drewN ?_ _ | refine blk_drew ?_ | refine blk_alloc ?_ _)); refine blk_put (cs := #[.bool false, .int .i64 0, .int .i64 0, .slice none 0 0, .int .i64 0]) ?_ 0 _ rfl; (with_reducible repeat (first | refine blk_drewN ?_ _ | refine blk_drew ?_ | refine blk_alloc ?_ _)); exact BK268.out) Try.underlying44 rfl (by kernel_rfl)) rfl ?_
  exact ⟨_, by first | rfl | (simp [errW_none, errW_some] <;> rfl) | (simp [*, errW_none, errW_some] <;> rfl), by first | exact Kd.R_nil _ _ _ _ _ | exact Kd.N_nil _ _ _ _ _ | exact Kd.V_nil _ _ _ _ _ | exact Kd.Q_nil _ _ _ _ _ | exact Kd.S_nil _ _ _ _ _, bw_ HB.out⟩

end Go.Proofs.Ytblmejanjhmjdaa.XFnExactFillField
