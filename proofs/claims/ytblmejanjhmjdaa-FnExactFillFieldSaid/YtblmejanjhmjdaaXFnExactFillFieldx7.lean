/- What the Go functions that this law comes to compute, each walked; written by a program of this session. -/
import Derived.Test.YtblmejanjhmjdaaXMark
import Derived.Test.YtblmejanjhmjdaaXFnExactFillFieldx0
import Derived.Test.YtblmejanjhmjdaaXFnExactFillFieldx4
import Derived.Test.YtblmejanjhmjdaaXFnExactFillFieldx5
import Derived.Test.YtblmejanjhmjdaaXFnExactFillFieldx6
namespace Go.Proofs.Ytblmejanjhmjdaa.XFnExactFillField
open Go.RowKit Go.Proofs.YtblmejanjhmjdaaW.PrintWords Go.Proofs.YtblmejanjhmjdaaW.PrintLast Go.Proofs.YtblmejanjhmjdaaW.PrintMore
attribute [local go_sem] str_geq max2_int min2_int max_two min_two max_three min_three max_four min_four   -- for this text's walks alone
set_option linter.unusedVariables false
set_option linter.unusedSimpArgs false

/-! ### spec_FillField: function 18 -/
mutual
def spec_FillField.l0 : Nat → List Int → List Int → Int → Int → Int → List (List Int) → List (List Int) → Int → Int → List Int → Option (Bool × Int × Int × List Int × Int × Bool)
 | 0, _, _, _, _, _, _, _, _, _, _ => none
 | k + 1, x6, x26, x27, x28, x199000, x199001, x199002, x200000, x200001, x200002 => if x28 < x27 then (if 0 ≤ x28 then (if x28 < (x26.length : Int) then (if (rd x26 x28) < 0 then (if x6.length < 17592186044416 then (spec_FillField.l0 k (x6 ++ [x28]) x26 x27 (wrap64 (x28 + 1)) x199000 x199001 x199002 x200000 x200001 x200002) else (none)) else (spec_FillField.l0 k x6 x26 x27 (wrap64 (x28 + 1)) x199000 x199001 x199002 x200000 x200001 x200002)) else (none)) else (none)) else (spec_FillField.l1 k x6 0 0 x199000 x199001 x199002 x200000 x200001 x200002)
def spec_FillField.l1 : Nat → List Int → Int → Int → Int → List (List Int) → List (List Int) → Int → Int → List Int → Option (Bool × Int × Int × List Int × Int × Bool)
 | 0, _, _, _, _, _, _, _, _, _ => none
 | k + 1, x6, x9, x10, x199000, x199001, x199002, x200000, x200001, x200002 => if x10 < (x6.length : Int) then (if 0 ≤ x10 then (if 0 ≤ (rd x6 x10) then (if (rd x6 x10) < (x200002.length : Int) then (spec_FillField.l2 k x6 x9 x10 (rd x6 x10) (wrap64 ((rd x200002 (rd x6 x10)) + 1)) x199000 x199001 x199002 x200000 x200001 (x200002.set ((rd x6 x10) : Int).toNat (-1))) else (none)) else (none)) else (none)) else (some (true, x200000, x200001, x200002, x9, true))
def spec_FillField.j3 : Nat → List Int → Int → Int → Int → Int → Int → List (List Int) → List (List Int) → Int → Int → List Int → Option (Bool × Int × Int × List Int × Int × Bool)
 | 0, _, _, _, _, _, _, _, _, _, _, _ => none
 | k + 1, x6, x9, x10, x11, x12, x199000, x199001, x199002, x200000, x200001, x200002 => if x12 = x199000 then (if (wrap64 (x10 - 1)) < 0 then (some (false, 0, 0, ([] : List Int), x9, true)) else (spec_FillField.l1 k x6 x9 (wrap64 (x10 - 1)) x199000 x199001 x199002 x200000 x200001 x200002)) else (if x9 = 5000 then (some (false, 0, 0, ([] : List Int), x9, true)) else (if 0 ≤ x11 then (if x11 < (x200002.length : Int) then (spec_FillField.l1 k x6 (wrap64 (x9 + 1)) (wrap64 (x10 + 1)) x199000 x199001 x199002 x200000 x200001 (x200002.set (x11 : Int).toNat x12)) else (none)) else (none)))
def spec_FillField.l2 : Nat → List Int → Int → Int → Int → Int → Int → List (List Int) → List (List Int) → Int → Int → List Int → Option (Bool × Int × Int × List Int × Int × Bool)
 | 0, _, _, _, _, _, _, _, _, _, _, _ => none
 | k + 1, x6, x9, x10, x11, x12, x199000, x199001, x199002, x200000, x200001, x200002 => if x12 < x199000 then ((spec_l14Fits.f k x199000 x199001 x199002 x200000 x200001 x200002 x11 x12).bind fun t215 => (if t215 = true then (spec_FillField.j3 k x6 x9 x10 x11 x12 x199000 x199001 x199002 x200000 x200001 x200002) else (spec_FillField.l2 k x6 x9 x10 x11 (wrap64 (x12 + 1)) x199000 x199001 x199002 x200000 x200001 x200002))) else (spec_FillField.j3 k x6 x9 x10 x11 x12 x199000 x199001 x199002 x200000 x200001 x200002)
end
def spec_FillField.f (k : Nat) (a0_0 : Int) (l0_1 : List (List Int)) (l0_2 : List (List Int)) (a1_0 : Int) (a1_1 : Int) (l1_2 : List Int) : Option (Bool × Int × Int × List Int × Int × Bool) := (spec_GoodField.f k a0_0 l0_1 l0_2 a1_0 a1_1 l1_2).bind fun t201 => (if t201 = true then ((spec_l14Holds.f k a0_0 l0_1 l0_2 a1_0 a1_1 l1_2).bind fun t202 => (if t202 = true then ((spec_l14Own.f a1_0 a1_1 l1_2).bind fun bt203 => (spec_FillField.l0 k ([] : List Int) bt203.2.2 (bt203.2.2.length : Int) 0 a0_0 l0_1 l0_2 bt203.1 bt203.2.1 bt203.2.2)) else (some (false, 0, 0, ([] : List Int), 0, true)))) else (some (false, 0, 0, ([] : List Int), 0, false)))
theorem spec_FillField.mono_l : ∀ k, (∀ y0 y1 y2 y3 y4 y5 y6 y7 y8 y9, LeO (spec_FillField.l0 k y0 y1 y2 y3 y4 y5 y6 y7 y8 y9) (spec_FillField.l0 (k + 1) y0 y1 y2 y3 y4 y5 y6 y7 y8 y9)) ∧ (∀ y0 y1 y2 y3 y4 y5 y6 y7 y8, LeO (spec_FillField.l1 k y0 y1 y2 y3 y4 y5 y6 y7 y8) (spec_FillField.l1 (k + 1) y0 y1 y2 y3 y4 y5 y6 y7 y8)) ∧ (∀ y0 y1 y2 y3 y4 y5 y6 y7 y8 y9 y10, LeO (spec_FillField.j3 k y0 y1 y2 y3 y4 y5 y6 y7 y8 y9 y10) (spec_FillField.j3 (k + 1) y0 y1 y2 y3 y4 y5 y6 y7 y8 y9 y10)) ∧ (∀ y0 y1 y2 y3 y4 y5 y6 y7 y8 y9 y10, LeO (spec_FillField.l2 k y0 y1 y2 y3 y4 y5 y6 y7 y8 y9 y10) (spec_FillField.l2 (k + 1) y0 y1 y2 y3 y4 y5 y6 y7 y8 y9 y10))
 | 0 => ⟨fun _ _ _ _ _ _ _ _ _ _ r h => by simp [spec_FillField.l0] at h, fun _ _ _ _ _ _ _ _ _ r h => by simp [spec_FillField.l1] at h, fun _ _ _ _ _ _ _ _ _ _ _ r h => by simp [spec_FillField.j3] at h, fun _ _ _ _ _ _ _ _ _ _ _ r h => by simp [spec_FillField.l2] at h⟩
 | k + 1 => by
  obtain ⟨ih0, ih1, ih2, ih3⟩ := spec_FillField.mono_l k
  refine ⟨?_, ?_, ?_, ?_⟩
  ·intro y0 y1 y2 y3 y4 y5 y6 y7 y8 y9
   unfold spec_FillField.l0
   repeat' first
   | (with_reducible exact ih0 _ _ _ _ _ _ _ _ _ _)
   | (with_reducible exact ih1 _ _ _ _ _ _ _ _ _)
   | (with_reducible exact ih2 _ _ _ _ _ _ _ _ _ _ _)
   | (with_reducible exact ih3 _ _ _ _ _ _ _ _ _ _ _)
   | (with_reducible exact spec_GoodField.mono _ _ _ _ _ _ _)
   | (with_reducible exact spec_l14Fits.mono _ _ _ _ _ _ _ _ _)
   | (with_reducible exact spec_l14Holds.mono _ _ _ _ _ _ _)
   | (with_reducible exact LeO.refl _)
   | (with_reducible exact LeO.none _)
   | (with_reducible refine LeO.ite ?_ ?_)
   | (with_reducible refine LeO.bind ?_ (fun _ => ?_))
   | exact ih0 _ _ _ _ _ _ _ _ _ _
   | exact ih1 _ _ _ _ _ _ _ _ _
   | exact ih2 _ _ _ _ _ _ _ _ _ _ _
   | exact ih3 _ _ _ _ _ _ _ _ _ _ _
   | exact spec_GoodField.mono _ _ _ _ _ _ _
   | exact spec_l14Fits.mono _ _ _ _ _ _ _ _ _
   | exact spec_l14Holds.mono _ _ _ _ _ _ _
   | exact LeO.none _
   | refine LeO.ite ?_ ?_
   | refine LeO.bind ?_ (fun _ => ?_)
  ·intro y0 y1 y2 y3 y4 y5 y6 y7 y8
   unfold spec_FillField.l1
   repeat' first
   | (with_reducible exact ih0 _ _ _ _ _ _ _ _ _ _)
   | (with_reducible exact ih1 _ _ _ _ _ _ _ _ _)
   | (with_reducible exact ih2 _ _ _ _ _ _ _ _ _ _ _)
   | (with_reducible exact ih3 _ _ _ _ _ _ _ _ _ _ _)
   | (with_reducible exact spec_GoodField.mono _ _ _ _ _ _ _)
   | (with_reducible exact spec_l14Fits.mono _ _ _ _ _ _ _ _ _)
   | (with_reducible exact spec_l14Holds.mono _ _ _ _ _ _ _)
   | (with_reducible exact LeO.refl _)
   | (with_reducible exact LeO.none _)
   | (with_reducible refine LeO.ite ?_ ?_)
   | (with_reducible refine LeO.bind ?_ (fun _ => ?_))
   | exact ih0 _ _ _ _ _ _ _ _ _ _
   | exact ih1 _ _ _ _ _ _ _ _ _
   | exact ih2 _ _ _ _ _ _ _ _ _ _ _
   | exact ih3 _ _ _ _ _ _ _ _ _ _ _
   | exact spec_GoodField.mono _ _ _ _ _ _ _
   | exact spec_l14Fits.mono _ _ _ _ _ _ _ _ _
   | exact spec_l14Holds.mono _ _ _ _ _ _ _
   | exact LeO.none _
   | refine LeO.ite ?_ ?_
   | refine LeO.bind ?_ (fun _ => ?_)
  ·intro y0 y1 y2 y3 y4 y5 y6 y7 y8 y9 y10
   unfold spec_FillField.j3
   repeat' first
   | (with_reducible exact ih0 _ _ _ _ _ _ _ _ _ _)
   | (with_reducible exact ih1 _ _ _ _ _ _ _ _ _)
   | (with_reducible exact ih2 _ _ _ _ _ _ _ _ _ _ _)
   | (with_reducible exact ih3 _ _ _ _ _ _ _ _ _ _ _)
   | (with_reducible exact spec_GoodField.mono _ _ _ _ _ _ _)
   | (with_reducible exact spec_l14Fits.mono _ _ _ _ _ _ _ _ _)
   | (with_reducible exact spec_l14Holds.mono _ _ _ _ _ _ _)
   | (with_reducible exact LeO.refl _)
   | (with_reducible exact LeO.none _)
   | (with_reducible refine LeO.ite ?_ ?_)
   | (with_reducible refine LeO.bind ?_ (fun _ => ?_))
   | exact ih0 _ _ _ _ _ _ _ _ _ _
   | exact ih1 _ _ _ _ _ _ _ _ _
   | exact ih2 _ _ _ _ _ _ _ _ _ _ _
   | exact ih3 _ _ _ _ _ _ _ _ _ _ _
   | exact spec_GoodField.mono _ _ _ _ _ _ _
   | exact spec_l14Fits.mono _ _ _ _ _ _ _ _ _
   | exact spec_l14Holds.mono _ _ _ _ _ _ _
   | exact LeO.none _
   | refine LeO.ite ?_ ?_
   | refine LeO.bind ?_ (fun _ => ?_)
  ·intro y0 y1 y2 y3 y4 y5 y6 y7 y8 y9 y10
   unfold spec_FillField.l2
   repeat' first
   | (with_reducible exact ih0 _ _ _ _ _ _ _ _ _ _)
   | (with_reducible exact ih1 _ _ _ _ _ _ _ _ _)
   | (with_reducible exact ih2 _ _ _ _ _ _ _ _ _ _ _)
   | (with_reducible exact ih3 _ _ _ _ _ _ _ _ _ _ _)
   | (with_reducible exact spec_GoodField.mono _ _ _ _ _ _ _)
   | (with_reducible exact spec_l14Fits.mono _ _ _ _ _ _ _ _ _)
   | (with_reducible exact spec_l14Holds.mono _ _ _ _ _ _ _)
   | (with_reducible exact LeO.refl _)
   | (with_reducible exact LeO.none _)
   | (with_reducible refine LeO.ite ?_ ?_)
   | (with_reducible refine LeO.bind ?_ (fun _ => ?_))
   | exact ih0 _ _ _ _ _ _ _ _ _ _
   | exact ih1 _ _ _ _ _ _ _ _ _
   | exact ih2 _ _ _ _ _ _ _ _ _ _ _
   | exact ih3 _ _ _ _ _ _ _ _ _ _ _
   | exact spec_GoodField.mono _ _ _ _ _ _ _
   | exact spec_l14Fits.mono _ _ _ _ _ _ _ _ _
   | exact spec_l14Holds.mono _ _ _ _ _ _ _
   | exact LeO.none _
   | refine LeO.ite ?_ ?_
   | refine LeO.bind ?_ (fun _ => ?_)
theorem spec_FillField.mono : ∀ a0 a1 a2 a3 a4 a5 k, LeO (spec_FillField.f k a0 a1 a2 a3 a4 a5) (spec_FillField.f (k + 1) a0 a1 a2 a3 a4 a5) := by
 intro a0 a1 a2 a3 a4 a5 k
 obtain ⟨ih0, ih1, ih2, ih3⟩ := spec_FillField.mono_l k
 unfold spec_FillField.f
 repeat' first
   | (with_reducible exact ih0 _ _ _ _ _ _ _ _ _ _)
   | (with_reducible exact ih1 _ _ _ _ _ _ _ _ _)
   | (with_reducible exact ih2 _ _ _ _ _ _ _ _ _ _ _)
   | (with_reducible exact ih3 _ _ _ _ _ _ _ _ _ _ _)
   | (with_reducible exact spec_GoodField.mono _ _ _ _ _ _ _)
   | (with_reducible exact spec_l14Fits.mono _ _ _ _ _ _ _ _ _)
   | (with_reducible exact spec_l14Holds.mono _ _ _ _ _ _ _)
   | (with_reducible exact LeO.refl _)
   | (with_reducible exact LeO.none _)
   | (with_reducible refine LeO.ite ?_ ?_)
   | (with_reducible refine LeO.bind ?_ (fun _ => ?_))
   | exact ih0 _ _ _ _ _ _ _ _ _ _
   | exact ih1 _ _ _ _ _ _ _ _ _
   | exact ih2 _ _ _ _ _ _ _ _ _ _ _
   | exact ih3 _ _ _ _ _ _ _ _ _ _ _
   | exact spec_GoodField.mono _ _ _ _ _ _ _
   | exact spec_l14Fits.mono _ _ _ _ _ _ _ _ _
   | exact spec_l14Holds.mono _ _ _ _ _ _ _
   | exact LeO.none _
   | refine LeO.ite ?_ ?_
   | refine LeO.bind ?_ (fun _ => ?_)
set_option maxHeartbeats 8000000 in
set_option maxRecDepth 100000 in
theorem spec_FillField.calls (k : Nat) (a0_0 : Int) (A0_1 : Option Addr) (c0_1 : Nat) (l0_1 : List (List Int)) (A0_2 : Option Addr) (c0_2 : Nat) (l0_2 : List (List Int)) (a1_0 : Int) (a1_1 : Int) (A1_2 : Option Addr) (c1_2 : Nat) (l1_2 : List Int) (r1 : Bool) (r2 : Int) (r3 : Int) (r4 : List Int) (r5 : Int) (r6 : Bool) (w : World) (hr0_1 : Kd.C (Kd.slice 3 (Kd.int .i64)) w A0_1 l0_1.length l0_1) (hc0_1 : l0_1.length ≤ c0_1) (hr0_2 : Kd.C (Kd.slice 3 (Kd.int .i64)) w A0_2 l0_2.length l0_2) (hc0_2 : l0_2.length ≤ c0_2) (hr1_2 : Kd.C (Kd.int .i64) w A1_2 l1_2.length l1_2) (hc1_2 : l1_2.length ≤ c1_2) (h : spec_FillField.f k a0_0 l0_1 l0_2 a1_0 a1_1 l1_2 = some (r1, r2, r3, r4, r5, r6)) :
  Calls Try.prog 18 #[.agg #[.int .i64 a0_0, .slice A0_1 l0_1.length c0_1, .slice A0_2 l0_2.length c0_2], .agg #[.int .i64 a1_0, .int .i64 a1_1, .slice A1_2 l1_2.length c1_2]] w fun e w' => ∃ v3_ : Value, e = .returned (.tuple #[.agg #[.bool r1, .int .i64 r2, .int .i64 r3, v3_, .int .i64 r5], .bool r6]) ∧ Kd.R (Kd.int .i64) 3 w' w.heap.size (fun _ => True) v3_ r4 ∧ Below w.heap.size w w' := by
 have hu32 := Try.underlying32
 have hu34 := Try.underlying34
 have hu44 := Try.underlying44
 have HR0_1 := Aside0.mk hr0_1
 have HC0_1 := Aside0.mk hc0_1
 clear hr0_1 hc0_1
 have HR0_2 := Aside0.mk hr0_2
 have HC0_2 := Aside0.mk hc0_2
 clear hr0_2 hc0_2
 have HR1_2 := Aside0.mk hr1_2
 have HC1_2 := Aside0.mk hc1_2
 clear hr1_2 hc1_2
 have HB := Aside0.mk (Below.refl w.heap.size w)
 have H : ((spec_GoodField.f k a0_0 l0_1 l0_2 a1_0 a1_1 l1_2).bind fun t201 => (if t201 = true then ((spec_l14Holds.f k a0_0 l0_1 l0_2 a1_0 a1_1 l1_2).bind fun t202 => (if t202 = true then ((spec_l14Own.f a1_0 a1_1 l1_2).bind fun bt203 => (spec_FillField.l0 k ([] : List Int) bt203.2.2 (bt203.2.2.length : Int) 0 a0_0 l0_1 l0_2 bt203.1 bt203.2.1 bt203.2.2)) else (some (false, 0, 0, ([] : List Int), 0, true)))) else (some (false, 0, 0, ([] : List Int), 0, false)))) = some (r1, r2, r3, r4, r5, r6) := h
 clear h
 obtain ⟨t201, A30, H⟩ := bE_ H
 have A3 := Aside0.mk A30
 clear A30
 by_cases c4 : t201 = true
 ·subst c4
  replace H := it_ H rfl
  obtain ⟨t202, A50, H⟩ := bE_ H
  have A5 := Aside0.mk A50
  clear A50
  by_cases c6 : t202 = true
  ·subst c6
   replace H := it_ H rfl
   replace H := Option.bind_eq_some_iff.mp H
   obtain ⟨⟨t203, t204, t205⟩, A70, H⟩ := H
   replace H : (spec_FillField.l0 k ([] : List Int) t205 (t205.length : Int) 0 a0_0 l0_1 l0_2 t203 t204 t205) = some (r1, r2, r3, r4, r5, r6) := H
   have A7 := Aside0.mk A70
   clear A70
   have H' := Aside0.mk H
   clear H
   go_enter Try.func18, Try.ntmps18
   go_wp2_with (first | ((with_reducible refine gate_dst (N := 2) rfl ?_); refine bx_ 2 #[.int .i64 a0_0, .slice A0_1 l0_1.length c0_1, .slice A0_2 l0_2.length c0_2] 32 ?_; intro gb198 hg w8 hbox hb; have n0_ := Aside0.mk (below_step (bw_ HB.out) hb); have n1_ := Aside0.mk (hbox); have n2_ := Aside0.mk (gs_ hg (bw_ HB.out)); have n3_ := Aside0.mk (gs_ hg (bw_ HB.out)); clear HB; have HB := n0_; have BK198 := n1_; have GW198 := n2_; have GE198 := n3_; clear n0_ n1_ n2_ n3_; clear hb hbox hg) | ((with_reducible refine gate_dst (N := 3) rfl ?_); refine bx_ 3 #[.int .i64 a1_0, .int .i64 a1_1, .slice A1_2 l1_2.length c1_2] 34 ?_; intro gb199 hg w9 hbox hb; have n0_ := Aside0.mk (blk_below (bk_ BK198.out) hb); have n1_ := Aside0.mk (below_step (bw_ HB.out) hb); have n2_ := Aside0.mk (hbox); have n3_ := Aside0.mk (gs_ hg (bw_ HB.out)); have n4_ := Aside0.mk (gs_ hg (bw_ HB.out)); have n5_ := Aside0.mk (nl_ hg (bk_ BK198.out)); have n6_ := Aside0.mk (ng_ hg (bk_ BK198.out)); clear BK198; clear HB; have BK198 := n0_; have HB := n1_; have BK199 := n2_; have GW199 := n3_; have GE199 := n4_; have NB198_199 := n5_; have NB199_198 := n6_; clear n0_ n1_ n2_ n3_ n4_ n5_ n6_; clear hb hbox hg) | ((with_reducible refine gate_dst (N := 4) rfl ?_); refine bx_ 4 #[.bool false, .int .i64 0, .int .i64 0, .slice none 0 0, .int .i64 0] 44 ?_; intro gb200 hg w10 hbox hb; have n0_ := Aside0.mk (blk_below (bk_ BK198.out) hb); have n1_ := Aside0.mk (blk_below (bk_ BK199.out) hb); have n2_ := Aside0.mk (below_step (bw_ HB.out) hb); have n3_ := Aside0.mk (hbox); have n4_ := Aside0.mk (gs_ hg (bw_ HB.out)); have n5_ := Aside0.mk (gs_ hg (bw_ HB.out)); have n6_ := Aside0.mk (nl_ hg (bk_ BK198.out)); have n7_ := Aside0.mk (ng_ hg (bk_ BK198.out)); have n8_ := Aside0.mk (nl_ hg (bk_ BK199.out)); have n9_ := Aside0.mk (ng_ hg (bk_ BK199.out)); clear BK198; clear BK199; clear HB; have BK198 := n0_; have BK199 := n1_; have HB := n2_; have BK200 := n3_; have GW200 := n4_; have GE200 := n5_; have NB198_200 := n6_; have NB200_198 := n7_; have NB199_200 := n8_; have NB200_199 := n9_; clear n0_ n1_ n2_ n3_ n4_ n5_ n6_ n7_ n8_ n9_; clear hb hbox hg; have hnb11 := NB198_199.out; have hnc11 := NB199_198.out; have hnb12 := NB198_200.out; have hnc12 := NB200_198.out; have hcz13_0 := cz_ BK198.out 0; have hcz13_1 := cz_ BK198.out 1; have hcz13_2 := cz_ BK198.out 2; have hfz13_0 := blk_frozen BK198.out 0; have hfz13_1 := blk_frozen BK198.out 1; have hfz13_2 := blk_frozen BK198.out 2; have hnb14 := NB199_200.out; have hnc14 := NB200_199.out; have hcz15_0 := cz_ BK199.out 0; have hcz15_1 := cz_ BK199.out 1; have hcz15_2 := cz_ BK199.out 2; have hfz15_0 := blk_frozen BK199.out 0; have hfz15_1 := blk_frozen BK199.out 1; have hfz15_2 := blk_frozen BK199.out 2) | ((with_reducible refine gate_callee (f := 25) rfl ?_); refine goesL_ (some 15) rfl rfl Try.func25 (by kernel_rfl) rfl #[.agg #[.int .i64 a0_0, .slice A0_1 l0_1.length c0_1, .slice A0_2 l0_2.length c0_2], .agg #[.int .i64 a1_0, .int .i64 a1_1, .slice A1_2 l1_2.length c1_2]] rfl (by (try simp only [List.map_toArray, List.map_cons, List.map_nil]); first | done | rfl | (simp only [List.length_drop, List.length_take]; rfl)) ?_; (with_reducible refine (spec_GoodField.calls k a0_0 _ _ l0_1 _ _ l0_2 a1_0 a1_1 _ _ l1_2 true _ ?side1 ?side2 ?side3 ?side4 ?side5 ?side6 A3.out).mono ?_); (case side1 => repeat (first | exact (Kd.C_below HR0_1.out HB.out) | (with_reducible refine Kd.C_alloc ?_ _) | (with_reducible refine Kd.C_drewN ?_ _) | (with_reducible refine Kd.C_drew ?_))); (case side2 => exact HC0_1.out); (case side3 => repeat (first | exact (Kd.C_below HR0_2.out HB.out) | (with_reducible refine Kd.C_alloc ?_ _) | (with_reducible refine Kd.C_drewN ?_ _) | (with_reducible refine Kd.C_drew ?_))); (case side4 => exact HC0_2.out); (case side5 => repeat (first | exact (Kd.C_below HR1_2.out HB.out) | (with_reducible refine Kd.C_alloc ?_ _) | (with_reducible refine Kd.C_drewN ?_ _) | (with_reducible refine Kd.C_drew ?_))); (case side6 => exact HC1_2.out); rintro e w16 ⟨rfl, hb⟩; refine ⟨_, rfl, ?_⟩; have n0_ := Aside0.mk (blk_below (bk_ BK198.out) hb); have n1_ := Aside0.mk (blk_below (bk_ BK199.out) hb); have n2_ := Aside0.mk (blk_below (bk_ BK200.out) hb); have n3_ := Aside0.mk (below_step (bw_ HB.out) hb); clear BK198; clear BK199; clear BK200; clear HB; have BK198 := n0_; have BK199 := n1_; have BK200 := n2_; have HB := n3_; clear n0_ n1_ n2_ n3_; (try clear hb); (try clear hb2); (try clear hk); (try clear hi); have hcz17_0 := cz_ BK198.out 0; have hcz17_1 := cz_ BK198.out 1; have hcz17_2 := cz_ BK198.out 2; have hfz17_0 := blk_frozen BK198.out 0; have hfz17_1 := blk_frozen BK198.out 1; have hfz17_2 := blk_frozen BK198.out 2; have hcz18_0 := cz_ BK199.out 0; have hcz18_1 := cz_ BK199.out 1; have hcz18_2 := cz_ BK199.out 2; have hfz18_0 := blk_frozen BK199.out 0; have hfz18_1 := blk_frozen BK199.out 1; have hfz18_2 := blk_frozen BK199.out 2) | ((with_reducible refine gate_callee (f := 35) rfl ?_); refine goesL_ (some 20) rfl rfl Try.func35 (by kernel_rfl) rfl #[.agg #[.int .i64 a0_0, .slice A0_1 l0_1.length c0_1, .slice A0_2 l0_2.length c0_2], .agg #[.int .i64 a1_0, .int .i64 a1_1, .slice A1_2 l1_2.length c1_2]] rfl (by (try simp only [List.map_toArray, List.map_cons, List.map_nil]); first | done | rfl | (simp only [List.length_drop, List.length_take]; rfl)) ?_; (with_reducible refine (spec_l14Holds.calls k a0_0 _ _ l0_1 _ _ l0_2 a1_0 a1_1 _ _ l1_2 true _ ?side1 ?side2 ?side3 ?side4 ?side5 ?side6 A5.out).mono ?_); (case side1 => repeat (first | exact (Kd.C_below HR0_1.out HB.out) | (with_reducible refine Kd.C_alloc ?_ _) | (with_reducible refine Kd.C_drewN ?_ _) | (with_reducible refine Kd.C_drew ?_))); (case side2 => exact HC0_1.out); (case side3 => repeat (first | exact (Kd.C_below HR0_2.out HB.out) | (with_reducible refine Kd.C_alloc ?_ _) | (with_reducible refine Kd.C_drewN ?_ _) | (with_reducible refine Kd.C_drew ?_))); (case side4 => exact HC0_2.out); (case side5 => repeat (first | exact (Kd.C_below HR1_2.out HB.out) | (with_reducible refine Kd.C_alloc ?_ _) | (with_reducible refine Kd.C_drewN ?_ _) | (with_reducible refine Kd.C_drew ?_))); (case side6 => exact HC1_2.out); rintro e w19 ⟨rfl, hb⟩; refine ⟨_, rfl, ?_⟩; have n0_ := Aside0.mk (blk_below (bk_ BK198.out) hb); have n1_ := Aside0.mk (blk_below (bk_ BK199.out) hb); have n2_ := Aside0.mk (blk_below (bk_ BK200.out) hb); have n3_ := Aside0.mk (below_step (bw_ HB.out) hb); clear BK198; clear BK199; clear BK200; clear HB; have BK198 := n0_; have BK199 := n1_; have BK200 := n2_; have HB := n3_; clear n0_ n1_ n2_ n3_; (try clear hb); (try clear hb2); (try clear hk); (try clear hi); have hcz20_0 := cz_ BK199.out 0; have hcz20_1 := cz_ BK199.out 1; have hcz20_2 := cz_ BK199.out 2; have hfz20_0 := blk_frozen BK199.out 0; have hfz20_1 := blk_frozen BK199.out 1; have hfz20_2 := blk_frozen BK199.out 2) | ((with_reducible refine gate_callee (f := 36) rfl ?_); refine goesL_ (some 24) rfl rfl Try.func36 (by kernel_rfl) rfl #[.agg #[.int .i64 a1_0, .int .i64 a1_1, .slice A1_2 l1_2.length c1_2]] rfl (by (try simp only [List.map_toArray, List.map_cons, List.map_nil]); first | done | rfl | (simp only [List.length_drop, List.length_take]; rfl)) ?_; (with_reducible refine (spec_l14Own.calls a1_0 a1_1 _ _ l1_2 t203 t204 t205 _ ?side1 ?side2 A7.out).mono ?_); (case side1 => repeat (first | exact (Kd.C_below HR1_2.out HB.out) | (with_reducible refine Kd.C_alloc ?_ _) | (with_reducible refine Kd.C_drewN ?_ _) | (with_reducible refine Kd.C_drew ?_))); (case side2 => exact HC1_2.out); rintro e w21 ⟨v206, rfl, ho0, hb⟩; refine ⟨_, rfl, ?_⟩; have n0_ := Aside0.mk (Kd.R_lower ho0 (below_size (bw_ HB.out))); have n1_ := Aside0.mk (blk_below (bk_ BK198.out) hb); have n2_ := Aside0.mk (blk_below (bk_ BK199.out) hb); have n3_ := Aside0.mk (blk_below (bk_ BK200.out) hb); have n4_ := Aside0.mk (below_step (bw_ HB.out) hb); clear BK198; clear BK199; clear BK200; clear HB; have HO207 := n0_; have BK198 := n1_; have BK199 := n2_; have BK200 := n3_; have HB := n4_; clear n0_ n1_ n2_ n3_ n4_; (try clear hb); (try clear hb2); (try clear hk); (try clear hi); (try clear ho0); have hcz22_0 := cz_ BK199.out 0; have hcz22_1 := cz_ BK199.out 1; have hcz22_2 := cz_ BK199.out 2; have hfz22_0 := blk_frozen BK199.out 0; have hfz22_1 := blk_frozen BK199.out 1; have hfz22_2 := blk_frozen BK199.out 2; obtain ⟨Ao23, co23, eo23⟩ := Kd.R_slice HO207.out; subst eo23))
   go_loopg [6, 28] k (fun kq v6 v28 w' => ∃ (x6_1 : List Int) (x28_1 : Int), v28 = .int .i64 x28_1 ∧ Aside0 (spec_FillField.l0 kq x6_1 t205 (t205.length : Int) x28_1 a0_0 l0_1 l0_2 t203 t204 t205 = some (r1, r2, r3, r4, r5, r6)) ∧ Aside0 (kq ≤ k) ∧ Aside0 (Kd.R (Kd.int .i64) 3 w' w.heap.size (fun k_ => some k_ ≠ ((.slice Ao23 t205.length co23) : Value).ownBlock ∧ some k_ ≠ ((.slice Ao23 t205.length co23) : Value).ownBlock) v6 x6_1) ∧ Aside0 (Kd.R (Kd.int .i64) 3 w' w.heap.size (fun k_ => some k_ ≠ (v6 : Value).ownBlock) (.slice Ao23 t205.length co23) t205) ∧ Aside0 (Kd.R (Kd.int .i64) 3 w' w.heap.size (fun k_ => some k_ ≠ (v6 : Value).ownBlock) (.slice Ao23 t205.length co23) t205) ∧ Aside0 (w'.heap[gb198]? = some (.cells #[.int .i64 a0_0, (.slice A0_1 l0_1.length c0_1), (.slice A0_2 l0_2.length c0_2)] 32 (0, 0))) ∧ Aside0 (w'.heap[gb199]? = some (.cells #[.int .i64 t203, .int .i64 t204, (.slice Ao23 t205.length co23)] 34 (0, 0))) ∧ Aside0 (w'.heap[gb200]? = some (.cells #[.bool false, .int .i64 0, .int .i64 0, (.slice none 0 0), .int .i64 0] 44 (0, 0))) ∧ Aside0 (Below w.heap.size w w'))
   case atStart => exact ⟨(([] : List Int)), (0), (by first | rfl | (simp; done) | (simp [*]; done) | (simp [wrap64]; done)), H', ⟨Nat.le_refl _⟩, ⟨by first | exact Kd.R_nil _ _ _ _ _ | exact Kd.N_nil _ _ _ _ _ | exact Kd.V_nil _ _ _ _ _ | exact Kd.Q_nil _ _ _ _ _ | exact Kd.S_nil _ _ _ _ _⟩, ⟨by (with_reducible repeat (first | apply Kd.R_alloc | apply Kd.R_drewN | apply Kd.R_drew)); exact Kd.R_mono (Kd.R_far (p := ⟨gb199, 2, none⟩) (Kd.R_far (p := ⟨gb199, 1, none⟩) (Kd.R_far (p := ⟨gb199, 0, none⟩) (Kd.R_types HO207.out BK199.out (by decide)) (fun _ hk => hk.2) (.int .i64 t203)) (fun _ hk => hk.2) (.int .i64 t204)) (fun _ hk => hk.2) (.slice Ao23 t205.length co23)) (fun _ hk => (by simp [Value.ownBlock]))⟩, ⟨by (with_reducible repeat (first | apply Kd.R_alloc | apply Kd.R_drewN | apply Kd.R_drew)); exact Kd.R_mono (Kd.R_far (p := ⟨gb199, 2, none⟩) (Kd.R_far (p := ⟨gb199, 1, none⟩) (Kd.R_far (p := ⟨gb199, 0, none⟩) (Kd.R_types HO207.out BK199.out (by decide)) (fun _ hk => hk.2) (.int .i64 t203)) (fun _ hk => hk.2) (.int .i64 t204)) (fun _ hk => hk.2) (.slice Ao23 t205.length co23)) (fun _ hk => (by simp [Value.ownBlock]))⟩, ⟨by (with_reducible repeat (first | refine blk_drewN ?_ _ | refine blk_drew ?_ | refine blk_alloc ?_ _)); refine blk_far ?_ NB198_199.out _; (with_reducible repeat (first | refine blk_drewN ?_ _ | refine blk_drew ?_ | refine blk_alloc ?_ _)); refine blk_far ?_ NB198_199.out _; (with_reducible repeat (first | refine blk_drewN ?_ _ | refine blk_drew ?_ | refine blk_alloc ?_ _)); refine blk_far ?_ NB198_199.out _; (with_reducible repeat (first | refine blk_drewN ?_ _ | refine blk_drew ?_ | refine blk_alloc ?_ _)); exact BK198.out⟩, ⟨by (with_reducible repeat (first | refine blk_drewN ?_ _ | refine blk_drew ?_ | refine blk_alloc ?_ _)); refine blk_put (cs := #[.int .i64 t203, .int .i64 t204, .slice A1_2 l1_2.length c1_2]) ?_ 2 _ rfl; (with_reducible repeat (first | refine blk_drewN ?_ _ | refine blk_drew ?_ | refine blk_alloc ?_ _)); refine blk_put (cs := #[.int .i64 t203, .int .i64 a1_1, .slice A1_2 l1_2.length c1_2]) ?_ 1 _ rfl; (with_reducible repeat (first | refine blk_drewN ?_ _ | refine blk_drew ?_ | refine blk_alloc ?_ _)); refine blk_put (cs := #[.int .i64 a1_0, .int .i64 a1_1, .slice A1_2 l1_2.length c1_2]) ?_ 0 _ rfl; (with_reducible repeat (first | refine blk_drewN ?_ _ | refine blk_drew ?_ | refine blk_alloc ?_ _)); exact BK199.out⟩, ⟨by (with_reducible repeat (first | refine blk_drewN ?_ _ | refine blk_drew ?_ | refine blk_alloc ?_ _)); refine blk_far ?_ NB200_199.out _; (with_reducible repeat (first | refine blk_drewN ?_ _ | refine blk_drew ?_ | refine blk_alloc ?_ _)); refine blk_far ?_ NB200_199.out _; (with_reducible repeat (first | refine blk_drewN ?_ _ | refine blk_drew ?_ | refine blk_alloc ?_ _)); refine blk_far ?_ NB200_199.out _; (with_reducible repeat (first | refine blk_drewN ?_ _ | refine blk_drew ?_ | refine blk_alloc ?_ _)); exact BK200.out⟩, ⟨bw_ HB.out⟩⟩
   case round =>
    clear H'
    try clear c1
    try clear c2
    try clear p2
    try clear c3
    try clear c4
    try clear c6
    try clear c11
    try clear c12
    try clear c14
    try clear c18
    try clear hcz13_0
    try clear hcz13_1
    try clear hcz13_2
    try clear hcz15_0
    try clear hcz15_1
    try clear hcz15_2
    try clear hcz17_0
    try clear hcz17_1
    try clear hcz17_2
    try clear hcz18_0
    try clear hcz18_1
    try clear hcz18_2
    try clear hcz20_0
    try clear hcz20_1
    try clear hcz20_2
    try clear hcz22_0
    try clear hcz22_1
    try clear hcz22_2
    try clear hfz13_0
    try clear hfz13_1
    try clear hfz13_2
    try clear hfz15_0
    try clear hfz15_1
    try clear hfz15_2
    try clear hfz17_0
    try clear hfz17_1
    try clear hfz17_2
    try clear hfz18_0
    try clear hfz18_1
    try clear hfz18_2
    try clear hfz20_0
    try clear hfz20_1
    try clear hfz20_2
    try clear hfz22_0
    try clear hfz22_1
    try clear hfz22_2
    obtain ⟨x6_1, x28_1, rfl, HA, HK1, HO_6, HO_26, HO_200002, BK198, BK199, BK200, HB⟩ := hrel
    cases gk with
    | zero => exact absurd HA.out (by simp [spec_FillField.l0])
    | succ k1 =>
     have H := HA.out
     clear HA
     simp only [spec_FillField.l0] at H
     by_cases c24 : x28_1 < (t205.length : Int)
     ·rw [if_pos c24] at H
      have c24b0 : decide (x28_1 < (t205.length : Int)) = true := decide_eq_true c24
      clear c24
      by_cases c25 : 0 ≤ x28_1
      ·rw [if_pos c25] at H
       have c25b0 : decide (0 ≤ x28_1) = true := decide_eq_true c25
       clear c25
       by_cases c26 : x28_1 < (t205.length : Int)
       ·rw [if_pos c26] at H
        have c26b0 : decide (x28_1 < (t205.length : Int)) = true := decide_eq_true c26
        clear c26
        by_cases c27 : (rd t205 x28_1) < 0
        ·rw [if_pos c27] at H
         have c27b0 : decide ((rd t205 x28_1) < 0) = true := decide_eq_true c27
         clear c27
         by_cases c28 : x6_1.length < 17592186044416
         ·rw [if_pos c28] at H
          have LMc28 := Aside0.mk c28
          clear c28
          obtain ⟨y209, hy209⟩ : ∃ y_ : List Int, y_ = (x6_1 ++ [x28_1]) := ⟨_, rfl⟩
          replace H : (spec_FillField.l0 k1 y209 t205 (t205.length : Int) (wrap64 (x28_1 + 1)) a0_0 l0_1 l0_2 t203 t204 t205) = some (r1, r2, r3, r4, r5, r6) := by first | (rw [hy209]; with_reducible exact H) | (have H2_ := (Option.bind_some _ _).symm.trans H; rw [hy209]; with_reducible exact H2_) | (have H2_ := (Option.bind_some _ _).symm.trans H; with_reducible exact H2_) | with_reducible exact H | (rw [hy209]; exact H) | exact H
          have Ny209 := Aside0.mk hy209
          clear hy209
          have H' := Aside0.mk H
          clear H
          have p208 : 0 ≤ (x28_1 : Int) := of_decide_eq_true (by first | (with_reducible assumption) | assumption)
          have q208 : x28_1 < (t205.length : Int) := of_decide_eq_true (by first | (with_reducible assumption) | assumption)
          obtain ⟨ad208, e208, hx208_0⟩ := Kd.at_int (Kd.R_reads' HO_26.out).2.2 x28_1 p208 q208
          cases e208
          replace p208 := eq_true p208
          replace q208 := eq_true q208
          go_wp2_with (first | ((with_reducible refine gate_builtin (b := .append) (xs := #[.tmp 35, .tmp 37]) rfl ?_); at_builtin; refine Kd.R_append (Kd.int .i64) (w0 := w) w.heap.size rfl (.tmp 35) (.tmp 37) 25 3 (.int .i64 0) 8 rfl Try.underlying25 info3 rfl (by decide) (by omega) u6 x6_1 x28_1 [.int .i64 x28_1] (fun k_ => some k_ ≠ (.slice (some ad208) t205.length co23 : Value).ownBlock ∧ some k_ ≠ (.slice (some ad208) t205.length co23 : Value).ownBlock) (fun _ => False) rfl rfl ?aP (fun _ hk => hk.elim) ?aF ?aO ?aB ?aS ?aL ?_; (case aP => exact rfl); (case aB => exact (bw_ HB.out)); (case aF => exact (fun k_ hk => ⟨Kd.fresh' (Kd.R_lt (by (with_reducible repeat (first | apply Kd.R_alloc | apply Kd.R_drewN | apply Kd.R_drew)); exact HO_26.out)) k_ hk, Kd.fresh' (Kd.R_lt (by (with_reducible repeat (first | apply Kd.R_alloc | apply Kd.R_drewN | apply Kd.R_drew)); exact HO_200002.out)) k_ hk⟩)); (case aO => exact (by (with_reducible repeat (first | apply Kd.R_alloc | apply Kd.R_drewN | apply Kd.R_drew)); exact HO_6.out)); (case aS => exact (below_size (bw_ HB.out))); (case aL => have := LMc28.out; omega); intro v210 w29 ho hb hg hat; rw [← Ny209.out] at ho; have n0_ := Aside0.mk (Kd.R_after (ok := (fun _ => True)) (by (with_reducible repeat (first | apply Kd.R_alloc | apply Kd.R_drewN | apply Kd.R_drew)); exact Kd.R_mono HO_26.out (fun _ hk => ⟨trivial, hk⟩)) hg hat); have n1_ := Aside0.mk (Kd.R_after (ok := (fun _ => True)) (by (with_reducible repeat (first | apply Kd.R_alloc | apply Kd.R_drewN | apply Kd.R_drew)); exact Kd.R_mono HO_200002.out (fun _ hk => ⟨trivial, hk⟩)) hg hat); have n2_ := Aside0.mk (blk_grown (bk_ BK198.out) hg (Kd.R_ne HO_6.out BK198.out (by decide))); have n3_ := Aside0.mk (blk_grown (bk_ BK199.out) hg (Kd.R_ne HO_6.out BK199.out (by decide))); have n4_ := Aside0.mk (blk_grown (bk_ BK200.out) hg (Kd.R_ne HO_6.out BK200.out (by decide))); have n5_ := Aside0.mk (hb); have n6_ := Aside0.mk (ho); clear HO_26; clear HO_200002; clear BK198; clear BK199; clear BK200; clear HB; clear HO_6; have HO_26 := n0_; have HO_200002 := n1_; have BK198 := n2_; have BK199 := n3_; have BK200 := n4_; have HB := n5_; have HO211 := n6_; clear n0_ n1_ n2_ n3_ n4_ n5_ n6_; clear ho hb hg hat))
          go_roundg k1
          case measure => have := HK1.out; omega
          case rel => exact ⟨(y209), (wrap64 (x28_1 + 1)), (by first | rfl | (simp; done) | (simp [*]; done) | (simp [wrap64]; done)), H', ⟨by have := HK1.out; omega⟩, ⟨by (with_reducible repeat (first | apply Kd.R_alloc | apply Kd.R_drewN | apply Kd.R_drew)); exact HO211.out⟩, ⟨by (with_reducible repeat (first | apply Kd.R_alloc | apply Kd.R_drewN | apply Kd.R_drew)); exact Kd.R_mono HO_26.out (fun _ hk => hk.2)⟩, ⟨by (with_reducible repeat (first | apply Kd.R_alloc | apply Kd.R_drewN | apply Kd.R_drew)); exact Kd.R_mono HO_200002.out (fun _ hk => hk.2)⟩, ⟨by (with_reducible repeat (first | refine blk_drewN ?_ _ | refine blk_drew ?_ | refine blk_alloc ?_ _)); exact BK198.out⟩, ⟨by (with_reducible repeat (first | refine blk_drewN ?_ _ | refine blk_drew ?_ | refine blk_alloc ?_ _)); exact BK199.out⟩, ⟨by (with_reducible repeat (first | refine blk_drewN ?_ _ | refine blk_drew ?_ | refine blk_alloc ?_ _)); exact BK200.out⟩, ⟨bw_ HB.out⟩⟩
         ·rw [if_neg c28] at H
          exact absurd H (by simp)
        ·rw [if_neg c27] at H
         have c27b0 : decide ((rd t205 x28_1) < 0) = false := decide_eq_false c27
         clear c27
         have H' := Aside0.mk H
         clear H
         have p208 : 0 ≤ (x28_1 : Int) := of_decide_eq_true (by first | (with_reducible assumption) | assumption)
         have q208 : x28_1 < (t205.length : Int) := of_decide_eq_true (by first | (with_reducible assumption) | assumption)
         obtain ⟨ad208, e208, hx208_0⟩ := Kd.at_int (Kd.R_reads' HO_26.out).2.2 x28_1 p208 q208
         cases e208
         replace p208 := eq_true p208
         replace q208 := eq_true q208
         go_wp2
         go_roundg k1
         case measure => have := HK1.out; omega
         case rel => exact ⟨(x6_1), (wrap64 (x28_1 + 1)), (by first | rfl | (simp; done) | (simp [*]; done) | (simp [wrap64]; done)), H', ⟨by have := HK1.out; omega⟩, ⟨by (with_reducible repeat (first | apply Kd.R_alloc | apply Kd.R_drewN | apply Kd.R_drew)); exact HO_6.out⟩, ⟨by (with_reducible repeat (first | apply Kd.R_alloc | apply Kd.R_drewN | apply Kd.R_drew)); exact HO_26.out⟩, ⟨by (with_reducible repeat (first | apply Kd.R_alloc | apply Kd.R_drewN | apply Kd.R_drew)); exact HO_200002.out⟩, ⟨by (with_reducible repeat (first | refine blk_drewN ?_ _ | refine blk_drew ?_ | refine blk_alloc ?_ _)); exact BK198.out⟩, ⟨by (with_reducible repeat (first | refine blk_drewN ?_ _ | refine blk_drew ?_ | refine blk_alloc ?_ _)); exact BK199.out⟩, ⟨by (with_reducible repeat (first | refine blk_drewN ?_ _ | refine blk_drew ?_ | refine blk_alloc ?_ _)); exact BK200.out⟩, ⟨bw_ HB.out⟩⟩
       ·rw [if_neg c26] at H
        exact absurd H (by simp)
      ·rw [if_neg c25] at H
       exact absurd H (by simp)
     ·rw [if_neg c24] at H
      have c24b0 : decide (x28_1 < (t205.length : Int)) = false := decide_eq_false c24
      clear c24
      have H' := Aside0.mk H
      clear H
      go_wp2
      go_loopg [9, 10] k1 (fun kq v9 v10 w' => ∃ (x6_2 : List Int) (x9_2 : Int) (x10_2 : Int) (x200002_2 : List Int) (x201000_2 : Bool) (x201001_2 : Int) (x201002_2 : Int) (x201004_2 : Int) (u200002 : Value), v9 = .int .i64 x9_2 ∧ v10 = .int .i64 x10_2 ∧ Aside0 (spec_FillField.l1 kq x6_2 x9_2 x10_2 a0_0 l0_1 l0_2 t203 t204 x200002_2 = some (r1, r2, r3, r4, r5, r6)) ∧ Aside0 (kq ≤ k1) ∧ Aside0 (Kd.R (Kd.int .i64) 3 w' w.heap.size (fun k_ => some k_ ≠ (u200002 : Value).ownBlock) u6 x6_2) ∧ Aside0 (Kd.R (Kd.int .i64) 3 w' w.heap.size (fun k_ => some k_ ≠ (u6 : Value).ownBlock) u200002 x200002_2) ∧ Aside0 (w'.heap[gb198]? = some (.cells #[.int .i64 a0_0, (.slice A0_1 l0_1.length c0_1), (.slice A0_2 l0_2.length c0_2)] 32 (0, 0))) ∧ Aside0 (w'.heap[gb199]? = some (.cells #[.int .i64 t203, .int .i64 t204, u200002] 34 (0, 0))) ∧ Aside0 (w'.heap[gb200]? = some (.cells #[.bool x201000_2, .int .i64 x201001_2, .int .i64 x201002_2, (.slice none 0 0), .int .i64 x201004_2] 44 (0, 0))) ∧ Aside0 (Below w.heap.size w w'))
      case atStart => exact ⟨(x6_1), (0), (0), (t205), (false), (0), (0), (0), (.slice Ao23 t205.length co23), (by first | rfl | (simp; done) | (simp [*]; done) | (simp [wrap64]; done)), (by first | rfl | (simp; done) | (simp [*]; done) | (simp [wrap64]; done)), H', ⟨Nat.le_refl _⟩, ⟨by (with_reducible repeat (first | apply Kd.R_alloc | apply Kd.R_drewN | apply Kd.R_drew)); exact Kd.R_mono HO_6.out (fun _ hk => hk.2)⟩, ⟨by (with_reducible repeat (first | apply Kd.R_alloc | apply Kd.R_drewN | apply Kd.R_drew)); exact HO_200002.out⟩, ⟨by (with_reducible repeat (first | refine blk_drewN ?_ _ | refine blk_drew ?_ | refine blk_alloc ?_ _)); exact BK198.out⟩, ⟨by (with_reducible repeat (first | refine blk_drewN ?_ _ | refine blk_drew ?_ | refine blk_alloc ?_ _)); exact BK199.out⟩, ⟨by (with_reducible repeat (first | refine blk_drewN ?_ _ | refine blk_drew ?_ | refine blk_alloc ?_ _)); exact BK200.out⟩, ⟨bw_ HB.out⟩⟩
      case round =>
       clear H'
       try clear c1
       try clear c2
       try clear p2
       try clear q2
       try clear hx2
       try clear c3
       try clear c4
       try clear c6
       try clear p6
       try clear c11
       try clear c12
       try clear c14
       try clear c18
       try clear p20
       try clear q20
       try clear hx20
       try clear c24
       try clear c24b0
       try clear c25
       try clear c25b0
       try clear c26
       try clear c26b0
       try clear c27
       try clear c27b0
       try clear c28
       try clear hcz13_0
       try clear hcz13_1
       try clear hcz13_2
       try clear hcz15_0
       try clear hcz15_1
       try clear hcz15_2
       try clear hcz17_0
       try clear hcz17_1
       try clear hcz17_2
       try clear hcz18_0
       try clear hcz18_1
       try clear hcz18_2
       try clear hcz20_0
       try clear hcz20_1
       try clear hcz20_2
       try clear hcz22_0
       try clear hcz22_1
       try clear hcz22_2
       try clear hfz13_0
       try clear hfz13_1
       try clear hfz13_2
       try clear hfz15_0
       try clear hfz15_1
       try clear hfz15_2
       try clear hfz17_0
       try clear hfz17_1
       try clear hfz17_2
       try clear hfz18_0
       try clear hfz18_1
       try clear hfz18_2
       try clear hfz20_0
       try clear hfz20_1
       try clear hfz20_2
       try clear hfz22_0
       try clear hfz22_1
       try clear hfz22_2
       try clear hx208_0
       try clear p2
       try clear p208
       try clear q208
       obtain ⟨x6_2, x9_2, x10_2, x200002_2, x201000_2, x201001_2, x201002_2, x201004_2, u200002, rfl, rfl, HA, HK2, HO_6, HO_200002, BK198, BK199, BK200, HB⟩ := hrel
       cases gk with
       | zero => exact absurd HA.out (by simp [spec_FillField.l1])
       | succ k2 =>
        have H := HA.out
        clear HA
        simp only [spec_FillField.l1] at H
        by_cases c30 : x10_2 < (x6_2.length : Int)
        ·rw [if_pos c30] at H
         have c30b0 : decide (x10_2 < (x6_2.length : Int)) = true := decide_eq_true c30
         clear c30
         by_cases c31 : 0 ≤ x10_2
         ·rw [if_pos c31] at H
          have c31b0 : decide (0 ≤ x10_2) = true := decide_eq_true c31
          clear c31
          by_cases c32 : 0 ≤ (rd x6_2 x10_2)
          ·rw [if_pos c32] at H
           have c32b0 : decide (0 ≤ (rd x6_2 x10_2)) = true := decide_eq_true c32
           clear c32
           by_cases c33 : (rd x6_2 x10_2) < (x200002_2.length : Int)
           ·rw [if_pos c33] at H
            have c33b0 : decide ((rd x6_2 x10_2) < (x200002_2.length : Int)) = true := decide_eq_true c33
            clear c33
            obtain ⟨y214, hy214⟩ : ∃ y_ : List Int, y_ = (x200002_2.set ((rd x6_2 x10_2) : Int).toNat (-1)) := ⟨_, rfl⟩
            replace H : (spec_FillField.l2 k2 x6_2 x9_2 x10_2 (rd x6_2 x10_2) (wrap64 ((rd x200002_2 (rd x6_2 x10_2)) + 1)) a0_0 l0_1 l0_2 t203 t204 y214) = some (r1, r2, r3, r4, r5, r6) := by first | (rw [hy214]; with_reducible exact H) | (have H2_ := (Option.bind_some _ _).symm.trans H; rw [hy214]; with_reducible exact H2_) | (have H2_ := (Option.bind_some _ _).symm.trans H; with_reducible exact H2_) | with_reducible exact H | (rw [hy214]; exact H) | exact H
            have Ny214 := Aside0.mk hy214
            clear hy214
            have HC35 := Aside0.mk H
            clear H
            obtain ⟨Ao36, co36, eo36⟩ := Kd.R_slice HO_6.out
            subst eo36
            have p212 : 0 ≤ (x10_2 : Int) := of_decide_eq_true (by first | (with_reducible assumption) | assumption)
            have q212 : x10_2 < (x6_2.length : Int) := of_decide_eq_true (by first | (with_reducible assumption) | assumption)
            obtain ⟨ad212, e212, hx212_0⟩ := Kd.at_int (Kd.R_reads' HO_6.out).2.2 x10_2 p212 q212
            cases e212
            replace p212 := eq_true p212
            replace q212 := eq_true q212
            have hnb37 := NB199_198.out
            have hnc37 := NB198_199.out
            have hnb38 := NB199_200.out
            have hnc38 := NB200_199.out
            have hcz39_0 := cz_ BK199.out 0
            have hcz39_1 := cz_ BK199.out 1
            have hcz39_2 := cz_ BK199.out 2
            have hfz39_0 := blk_frozen BK199.out 0
            have hfz39_1 := blk_frozen BK199.out 1
            have hfz39_2 := blk_frozen BK199.out 2
            obtain ⟨Ao40, co40, eo40⟩ := Kd.R_slice HO_200002.out
            subst eo40
            have p213 : 0 ≤ ((rd x6_2 x10_2) : Int) := of_decide_eq_true (by first | (with_reducible assumption) | assumption)
            have q213 : (rd x6_2 x10_2) < (x200002_2.length : Int) := of_decide_eq_true (by first | (with_reducible assumption) | assumption)
            obtain ⟨ad213, e213, hx213_0⟩ := Kd.at_int (Kd.R_reads' HO_200002.out).2.2 (rd x6_2 x10_2) p213 q213
            cases e213
            replace p213 := eq_true p213
            replace q213 := eq_true q213
            have p34 : 0 ≤ ((rd x6_2 x10_2) : Int) := of_decide_eq_true (by first | (with_reducible assumption) | assumption)
            have q34 : ((rd x6_2 x10_2) : Int) < ((x200002_2.length : Int) : Int) := of_decide_eq_true (by first | (with_reducible assumption) | assumption)
            obtain ⟨go34, co34, eo34, gb34, gl34, cl34, HG34⟩ := Kd.R_form HO_200002.out (by omega)
            (first | cases eo34 | (injection eo34 with ea_ en_ ec_; (first | subst ea_ | (injection ea_ with ea_; subst ea_)); subst ec_; clear en_))
            have GB34 := Aside0.mk gb34
            have GG34 := Aside0.mk HG34
            clear gb34 gl34 HG34
            (first | simp only [add_plain] at hx213_0 | skip)
            obtain ⟨hx34_0, hf34_0⟩ := Kd.R_celln 0 HO_200002.out ((rd x6_2 x10_2) : Int) p34 q34
            replace p34 := eq_true p34
            replace q34 := eq_true q34
            have HP41 := Kd.R_putg HO_200002.out ((rd x6_2 x10_2) : Int) (-1)
            go_upto_block 4 with (first | ((with_reducible refine gate_store (t := 3) (p := 57) rfl ?_); refine se_ 3 57 (wr.setCell ⟨go34, ((rd x6_2 x10_2) : Int).toNat, none⟩ (.int .i64 (-1))) ?_; intro w42 hw; have hg : wr.grownBy w42 (some go34) := (by rw [hw]; exact HP41.2); have hp_ : Kd.R (Kd.int .i64) 3 w42 w.heap.size (fun k_ => some k_ ≠ (.slice (some ad212) x6_2.length co36 : Value).ownBlock) (.slice (some ⟨go34, 0, none⟩) x200002_2.length co40) y214 := (by rw [hw, Ny214.out]; exact HP41.1); clear HP41; have n0_ := Aside0.mk (Kd.R_after (v := (.slice (some ⟨go34, 0, none⟩) x200002_2.length co40)) (v1 := (.slice (some ⟨go34, 0, none⟩) x200002_2.length co40)) (ok := (fun _ => True)) (by (with_reducible repeat (first | apply Kd.R_alloc | apply Kd.R_drewN | apply Kd.R_drew)); exact Kd.R_mono HO_6.out (fun _ hk => ⟨trivial, hk⟩)) hg (.inl rfl)); have n1_ := Aside0.mk (hp_); have n2_ := Aside0.mk (blk_grown (bk_ BK198.out) hg (Kd.R_ne HO_200002.out BK198.out (by decide))); have n3_ := Aside0.mk (blk_grown (bk_ BK199.out) hg (Kd.R_ne HO_200002.out BK199.out (by decide))); have n4_ := Aside0.mk (blk_grown (bk_ BK200.out) hg (Kd.R_ne HO_200002.out BK200.out (by decide))); have n5_ := Aside0.mk ((by rw [hw]; exact below_set (HB.out) GB34.out : Below w.heap.size w w42)); clear HO_6; clear HO_200002; clear BK198; clear BK199; clear BK200; clear HB; have HO_6 := n0_; have HO_200002 := n1_; have BK198 := n2_; have BK199 := n3_; have BK200 := n4_; have HB := n5_; clear n0_ n1_ n2_ n3_ n4_ n5_; clear hg hw hp_))
            (try simp only [Act.put, List.setIfInBounds_toArray, List.set_cons_zero, List.set_cons_succ])
            go_cut [12] (fun v12 wc => ∃ (kq : Nat) (x12_34 : Int), v12 = .int .i64 x12_34 ∧ Aside0 (spec_FillField.j3 kq x6_2 x9_2 x10_2 (rd x6_2 x10_2) x12_34 a0_0 l0_1 l0_2 t203 t204 y214 = some (r1, r2, r3, r4, r5, r6)) ∧ Aside0 (kq ≤ k2) ∧ Aside0 (Kd.R (Kd.int .i64) 3 wc w.heap.size (fun k_ => some k_ ≠ ((.slice (some ⟨go34, 0, none⟩) x200002_2.length co40) : Value).ownBlock) (.slice (some ad212) x6_2.length co36) x6_2) ∧ Aside0 (Kd.R (Kd.int .i64) 3 wc w.heap.size (fun k_ => some k_ ≠ ((.slice (some ad212) x6_2.length co36) : Value).ownBlock) (.slice (some ⟨go34, 0, none⟩) x200002_2.length co40) y214) ∧ Aside0 (wc.heap[gb198]? = some (.cells #[.int .i64 a0_0, (.slice A0_1 l0_1.length c0_1), (.slice A0_2 l0_2.length c0_2)] 32 (0, 0))) ∧ Aside0 (wc.heap[gb199]? = some (.cells #[.int .i64 t203, .int .i64 t204, (.slice (some ⟨go34, 0, none⟩) x200002_2.length co40)] 34 (0, 0))) ∧ Aside0 (wc.heap[gb200]? = some (.cells #[.bool x201000_2, .int .i64 x201001_2, .int .i64 x201002_2, (.slice none 0 0), .int .i64 x201004_2] 44 (0, 0))) ∧ Aside0 (Below w.heap.size w wc))
            case first =>
             have H := HC35.out
             clear HC35
             have H' := Aside0.mk H
             clear H
             go_wp2
             go_loopg [12] k2 (fun kq v12 w' => ∃ (x12_3 : Int), v12 = .int .i64 x12_3 ∧ Aside0 (spec_FillField.l2 kq x6_2 x9_2 x10_2 (rd x6_2 x10_2) x12_3 a0_0 l0_1 l0_2 t203 t204 y214 = some (r1, r2, r3, r4, r5, r6)) ∧ Aside0 (kq ≤ k2) ∧ Aside0 (Kd.R (Kd.int .i64) 3 w' w.heap.size (fun k_ => some k_ ≠ ((.slice (some ⟨go34, 0, none⟩) x200002_2.length co40) : Value).ownBlock) (.slice (some ad212) x6_2.length co36) x6_2) ∧ Aside0 (Kd.R (Kd.int .i64) 3 w' w.heap.size (fun k_ => some k_ ≠ ((.slice (some ad212) x6_2.length co36) : Value).ownBlock) (.slice (some ⟨go34, 0, none⟩) x200002_2.length co40) y214) ∧ Aside0 (w'.heap[gb198]? = some (.cells #[.int .i64 a0_0, (.slice A0_1 l0_1.length c0_1), (.slice A0_2 l0_2.length c0_2)] 32 (0, 0))) ∧ Aside0 (w'.heap[gb199]? = some (.cells #[.int .i64 t203, .int .i64 t204, (.slice (some ⟨go34, 0, none⟩) x200002_2.length co40)] 34 (0, 0))) ∧ Aside0 (w'.heap[gb200]? = some (.cells #[.bool x201000_2, .int .i64 x201001_2, .int .i64 x201002_2, (.slice none 0 0), .int .i64 x201004_2] 44 (0, 0))) ∧ Aside0 (Below w.heap.size w w'))
             case atStart => exact ⟨(wrap64 ((rd x200002_2 (rd x6_2 x10_2)) + 1)), (by first | rfl | (simp; done) | (simp [*]; done) | (simp [wrap64]; done)), H', ⟨Nat.le_refl _⟩, ⟨by (with_reducible repeat (first | apply Kd.R_alloc | apply Kd.R_drewN | apply Kd.R_drew)); exact Kd.R_mono HO_6.out (fun _ hk => hk.2)⟩, ⟨by (with_reducible repeat (first | apply Kd.R_alloc | apply Kd.R_drewN | apply Kd.R_drew)); exact HO_200002.out⟩, ⟨by (with_reducible repeat (first | refine blk_drewN ?_ _ | refine blk_drew ?_ | refine blk_alloc ?_ _)); exact BK198.out⟩, ⟨by (with_reducible repeat (first | refine blk_drewN ?_ _ | refine blk_drew ?_ | refine blk_alloc ?_ _)); exact BK199.out⟩, ⟨by (with_reducible repeat (first | refine blk_drewN ?_ _ | refine blk_drew ?_ | refine blk_alloc ?_ _)); exact BK200.out⟩, ⟨bw_ HB.out⟩⟩
             case round =>
              clear H'
              try clear c1
              try clear c2
              try clear p2
              try clear q2
              try clear hx2
              try clear c3
              try clear p3
              try clear q3
              try clear hx3
              try clear hf3
              try clear c4
              try clear c6
              try clear p6
              try clear c11
              try clear c12
              try clear c14
              try clear c18
              try clear p20
              try clear q20
              try clear hx20
              try clear p21
              try clear q21
              try clear hx21
              try clear c24
              try clear c24b0
              try clear c25
              try clear c25b0
              try clear c26
              try clear c26b0
              try clear c27
              try clear c27b0
              try clear c28
              try clear c30
              try clear c30b0
              try clear c31
              try clear c31b0
              try clear c32
              try clear c32b0
              try clear c33
              try clear c33b0
              try clear p34
              try clear q34
              try clear hx34
              try clear hf34
              try clear c35
              try clear c36
              try clear c37
              try clear c38
              try clear hcz13_0
              try clear hcz13_1
              try clear hcz13_2
              try clear hcz15_0
              try clear hcz15_1
              try clear hcz15_2
              try clear hcz17_0
              try clear hcz17_1
              try clear hcz17_2
              try clear hcz18_0
              try clear hcz18_1
              try clear hcz18_2
              try clear hcz20_0
              try clear hcz20_1
              try clear hcz20_2
              try clear hcz22_0
              try clear hcz22_1
              try clear hcz22_2
              try clear hcz39_0
              try clear hcz39_1
              try clear hcz39_2
              try clear hfz13_0
              try clear hfz13_1
              try clear hfz13_2
              try clear hfz15_0
              try clear hfz15_1
              try clear hfz15_2
              try clear hfz17_0
              try clear hfz17_1
              try clear hfz17_2
              try clear hfz18_0
              try clear hfz18_1
              try clear hfz18_2
              try clear hfz20_0
              try clear hfz20_1
              try clear hfz20_2
              try clear hfz22_0
              try clear hfz22_1
              try clear hfz22_2
              try clear hfz39_0
              try clear hfz39_1
              try clear hfz39_2
              try clear hx208_0
              try clear hx212_0
              try clear hx213_0
              try clear hx34_0
              try clear p2
              try clear p20
              try clear p208
              try clear p212
              try clear p213
              try clear p34
              try clear p6
              try clear q2
              try clear q20
              try clear q208
              try clear q212
              try clear q213
              try clear q34
              obtain ⟨x12_3, rfl, HA, HK3, HO_6, HO_200002, BK198, BK199, BK200, HB⟩ := hrel
              have hl200002_3 := (Kd.R_reads' HO_200002.out).1
              rw [hl200002_3] at HO_200002
              (try simp only [hl200002_3])
              (try simp only [hl200002_3] at BK198)
              (try simp only [hl200002_3] at BK199)
              (try simp only [hl200002_3] at BK200)
              (try simp only [hl200002_3] at HO_6)
              cases gk with
              | zero => exact absurd HA.out (by simp [spec_FillField.l2])
              | succ k3 =>
               have H := HA.out
               clear HA
               simp only [spec_FillField.l2] at H
               by_cases c43 : x12_3 < a0_0
               ·rw [if_pos c43] at H
                have c43b0 : decide (x12_3 < a0_0) = true := decide_eq_true c43
                clear c43
                (first | rw [c43b0] | (simp only [i64_w, i32_w]; rw [c43b0]) | skip)
                obtain ⟨t215, A440, H⟩ := bE_ H
                have A44 := Aside0.mk A440
                clear A440
                by_cases c45 : t215 = true
                ·subst c45
                 replace H := it_ H rfl
                 have H' := Aside0.mk H
                 clear H
                 have hnb46 := NB198_199.out
                 have hnc46 := NB199_198.out
                 have hnb47 := NB198_200.out
                 have hnc47 := NB200_198.out
                 have hcz48_0 := cz_ BK198.out 0
                 have hcz48_1 := cz_ BK198.out 1
                 have hcz48_2 := cz_ BK198.out 2
                 have hfz48_0 := blk_frozen BK198.out 0
                 have hfz48_1 := blk_frozen BK198.out 1
                 have hfz48_2 := blk_frozen BK198.out 2
                 have hnb49 := NB199_200.out
                 have hnc49 := NB200_199.out
                 have hcz50_0 := cz_ BK199.out 0
                 have hcz50_1 := cz_ BK199.out 1
                 have hcz50_2 := cz_ BK199.out 2
                 have hfz50_0 := blk_frozen BK199.out 0
                 have hfz50_1 := blk_frozen BK199.out 1
                 have hfz50_2 := blk_frozen BK199.out 2
                 go_wp2_with (first | (go_at_call 27; (with_reducible refine (spec_l14Fits.calls k3 a0_0 _ _ l0_1 _ _ l0_2 t203 t204 _ _ y214 (rd x6_2 x10_2) x12_3 true _ ?side1 ?side2 ?side3 ?side4 ?side5 ?side6 A44.out).mono ?_); (case side1 => repeat (first | exact (Kd.C_below HR0_1.out HB.out) | (with_reducible refine Kd.C_alloc ?_ _) | (with_reducible refine Kd.C_drewN ?_ _) | (with_reducible refine Kd.C_drew ?_))); (case side2 => exact HC0_1.out); (case side3 => repeat (first | exact (Kd.C_below HR0_2.out HB.out) | (with_reducible refine Kd.C_alloc ?_ _) | (with_reducible refine Kd.C_drewN ?_ _) | (with_reducible refine Kd.C_drew ?_))); (case side4 => exact HC0_2.out); (case side5 => repeat (first | exact (Kd.R_reads' HO_200002.out).2.2 | (with_reducible refine Kd.C_alloc ?_ _) | (with_reducible refine Kd.C_drewN ?_ _) | (with_reducible refine Kd.C_drew ?_))); (case side6 => exact (Kd.R_reads' HO_200002.out).2.1); rintro e w51 ⟨rfl, hb⟩; have n0_ := Aside0.mk (Kd.R_below (by (with_reducible repeat (first | apply Kd.R_alloc | apply Kd.R_drewN | apply Kd.R_drew)); exact HO_6.out) hb); have n1_ := Aside0.mk (Kd.R_below (by (with_reducible repeat (first | apply Kd.R_alloc | apply Kd.R_drewN | apply Kd.R_drew)); exact HO_200002.out) hb); have n2_ := Aside0.mk (blk_below (bk_ BK198.out) hb); have n3_ := Aside0.mk (blk_below (bk_ BK199.out) hb); have n4_ := Aside0.mk (blk_below (bk_ BK200.out) hb); have n5_ := Aside0.mk (below_step (bw_ HB.out) hb); clear HO_6; clear HO_200002; clear BK198; clear BK199; clear BK200; clear HB; have HO_6 := n0_; have HO_200002 := n1_; have BK198 := n2_; have BK199 := n3_; have BK200 := n4_; have HB := n5_; clear n0_ n1_ n2_ n3_ n4_ n5_; (try clear hb); (try clear hb2); (try clear hk); (try clear hi)))
                 (try simp only [← hl200002_3])
                 go_meet
                 case rel => exact ⟨_, (x12_3), (by first | rfl | (simp; done) | (simp [*]; done) | (simp [wrap64]; done)), H', ⟨by have := HK1.out; have := HK2.out; have := HK3.out; first | omega | exact Nat.le_refl _⟩, ⟨by (try simp only [hl200002_3]); (with_reducible repeat (first | apply Kd.R_alloc | apply Kd.R_drewN | apply Kd.R_drew)); exact HO_6.out⟩, ⟨by (try simp only [hl200002_3]); (with_reducible repeat (first | apply Kd.R_alloc | apply Kd.R_drewN | apply Kd.R_drew)); exact HO_200002.out⟩, ⟨by (try simp only [hl200002_3]); (with_reducible repeat (first | refine blk_drewN ?_ _ | refine blk_drew ?_ | refine blk_alloc ?_ _)); exact BK198.out⟩, ⟨by (try simp only [hl200002_3]); (with_reducible repeat (first | refine blk_drewN ?_ _ | refine blk_drew ?_ | refine blk_alloc ?_ _)); exact BK199.out⟩, ⟨by (try simp only [hl200002_3]); (with_reducible repeat (first | refine blk_drewN ?_ _ | refine blk_drew ?_ | refine blk_alloc ?_ _)); exact BK200.out⟩, ⟨bw_ HB.out⟩⟩
                ·replace c45 := Bool.eq_false_iff.mpr c45
                 subst c45
                 replace H := if_ H Bool.false_ne_true
                 have H' := Aside0.mk H
                 clear H
                 have hnb52 := NB198_199.out
                 have hnc52 := NB199_198.out
                 have hnb53 := NB198_200.out
                 have hnc53 := NB200_198.out
                 have hcz54_0 := cz_ BK198.out 0
                 have hcz54_1 := cz_ BK198.out 1
                 have hcz54_2 := cz_ BK198.out 2
                 have hfz54_0 := blk_frozen BK198.out 0
                 have hfz54_1 := blk_frozen BK198.out 1
                 have hfz54_2 := blk_frozen BK198.out 2
                 have hnb55 := NB199_200.out
                 have hnc55 := NB200_199.out
                 have hcz56_0 := cz_ BK199.out 0
                 have hcz56_1 := cz_ BK199.out 1
                 have hcz56_2 := cz_ BK199.out 2
                 have hfz56_0 := blk_frozen BK199.out 0
                 have hfz56_1 := blk_frozen BK199.out 1
                 have hfz56_2 := blk_frozen BK199.out 2
                 go_wp2_with (first | (go_at_call 27; (with_reducible refine (spec_l14Fits.calls k3 a0_0 _ _ l0_1 _ _ l0_2 t203 t204 _ _ y214 (rd x6_2 x10_2) x12_3 false _ ?side1 ?side2 ?side3 ?side4 ?side5 ?side6 A44.out).mono ?_); (case side1 => repeat (first | exact (Kd.C_below HR0_1.out HB.out) | (with_reducible refine Kd.C_alloc ?_ _) | (with_reducible refine Kd.C_drewN ?_ _) | (with_reducible refine Kd.C_drew ?_))); (case side2 => exact HC0_1.out); (case side3 => repeat (first | exact (Kd.C_below HR0_2.out HB.out) | (with_reducible refine Kd.C_alloc ?_ _) | (with_reducible refine Kd.C_drewN ?_ _) | (with_reducible refine Kd.C_drew ?_))); (case side4 => exact HC0_2.out); (case side5 => repeat (first | exact (Kd.R_reads' HO_200002.out).2.2 | (with_reducible refine Kd.C_alloc ?_ _) | (with_reducible refine Kd.C_drewN ?_ _) | (with_reducible refine Kd.C_drew ?_))); (case side6 => exact (Kd.R_reads' HO_200002.out).2.1); rintro e w57 ⟨rfl, hb⟩; have n0_ := Aside0.mk (Kd.R_below (by (with_reducible repeat (first | apply Kd.R_alloc | apply Kd.R_drewN | apply Kd.R_drew)); exact HO_6.out) hb); have n1_ := Aside0.mk (Kd.R_below (by (with_reducible repeat (first | apply Kd.R_alloc | apply Kd.R_drewN | apply Kd.R_drew)); exact HO_200002.out) hb); have n2_ := Aside0.mk (blk_below (bk_ BK198.out) hb); have n3_ := Aside0.mk (blk_below (bk_ BK199.out) hb); have n4_ := Aside0.mk (blk_below (bk_ BK200.out) hb); have n5_ := Aside0.mk (below_step (bw_ HB.out) hb); clear HO_6; clear HO_200002; clear BK198; clear BK199; clear BK200; clear HB; have HO_6 := n0_; have HO_200002 := n1_; have BK198 := n2_; have BK199 := n3_; have BK200 := n4_; have HB := n5_; clear n0_ n1_ n2_ n3_ n4_ n5_; (try clear hb); (try clear hb2); (try clear hk); (try clear hi)))
                 (try simp only [← hl200002_3])
                 go_roundg k3
                 case measure => have := HK1.out; have := HK2.out; have := HK3.out; omega
                 case rel => exact ⟨(wrap64 (x12_3 + 1)), (by first | rfl | (simp; done) | (simp [*]; done) | (simp [wrap64]; done)), H', ⟨by have := HK1.out; have := HK2.out; have := HK3.out; omega⟩, ⟨by (try simp only [hl200002_3]); (with_reducible repeat (first | apply Kd.R_alloc | apply Kd.R_drewN | apply Kd.R_drew)); exact HO_6.out⟩, ⟨by (try simp only [hl200002_3]); (with_reducible repeat (first | apply Kd.R_alloc | apply Kd.R_drewN | apply Kd.R_drew)); exact HO_200002.out⟩, ⟨by (try simp only [hl200002_3]); (with_reducible repeat (first | refine blk_drewN ?_ _ | refine blk_drew ?_ | refine blk_alloc ?_ _)); exact BK198.out⟩, ⟨by (try simp only [hl200002_3]); (with_reducible repeat (first | refine blk_drewN ?_ _ | refine blk_drew ?_ | refine blk_alloc ?_ _)); exact BK199.out⟩, ⟨by (try simp only [hl200002_3]); (with_reducible repeat (first | refine blk_drewN ?_ _ | refine blk_drew ?_ | refine blk_alloc ?_ _)); exact BK200.out⟩, ⟨bw_ HB.out⟩⟩
               ·rw [if_neg c43] at H
                have c43b0 : decide (x12_3 < a0_0) = false := decide_eq_false c43
                clear c43
                (first | rw [c43b0] | (simp only [i64_w, i32_w]; rw [c43b0]) | skip)
                have H' := Aside0.mk H
                clear H
                have hnb58 := NB198_199.out
                have hnc58 := NB199_198.out
                have hnb59 := NB198_200.out
                have hnc59 := NB200_198.out
                have hcz60_0 := cz_ BK198.out 0
                have hcz60_1 := cz_ BK198.out 1
                have hcz60_2 := cz_ BK198.out 2
                have hfz60_0 := blk_frozen BK198.out 0
                have hfz60_1 := blk_frozen BK198.out 1
                have hfz60_2 := blk_frozen BK198.out 2
                go_wp2
                (try simp only [← hl200002_3])
                go_meet
                case rel => exact ⟨_, (x12_3), (by first | rfl | (simp; done) | (simp [*]; done) | (simp [wrap64]; done)), H', ⟨by have := HK1.out; have := HK2.out; have := HK3.out; first | omega | exact Nat.le_refl _⟩, ⟨by (try simp only [hl200002_3]); (with_reducible repeat (first | apply Kd.R_alloc | apply Kd.R_drewN | apply Kd.R_drew)); exact HO_6.out⟩, ⟨by (try simp only [hl200002_3]); (with_reducible repeat (first | apply Kd.R_alloc | apply Kd.R_drewN | apply Kd.R_drew)); exact HO_200002.out⟩, ⟨by (try simp only [hl200002_3]); (with_reducible repeat (first | refine blk_drewN ?_ _ | refine blk_drew ?_ | refine blk_alloc ?_ _)); exact BK198.out⟩, ⟨by (try simp only [hl200002_3]); (with_reducible repeat (first | refine blk_drewN ?_ _ | refine blk_drew ?_ | refine blk_alloc ?_ _)); exact BK199.out⟩, ⟨by (try simp only [hl200002_3]); (with_reducible repeat (first | refine blk_drewN ?_ _ | refine blk_drew ?_ | refine blk_alloc ?_ _)); exact BK200.out⟩, ⟨bw_ HB.out⟩⟩
            case rest =>
             clear HC35
             try clear c1
             try clear c2
             try clear p2
             try clear q2
             try clear hx2
             try clear c3
             try clear p3
             try clear q3
             try clear hx3
             try clear hf3
             try clear c4
             try clear c5
             try clear c6
             try clear p6
             try clear c11
             try clear c12
             try clear c14
             try clear c18
             try clear p20
             try clear q20
             try clear hx20
             try clear p21
             try clear q21
             try clear hx21
             try clear c24
             try clear c24b0
             try clear c25
             try clear c25b0
             try clear c26
             try clear c26b0
             try clear c27
             try clear c27b0
             try clear c28
             try clear c30
             try clear c30b0
             try clear c31
             try clear c31b0
             try clear c32
             try clear c32b0
             try clear c33
             try clear c33b0
             try clear p34
             try clear q34
             try clear hx34
             try clear hf34
             try clear c35
             try clear c36
             try clear c37
             try clear c38
             try clear c43
             try clear c43b0
             try clear c45
             try clear c46
             try clear c47
             try clear c49
             try clear c52
             try clear c53
             try clear c55
             try clear c58
             try clear c59
             try clear hcz13_0
             try clear hcz13_1
             try clear hcz13_2
             try clear hcz15_0
             try clear hcz15_1
             try clear hcz15_2
             try clear hcz17_0
             try clear hcz17_1
             try clear hcz17_2
             try clear hcz18_0
             try clear hcz18_1
             try clear hcz18_2
             try clear hcz20_0
             try clear hcz20_1
             try clear hcz20_2
             try clear hcz22_0
             try clear hcz22_1
             try clear hcz22_2
             try clear hcz39_0
             try clear hcz39_1
             try clear hcz39_2
             try clear hcz48_0
             try clear hcz48_1
             try clear hcz48_2
             try clear hcz50_0
             try clear hcz50_1
             try clear hcz50_2
             try clear hcz54_0
             try clear hcz54_1
             try clear hcz54_2
             try clear hcz56_0
             try clear hcz56_1
             try clear hcz56_2
             try clear hcz60_0
             try clear hcz60_1
             try clear hcz60_2
             try clear hfz13_0
             try clear hfz13_1
             try clear hfz13_2
             try clear hfz15_0
             try clear hfz15_1
             try clear hfz15_2
             try clear hfz17_0
             try clear hfz17_1
             try clear hfz17_2
             try clear hfz18_0
             try clear hfz18_1
             try clear hfz18_2
             try clear hfz20_0
             try clear hfz20_1
             try clear hfz20_2
             try clear hfz22_0
             try clear hfz22_1
             try clear hfz22_2
             try clear hfz39_0
             try clear hfz39_1
             try clear hfz39_2
             try clear hfz48_0
             try clear hfz48_1
             try clear hfz48_2
             try clear hfz50_0
             try clear hfz50_1
             try clear hfz50_2
             try clear hfz54_0
             try clear hfz54_1
             try clear hfz54_2
             try clear hfz56_0
             try clear hfz56_1
             try clear hfz56_2
             try clear hfz60_0
             try clear hfz60_1
             try clear hfz60_2
             try clear hx208_0
             try clear hx212_0
             try clear hx213_0
             try clear hx34_0
             try clear p2
             try clear p20
             try clear p208
             try clear p21
             try clear p212
             try clear p213
             try clear p3
             try clear p34
             try clear p6
             try clear q2
             try clear q20
             try clear q208
             try clear q21
             try clear q212
             try clear q213
             try clear q3
             try clear q34
             obtain ⟨kq, x12_34, rfl, HA, HJ34, HO_6, HO_200002, BK198, BK199, BK200, HB⟩ := hcut
             have hl200002_34 := (Kd.R_reads' HO_200002.out).1
             rw [hl200002_34] at HO_200002
             (try simp only [hl200002_34])
             (try simp only [hl200002_34] at BK198)
             (try simp only [hl200002_34] at BK199)
             (try simp only [hl200002_34] at BK200)
             (try simp only [hl200002_34] at HO_6)
             cases kq with
             | zero => exact absurd HA.out (by simp [spec_FillField.j3])
             | succ kj34 =>
              have H := HA.out
              clear HA
              simp only [spec_FillField.j3] at H
              by_cases c61 : x12_34 = a0_0
              ·rw [if_pos c61] at H
               have c61b0 : (x12_34 == a0_0) = true := beq_iff_eq.mpr c61
               have c61b1 : (x12_34 != a0_0) = false := bne_eq_false_iff_eq.mpr c61
               clear c61
               by_cases c62 : (wrap64 (x10_2 - 1)) < 0
               ·rw [if_pos c62] at H
                have c62b0 : decide ((wrap64 (x10_2 - 1)) < 0) = true := decide_eq_true c62
                clear c62
                simp only [Option.some.injEq, Prod.mk.injEq] at H
                obtain ⟨rfl, rfl, rfl, rfl, rfl, rfl⟩ := H
                have hnb63 := NB198_199.out
                have hnc63 := NB199_198.out
                have hnb64 := NB198_200.out
                have hnc64 := NB200_198.out
                have hcz65_0 := cz_ BK198.out 0
                have hcz65_1 := cz_ BK198.out 1
                have hcz65_2 := cz_ BK198.out 2
                have hfz65_0 := blk_frozen BK198.out 0
                have hfz65_1 := blk_frozen BK198.out 1
                have hfz65_2 := blk_frozen BK198.out 2
                have hnb66 := NB200_199.out
                have hnc66 := NB199_200.out
                have hcz67_0 := cz_ BK200.out 0
                have hcz67_1 := cz_ BK200.out 1
                have hcz67_2 := cz_ BK200.out 2
                have hcz67_3 := cz_ BK200.out 3
                have hcz67_4 := cz_ BK200.out 4
                have hfz67_0 := blk_frozen BK200.out 0
                have hfz67_1 := blk_frozen BK200.out 1
                have hfz67_2 := blk_frozen BK200.out 2
                have hfz67_3 := blk_frozen BK200.out 3
                have hfz67_4 := blk_frozen BK200.out 4
                go_wp2
                refine bodyPost_ret (results_ct rfl _ _ gb200 44 #[.bool false, .int .i64 0, .int .i64 0, .slice none 0 0, .int .i64 x9_2] (0, 0) _ rfl (by (with_reducible repeat (first | refine blk_drewN ?_ _ | refine blk_drew ?_ | refine blk_alloc ?_ _)); refine blk_put (cs := #[.bool false, .int .i64 0, .int .i64 0, .slice none 0 0, .int .i64 x201004_2]) ?_ 4 _ rfl; (with_reducible repeat (first | refine blk_drewN ?_ _ | refine blk_drew ?_ | refine blk_alloc ?_ _)); refine blk_put (cs := #[.bool false, .int .i64 0, .int .i64 0, .slice none 0 0, .int .i64 x201004_2]) ?_ 3 _ rfl; (with_reducible repeat (first | refine blk_drewN ?_ _ | refine blk_drew ?_ | refine blk_alloc ?_ _)); refine blk_put (cs := #[.bool false, .int .i64 0, .int .i64 x201002_2, .slice none 0 0, .int .i64 x201004_2]) ?_ 2 _ rfl; (with_reducible repeat (first | refine blk_drewN ?_ _ | refine blk_drew ?_ | refine blk_alloc ?_ _)); refine blk_put (cs := #[.bool false, .int .i64 x201001_2, .int .i64 x201002_2, .slice none 0 0, .int .i64 x201004_2]) ?_ 1 _ rfl; (with_reducible repeat (first | refine blk_drewN ?_ _ | refine blk_drew ?_ | refine blk_alloc ?_ _)); refine blk_put (cs := #[.bool x201000_2, .int .i64 x201001_2, .int .i64 x201002_2, .slice none 0 0, .int .i64 x201004_2]) ?_ 0 _ rfl; (with_reducible repeat (first | refine blk_drewN ?_ _ | refine blk_drew ?_ | refine blk_alloc ?_ _)); exact BK200.out) Try.underlying44 rfl (by kernel_rfl)) rfl ?_
                exact ⟨_, by first | rfl | (simp [errW_none, errW_some] <;> rfl) | (simp [*, errW_none, errW_some] <;> rfl), by first | exact Kd.R_nil _ _ _ _ _ | exact Kd.N_nil _ _ _ _ _ | exact Kd.V_nil _ _ _ _ _ | exact Kd.Q_nil _ _ _ _ _ | exact Kd.S_nil _ _ _ _ _, bw_ HB.out⟩
               ·rw [if_neg c62] at H
                have c62b0 : decide ((wrap64 (x10_2 - 1)) < 0) = false := decide_eq_false c62
                clear c62
                have H' := Aside0.mk H
                clear H
                have hnb68 := NB198_199.out
                have hnc68 := NB199_198.out
                have hnb69 := NB198_200.out
                have hnc69 := NB200_198.out
                have hcz70_0 := cz_ BK198.out 0
                have hcz70_1 := cz_ BK198.out 1
                have hcz70_2 := cz_ BK198.out 2
                have hfz70_0 := blk_frozen BK198.out 0
                have hfz70_1 := blk_frozen BK198.out 1
                have hfz70_2 := blk_frozen BK198.out 2
                go_wp2
                (try simp only [← hl200002_34])
                (try simp only [show (⟨go34, ((rd x6_2 x10_2) : Int).toNat, none⟩ : Addr) = Addr.add ⟨go34, 0, none⟩ ((rd x6_2 x10_2) : Int).toNat from by simp [Addr.add]])
                (try simp only [show (⟨go34, (x10_2 : Int).toNat, none⟩ : Addr) = Addr.add ⟨go34, 0, none⟩ (x10_2 : Int).toNat from by simp [Addr.add]])
                go_roundg kj34
                case measure => have := HK1.out; have := HK2.out; have := HJ34.out; omega
                case rel => exact ⟨(x6_2), (x9_2), (wrap64 (x10_2 - 1)), (y214), (x201000_2), (x201001_2), (x201002_2), (x201004_2), (.slice (some ⟨go34, 0, none⟩) y214.length co40), (by first | rfl | (simp; done) | (simp [*]; done) | (simp [wrap64]; done)), (by first | rfl | (simp; done) | (simp [*]; done) | (simp [wrap64]; done)), H', ⟨by have := HK1.out; have := HK2.out; have := HJ34.out; omega⟩, ⟨by (try simp only [hl200002_34]); (with_reducible repeat (first | apply Kd.R_alloc | apply Kd.R_drewN | apply Kd.R_drew)); exact HO_6.out⟩, ⟨by (try simp only [hl200002_34]); (with_reducible repeat (first | apply Kd.R_alloc | apply Kd.R_drewN | apply Kd.R_drew)); exact HO_200002.out⟩, ⟨by (try simp only [hl200002_34]); (with_reducible repeat (first | refine blk_drewN ?_ _ | refine blk_drew ?_ | refine blk_alloc ?_ _)); exact BK198.out⟩, ⟨by (try simp only [hl200002_34]); (with_reducible repeat (first | refine blk_drewN ?_ _ | refine blk_drew ?_ | refine blk_alloc ?_ _)); exact BK199.out⟩, ⟨by (try simp only [hl200002_34]); (with_reducible repeat (first | refine blk_drewN ?_ _ | refine blk_drew ?_ | refine blk_alloc ?_ _)); exact BK200.out⟩, ⟨bw_ HB.out⟩⟩
              ·rw [if_neg c61] at H
               have c61b0 : (x12_34 == a0_0) = false := beq_eq_false_iff_ne.mpr c61
               have c61b1 : (x12_34 != a0_0) = true := bne_iff_ne.mpr c61
               by_cases c71 : x9_2 = 5000
               ·rw [if_pos c71] at H
                have c71b0 : (x9_2 == 5000) = true := beq_iff_eq.mpr c71
                have c71b1 : (x9_2 != 5000) = false := bne_eq_false_iff_eq.mpr c71
                clear c71
                simp only [Option.some.injEq, Prod.mk.injEq] at H
                obtain ⟨rfl, rfl, rfl, rfl, rfl, rfl⟩ := H
                have hnb72 := NB198_199.out
                have hnc72 := NB199_198.out
                have hnb73 := NB198_200.out
                have hnc73 := NB200_198.out
                have hcz74_0 := cz_ BK198.out 0
                have hcz74_1 := cz_ BK198.out 1
                have hcz74_2 := cz_ BK198.out 2
                have hfz74_0 := blk_frozen BK198.out 0
                have hfz74_1 := blk_frozen BK198.out 1
                have hfz74_2 := blk_frozen BK198.out 2
                have hnb75 := NB200_199.out
                have hnc75 := NB199_200.out
                have hcz76_0 := cz_ BK200.out 0
                have hcz76_1 := cz_ BK200.out 1
                have hcz76_2 := cz_ BK200.out 2
                have hcz76_3 := cz_ BK200.out 3
                have hcz76_4 := cz_ BK200.out 4
                have hfz76_0 := blk_frozen BK200.out 0
                have hfz76_1 := blk_frozen BK200.out 1
                have hfz76_2 := blk_frozen BK200.out 2
                have hfz76_3 := blk_frozen BK200.out 3
                have hfz76_4 := blk_frozen BK200.out 4
                go_wp2
                refine bodyPost_ret (results_ct rfl _ _ gb200 44 #[.bool false, .int .i64 0, .int .i64 0, .slice none 0 0, .int .i64 x9_2] (0, 0) _ rfl (by (with_reducible repeat (first | refine blk_drewN ?_ _ | refine blk_drew ?_ | refine blk_alloc ?_ _)); refine blk_put (cs := #[.bool false, .int .i64 0, .int .i64 0, .slice none 0 0, .int .i64 x201004_2]) ?_ 4 _ rfl; (with_reducible repeat (first | refine blk_drewN ?_ _ | refine blk_drew ?_ | refine blk_alloc ?_ _)); refine blk_put (cs := #[.bool false, .int .i64 0, .int .i64 0, .slice none 0 0, .int .i64 x201004_2]) ?_ 3 _ rfl; (with_reducible repeat (first | refine blk_drewN ?_ _ | refine blk_drew ?_ | refine blk_alloc ?_ _)); refine blk_put (cs := #[.bool false, .int .i64 0, .int .i64 x201002_2, .slice none 0 0, .int .i64 x201004_2]) ?_ 2 _ rfl; (with_reducible repeat (first | refine blk_drewN ?_ _ | refine blk_drew ?_ | refine blk_alloc ?_ _)); refine blk_put (cs := #[.bool false, .int .i64 x201001_2, .int .i64 x201002_2, .slice none 0 0, .int .i64 x201004_2]) ?_ 1 _ rfl; (with_reducible repeat (first | refine blk_drewN ?_ _ | refine blk_drew ?_ | refine blk_alloc ?_ _)); refine blk_put (cs := #[.bool x201000_2, .int .i64 x201001_2, .int .i64 x201002_2, .slice none 0 0, .int .i64 x201004_2]) ?_ 0 _ rfl; (with_reducible repeat (first | refine blk_drewN ?_ _ | refine blk_drew ?_ | refine blk_alloc ?_ _)); exact BK200.out) Try.underlying44 rfl (by kernel_rfl)) rfl ?_
                exact ⟨_, by first | rfl | (simp [errW_none, errW_some] <;> rfl) | (simp [*, errW_none, errW_some] <;> rfl), by first | exact Kd.R_nil _ _ _ _ _ | exact Kd.N_nil _ _ _ _ _ | exact Kd.V_nil _ _ _ _ _ | exact Kd.Q_nil _ _ _ _ _ | exact Kd.S_nil _ _ _ _ _, bw_ HB.out⟩
               ·rw [if_neg c71] at H
                have c71b0 : (x9_2 == 5000) = false := beq_eq_false_iff_ne.mpr c71
                have c71b1 : (x9_2 != 5000) = true := bne_iff_ne.mpr c71
                by_cases c77 : 0 ≤ (rd x6_2 x10_2)
                ·rw [if_pos c77] at H
                 have c77b0 : decide (0 ≤ (rd x6_2 x10_2)) = true := decide_eq_true c77
                 clear c77
                 by_cases c78 : (rd x6_2 x10_2) < (y214.length : Int)
                 ·rw [if_pos c78] at H
                  have c78b0 : decide ((rd x6_2 x10_2) < (y214.length : Int)) = true := decide_eq_true c78
                  (try rw [hl200002_34] at c78b0)
                  clear c78
                  obtain ⟨y216, hy216⟩ : ∃ y_ : List Int, y_ = (y214.set ((rd x6_2 x10_2) : Int).toNat x12_34) := ⟨_, rfl⟩
                  replace H : (spec_FillField.l1 kj34 x6_2 (wrap64 (x9_2 + 1)) (wrap64 (x10_2 + 1)) a0_0 l0_1 l0_2 t203 t204 y216) = some (r1, r2, r3, r4, r5, r6) := by first | (rw [hy216]; with_reducible exact H) | (have H2_ := (Option.bind_some _ _).symm.trans H; rw [hy216]; with_reducible exact H2_) | (have H2_ := (Option.bind_some _ _).symm.trans H; with_reducible exact H2_) | with_reducible exact H | (rw [hy216]; exact H) | exact H
                  have Ny216 := Aside0.mk hy216
                  clear hy216
                  have H' := Aside0.mk H
                  clear H
                  have hnb80 := NB198_199.out
                  have hnc80 := NB199_198.out
                  have hnb81 := NB198_200.out
                  have hnc81 := NB200_198.out
                  have hcz82_0 := cz_ BK198.out 0
                  have hcz82_1 := cz_ BK198.out 1
                  have hcz82_2 := cz_ BK198.out 2
                  have hfz82_0 := blk_frozen BK198.out 0
                  have hfz82_1 := blk_frozen BK198.out 1
                  have hfz82_2 := blk_frozen BK198.out 2
                  have hnb83 := NB199_200.out
                  have hnc83 := NB200_199.out
                  have hcz84_0 := cz_ BK199.out 0
                  have hcz84_1 := cz_ BK199.out 1
                  have hcz84_2 := cz_ BK199.out 2
                  have hfz84_0 := blk_frozen BK199.out 0
                  have hfz84_1 := blk_frozen BK199.out 1
                  have hfz84_2 := blk_frozen BK199.out 2
                  have p79 : 0 ≤ ((rd x6_2 x10_2) : Int) := of_decide_eq_true (by first | (with_reducible assumption) | assumption)
                  have q79 : ((rd x6_2 x10_2) : Int) < ((y214.length : Int) : Int) := of_decide_eq_true (by first | (with_reducible assumption) | assumption)
                  obtain ⟨hx79_0, hf79_0⟩ := Kd.R_celln 0 HO_200002.out ((rd x6_2 x10_2) : Int) p79 q79
                  replace p79 := eq_true p79
                  replace q79 := eq_true q79
                  have HP85 := Kd.R_putg HO_200002.out ((rd x6_2 x10_2) : Int) x12_34
                  go_wp2_with (first | ((with_reducible refine gate_store (t := 3) (p := 92) rfl ?_); refine se_ 3 92 (wc.setCell ⟨go34, ((rd x6_2 x10_2) : Int).toNat, none⟩ (.int .i64 x12_34)) ?_; intro w86 hw; have hg : wc.grownBy w86 (some go34) := (by rw [hw]; exact HP85.2); have hp_ : Kd.R (Kd.int .i64) 3 w86 w.heap.size (fun k_ => some k_ ≠ (.slice (some ad212) x6_2.length co36 : Value).ownBlock) (.slice (some ⟨go34, 0, none⟩) y214.length co40) y216 := (by rw [hw, Ny216.out]; exact HP85.1); clear HP85; have n0_ := Aside0.mk (Kd.R_after (v := (.slice (some ⟨go34, 0, none⟩) y214.length co40)) (v1 := (.slice (some ⟨go34, 0, none⟩) y214.length co40)) (ok := (fun _ => True)) (by (with_reducible repeat (first | apply Kd.R_alloc | apply Kd.R_drewN | apply Kd.R_drew)); exact Kd.R_mono HO_6.out (fun _ hk => ⟨trivial, hk⟩)) hg (.inl rfl)); have n1_ := Aside0.mk (hp_); have n2_ := Aside0.mk (blk_grown (bk_ BK198.out) hg (Kd.R_ne HO_200002.out BK198.out (by decide))); have n3_ := Aside0.mk (blk_grown (bk_ BK199.out) hg (Kd.R_ne HO_200002.out BK199.out (by decide))); have n4_ := Aside0.mk (blk_grown (bk_ BK200.out) hg (Kd.R_ne HO_200002.out BK200.out (by decide))); have n5_ := Aside0.mk ((by rw [hw]; exact below_set (HB.out) GB34.out : Below w.heap.size w w86)); clear HO_6; clear HO_200002; clear BK198; clear BK199; clear BK200; clear HB; have HO_6 := n0_; have HO_200002 := n1_; have BK198 := n2_; have BK199 := n3_; have BK200 := n4_; have HB := n5_; clear n0_ n1_ n2_ n3_ n4_ n5_; clear hg hw hp_))
                  (try simp only [← hl200002_34])
                  (try simp only [show (⟨go34, ((rd x6_2 x10_2) : Int).toNat, none⟩ : Addr) = Addr.add ⟨go34, 0, none⟩ ((rd x6_2 x10_2) : Int).toNat from by simp [Addr.add]])
                  (try simp only [show (⟨go34, (x10_2 : Int).toNat, none⟩ : Addr) = Addr.add ⟨go34, 0, none⟩ (x10_2 : Int).toNat from by simp [Addr.add]])
                  go_roundg kj34
                  case measure => have := HK1.out; have := HK2.out; have := HJ34.out; omega
                  case rel => exact ⟨(x6_2), (wrap64 (x9_2 + 1)), (wrap64 (x10_2 + 1)), (y216), (x201000_2), (x201001_2), (x201002_2), (x201004_2), (.slice (some ⟨go34, 0, none⟩) y214.length co40), (by first | rfl | (simp; done) | (simp [*]; done) | (simp [wrap64]; done)), (by first | rfl | (simp; done) | (simp [*]; done) | (simp [wrap64]; done)), H', ⟨by have := HK1.out; have := HK2.out; have := HJ34.out; omega⟩, ⟨by (try simp only [hl200002_34]); (with_reducible repeat (first | apply Kd.R_alloc | apply Kd.R_drewN | apply Kd.R_drew)); exact Kd.R_mono HO_6.out (fun _ hk => hk.2)⟩, ⟨by (try simp only [hl200002_34]); (with_reducible repeat (first | apply Kd.R_alloc | apply Kd.R_drewN | apply Kd.R_drew)); exact HO_200002.out⟩, ⟨by (try simp only [hl200002_34]); (with_reducible repeat (first | refine blk_drewN ?_ _ | refine blk_drew ?_ | refine blk_alloc ?_ _)); exact BK198.out⟩, ⟨by (try simp only [hl200002_34]); (with_reducible repeat (first | refine blk_drewN ?_ _ | refine blk_drew ?_ | refine blk_alloc ?_ _)); exact BK199.out⟩, ⟨by (try simp only [hl200002_34]); (with_reducible repeat (first | refine blk_drewN ?_ _ | refine blk_drew ?_ | refine blk_alloc ?_ _)); exact BK200.out⟩, ⟨bw_ HB.out⟩⟩
                 ·rw [if_neg c78] at H
                  exact absurd H (by simp)
                ·rw [if_neg c77] at H
                 exact absurd H (by simp)
           ·rw [if_neg c33] at H
            exact absurd H (by simp)
          ·rw [if_neg c32] at H
           exact absurd H (by simp)
         ·rw [if_neg c31] at H
          exact absurd H (by simp)
        ·rw [if_neg c30] at H
         have c30b0 : decide (x10_2 < (x6_2.length : Int)) = false := decide_eq_false c30
         clear c30
         simp only [Option.some.injEq, Prod.mk.injEq] at H
         obtain ⟨rfl, rfl, rfl, rfl, rfl, rfl⟩ := H
         obtain ⟨Ao87, co87, eo87⟩ := Kd.R_slice HO_6.out
         subst eo87
         have hnb88 := NB199_198.out
         have hnc88 := NB198_199.out
         have hnb89 := NB199_200.out
         have hnc89 := NB200_199.out
         have hcz90_0 := cz_ BK199.out 0
         have hcz90_1 := cz_ BK199.out 1
         have hcz90_2 := cz_ BK199.out 2
         have hfz90_0 := blk_frozen BK199.out 0
         have hfz90_1 := blk_frozen BK199.out 1
         have hfz90_2 := blk_frozen BK199.out 2
         obtain ⟨Ao91, co91, eo91⟩ := Kd.R_slice HO_200002.out
         subst eo91
         have hnb92 := NB200_198.out
         have hnc92 := NB198_200.out
         have hcz93_0 := cz_ BK200.out 0
         have hcz93_1 := cz_ BK200.out 1
         have hcz93_2 := cz_ BK200.out 2
         have hcz93_3 := cz_ BK200.out 3
         have hcz93_4 := cz_ BK200.out 4
         have hfz93_0 := blk_frozen BK200.out 0
         have hfz93_1 := blk_frozen BK200.out 1
         have hfz93_2 := blk_frozen BK200.out 2
         have hfz93_3 := blk_frozen BK200.out 3
         have hfz93_4 := blk_frozen BK200.out 4
         go_wp2
         refine bodyPost_ret (results_ct rfl _ _ gb200 44 #[.bool true, .int .i64 t203, .int .i64 t204, .slice Ao91 x200002_2.length co91, .int .i64 x9_2] (0, 0) _ rfl (by (with_reducible repeat (first | refine blk_drewN ?_ _ | refine blk_drew ?_ | refine blk_alloc ?_ _)); refine blk_put (cs := #[.bool true, .int .i64 t203, .int .i64 t204, .slice Ao91 x200002_2.length co91, .int .i64 x201004_2]) ?_ 4 _ rfl; (with_reducible repeat (first | refine blk_drewN ?_ _ | refine blk_drew ?_ | refine blk_alloc ?_ _)); refine blk_put (cs := #[.bool true, .int .i64 t203, .int .i64 t204, .slice none 0 0, .int .i64 x201004_2]) ?_ 3 _ rfl; (with_reducible repeat (first | refine blk_drewN ?_ _ | refine blk_drew ?_ | refine blk_alloc ?_ _)); refine blk_put (cs := #[.bool true, .int .i64 t203, .int .i64 x201002_2, .slice none 0 0, .int .i64 x201004_2]) ?_ 2 _ rfl; (with_reducible repeat (first | refine blk_drewN ?_ _ | refine blk_drew ?_ | refine blk_alloc ?_ _)); refine blk_put (cs := #[.bool true, .int .i64 x201001_2, .int .i64 x201002_2, .slice none 0 0, .int .i64 x201004_2]) ?_ 1 _ rfl; (with_reducible repeat (first | refine blk_drewN ?_ _ | refine blk_drew ?_ | refine blk_alloc ?_ _)); refine blk_put (cs := #[.bool x201000_2, .int .i64 x201001_2, .int .i64 x201002_2, .slice none 0 0, .int .i64 x201004_2]) ?_ 0 _ rfl; (with_reducible repeat (first | refine blk_drewN ?_ _ | refine blk_drew ?_ | refine blk_alloc ?_ _)); exact BK200.out) Try.underlying44 rfl (by kernel_rfl)) rfl ?_
         exact ⟨_, by first | rfl | (simp [errW_none, errW_some] <;> rfl) | (simp [*, errW_none, errW_some] <;> rfl), by (with_reducible repeat (first | apply Kd.R_alloc | apply Kd.R_drewN | apply Kd.R_drew)); exact Kd.R_mono (Kd.R_far (p := ⟨gb200, 4, none⟩) (Kd.R_far (p := ⟨gb200, 3, none⟩) (Kd.R_far (p := ⟨gb200, 2, none⟩) (Kd.R_far (p := ⟨gb200, 1, none⟩) (Kd.R_far (p := ⟨gb200, 0, none⟩) (Kd.R_types HO_200002.out BK200.out (by decide)) (fun _ hk => hk.2) (.bool true)) (fun _ hk => hk.2) (.int .i64 t203)) (fun _ hk => hk.2) (.int .i64 t204)) (fun _ hk => hk.2) (.slice Ao91 x200002_2.length co91)) (fun _ hk => hk.2) (.int .i64 x9_2)) (fun _ hk => trivial), bw_ HB.out⟩
  ·replace c6 := Bool.eq_false_iff.mpr c6
   subst c6
   replace H := if_ H Bool.false_ne_true
   simp only [Option.some.injEq, Prod.mk.injEq] at H
   obtain ⟨rfl, rfl, rfl, rfl, rfl, rfl⟩ := H
   go_enter Try.func18, Try.ntmps18
   go_wp2_with (first | ((with_reducible refine gate_dst (N := 2) rfl ?_); refine bx_ 2 #[.int .i64 a0_0, .slice A0_1 l0_1.length c0_1, .slice A0_2 l0_2.length c0_2] 32 ?_; intro gb198 hg w94 hbox hb; have n0_ := Aside0.mk (below_step (bw_ HB.out) hb); have n1_ := Aside0.mk (hbox); have n2_ := Aside0.mk (gs_ hg (bw_ HB.out)); have n3_ := Aside0.mk (gs_ hg (bw_ HB.out)); clear HB; have HB := n0_; have BK198 := n1_; have GW198 := n2_; have GE198 := n3_; clear n0_ n1_ n2_ n3_; clear hb hbox hg) | ((with_reducible refine gate_dst (N := 3) rfl ?_); refine bx_ 3 #[.int .i64 a1_0, .int .i64 a1_1, .slice A1_2 l1_2.length c1_2] 34 ?_; intro gb199 hg w95 hbox hb; have n0_ := Aside0.mk (blk_below (bk_ BK198.out) hb); have n1_ := Aside0.mk (below_step (bw_ HB.out) hb); have n2_ := Aside0.mk (hbox); have n3_ := Aside0.mk (gs_ hg (bw_ HB.out)); have n4_ := Aside0.mk (gs_ hg (bw_ HB.out)); have n5_ := Aside0.mk (nl_ hg (bk_ BK198.out)); have n6_ := Aside0.mk (ng_ hg (bk_ BK198.out)); clear BK198; clear HB; have BK198 := n0_; have HB := n1_; have BK199 := n2_; have GW199 := n3_; have GE199 := n4_; have NB198_199 := n5_; have NB199_198 := n6_; clear n0_ n1_ n2_ n3_ n4_ n5_ n6_; clear hb hbox hg) | ((with_reducible refine gate_dst (N := 4) rfl ?_); refine bx_ 4 #[.bool false, .int .i64 0, .int .i64 0, .slice none 0 0, .int .i64 0] 44 ?_; intro gb200 hg w96 hbox hb; have n0_ := Aside0.mk (blk_below (bk_ BK198.out) hb); have n1_ := Aside0.mk (blk_below (bk_ BK199.out) hb); have n2_ := Aside0.mk (below_step (bw_ HB.out) hb); have n3_ := Aside0.mk (hbox); have n4_ := Aside0.mk (gs_ hg (bw_ HB.out)); have n5_ := Aside0.mk (gs_ hg (bw_ HB.out)); have n6_ := Aside0.mk (nl_ hg (bk_ BK198.out)); have n7_ := Aside0.mk (ng_ hg (bk_ BK198.out)); have n8_ := Aside0.mk (nl_ hg (bk_ BK199.out)); have n9_ := Aside0.mk (ng_ hg (bk_ BK199.out)); clear BK198; clear BK199; clear HB; have BK198 := n0_; have BK199 := n1_; have HB := n2_; have BK200 := n3_; have GW200 := n4_; have GE200 := n5_; have NB198_200 := n6_; have NB200_198 := n7_; have NB199_200 := n8_; have NB200_199 := n9_; clear n0_ n1_ n2_ n3_ n4_ n5_ n6_ n7_ n8_ n9_; clear hb hbox hg; have hnb97 := NB198_199.out; have hnc97 := NB199_198.out; have hnb98 := NB198_200.out; have hnc98 := NB200_198.out; have hcz99_0 := cz_ BK198.out 0; have hcz99_1 := cz_ BK198.out 1; have hcz99_2 := cz_ BK198.out 2; have hfz99_0 := blk_frozen BK198.out 0; have hfz99_1 := blk_frozen BK198.out 1; have hfz99_2 := blk_frozen BK198.out 2; have hnb100 := NB199_200.out; have hnc100 := NB200_199.out; have hcz101_0 := cz_ BK199.out 0; have hcz101_1 := cz_ BK199.out 1; have hcz101_2 := cz_ BK199.out 2; have hfz101_0 := blk_frozen BK199.out 0; have hfz101_1 := blk_frozen BK199.out 1; have hfz101_2 := blk_frozen BK199.out 2) | ((with_reducible refine gate_callee (f := 25) rfl ?_); refine goesL_ (some 15) rfl rfl Try.func25 (by kernel_rfl) rfl #[.agg #[.int .i64 a0_0, .slice A0_1 l0_1.length c0_1, .slice A0_2 l0_2.length c0_2], .agg #[.int .i64 a1_0, .int .i64 a1_1, .slice A1_2 l1_2.length c1_2]] rfl (by (try simp only [List.map_toArray, List.map_cons, List.map_nil]); first | done | rfl | (simp only [List.length_drop, List.length_take]; rfl)) ?_; (with_reducible refine (spec_GoodField.calls k a0_0 _ _ l0_1 _ _ l0_2 a1_0 a1_1 _ _ l1_2 true _ ?side1 ?side2 ?side3 ?side4 ?side5 ?side6 A3.out).mono ?_); (case side1 => repeat (first | exact (Kd.C_below HR0_1.out HB.out) | (with_reducible refine Kd.C_alloc ?_ _) | (with_reducible refine Kd.C_drewN ?_ _) | (with_reducible refine Kd.C_drew ?_))); (case side2 => exact HC0_1.out); (case side3 => repeat (first | exact (Kd.C_below HR0_2.out HB.out) | (with_reducible refine Kd.C_alloc ?_ _) | (with_reducible refine Kd.C_drewN ?_ _) | (with_reducible refine Kd.C_drew ?_))); (case side4 => exact HC0_2.out); (case side5 => repeat (first | exact (Kd.C_below HR1_2.out HB.out) | (with_reducible refine Kd.C_alloc ?_ _) | (with_reducible refine Kd.C_drewN ?_ _) | (with_reducible refine Kd.C_drew ?_))); (case side6 => exact HC1_2.out); rintro e w102 ⟨rfl, hb⟩; refine ⟨_, rfl, ?_⟩; have n0_ := Aside0.mk (blk_below (bk_ BK198.out) hb); have n1_ := Aside0.mk (blk_below (bk_ BK199.out) hb); have n2_ := Aside0.mk (blk_below (bk_ BK200.out) hb); have n3_ := Aside0.mk (below_step (bw_ HB.out) hb); clear BK198; clear BK199; clear BK200; clear HB; have BK198 := n0_; have BK199 := n1_; have BK200 := n2_; have HB := n3_; clear n0_ n1_ n2_ n3_; (try clear hb); (try clear hb2); (try clear hk); (try clear hi); have hcz103_0 := cz_ BK198.out 0; have hcz103_1 := cz_ BK198.out 1; have hcz103_2 := cz_ BK198.out 2; have hfz103_0 := blk_frozen BK198.out 0; have hfz103_1 := blk_frozen BK198.out 1; have hfz103_2 := blk_frozen BK198.out 2; have hcz104_0 := cz_ BK199.out 0; have hcz104_1 := cz_ BK199.out 1; have hcz104_2 := cz_ BK199.out 2; have hfz104_0 := blk_frozen BK199.out 0; have hfz104_1 := blk_frozen BK199.out 1; have hfz104_2 := blk_frozen BK199.out 2) | ((with_reducible refine gate_callee (f := 35) rfl ?_); refine goesL_ (some 20) rfl rfl Try.func35 (by kernel_rfl) rfl #[.agg #[.int .i64 a0_0, .slice A0_1 l0_1.length c0_1, .slice A0_2 l0_2.length c0_2], .agg #[.int .i64 a1_0, .int .i64 a1_1, .slice A1_2 l1_2.length c1_2]] rfl (by (try simp only [List.map_toArray, List.map_cons, List.map_nil]); first | done | rfl | (simp only [List.length_drop, List.length_take]; rfl)) ?_; (with_reducible refine (spec_l14Holds.calls k a0_0 _ _ l0_1 _ _ l0_2 a1_0 a1_1 _ _ l1_2 false _ ?side1 ?side2 ?side3 ?side4 ?side5 ?side6 A5.out).mono ?_); (case side1 => repeat (first | exact (Kd.C_below HR0_1.out HB.out) | (with_reducible refine Kd.C_alloc ?_ _) | (with_reducible refine Kd.C_drewN ?_ _) | (with_reducible refine Kd.C_drew ?_))); (case side2 => exact HC0_1.out); (case side3 => repeat (first | exact (Kd.C_below HR0_2.out HB.out) | (with_reducible refine Kd.C_alloc ?_ _) | (with_reducible refine Kd.C_drewN ?_ _) | (with_reducible refine Kd.C_drew ?_))); (case side4 => exact HC0_2.out); (case side5 => repeat (first | exact (Kd.C_below HR1_2.out HB.out) | (with_reducible refine Kd.C_alloc ?_ _) | (with_reducible refine Kd.C_drewN ?_ _) | (with_reducible refine Kd.C_drew ?_))); (case side6 => exact HC1_2.out); rintro e w105 ⟨rfl, hb⟩; refine ⟨_, rfl, ?_⟩; have n0_ := Aside0.mk (blk_below (bk_ BK198.out) hb); have n1_ := Aside0.mk (blk_below (bk_ BK199.out) hb); have n2_ := Aside0.mk (blk_below (bk_ BK200.out) hb); have n3_ := Aside0.mk (below_step (bw_ HB.out) hb); clear BK198; clear BK199; clear BK200; clear HB; have BK198 := n0_; have BK199 := n1_; have BK200 := n2_; have HB := n3_; clear n0_ n1_ n2_ n3_; (try clear hb); (try clear hb2); (try clear hk); (try clear hi); have hcz106_0 := cz_ BK200.out 0; have hcz106_1 := cz_ BK200.out 1; have hcz106_2 := cz_ BK200.out 2; have hcz106_3 := cz_ BK200.out 3; have hcz106_4 := cz_ BK200.out 4; have hfz106_0 := blk_frozen BK200.out 0; have hfz106_1 := blk_frozen BK200.out 1; have hfz106_2 := blk_frozen BK200.out 2; have hfz106_3 := blk_frozen BK200.out 3; have hfz106_4 := blk_frozen BK200.out 4))
   refine bodyPost_ret (results_ct rfl _ _ gb200 44 #[.bool false, .int .i64 0, .int .i64 0, .slice none 0 0, .int .i64 0] (0, 0) _ rfl (by (with_reducible repeat (first | refine blk_drewN ?_ _ | refine blk_drew ?_ | refine blk_alloc ?_ _)); refine blk_put (cs := #[.bool false, .int .i64 0, .int .i64 0, .slice none 0 0, .int .i64 0]) ?_ 4 _ rfl; (with_reducible repeat (first | refine blk_drewN ?_ _ | refine blk_drew ?_ | refine blk_alloc ?_ _)); refine blk_put (cs := #[.bool false, .int .i64 0, .int .i64 0, .slice none 0 0, .int .i64 0]) ?_ 3 _ rfl; (with_reducible repeat (first | refine blk_drewN ?_ _ | refine blk_drew ?_ | refine blk_alloc ?_ _)); refine blk_put (cs := #[.bool false, .int .i64 0, .int .i64 0, .slice none 0 0, .int .i64 0]) ?_ 2 _ rfl; (with_reducible repeat (first | refine blk_drewN ?_ _ | refine blk_drew ?_ | refine blk_alloc ?_ _)); refine blk_put (cs := #[.bool false, .int .i64 0, .int .i64 0, .slice none 0 0, .int .i64 0]) ?_ 1 _ rfl; (with_reducible repeat (first | refine blk_drewN ?_ _ | refine blk_drew ?_ | refine blk_alloc ?_ _)); refine blk_put (cs := #[.bool false, .int .i64 0, .int .i64 0, .slice none 0 0, .int .i64 0]) ?_ 0 _ rfl; (with_reducible repeat (first | refine blk_drewN ?_ _ | refine blk_drew ?_ | refine blk_alloc ?_ _)); exact BK200.out) Try.underlying44 rfl (by kernel_rfl)) rfl ?_
   exact ⟨_, by first | rfl | (simp [errW_none, errW_some] <;> rfl) | (simp [*, errW_none, errW_some] <;> rfl), by first | exact Kd.R_nil _ _ _ _ _ | exact Kd.N_nil _ _ _ _ _ | exact Kd.V_nil _ _ _ _ _ | exact Kd.Q_nil _ _ _ _ _ | exact Kd.S_nil _ _ _ _ _, bw_ HB.out⟩
 ·replace c4 := Bool.eq_false_iff.mpr c4
  subst c4
  replace H := if_ H Bool.false_ne_true
  simp only [Option.some.injEq, Prod.mk.injEq] at H
  obtain ⟨rfl, rfl, rfl, rfl, rfl, rfl⟩ := H
  go_enter Try.func18, Try.ntmps18
  go_wp2_with (first | ((with_reducible refine gate_dst (N := 2) rfl ?_); refine bx_ 2 #[.int .i64 a0_0, .slice A0_1 l0_1.length c0_1, .slice A0_2 l0_2.length c0_2] 32 ?_; intro gb198 hg w107 hbox hb; have n0_ := Aside0.mk (below_step (bw_ HB.out) hb); have n1_ := Aside0.mk (hbox); have n2_ := Aside0.mk (gs_ hg (bw_ HB.out)); have n3_ := Aside0.mk (gs_ hg (bw_ HB.out)); clear HB; have HB := n0_; have BK198 := n1_; have GW198 := n2_; have GE198 := n3_; clear n0_ n1_ n2_ n3_; clear hb hbox hg) | ((with_reducible refine gate_dst (N := 3) rfl ?_); refine bx_ 3 #[.int .i64 a1_0, .int .i64 a1_1, .slice A1_2 l1_2.length c1_2] 34 ?_; intro gb199 hg w108 hbox hb; have n0_ := Aside0.mk (blk_below (bk_ BK198.out) hb); have n1_ := Aside0.mk (below_step (bw_ HB.out) hb); have n2_ := Aside0.mk (hbox); have n3_ := Aside0.mk (gs_ hg (bw_ HB.out)); have n4_ := Aside0.mk (gs_ hg (bw_ HB.out)); have n5_ := Aside0.mk (nl_ hg (bk_ BK198.out)); have n6_ := Aside0.mk (ng_ hg (bk_ BK198.out)); clear BK198; clear HB; have BK198 := n0_; have HB := n1_; have BK199 := n2_; have GW199 := n3_; have GE199 := n4_; have NB198_199 := n5_; have NB199_198 := n6_; clear n0_ n1_ n2_ n3_ n4_ n5_ n6_; clear hb hbox hg) | ((with_reducible refine gate_dst (N := 4) rfl ?_); refine bx_ 4 #[.bool false, .int .i64 0, .int .i64 0, .slice none 0 0, .int .i64 0] 44 ?_; intro gb200 hg w109 hbox hb; have n0_ := Aside0.mk (blk_below (bk_ BK198.out) hb); have n1_ := Aside0.mk (blk_below (bk_ BK199.out) hb); have n2_ := Aside0.mk (below_step (bw_ HB.out) hb); have n3_ := Aside0.mk (hbox); have n4_ := Aside0.mk (gs_ hg (bw_ HB.out)); have n5_ := Aside0.mk (gs_ hg (bw_ HB.out)); have n6_ := Aside0.mk (nl_ hg (bk_ BK198.out)); have n7_ := Aside0.mk (ng_ hg (bk_ BK198.out)); have n8_ := Aside0.mk (nl_ hg (bk_ BK199.out)); have n9_ := Aside0.mk (ng_ hg (bk_ BK199.out)); clear BK198; clear BK199; clear HB; have BK198 := n0_; have BK199 := n1_; have HB := n2_; have BK200 := n3_; have GW200 := n4_; have GE200 := n5_; have NB198_200 := n6_; have NB200_198 := n7_; have NB199_200 := n8_; have NB200_199 := n9_; clear n0_ n1_ n2_ n3_ n4_ n5_ n6_ n7_ n8_ n9_; clear hb hbox hg; have hnb110 := NB198_199.out; have hnc110 := NB199_198.out; have hnb111 := NB198_200.out; have hnc111 := NB200_198.out; have hcz112_0 := cz_ BK198.out 0; have hcz112_1 := cz_ BK198.out 1; have hcz112_2 := cz_ BK198.out 2; have hfz112_0 := blk_frozen BK198.out 0; have hfz112_1 := blk_frozen BK198.out 1; have hfz112_2 := blk_frozen BK198.out 2; have hnb113 := NB199_200.out; have hnc113 := NB200_199.out; have hcz114_0 := cz_ BK199.out 0; have hcz114_1 := cz_ BK199.out 1; have hcz114_2 := cz_ BK199.out 2; have hfz114_0 := blk_frozen BK199.out 0; have hfz114_1 := blk_frozen BK199.out 1; have hfz114_2 := blk_frozen BK199.out 2) | ((with_reducible refine gate_callee (f := 25) rfl ?_); refine goesL_ (some 15) rfl rfl Try.func25 (by kernel_rfl) rfl #[.agg #[.int .i64 a0_0, .slice A0_1 l0_1.length c0_1, .slice A0_2 l0_2.length c0_2], .agg #[.int .i64 a1_0, .int .i64 a1_1, .slice A1_2 l1_2.length c1_2]] rfl (by (try simp only [List.map_toArray, List.map_cons, List.map_nil]); first | done | rfl | (simp only [List.length_drop, List.length_take]; rfl)) ?_; (with_reducible refine (spec_GoodField.calls k a0_0 _ _ l0_1 _ _ l0_2 a1_0 a1_1 _ _ l1_2 false _ ?side1 ?side2 ?side3 ?side4 ?side5 ?side6 A3.out).mono ?_); (case side1 => repeat (first | exact (Kd.C_below HR0_1.out HB.out) | (with_reducible refine Kd.C_alloc ?_ _) | (with_reducible refine Kd.C_drewN ?_ _) | (with_reducible refine Kd.C_drew ?_))); (case side2 => exact HC0_1.out); (case side3 => repeat (first | exact (Kd.C_below HR0_2.out HB.out) | (with_reducible refine Kd.C_alloc ?_ _) | (with_reducible refine Kd.C_drewN ?_ _) | (with_reducible refine Kd.C_drew ?_))); (case side4 => exact HC0_2.out); (case side5 => repeat (first | exact (Kd.C_below HR1_2.out HB.out) | (with_reducible refine Kd.C_alloc ?_ _) | (with_reducible refine Kd.C_drewN ?_ _) | (with_reducible refine Kd.C_drew ?_))); (case side6 => exact HC1_2.out); rintro e w115 ⟨rfl, hb⟩; refine ⟨_, rfl, ?_⟩; have n0_ := Aside0.mk (blk_below (bk_ BK198.out) hb); have n1_ := Aside0.mk (blk_below (bk_ BK199.out) hb); have n2_ := Aside0.mk (blk_below (bk_ BK200.out) hb); have n3_ := Aside0.mk (below_step (bw_ HB.out) hb); clear BK198; clear BK199; clear BK200; clear HB; have BK198 := n0_; have BK199 := n1_; have BK200 := n2_; have HB := n3_; clear n0_ n1_ n2_ n3_; (try clear hb); (try clear hb2); (try clear hk); (try clear hi); have hcz116_0 := cz_ BK200.out 0; have hcz116_1 := cz_ BK200.out 1; have hcz116_2 := cz_ BK200.out 2; have hcz116_3 := cz_ BK200.out 3; have hcz116_4 := cz_ BK200.out 4; have hfz116_0 := blk_frozen BK200.out 0; have hfz116_1 := blk_frozen BK200.out 1; have hfz116_2 := blk_frozen BK200.out 2; have hfz116_3 := blk_frozen BK200.out 3; have hfz116_4 := blk_frozen BK200.out 4))
  refine bodyPost_ret (results_ct rfl _ _ gb200 44 #[.bool false, .int .i64 0, .int .i64 0, .slice none 0 0, .int .i64 0] (0, 0) _ rfl (by (with_reducible repeat (first | refine blk_drewN ?_ _ | refine blk_drew ?_ | refine blk_alloc ?_ _)); refine blk_put (cs := #[.bool false, .int .i64 0, .int .i64 0, .slice none 0 0, .int .i64 0]) ?_ 4 _ rfl; (with_reducible repeat (first | refine blk_drewN ?_ _ | refine blk_drew ?_ | refine blk_alloc ?_ _)); refine blk_put (cs := #[.bool false, .int .i64 0, .int .i64 0, .slice none 0 0, .int .i64 0]) ?_ 3 _ rfl; (with_reducible repeat (first | refine blk_drewN ?_ _ | refine blk_drew ?_ | refine blk_alloc ?_ _)); refine blk_put (cs := #[.bool false, .int .i64 0, .int .i64 0, .slice none 0 0, .int .i64 0]) ?_ 2 _ rfl; (with_reducible repeat (first | refine blk_drewN ?_ _ | refine blk_drew ?_ | refine blk_alloc ?_ _)); refine blk_put (cs := #[.bool false, .int .i64 0, .int .i64 0, .slice none 0 0, .int .i64 0]) ?_ 1 _ rfl; (with_reducible repeat (first | refine blk_drewN ?_ _ | refine blk_drew ?_ | refine blk_alloc ?_ _)); refine blk_put (cs := #[.bool false, .int .i64 0, .int .i64 0, .slice none 0 0, .int .i64 0]) ?_ 0 _ rfl; (with_reducible repeat (first | refine blk_drewN ?_ _ | refine blk_drew ?_ | refine blk_alloc ?_ _)); exact BK200.out) Try.underlying44 rfl (by kernel_rfl)) rfl ?_
  exact ⟨_, by first | rfl | (simp [errW_none, errW_some] <;> rfl) | (simp [*, errW_none, errW_some] <;> rfl), by first | exact Kd.R_nil _ _ _ _ _ | exact Kd.N_nil _ _ _ _ _ | exact Kd.V_nil _ _ _ _ _ | exact Kd.Q_nil _ _ _ _ _ | exact Kd.S_nil _ _ _ _ _, bw_ HB.out⟩

end Go.Proofs.Ytblmejanjhmjdaa.XFnExactFillField
