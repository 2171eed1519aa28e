/- What the Go functions that this law comes to compute, each walked; written by a program of this session. -/
import Derived.Test.YtgfppioaggeleaaXShort
import Derived.Test.YtgfppioaggeleaaXMark
import Derived.Test.YtgfppioaggeleaaXFnExactLayOutx0
namespace Go.Proofs.Ytgfppioaggeleaa.XFnExactLayOut
open Go.RowKit Go.Proofs.YtgfppioaggeleaaW.PrintWords Go.Proofs.YtgfppioaggeleaaW.PrintLast Go.Proofs.YtgfppioaggeleaaW.PrintMore
attribute [local go_sem] str_geq max2_int min2_int max_two min_two max_three min_three max_four min_four   -- for this text's walks alone
set_option linter.unusedVariables false
set_option linter.unusedSimpArgs false

/-! ### spec_l18Share: function 41 -/
mutual
def spec_l18Share.l0 : Nat → Int → List Int → List Int → List Int → Int → Int → Int → Option (List Int)
 | 0, _, _, _, _, _, _, _ => none
 | k + 1, x0, x1, x2, x7, x8, x19, x20 => if x20 < x19 then (if 0 ≤ x20 then (if x20 < (x1.length : Int) then (if x20 < (x2.length : Int) then (spec_l18Share.l0 k (wrap64 (x0 - (rd x1 x20))) x1 x2 x7 (wrap64 (x8 + (rd x2 x20))) x19 (wrap64 (x20 + 1))) else (none)) else (none)) else (none)) else (if x0 ≤ 0 then (spec_l18Share.j1 k x0 x2 x7 x8 true) else (spec_l18Share.j1 k x0 x2 x7 x8 (x8 == 0)))
def spec_l18Share.j1 : Nat → Int → List Int → List Int → Int → Bool → Option (List Int)
 | 0, _, _, _, _, _ => none
 | k + 1, x0, x2, x7, x8, x41 => if x41 = true then (some x7) else (spec_l18Share.l1 k x0 x2 x7 x8 x0 (x7.length : Int) 0)
def spec_l18Share.l1 : Nat → Int → List Int → List Int → Int → Int → Int → Int → Option (List Int)
 | 0, _, _, _, _, _, _, _ => none
 | k + 1, x0, x2, x7, x8, x10, x45, x46 => if x46 < x45 then (if 0 ≤ x46 then (if x46 < (x7.length : Int) then (if x46 < (x2.length : Int) then (if x8 = 0 then (none) else (spec_l18Share.l1 k x0 x2 (x7.set (x46 : Int).toNat (wrap64 ((rd x7 x46) + (wrap64 (Int.tdiv (wrap64 (x0 * (rd x2 x46))) x8))))) x8 (wrap64 (x10 - (wrap64 (Int.tdiv (wrap64 (x0 * (rd x2 x46))) x8)))) x45 (wrap64 (x46 + 1)))) else (none)) else (none)) else (none)) else (if 0 ≤ (x7.length : Int) then (if ((x7.length : Int) : Int).toNat ≤ 281474976710656 then (spec_l18Share.l2 k x0 x2 x7 x8 x10 (List.replicate ((x7.length : Int) : Int).toNat false)) else (none)) else (none))
def spec_l18Share.l2 : Nat → Int → List Int → List Int → Int → Int → List Bool → Option (List Int)
 | 0, _, _, _, _, _, _ => none
 | k + 1, x0, x2, x7, x8, x10, x12 => if x10 > 0 then (spec_l18Share.l3 k x0 x2 x7 x8 x10 x12 (-1) (x7.length : Int) 0) else (some x7)
def spec_l18Share.l3 : Nat → Int → List Int → List Int → Int → Int → List Bool → Int → Int → Int → Option (List Int)
 | 0, _, _, _, _, _, _, _, _, _ => none
 | k + 1, x0, x2, x7, x8, x10, x12, x13, x82, x83 => if x83 < x82 then (if 0 ≤ x83 then (if x83 < (x12.length : Int) then (if rdOf false x12 x83 = true then (spec_l18Share.l3 k x0 x2 x7 x8 x10 x12 x13 x82 (wrap64 (x83 + 1))) else (if x13 < 0 then (spec_l18Share.l3 k x0 x2 x7 x8 x10 x12 x83 x82 (wrap64 (x83 + 1))) else (if x83 < (x2.length : Int) then (if x8 = 0 then (none) else (if 0 ≤ x13 then (if x13 < (x2.length : Int) then (if (Int.tmod (wrap64 (x0 * (rd x2 x83))) x8) > (Int.tmod (wrap64 (x0 * (rd x2 x13))) x8) then (spec_l18Share.l3 k x0 x2 x7 x8 x10 x12 x83 x82 (wrap64 (x83 + 1))) else (spec_l18Share.l3 k x0 x2 x7 x8 x10 x12 x13 x82 (wrap64 (x83 + 1)))) else (none)) else (none))) else (none)))) else (none)) else (none)) else (if 0 ≤ x13 then (if x13 < (x12.length : Int) then (if x13 < (x7.length : Int) then (spec_l18Share.l2 k x0 x2 (x7.set (x13 : Int).toNat (wrap64 ((rd x7 x13) + 1))) x8 (wrap64 (x10 - 1)) (x12.set (x13 : Int).toNat true)) else (none)) else (none)) else (none))
end
def spec_l18Share.f (k : Nat) (a0 : Int) (l1 : List Int) (l2 : List Int) : Option (List Int) := (some (([] : List Int) : List Int)).bind fun y121 => (if y121.length + l1.length < 17592186044416 then (spec_l18Share.l0 k a0 l1 l2 (y121 ++ l1) 0 (l1.length : Int) 0) else (none))
theorem spec_l18Share.mono_l : ∀ k, (∀ y0 y1 y2 y3 y4 y5 y6, LeO (spec_l18Share.l0 k y0 y1 y2 y3 y4 y5 y6) (spec_l18Share.l0 (k + 1) y0 y1 y2 y3 y4 y5 y6)) ∧ (∀ y0 y1 y2 y3 y4, LeO (spec_l18Share.j1 k y0 y1 y2 y3 y4) (spec_l18Share.j1 (k + 1) y0 y1 y2 y3 y4)) ∧ (∀ y0 y1 y2 y3 y4 y5 y6, LeO (spec_l18Share.l1 k y0 y1 y2 y3 y4 y5 y6) (spec_l18Share.l1 (k + 1) y0 y1 y2 y3 y4 y5 y6)) ∧ (∀ y0 y1 y2 y3 y4 y5, LeO (spec_l18Share.l2 k y0 y1 y2 y3 y4 y5) (spec_l18Share.l2 (k + 1) y0 y1 y2 y3 y4 y5)) ∧ (∀ y0 y1 y2 y3 y4 y5 y6 y7 y8, LeO (spec_l18Share.l3 k y0 y1 y2 y3 y4 y5 y6 y7 y8) (spec_l18Share.l3 (k + 1) y0 y1 y2 y3 y4 y5 y6 y7 y8))
 | 0 => ⟨fun _ _ _ _ _ _ _ r h => by simp [spec_l18Share.l0] at h, fun _ _ _ _ _ r h => by simp [spec_l18Share.j1] at h, fun _ _ _ _ _ _ _ r h => by simp [spec_l18Share.l1] at h, fun _ _ _ _ _ _ r h => by simp [spec_l18Share.l2] at h, fun _ _ _ _ _ _ _ _ _ r h => by simp [spec_l18Share.l3] at h⟩
 | k + 1 => by
  obtain ⟨ih0, ih1, ih2, ih3, ih4⟩ := spec_l18Share.mono_l k
  refine ⟨?_, ?_, ?_, ?_, ?_⟩
  ·intro y0 y1 y2 y3 y4 y5 y6
   unfold spec_l18Share.l0
   repeat' first
   | (with_reducible exact ih0 _ _ _ _ _ _ _)
   | (with_reducible exact ih1 _ _ _ _ _)
   | (with_reducible exact ih2 _ _ _ _ _ _ _)
   | (with_reducible exact ih3 _ _ _ _ _ _)
   | (with_reducible exact ih4 _ _ _ _ _ _ _ _ _)
   | (with_reducible exact LeO.refl _)
   | (with_reducible exact LeO.none _)
   | (with_reducible refine LeO.ite ?_ ?_)
   | (with_reducible refine LeO.bind ?_ (fun _ => ?_))
   | exact ih0 _ _ _ _ _ _ _
   | exact ih1 _ _ _ _ _
   | exact ih2 _ _ _ _ _ _ _
   | exact ih3 _ _ _ _ _ _
   | exact ih4 _ _ _ _ _ _ _ _ _
   | exact LeO.none _
   | refine LeO.ite ?_ ?_
   | refine LeO.bind ?_ (fun _ => ?_)
  ·intro y0 y1 y2 y3 y4
   unfold spec_l18Share.j1
   repeat' first
   | (with_reducible exact ih0 _ _ _ _ _ _ _)
   | (with_reducible exact ih1 _ _ _ _ _)
   | (with_reducible exact ih2 _ _ _ _ _ _ _)
   | (with_reducible exact ih3 _ _ _ _ _ _)
   | (with_reducible exact ih4 _ _ _ _ _ _ _ _ _)
   | (with_reducible exact LeO.refl _)
   | (with_reducible exact LeO.none _)
   | (with_reducible refine LeO.ite ?_ ?_)
   | (with_reducible refine LeO.bind ?_ (fun _ => ?_))
   | exact ih0 _ _ _ _ _ _ _
   | exact ih1 _ _ _ _ _
   | exact ih2 _ _ _ _ _ _ _
   | exact ih3 _ _ _ _ _ _
   | exact ih4 _ _ _ _ _ _ _ _ _
   | exact LeO.none _
   | refine LeO.ite ?_ ?_
   | refine LeO.bind ?_ (fun _ => ?_)
  ·intro y0 y1 y2 y3 y4 y5 y6
   unfold spec_l18Share.l1
   repeat' first
   | (with_reducible exact ih0 _ _ _ _ _ _ _)
   | (with_reducible exact ih1 _ _ _ _ _)
   | (with_reducible exact ih2 _ _ _ _ _ _ _)
   | (with_reducible exact ih3 _ _ _ _ _ _)
   | (with_reducible exact ih4 _ _ _ _ _ _ _ _ _)
   | (with_reducible exact LeO.refl _)
   | (with_reducible exact LeO.none _)
   | (with_reducible refine LeO.ite ?_ ?_)
   | (with_reducible refine LeO.bind ?_ (fun _ => ?_))
   | exact ih0 _ _ _ _ _ _ _
   | exact ih1 _ _ _ _ _
   | exact ih2 _ _ _ _ _ _ _
   | exact ih3 _ _ _ _ _ _
   | exact ih4 _ _ _ _ _ _ _ _ _
   | exact LeO.none _
   | refine LeO.ite ?_ ?_
   | refine LeO.bind ?_ (fun _ => ?_)
  ·intro y0 y1 y2 y3 y4 y5
   unfold spec_l18Share.l2
   repeat' first
   | (with_reducible exact ih0 _ _ _ _ _ _ _)
   | (with_reducible exact ih1 _ _ _ _ _)
   | (with_reducible exact ih2 _ _ _ _ _ _ _)
   | (with_reducible exact ih3 _ _ _ _ _ _)
   | (with_reducible exact ih4 _ _ _ _ _ _ _ _ _)
   | (with_reducible exact LeO.refl _)
   | (with_reducible exact LeO.none _)
   | (with_reducible refine LeO.ite ?_ ?_)
   | (with_reducible refine LeO.bind ?_ (fun _ => ?_))
   | exact ih0 _ _ _ _ _ _ _
   | exact ih1 _ _ _ _ _
   | exact ih2 _ _ _ _ _ _ _
   | exact ih3 _ _ _ _ _ _
   | exact ih4 _ _ _ _ _ _ _ _ _
   | exact LeO.none _
   | refine LeO.ite ?_ ?_
   | refine LeO.bind ?_ (fun _ => ?_)
  ·intro y0 y1 y2 y3 y4 y5 y6 y7 y8
   unfold spec_l18Share.l3
   repeat' first
   | (with_reducible exact ih0 _ _ _ _ _ _ _)
   | (with_reducible exact ih1 _ _ _ _ _)
   | (with_reducible exact ih2 _ _ _ _ _ _ _)
   | (with_reducible exact ih3 _ _ _ _ _ _)
   | (with_reducible exact ih4 _ _ _ _ _ _ _ _ _)
   | (with_reducible exact LeO.refl _)
   | (with_reducible exact LeO.none _)
   | (with_reducible refine LeO.ite ?_ ?_)
   | (with_reducible refine LeO.bind ?_ (fun _ => ?_))
   | exact ih0 _ _ _ _ _ _ _
   | exact ih1 _ _ _ _ _
   | exact ih2 _ _ _ _ _ _ _
   | exact ih3 _ _ _ _ _ _
   | exact ih4 _ _ _ _ _ _ _ _ _
   | exact LeO.none _
   | refine LeO.ite ?_ ?_
   | refine LeO.bind ?_ (fun _ => ?_)
theorem spec_l18Share.mono : ∀ a0 a1 a2 k, LeO (spec_l18Share.f k a0 a1 a2) (spec_l18Share.f (k + 1) a0 a1 a2) := by
 intro a0 a1 a2 k
 obtain ⟨ih0, ih1, ih2, ih3, ih4⟩ := spec_l18Share.mono_l k
 unfold spec_l18Share.f
 repeat' first
   | (with_reducible exact ih0 _ _ _ _ _ _ _)
   | (with_reducible exact ih1 _ _ _ _ _)
   | (with_reducible exact ih2 _ _ _ _ _ _ _)
   | (with_reducible exact ih3 _ _ _ _ _ _)
   | (with_reducible exact ih4 _ _ _ _ _ _ _ _ _)
   | (with_reducible exact LeO.refl _)
   | (with_reducible exact LeO.none _)
   | (with_reducible refine LeO.ite ?_ ?_)
   | (with_reducible refine LeO.bind ?_ (fun _ => ?_))
   | exact ih0 _ _ _ _ _ _ _
   | exact ih1 _ _ _ _ _
   | exact ih2 _ _ _ _ _ _ _
   | exact ih3 _ _ _ _ _ _
   | exact ih4 _ _ _ _ _ _ _ _ _
   | exact LeO.none _
   | refine LeO.ite ?_ ?_
   | refine LeO.bind ?_ (fun _ => ?_)
def spec_l18Share.T15 : Bool × List (List Nat × List Nat) := (true, [([], []), ([], []), ([0, 1], [0, 1]), ([2], [2]), ([], []), ([], []), ([], []), ([5, 6], [5, 6]), ([7], [7]), ([4, 8], [4, 8]), ([], []), ([9, 10], [9, 10]), ([3, 11], [3, 11]), ([0, 1, 0, 1, 2, 3, 4, 5, 6, 7, 8, 9, 10, 11, 12], [0, 1]), ([13, 12, 0, 1, 2, 3, 4, 5, 6, 7, 8, 9, 10, 11, 12], [12, 13])])
def spec_l18Share.B15 : List Nat := [0, 0, 3, 7, 0, 0, 0, 96, 224, 496, 0, 2032, 4095, 8191, 16383]
theorem spec_l18Share.tab15 : rtab .any (opsOf Try.f41 15) = spec_l18Share.T15 := by kernel_rfl
theorem spec_l18Share.bits15 : waitsOk spec_l18Share.T15.2 spec_l18Share.B15 = true := by kernel_rfl
def spec_l18Share.T25 : Bool × List (List Nat × List Nat) := (true, [([], []), ([], []), ([0, 1], [0, 1]), ([2], [2]), ([3], [3]), ([4], [4]), ([5], [5]), ([6, 5], [5, 6]), ([7, 5, 5], [5, 7]), ([8], [8]), ([8], [8]), ([8], [8]), ([10, 11, 8], [8, 10, 11]), ([12, 8], [8, 12]), ([9, 13, 8], [8, 9, 13]), ([8], [8]), ([14, 15, 8], [8, 14, 15]), ([8], [8]), ([8], [8]), ([8], [8]), ([18, 19, 8], [8, 18, 19]), ([20, 8], [8, 20]), ([17, 21, 8], [8, 17, 21]), ([8], [8]), ([22, 23, 8], [8, 22, 23]), ([16, 24, 8], [8, 16, 24]), ([8, 25, 5], [5, 8, 25]), ([5, 26], [5, 26])])
def spec_l18Share.B25 : List Nat := [0, 0, 3, 7, 15, 31, 63, 127, 255, 511, 511, 511, 3583, 7679, 16383, 511, 65535, 511, 511, 511, 786943, 1835519, 4063743, 511, 16646655, 33554431, 67108863, 134217727]
theorem spec_l18Share.tab25 : rtab .any (opsOf Try.f41 25) = spec_l18Share.T25 := by kernel_rfl
theorem spec_l18Share.bits25 : waitsOk spec_l18Share.T25.2 spec_l18Share.B25 = true := by kernel_rfl
set_option maxHeartbeats 8000000 in
set_option maxRecDepth 100000 in
theorem spec_l18Share.calls (k : Nat) (a0 : Int) (A1 : Option Addr) (c1 : Nat) (l1 : List Int) (A2 : Option Addr) (c2 : Nat) (l2 : List Int) (r : List Int) (w : World) (hr1 : Kd.C (Kd.int .i64) w A1 l1.length l1) (hc1 : l1.length ≤ c1) (hr2 : Kd.C (Kd.int .i64) w A2 l2.length l2) (hc2 : l2.length ≤ c2) (h : spec_l18Share.f k a0 l1 l2 = some r) :
  Calls Try.prog 41 #[.int .i64 a0, .slice A1 l1.length c1, .slice A2 l2.length c2] w fun e w' => ∃ v0_ : Value, e = .returned (v0_) ∧ Kd.R (Kd.int .i64) 3 w' w.heap.size (fun _ => True) v0_ r ∧ Below w.heap.size w w' := by
 have HR1 := am_ hr1
 have HC1 := am_ hc1
 clear hr1 hc1
 have HR2 := am_ hr2
 have HC2 := am_ hc2
 clear hr2 hc2
 have HB := am_ (Below.refl w.heap.size w)
 have H : ((some (([] : List Int) : List Int)).bind fun y121 => (if y121.length + l1.length < 17592186044416 then (spec_l18Share.l0 k a0 l1 l2 (y121 ++ l1) 0 (l1.length : Int) 0) else (none))) = some r := h
 clear h
 obtain ⟨y121, hy121⟩ : ∃ y_ : List Int, y_ = (([] : List Int)) := ⟨_, rfl⟩
 replace H : (if y121.length + l1.length < 17592186044416 then (spec_l18Share.l0 k a0 l1 l2 (y121 ++ l1) 0 (l1.length : Int) 0) else (none)) = some r := by first | (rw [hy121]; with_reducible exact H) | (have H2_ := (Option.bind_some _ _).symm.trans H; rw [hy121]; with_reducible exact H2_) | (have H2_ := (Option.bind_some _ _).symm.trans H; with_reducible exact H2_) | with_reducible exact H | (rw [hy121]; exact H) | exact H
 have Ny121 := am_ hy121
 clear hy121
 obtain ⟨c4, H⟩ := ifn_ H
 have LMc4 := am_ c4
 clear c4
 obtain ⟨y124, hy124⟩ : ∃ y_ : List Int, y_ = (y121 ++ l1) := ⟨_, rfl⟩
 replace H : (spec_l18Share.l0 k a0 l1 l2 y124 0 (l1.length : Int) 0) = some r := by first | (rw [hy124]; with_reducible exact H) | (have H2_ := (Option.bind_some _ _).symm.trans H; rw [hy124]; with_reducible exact H2_) | (have H2_ := (Option.bind_some _ _).symm.trans H; with_reducible exact H2_) | with_reducible exact H | (rw [hy124]; exact H) | exact H
 have Ny124 := am_ hy124
 clear hy124
 have H' := am_ H
 clear H
 go_enter Try.func41, Try.ntmps41
 go_wp2_with (first | ((with_reducible refine gate_dst (N := 15) rfl ?_); refine Kd.R_lit (Kd.int .i64) _ 3 ?hg (N := 15) ?hd (xs := ([] : List Int)) (inner := []) (ok := fun _ => True) (okp := fun _ => True) ?hr ?hp (fun _ hk => hk) trivial (Below.refl _ _) (Nat.le_refl _) (by simp) ?_; (case hd => rfl); (case hg => rfl); (case hr => first | (go_simp; done) | (go_simp; rfl)); (case hp => exact (Reps.none _ _)); intro v122 w5 ho6 hb hg_ hnew_; clear hg_ hnew_; (first | rw [← Ny121.out] at ho6 | (simp only [Int.reduceToNat] at ho6; rw [← Ny121.out] at ho6)); have n0_ := am_ (Kd.R_lower ho6 (below_size (bw_ HB.out))); have n1_ := am_ (below_step (bw_ HB.out) hb); have HO123 := n0_; replace HB := n1_; clear n0_ n1_; clear hb ho6) | ((with_reducible refine gate_builtin (b := .append) (xs := #[.tmp 15, .tmp 16]) rfl ?_); at_builtin; refine Kd.R_append_rows (Kd.int .i64) (w0 := w) w.heap.size rfl (.tmp 15) (.tmp 16) 24 3 (.int .i64 0) 8 rfl Try.underlying24 info3 rfl (by decide) (by omega) v122 y121 l1 _ _ _ (fun _ => True) (fun _ => False) rfl rfl ?aO ?aR (fun _ _ h => h) (fun _ h => h.elim) ?aF ?aB ?aS ?aL ?_; (case aR => repeat (first | exact (Kd.C_below HR1.out HB.out) | (with_reducible refine Kd.C_alloc ?_ _) | (with_reducible refine Kd.C_drewN ?_ _) | (with_reducible refine Kd.C_drew ?_))); (case aB => exact (bw_ HB.out)); (case aF => exact (fun _ _ => trivial)); (case aO => exact (ra_ HO123.out)); (case aS => exact (below_size (bw_ HB.out))); (case aL => have := LMc4.out; omega); intro v125 w7 ho hb hg hat; rw [← Ny124.out] at ho; have n0_ := am_ (hb); have n1_ := am_ (ho); clear HO123; replace HB := n0_; have HO126 := n1_; clear n0_ n1_; clear ho hb hg hat))
 go_loopg [0, 8, 20] k (fun kq v0 v8 v20 w' => ∃ (x0_1 : Int) (x8_1 : Int) (x20_1 : Int), v0 = .int .i64 x0_1 ∧ v8 = .int .i64 x8_1 ∧ v20 = .int .i64 x20_1 ∧ Aside0 (spec_l18Share.l0 kq x0_1 l1 l2 y124 x8_1 (l1.length : Int) x20_1 = some r) ∧ Aside0 (kq ≤ k) ∧ Aside0 (Kd.R (Kd.int .i64) 3 w' w.heap.size (fun _ => True) v125 y124) ∧ Aside0 (Below w.heap.size w w'))
 case atStart => exact ⟨(a0), (0), (0), sq_, sq_, sq_, H', ⟨Nat.le_refl _⟩, ⟨ra_ HO126.out⟩, ⟨bw_ HB.out⟩⟩
 case round =>
  clear H'
  try clear c1
  try clear c2
  try clear c4
  obtain ⟨x0_1, x8_1, x20_1, rfl, rfl, rfl, HA, HK1, HO_7, HB⟩ := hrel
  cases gk with
  | zero => exact absurd HA.out (by simp [spec_l18Share.l0])
  | succ k1 =>
   have H := HA.out
   clear HA
   simp only [spec_l18Share.l0] at H
   by_cases c8 : x20_1 < (l1.length : Int)
   ·rw [if_pos c8] at H
    have c8b0 : decide (x20_1 < (l1.length : Int)) = true := decide_eq_true c8
    clear c8
    obtain ⟨c9, H⟩ := ifn_ H
    have c9b0 : decide (0 ≤ x20_1) = true := decide_eq_true c9
    clear c9
    obtain ⟨c10, H⟩ := ifn_ H
    have c10b0 : decide (x20_1 < (l1.length : Int)) = true := decide_eq_true c10
    clear c10
    obtain ⟨c11, H⟩ := ifn_ H
    have c11b0 : decide (x20_1 < (l2.length : Int)) = true := decide_eq_true c11
    clear c11
    have H' := am_ H
    clear H
    have p127 : 0 ≤ (x20_1 : Int) := od_
    have q127 : x20_1 < (l1.length : Int) := od_
    obtain ⟨ad127, e127, hx127_0⟩ := Kd.at_int HR1.out x20_1 p127 q127
    cases e127
    (try replace hx127_0 := hc_ HB.out hx127_0)
    replace p127 := eq_true p127
    replace q127 := eq_true q127
    have p128 : 0 ≤ (x20_1 : Int) := od_
    have q128 : x20_1 < (l2.length : Int) := od_
    obtain ⟨ad128, e128, hx128_0⟩ := Kd.at_int HR2.out x20_1 p128 q128
    cases e128
    (try replace hx128_0 := hc_ HB.out hx128_0)
    replace p128 := eq_true p128
    replace q128 := eq_true q128
    go_wp2
    go_roundg k1
    case measure => have := HK1.out; omega
    case rel => exact ⟨(wrap64 (x0_1 - (rd l1 x20_1))), (wrap64 (x8_1 + (rd l2 x20_1))), (wrap64 (x20_1 + 1)), sq_, sq_, sq_, H', ⟨by have := HK1.out; omega⟩, ⟨ra_ HO_7.out⟩, ⟨bw_ HB.out⟩⟩
   ·rw [if_neg c8] at H
    have c8b0 : decide (x20_1 < (l1.length : Int)) = false := decide_eq_false c8
    clear c8
    have HC12 := am_ H
    clear H
    go_upto_region 9 with (fail)
    go_cut [41] (fun v41 wc => ∃ (kq : Nat) (x41_11 : Bool), v41 = .bool x41_11 ∧ Aside0 (spec_l18Share.j1 kq x0_1 l2 y124 x8_1 x41_11 = some r) ∧ Aside0 (kq ≤ k1) ∧ Aside0 (Kd.R (Kd.int .i64) 3 wc w.heap.size (fun _ => True) v125 y124) ∧ Aside0 (Below w.heap.size w wc))
    case first =>
     have H := HC12.out
     clear HC12
     by_cases c13 : x0_1 ≤ 0
     ·rw [if_pos c13] at H
      have c13b0 : decide (x0_1 ≤ 0) = true := decide_eq_true c13
      clear c13
      (first | rw [c13b0] | (simp only [i64_w, i32_w]; rw [c13b0]) | skip)
      have H' := am_ H
      clear H
      go_wp2
      go_meet
      case rel => exact ⟨_, (true), sq_, H', ⟨by have := HK1.out; first | omega | exact Nat.le_refl _⟩, ⟨ra_ HO_7.out⟩, ⟨bw_ HB.out⟩⟩
     ·rw [if_neg c13] at H
      have c13b0 : decide (x0_1 ≤ 0) = false := decide_eq_false c13
      clear c13
      (first | rw [c13b0] | (simp only [i64_w, i32_w]; rw [c13b0]) | skip)
      have H' := am_ H
      clear H
      go_wp2
      go_meet
      case rel => exact ⟨_, ((x8_1 == 0)), sq_, H', ⟨by have := HK1.out; first | omega | exact Nat.le_refl _⟩, ⟨ra_ HO_7.out⟩, ⟨bw_ HB.out⟩⟩
    case rest =>
     clear HC12
     try clear c1
     try clear c2
     try clear c4
     try clear c8
     try clear c8b0
     obtain ⟨kq, x41_11, rfl, HA, HJ11, HO_7, HB⟩ := hcut
     cases kq with
     | zero => exact absurd HA.out (by simp [spec_l18Share.j1])
     | succ kj11 =>
      have H := HA.out
      clear HA
      simp only [spec_l18Share.j1] at H
      by_cases c14 : x41_11 = true
      ·subst c14
       replace H := it_ H rfl
       obtain rfl := Option.some.inj H
       go_wp2
       go_ret
       exact ⟨_, by first | rfl | (simp [errW_none, errW_some] <;> rfl) | (simp [*, errW_none, errW_some] <;> rfl), ra_ HO_7.out, bw_ HB.out⟩
      ·replace c14 := Bool.eq_false_iff.mpr c14
       subst c14
       replace H := if_ H Bool.false_ne_true
       have H' := am_ H
       clear H
       obtain ⟨Ao15, co15, eo15⟩ := Kd.R_slice HO_7.out
       subst eo15
       go_wp2
       go_loopg [10, 46] kj11 (fun kq v10 v46 w' => ∃ (x7_3 : List Int) (x10_3 : Int) (x46_3 : Int), v10 = .int .i64 x10_3 ∧ v46 = .int .i64 x46_3 ∧ Aside0 (spec_l18Share.l1 kq x0_1 l2 x7_3 x8_1 x10_3 (y124.length : Int) x46_3 = some r) ∧ Aside0 (kq ≤ kj11) ∧ Aside0 (Kd.R (Kd.int .i64) 3 w' w.heap.size (fun _ => True) (.slice Ao15 y124.length co15) x7_3) ∧ Aside0 (Below w.heap.size w w'))
       case atStart => exact ⟨(y124), (x0_1), (0), sq_, sq_, H', ⟨Nat.le_refl _⟩, ⟨ra_ HO_7.out⟩, ⟨bw_ HB.out⟩⟩
       case round =>
        clear H'
        try clear c1
        try clear c2
        try clear c4
        try clear c8
        try clear c8b0
        try clear c14
        obtain ⟨x7_3, x10_3, x46_3, rfl, rfl, HA, HK3, HO_7, HB⟩ := hrel
        have hl7_3 := (Kd.R_reads' HO_7.out).1
        rw [hl7_3] at HO_7
        (try simp only [hl7_3])
        cases gk with
        | zero => exact absurd HA.out (by simp [spec_l18Share.l1])
        | succ k3 =>
         have H := HA.out
         clear HA
         simp only [spec_l18Share.l1] at H
         by_cases c16 : x46_3 < (y124.length : Int)
         ·rw [if_pos c16] at H
          have c16b0 : decide (x46_3 < (y124.length : Int)) = true := decide_eq_true c16
          (try rw [hl7_3] at c16b0)
          clear c16
          obtain ⟨c17, H⟩ := ifn_ H
          have c17b0 : decide (0 ≤ x46_3) = true := decide_eq_true c17
          clear c17
          obtain ⟨c18, H⟩ := ifn_ H
          have c18b0 : decide (x46_3 < (x7_3.length : Int)) = true := decide_eq_true c18
          (try rw [hl7_3] at c18b0)
          clear c18
          obtain ⟨c19, H⟩ := ifn_ H
          have c19b0 : decide (x46_3 < (l2.length : Int)) = true := decide_eq_true c19
          (try rw [hl7_3] at c19b0)
          clear c19
          obtain ⟨c20, H⟩ := ifm_ H
          have c20b0 : (x8_1 == 0) = false := beq_eq_false_iff_ne.mpr c20
          have c20b1 : (x8_1 != 0) = true := bne_iff_ne.mpr c20
          obtain ⟨y131, hy131⟩ : ∃ y_ : List Int, y_ = (x7_3.set (x46_3 : Int).toNat (wrap64 ((rd x7_3 x46_3) + (wrap64 (Int.tdiv (wrap64 (x0_1 * (rd l2 x46_3))) x8_1))))) := ⟨_, rfl⟩
          replace H : (spec_l18Share.l1 k3 x0_1 l2 y131 x8_1 (wrap64 (x10_3 - (wrap64 (Int.tdiv (wrap64 (x0_1 * (rd l2 x46_3))) x8_1)))) (y124.length : Int) (wrap64 (x46_3 + 1))) = some r := by first | (rw [hy131]; with_reducible exact H) | (have H2_ := (Option.bind_some _ _).symm.trans H; rw [hy131]; with_reducible exact H2_) | (have H2_ := (Option.bind_some _ _).symm.trans H; with_reducible exact H2_) | with_reducible exact H | (rw [hy131]; exact H) | exact H
          have Ny131 := am_ hy131
          clear hy131
          have H' := am_ H
          clear H
          try go_wp2
          have n0_ := am_ (Kd.R_drew HO_7.out)
          have n1_ := am_ (below_drew1 HB.out)
          replace HO_7 := n0_
          replace HB := n1_
          clear n0_ n1_
          have p129 : 0 ≤ (x46_3 : Int) := od_
          have q129 : x46_3 < (x7_3.length : Int) := od_
          obtain ⟨ad129, e129, hx129_0⟩ := Kd.at_int (Kd.R_reads' HO_7.out).2.2 x46_3 p129 q129
          cases e129
          replace p129 := eq_true p129
          replace q129 := eq_true q129
          have p130 : 0 ≤ (x46_3 : Int) := od_
          have q130 : x46_3 < (l2.length : Int) := od_
          obtain ⟨ad130, e130, hx130_0⟩ := Kd.at_int HR2.out x46_3 p130 q130
          have hw130_0 := hx130_0
          cases e130
          (try replace hx130_0 := hc_ HB.out hx130_0)
          replace p130 := eq_true p130
          replace q130 := eq_true q130
          have p21 : 0 ≤ (x46_3 : Int) := od_
          have q21 : (x46_3 : Int) < ((x7_3.length : Int) : Int) := od_
          obtain ⟨go21, co21, eo21, gb21, gl21, cl21, HG21⟩ := Kd.R_form HO_7.out (by omega)
          (first | cases eo21 | (injection eo21 with ea_ en_ ec_; (first | subst ea_ | (injection ea_ with ea_; subst ea_)); subst ec_; clear en_))
          have GB21 := am_ gb21
          have GG21 := am_ HG21
          clear gb21 gl21 HG21
          (first | simp only [add_plain] at hx129_0 | skip)
          obtain ⟨hx21_0, hf21_0⟩ := Kd.R_celln 0 HO_7.out (x46_3 : Int) p21 q21
          replace p21 := eq_true p21
          replace q21 := eq_true q21
          have HP23 := Kd.R_putn HO_7.out (x46_3 : Int) (wrap64 ((rd x7_3 x46_3) + (wrap64 (Int.tdiv (wrap64 (x0_1 * (rd l2 x46_3))) x8_1))))
          rw [← Ny131.out] at HP23
          have HQ23 := am_ HP23
          clear HP23
          refine start_ (n := 15) (S := fun w' => w'.cell? ⟨go21, (x46_3).toNat, none⟩ = some (.int .i64 (rd x7_3 x46_3)) ∧ w'.cell? (ad130.add (x46_3).toNat) = some (.int .i64 (rd l2 x46_3))) (ds := [14]) (Array.replicate 15 false) (by kernel_rfl) rfl rfl ⟨hx129_0, (hc_ HB.out hw130_0)⟩ (fun hHeld => ?_); refine with_tabW spec_l18Share.tab15 spec_l18Share.bits15 (fun HT_ HW_ => ?_)
          generalize wr.drew = w22 at HO_7 HB GG21 HQ23 hf21_0 hx129_0 hx130_0 hx21_0 hHeld ⊢
          refine pS_ 0 49 HT_ ?_
          refine pS_ 1 50 HT_ ?_
          refine pS_ 2 51 HT_ ?_
          refine pS_ 4 53 HT_ ?_
          refine pS_ 5 54 HT_ ?_
          refine pS_ 6 55 HT_ ?_
          refine pS_ 7 56 HT_ ?_
          refine pS_ 10 59 HT_ ?_
          refine tS_ 3 52 HT_ HW_ hHeld ?_
          refine tS_ 8 57 HT_ HW_ hHeld ?_
          refine pS_ 9 58 HT_ ?_
          refine pS_ 11 60 HT_ ?_
          refine pS_ 12 61 HT_ ?_
          refine pS_ 13 62 HT_ ?_
          refine last_ (i := 14) (N := none) #[true, true, true, true, true, true, true, true, true, true, true, true, true, true, true] rfl rfl (one_of HT_.out (by kernel_rfl)) (by decide) (fun K hK => ?_)
          refine skip_ (w1 := ?_) (by rfl) rfl ?_ ?_
          rotate_left
          ·go_simp
           rfl
          refine hK.out _ _ ?_
          clear hK K
          refine done_ (done_of HT_.out (by kernel_rfl)) ?_
          have p132 : 0 ≤ (x46_3 : Int) := od_
          have q132 : x46_3 < (l2.length : Int) := od_
          obtain ⟨ad132, e132, hx132_0⟩ := Kd.at_int HR2.out x46_3 p132 q132
          obtain rfl : ad130 = ad132 := (by injection e132)
          have hn132_0 : ad130.block ≠ go21 := Nat.ne_of_lt (Nat.lt_of_lt_of_le (by have := World.block_lt_of_cell? _ _ hx132_0; first | rwa [add_block] at this | exact this) GB21.out)
          (try replace hx132_0 := hc_ HB.out hx132_0)
          replace hx132_0 := (cell_far (p := ⟨go21, (x46_3 : Int).toNat, none⟩) (by first | (rw [add_block]; exact hn132_0) | (show (Addr.add _ _).block ≠ _; rw [add_block]; exact hn132_0) | exact hn132_0) (.int .i64 (wrap64 ((rd x7_3 x46_3) + (wrap64 (Int.tdiv (wrap64 (x0_1 * (rd l2 x46_3))) x8_1)))))).trans hx132_0
          clear hn132_0
          replace p132 := eq_true p132
          replace q132 := eq_true q132
          try go_wp2
          (try simp only [← hl7_3])
          (try simp only [show (⟨go21, (x46_3 : Int).toNat, none⟩ : Addr) = Addr.add ⟨go21, 0, none⟩ (x46_3 : Int).toNat from by simp [Addr.add]])
          go_roundg k3
          case measure => have := HK1.out; have := HJ11.out; have := HK3.out; omega
          case rel => first | exact ⟨(y131), (wrap64 (x10_3 - (wrap64 (Int.tdiv (wrap64 (x0_1 * (rd l2 x46_3))) x8_1)))), (wrap64 (x46_3 + 1)), sq_, sq_, H', ⟨by have := HK1.out; have := HJ11.out; have := HK3.out; omega⟩, ⟨by (try simp only [hl7_3]); (with_reducible repeat (first | apply Kd.R_alloc | apply Kd.R_drewN | apply Kd.R_drew)); exact HQ23.out⟩, ⟨bw_ HB.out⟩⟩ | (simp only [(show (⟨go21, (x46_3 : Int).toNat, none⟩ : Addr) = Addr.add ⟨go21, 0, none⟩ (x46_3 : Int).toNat from by simp [Addr.add]).symm]; exact ⟨(y131), (wrap64 (x10_3 - (wrap64 (Int.tdiv (wrap64 (x0_1 * (rd l2 x46_3))) x8_1)))), (wrap64 (x46_3 + 1)), sq_, sq_, H', ⟨by have := HK1.out; have := HJ11.out; have := HK3.out; omega⟩, ⟨by (try simp only [hl7_3]); (with_reducible repeat (first | apply Kd.R_alloc | apply Kd.R_drewN | apply Kd.R_drew)); exact HQ23.out⟩, ⟨bw_ HB.out⟩⟩)
         ·rw [if_neg c16] at H
          have c16b0 : decide (x46_3 < (y124.length : Int)) = false := decide_eq_false c16
          (try rw [hl7_3] at c16b0)
          clear c16
          obtain ⟨c24, H⟩ := ifn_ H
          have c24b0 := eq_true c24
          have c24b1 : decide (0 ≤ (x7_3.length : Int)) = true := decide_eq_true c24
          (try rw [hl7_3] at c24b1)
          clear c24
          obtain ⟨c25, H⟩ := ifn_ H
          have c25b0 := eq_true c25
          have c25b1 : decide (((x7_3.length : Int) : Int).toNat ≤ 281474976710656) = true := decide_eq_true c25
          (try rw [hl7_3] at c25b1)
          clear c25
          obtain ⟨y133, hy133⟩ : ∃ y_ : List Bool, y_ = (List.replicate ((x7_3.length : Int) : Int).toNat false) := ⟨_, rfl⟩
          replace H : (spec_l18Share.l2 k3 x0_1 l2 x7_3 x8_1 x10_3 y133) = some r := by first | (rw [hy133]; with_reducible exact H) | (have H2_ := (Option.bind_some _ _).symm.trans H; rw [hy133]; with_reducible exact H2_) | (have H2_ := (Option.bind_some _ _).symm.trans H; with_reducible exact H2_) | with_reducible exact H | (rw [hy133]; exact H) | exact H
          have Ny133 := am_ hy133
          clear hy133
          have H' := am_ H
          clear H
          go_wp2_with (first | ((with_reducible refine gate_dst (N := 76) rfl ?_); refine Kd.R_make Kd.bool _ 4 rfl (N := 76) rfl 85 _ _ rfl (x7_3.length : Int) rfl rfl Try.underlying85 (.bool false) 1 info4 rfl (by decide) (by omega) false (ok := fun _ => True) (okp := fun _ => True) rfl (fun _ hk => hk) trivial od_ (Nat.le_trans (Nat.mul_le_mul_right _ (od_ : (x7_3.length : Int).toNat ≤ 281474976710656)) (by omega)) (Below.refl _ _) (Nat.le_refl _) ?_; intro v134 w26 ho27 hb hg_ hnew_; clear hg_ hnew_; (first | rw [← Ny133.out] at ho27 | (simp only [Int.reduceToNat] at ho27; rw [← Ny133.out] at ho27)); have n0_ := am_ (Kd.R_below (ra_ HO_7.out) hb); have n1_ := am_ (Kd.R_lower ho27 (below_size (bw_ HB.out))); have n2_ := am_ (below_step (bw_ HB.out) hb); replace HO_7 := n0_; have HO135 := n1_; replace HB := n2_; clear n0_ n1_ n2_; clear hb ho27))
          go_loopg [10] k3 (fun kq v10 w' => ∃ (x7_4 : List Int) (x10_4 : Int) (x12_4 : List Bool), v10 = .int .i64 x10_4 ∧ Aside0 (spec_l18Share.l2 kq x0_1 l2 x7_4 x8_1 x10_4 x12_4 = some r) ∧ Aside0 (kq ≤ k3) ∧ Aside0 (Kd.R (Kd.int .i64) 3 w' w.heap.size (fun _ => True) (.slice Ao15 x7_3.length co15) x7_4) ∧ Aside0 (Kd.R Kd.bool 4 w' w.heap.size (fun _ => True) v134 x12_4) ∧ Aside0 (Below w.heap.size w w'))
          case atStart => exact ⟨(x7_3), (x10_3), (y133), sq_, H', ⟨Nat.le_refl _⟩, ⟨by (try simp only [hl7_3]); (with_reducible repeat (first | apply Kd.R_alloc | apply Kd.R_drewN | apply Kd.R_drew)); exact HO_7.out⟩, ⟨by (try simp only [hl7_3]); (with_reducible repeat (first | apply Kd.R_alloc | apply Kd.R_drewN | apply Kd.R_drew)); exact HO135.out⟩, ⟨bw_ HB.out⟩⟩
          case round =>
           clear H'
           try clear c1
           try clear c2
           try clear c4
           try clear c8
           try clear c8b0
           try clear c14
           try clear c16
           try clear c16b0
           try clear c24
           try clear c24b0
           try clear c24b1
           try clear c25
           try clear c25b0
           try clear c25b1
           obtain ⟨x7_4, x10_4, x12_4, rfl, HA, HK4, HO_7, HO_12, HB⟩ := hrel
           have hl7_4 := (Kd.R_reads' HO_7.out).1
           rw [hl7_4] at HO_7
           (try simp only [hl7_4])
           (try simp only [hl7_4] at HO_12)
           cases gk with
           | zero => exact absurd HA.out (by simp [spec_l18Share.l2])
           | succ k4 =>
            have H := HA.out
            clear HA
            simp only [spec_l18Share.l2] at H
            by_cases c28 : x10_4 > 0
            ·rw [if_pos c28] at H
             have c28b0 : decide (0 < x10_4) = true := decide_eq_true c28
             clear c28
             have H' := am_ H
             clear H
             go_wp2
             go_loopg [13, 83] k4 (fun kq v13 v83 w' => ∃ (x13_5 : Int) (x83_5 : Int), v13 = .int .i64 x13_5 ∧ v83 = .int .i64 x83_5 ∧ Aside0 (spec_l18Share.l3 kq x0_1 l2 x7_4 x8_1 x10_4 x12_4 x13_5 (x7_4.length : Int) x83_5 = some r) ∧ Aside0 (kq ≤ k4) ∧ Aside0 (Kd.R (Kd.int .i64) 3 w' w.heap.size (fun _ => True) (.slice Ao15 x7_4.length co15) x7_4) ∧ Aside0 (Kd.R Kd.bool 4 w' w.heap.size (fun _ => True) v134 x12_4) ∧ Aside0 (Below w.heap.size w w'))
             case atStart => exact ⟨((-1)), (0), sq_, sq_, H', ⟨Nat.le_refl _⟩, ⟨by (try simp only [hl7_3]); (try simp only [hl7_4]); (with_reducible repeat (first | apply Kd.R_alloc | apply Kd.R_drewN | apply Kd.R_drew)); exact HO_7.out⟩, ⟨by (try simp only [hl7_3]); (try simp only [hl7_4]); (with_reducible repeat (first | apply Kd.R_alloc | apply Kd.R_drewN | apply Kd.R_drew)); exact HO_12.out⟩, ⟨bw_ HB.out⟩⟩
             case round =>
              clear H'
              try clear c1
              try clear c2
              try clear c4
              try clear c8
              try clear c8b0
              try clear c14
              try clear c16
              try clear c16b0
              try clear c24
              try clear c24b0
              try clear c24b1
              try clear c25
              try clear c25b0
              try clear c25b1
              try clear c28
              try clear c28b0
              obtain ⟨x13_5, x83_5, rfl, rfl, HA, HK5, HO_7, HO_12, HB⟩ := hrel
              cases gk with
              | zero => exact absurd HA.out (by simp [spec_l18Share.l3])
              | succ k5 =>
               have H := HA.out
               clear HA
               simp only [spec_l18Share.l3] at H
               by_cases c29 : x83_5 < (x7_4.length : Int)
               ·rw [if_pos c29] at H
                have c29b0 : decide (x83_5 < (x7_4.length : Int)) = true := decide_eq_true c29
                (try rw [hl7_3] at c29b0)
                (try rw [hl7_4] at c29b0)
                clear c29
                obtain ⟨c30, H⟩ := ifn_ H
                have c30b0 : decide (0 ≤ x83_5) = true := decide_eq_true c30
                clear c30
                obtain ⟨c31, H⟩ := ifn_ H
                have c31b0 : decide (x83_5 < (x12_4.length : Int)) = true := decide_eq_true c31
                (try rw [hl7_3] at c31b0)
                (try rw [hl7_4] at c31b0)
                clear c31
                obtain ⟨bq32, hbq32⟩ : ∃ b_ : Bool, b_ = (rdOf false x12_4 x83_5) := ⟨_, rfl⟩
                replace H : (if bq32 = true then (spec_l18Share.l3 k5 x0_1 l2 x7_4 x8_1 x10_4 x12_4 x13_5 (x7_4.length : Int) (wrap64 (x83_5 + 1))) else (if x13_5 < 0 then (spec_l18Share.l3 k5 x0_1 l2 x7_4 x8_1 x10_4 x12_4 x83_5 (x7_4.length : Int) (wrap64 (x83_5 + 1))) else (if x83_5 < (l2.length : Int) then (if x8_1 = 0 then (none) else (if 0 ≤ x13_5 then (if x13_5 < (l2.length : Int) then (if (Int.tmod (wrap64 (x0_1 * (rd l2 x83_5))) x8_1) > (Int.tmod (wrap64 (x0_1 * (rd l2 x13_5))) x8_1) then (spec_l18Share.l3 k5 x0_1 l2 x7_4 x8_1 x10_4 x12_4 x83_5 (x7_4.length : Int) (wrap64 (x83_5 + 1))) else (spec_l18Share.l3 k5 x0_1 l2 x7_4 x8_1 x10_4 x12_4 x13_5 (x7_4.length : Int) (wrap64 (x83_5 + 1)))) else (none)) else (none))) else (none)))) = some r := by rw [← hbq32] at H; exact H
                have Nbq32 := am_ hbq32
                clear hbq32
                by_cases c33 : bq32 = true
                ·subst c33
                 replace H := it_ H rfl
                 have H' := am_ H
                 clear H
                 try go_wp2
                 have n0_ := am_ (Kd.R_drew HO_7.out)
                 have n1_ := am_ (Kd.R_drew HO_12.out)
                 have n2_ := am_ (below_drew1 HB.out)
                 replace HO_7 := n0_
                 replace HO_12 := n1_
                 replace HB := n2_
                 clear n0_ n1_ n2_
                 obtain ⟨Ao35, co35, eo35⟩ := Kd.R_slice HO_12.out
                 (first | subst eo35 | (injection eo35 with f1_ f2_ f3_; have f4_ := f1_.symm; have f5_ := f3_.symm; clear f1_ f2_ f3_; subst f4_; subst f5_))
                 have p136 : 0 ≤ (x83_5 : Int) := od_
                 have q136 : x83_5 < (x12_4.length : Int) := od_
                 obtain ⟨ad136, e136, hx136_0⟩ := Kd.at_bool (Kd.R_reads' HO_12.out).2.2 x83_5 p136 q136
                 (try rw [← Nbq32.out] at hx136_0)
                 cases e136
                 replace p136 := eq_true p136
                 replace q136 := eq_true q136
                 refine start_ (n := 28) (S := fun w' => w'.cell? (ad136.add (x83_5).toNat) = some (.bool true)) (ds := []) (Array.replicate 28 false) (by kernel_rfl) rfl rfl (hx136_0) (fun hHeld => ?_); refine with_tabW spec_l18Share.tab25 spec_l18Share.bits25 (fun HT_ HW_ => ?_)
                 generalize wr.drew = w34 at HO_7 HO_12 HB hx136_0 hHeld ⊢
                 refine pS_ 0 86 HT_ ?_
                 refine pS_ 1 87 HT_ ?_
                 refine pS_ 2 88 HT_ ?_
                 refine take_ (i := 3) (N := some 89) (v := ?_) (a' := ?_) #[true, true, true, true, false, false, false, false, false, false, false, false, false, false, false, false, false, false, false, false, false, false, false, false, false, false, false, false] rfl rfl (take_ofW HT_.out HW_.out (by kernel_rfl)) (fun _ _ _ h => h) (Or.inl ⟨by rfl, ?_⟩) hHeld ?_ ?_
                 rotate_left
                 ·intro w' s0
                  go_simp
                  with_reducible rfl
                 rotate_left
                 ·simp only [Act.put, List.setIfInBounds_toArray, List.set_cons_zero, List.set_cons_succ, i64_w, i32_w]
                  rfl
                 refine pS_ 4 90 HT_ ?_
                 refine pS_ 5 91 HT_ ?_
                 refine pU_ 6 92 HT_ ?_
                 refine pU_ 7 93 HT_ ?_
                 refine pU_ 8 94 HT_ ?_
                 refine pU_ 9 95 HT_ ?_
                 refine pU_ 10 96 HT_ ?_
                 refine pU_ 11 97 HT_ ?_
                 refine pU_ 12 98 HT_ ?_
                 refine pU_ 13 99 HT_ ?_
                 refine pU_ 14 100 HT_ ?_
                 refine pU_ 15 101 HT_ ?_
                 refine pU_ 16 102 HT_ ?_
                 refine pU_ 17 103 HT_ ?_
                 refine pU_ 18 104 HT_ ?_
                 refine pU_ 19 105 HT_ ?_
                 refine pU_ 20 106 HT_ ?_
                 refine pU_ 21 107 HT_ ?_
                 refine pU_ 22 108 HT_ ?_
                 refine pU_ 23 109 HT_ ?_
                 refine pU_ 24 110 HT_ ?_
                 refine pU_ 25 111 HT_ ?_
                 refine pU_ 26 112 HT_ ?_
                 refine pS_ 27 113 HT_ ?_
                 refine done_ (done_of HT_.out (by kernel_rfl)) ?_
                 try go_wp2
                 go_roundg k5
                 case measure => have := HK1.out; have := HJ11.out; have := HK3.out; have := HK4.out; have := HK5.out; omega
                 case rel => exact ⟨(x13_5), (wrap64 (x83_5 + 1)), sq_, sq_, H', ⟨by have := HK1.out; have := HJ11.out; have := HK3.out; have := HK4.out; have := HK5.out; omega⟩, ⟨by (try simp only [hl7_3]); (try simp only [hl7_4]); (with_reducible repeat (first | apply Kd.R_alloc | apply Kd.R_drewN | apply Kd.R_drew)); exact HO_7.out⟩, ⟨by (try simp only [hl7_3]); (try simp only [hl7_4]); (with_reducible repeat (first | apply Kd.R_alloc | apply Kd.R_drewN | apply Kd.R_drew)); exact HO_12.out⟩, ⟨bw_ HB.out⟩⟩
                ·replace c33 := Bool.eq_false_iff.mpr c33
                 subst c33
                 replace H := if_ H Bool.false_ne_true
                 by_cases c36 : x13_5 < 0
                 ·rw [if_pos c36] at H
                  have c36b0 : decide (x13_5 < 0) = true := decide_eq_true c36
                  clear c36
                  have H' := am_ H
                  clear H
                  try go_wp2
                  have n0_ := am_ (Kd.R_drew HO_7.out)
                  have n1_ := am_ (Kd.R_drew HO_12.out)
                  have n2_ := am_ (below_drew1 HB.out)
                  replace HO_7 := n0_
                  replace HO_12 := n1_
                  replace HB := n2_
                  clear n0_ n1_ n2_
                  obtain ⟨Ao38, co38, eo38⟩ := Kd.R_slice HO_12.out
                  (first | subst eo38 | (injection eo38 with f1_ f2_ f3_; have f4_ := f1_.symm; have f5_ := f3_.symm; clear f1_ f2_ f3_; subst f4_; subst f5_))
                  have p136 : 0 ≤ (x83_5 : Int) := od_
                  have q136 : x83_5 < (x12_4.length : Int) := od_
                  obtain ⟨ad136, e136, hx136_0⟩ := Kd.at_bool (Kd.R_reads' HO_12.out).2.2 x83_5 p136 q136
                  (try rw [← Nbq32.out] at hx136_0)
                  cases e136
                  replace p136 := eq_true p136
                  replace q136 := eq_true q136
                  refine start_ (n := 28) (S := fun w' => w'.cell? (ad136.add (x83_5).toNat) = some (.bool false)) (ds := []) (Array.replicate 28 false) (by kernel_rfl) rfl rfl (hx136_0) (fun hHeld => ?_); refine with_tabW spec_l18Share.tab25 spec_l18Share.bits25 (fun HT_ HW_ => ?_)
                  generalize wr.drew = w37 at HO_7 HO_12 HB hx136_0 hHeld ⊢
                  refine pS_ 0 86 HT_ ?_
                  refine pS_ 1 87 HT_ ?_
                  refine pS_ 2 88 HT_ ?_
                  refine take_ (i := 3) (N := some 89) (v := ?_) (a' := ?_) #[true, true, true, true, false, false, false, false, false, false, false, false, false, false, false, false, false, false, false, false, false, false, false, false, false, false, false, false] rfl rfl (take_ofW HT_.out HW_.out (by kernel_rfl)) (fun _ _ _ h => h) (Or.inl ⟨by rfl, ?_⟩) hHeld ?_ ?_
                  rotate_left
                  ·intro w' s0
                   go_simp
                   with_reducible rfl
                  rotate_left
                  ·simp only [Act.put, List.setIfInBounds_toArray, List.set_cons_zero, List.set_cons_succ, i64_w, i32_w]
                   rfl
                  refine pS_ 4 90 HT_ ?_
                  refine pS_ 5 91 HT_ ?_
                  refine pS_ 6 92 HT_ ?_
                  refine pS_ 7 93 HT_ ?_
                  refine pS_ 8 94 HT_ ?_
                  refine pU_ 9 95 HT_ ?_
                  refine pU_ 10 96 HT_ ?_
                  refine pU_ 11 97 HT_ ?_
                  refine pU_ 12 98 HT_ ?_
                  refine pU_ 13 99 HT_ ?_
                  refine pU_ 14 100 HT_ ?_
                  refine pU_ 15 101 HT_ ?_
                  refine pU_ 16 102 HT_ ?_
                  refine pU_ 17 103 HT_ ?_
                  refine pU_ 18 104 HT_ ?_
                  refine pU_ 19 105 HT_ ?_
                  refine pU_ 20 106 HT_ ?_
                  refine pU_ 21 107 HT_ ?_
                  refine pU_ 22 108 HT_ ?_
                  refine pU_ 23 109 HT_ ?_
                  refine pU_ 24 110 HT_ ?_
                  refine pU_ 25 111 HT_ ?_
                  refine pS_ 26 112 HT_ ?_
                  refine pS_ 27 113 HT_ ?_
                  refine done_ (done_of HT_.out (by kernel_rfl)) ?_
                  try go_wp2
                  go_roundg k5
                  case measure => have := HK1.out; have := HJ11.out; have := HK3.out; have := HK4.out; have := HK5.out; omega
                  case rel => exact ⟨(x83_5), (wrap64 (x83_5 + 1)), sq_, sq_, H', ⟨by have := HK1.out; have := HJ11.out; have := HK3.out; have := HK4.out; have := HK5.out; omega⟩, ⟨by (try simp only [hl7_3]); (try simp only [hl7_4]); (with_reducible repeat (first | apply Kd.R_alloc | apply Kd.R_drewN | apply Kd.R_drew)); exact HO_7.out⟩, ⟨by (try simp only [hl7_3]); (try simp only [hl7_4]); (with_reducible repeat (first | apply Kd.R_alloc | apply Kd.R_drewN | apply Kd.R_drew)); exact HO_12.out⟩, ⟨bw_ HB.out⟩⟩
                 ·rw [if_neg c36] at H
                  have c36b0 : decide (x13_5 < 0) = false := decide_eq_false c36
                  clear c36
                  obtain ⟨c39, H⟩ := ifn_ H
                  have c39b0 : decide (x83_5 < (l2.length : Int)) = true := decide_eq_true c39
                  (try rw [hl7_3] at c39b0)
                  (try rw [hl7_4] at c39b0)
                  clear c39
                  obtain ⟨c40, H⟩ := ifm_ H
                  have c40b0 : (x8_1 == 0) = false := beq_eq_false_iff_ne.mpr c40
                  have c40b1 : (x8_1 != 0) = true := bne_iff_ne.mpr c40
                  obtain ⟨c41, H⟩ := ifn_ H
                  have c41b0 : decide (0 ≤ x13_5) = true := decide_eq_true c41
                  clear c41
                  obtain ⟨c42, H⟩ := ifn_ H
                  have c42b0 : decide (x13_5 < (l2.length : Int)) = true := decide_eq_true c42
                  (try rw [hl7_3] at c42b0)
                  (try rw [hl7_4] at c42b0)
                  clear c42
                  by_cases c43 : (Int.tmod (wrap64 (x0_1 * (rd l2 x83_5))) x8_1) > (Int.tmod (wrap64 (x0_1 * (rd l2 x13_5))) x8_1)
                  ·rw [if_pos c43] at H
                   have c43b0 : decide ((Int.tmod (wrap64 (x0_1 * (rd l2 x13_5))) x8_1) < (Int.tmod (wrap64 (x0_1 * (rd l2 x83_5))) x8_1)) = true := decide_eq_true c43
                   clear c43
                   have H' := am_ H
                   clear H
                   try go_wp2
                   have n0_ := am_ (Kd.R_drew HO_7.out)
                   have n1_ := am_ (Kd.R_drew HO_12.out)
                   have n2_ := am_ (below_drew1 HB.out)
                   replace HO_7 := n0_
                   replace HO_12 := n1_
                   replace HB := n2_
                   clear n0_ n1_ n2_
                   obtain ⟨Ao45, co45, eo45⟩ := Kd.R_slice HO_12.out
                   (first | subst eo45 | (injection eo45 with f1_ f2_ f3_; have f4_ := f1_.symm; have f5_ := f3_.symm; clear f1_ f2_ f3_; subst f4_; subst f5_))
                   have p136 : 0 ≤ (x83_5 : Int) := od_
                   have q136 : x83_5 < (x12_4.length : Int) := od_
                   obtain ⟨ad136, e136, hx136_0⟩ := Kd.at_bool (Kd.R_reads' HO_12.out).2.2 x83_5 p136 q136
                   (try rw [← Nbq32.out] at hx136_0)
                   cases e136
                   replace p136 := eq_true p136
                   replace q136 := eq_true q136
                   have p137 : 0 ≤ (x83_5 : Int) := od_
                   have q137 : x83_5 < (l2.length : Int) := od_
                   obtain ⟨ad137, e137, hx137_0⟩ := Kd.at_int HR2.out x83_5 p137 q137
                   have hw137_0 := hx137_0
                   cases e137
                   (try replace hx137_0 := hc_ HB.out hx137_0)
                   replace p137 := eq_true p137
                   replace q137 := eq_true q137
                   have p138 : 0 ≤ (x13_5 : Int) := od_
                   have q138 : x13_5 < (l2.length : Int) := od_
                   obtain ⟨ad138, e138, hx138_0⟩ := Kd.at_int HR2.out x13_5 p138 q138
                   have hw138_0 := hx138_0
                   obtain rfl : ad137 = ad138 := (by injection e138)
                   (try replace hx138_0 := hc_ HB.out hx138_0)
                   replace p138 := eq_true p138
                   replace q138 := eq_true q138
                   refine start_ (n := 28) (S := fun w' => w'.cell? (ad136.add (x83_5).toNat) = some (.bool false) ∧ w'.cell? (ad137.add (x83_5).toNat) = some (.int .i64 (rd l2 x83_5)) ∧ w'.cell? (ad137.add (x13_5).toNat) = some (.int .i64 (rd l2 x13_5))) (ds := []) (Array.replicate 28 false) (by kernel_rfl) rfl rfl ⟨hx136_0, (hc_ HB.out hw137_0), (hc_ HB.out hw138_0)⟩ (fun hHeld => ?_); refine with_tabW spec_l18Share.tab25 spec_l18Share.bits25 (fun HT_ HW_ => ?_)
                   generalize wr.drew = w44 at HO_7 HO_12 HB hx136_0 hx137_0 hx138_0 hHeld ⊢
                   refine pS_ 0 86 HT_ ?_
                   refine pS_ 1 87 HT_ ?_
                   refine pS_ 2 88 HT_ ?_
                   refine tS_ 3 89 HT_ HW_ hHeld ?_
                   refine pS_ 4 90 HT_ ?_
                   refine pS_ 5 91 HT_ ?_
                   refine pS_ 6 92 HT_ ?_
                   refine pS_ 7 93 HT_ ?_
                   refine pS_ 8 94 HT_ ?_
                   refine pS_ 9 95 HT_ ?_
                   refine pS_ 10 96 HT_ ?_
                   refine pS_ 11 97 HT_ ?_
                   refine pS_ 12 98 HT_ ?_
                   refine pS_ 15 101 HT_ ?_
                   refine pS_ 17 103 HT_ ?_
                   refine pS_ 18 104 HT_ ?_
                   refine pS_ 19 105 HT_ ?_
                   refine pS_ 20 106 HT_ ?_
                   refine pS_ 23 109 HT_ ?_
                   refine tS_ 13 99 HT_ HW_ hHeld ?_
                   refine pS_ 14 100 HT_ ?_
                   refine pS_ 16 102 HT_ ?_
                   refine tS_ 21 107 HT_ HW_ hHeld ?_
                   refine pS_ 22 108 HT_ ?_
                   refine pS_ 24 110 HT_ ?_
                   refine pS_ 25 111 HT_ ?_
                   refine pS_ 26 112 HT_ ?_
                   refine pS_ 27 113 HT_ ?_
                   refine done_ (done_of HT_.out (by kernel_rfl)) ?_
                   try go_wp2
                   go_roundg k5
                   case measure => have := HK1.out; have := HJ11.out; have := HK3.out; have := HK4.out; have := HK5.out; omega
                   case rel => exact ⟨(x83_5), (wrap64 (x83_5 + 1)), sq_, sq_, H', ⟨by have := HK1.out; have := HJ11.out; have := HK3.out; have := HK4.out; have := HK5.out; omega⟩, ⟨by (try simp only [hl7_3]); (try simp only [hl7_4]); (with_reducible repeat (first | apply Kd.R_alloc | apply Kd.R_drewN | apply Kd.R_drew)); exact HO_7.out⟩, ⟨by (try simp only [hl7_3]); (try simp only [hl7_4]); (with_reducible repeat (first | apply Kd.R_alloc | apply Kd.R_drewN | apply Kd.R_drew)); exact HO_12.out⟩, ⟨bw_ HB.out⟩⟩
                  ·rw [if_neg c43] at H
                   have c43b0 : decide ((Int.tmod (wrap64 (x0_1 * (rd l2 x13_5))) x8_1) < (Int.tmod (wrap64 (x0_1 * (rd l2 x83_5))) x8_1)) = false := decide_eq_false c43
                   clear c43
                   have H' := am_ H
                   clear H
                   try go_wp2
                   have n0_ := am_ (Kd.R_drew HO_7.out)
                   have n1_ := am_ (Kd.R_drew HO_12.out)
                   have n2_ := am_ (below_drew1 HB.out)
                   replace HO_7 := n0_
                   replace HO_12 := n1_
                   replace HB := n2_
                   clear n0_ n1_ n2_
                   obtain ⟨Ao47, co47, eo47⟩ := Kd.R_slice HO_12.out
                   (first | subst eo47 | (injection eo47 with f1_ f2_ f3_; have f4_ := f1_.symm; have f5_ := f3_.symm; clear f1_ f2_ f3_; subst f4_; subst f5_))
                   have p136 : 0 ≤ (x83_5 : Int) := od_
                   have q136 : x83_5 < (x12_4.length : Int) := od_
                   obtain ⟨ad136, e136, hx136_0⟩ := Kd.at_bool (Kd.R_reads' HO_12.out).2.2 x83_5 p136 q136
                   (try rw [← Nbq32.out] at hx136_0)
                   cases e136
                   replace p136 := eq_true p136
                   replace q136 := eq_true q136
                   have p137 : 0 ≤ (x83_5 : Int) := od_
                   have q137 : x83_5 < (l2.length : Int) := od_
                   obtain ⟨ad137, e137, hx137_0⟩ := Kd.at_int HR2.out x83_5 p137 q137
                   have hw137_0 := hx137_0
                   cases e137
                   (try replace hx137_0 := hc_ HB.out hx137_0)
                   replace p137 := eq_true p137
                   replace q137 := eq_true q137
                   have p138 : 0 ≤ (x13_5 : Int) := od_
                   have q138 : x13_5 < (l2.length : Int) := od_
                   obtain ⟨ad138, e138, hx138_0⟩ := Kd.at_int HR2.out x13_5 p138 q138
                   have hw138_0 := hx138_0
                   obtain rfl : ad137 = ad138 := (by injection e138)
                   (try replace hx138_0 := hc_ HB.out hx138_0)
                   replace p138 := eq_true p138
                   replace q138 := eq_true q138
                   refine start_ (n := 28) (S := fun w' => w'.cell? (ad136.add (x83_5).toNat) = some (.bool false) ∧ w'.cell? (ad137.add (x83_5).toNat) = some (.int .i64 (rd l2 x83_5)) ∧ w'.cell? (ad137.add (x13_5).toNat) = some (.int .i64 (rd l2 x13_5))) (ds := []) (Array.replicate 28 false) (by kernel_rfl) rfl rfl ⟨hx136_0, (hc_ HB.out hw137_0), (hc_ HB.out hw138_0)⟩ (fun hHeld => ?_); refine with_tabW spec_l18Share.tab25 spec_l18Share.bits25 (fun HT_ HW_ => ?_)
                   generalize wr.drew = w46 at HO_7 HO_12 HB hx136_0 hx137_0 hx138_0 hHeld ⊢
                   refine pS_ 0 86 HT_ ?_
                   refine pS_ 1 87 HT_ ?_
                   refine pS_ 2 88 HT_ ?_
                   refine tS_ 3 89 HT_ HW_ hHeld ?_
                   refine pS_ 4 90 HT_ ?_
                   refine pS_ 5 91 HT_ ?_
                   refine pS_ 6 92 HT_ ?_
                   refine pS_ 7 93 HT_ ?_
                   refine pS_ 8 94 HT_ ?_
                   refine pS_ 9 95 HT_ ?_
                   refine pS_ 10 96 HT_ ?_
                   refine pS_ 11 97 HT_ ?_
                   refine pS_ 12 98 HT_ ?_
                   refine pS_ 15 101 HT_ ?_
                   refine pS_ 17 103 HT_ ?_
                   refine pS_ 18 104 HT_ ?_
                   refine pS_ 19 105 HT_ ?_
                   refine pS_ 20 106 HT_ ?_
                   refine pS_ 23 109 HT_ ?_
                   refine tS_ 13 99 HT_ HW_ hHeld ?_
                   refine pS_ 14 100 HT_ ?_
                   refine pS_ 16 102 HT_ ?_
                   refine tS_ 21 107 HT_ HW_ hHeld ?_
                   refine pS_ 22 108 HT_ ?_
                   refine pS_ 24 110 HT_ ?_
                   refine pS_ 25 111 HT_ ?_
                   refine pS_ 26 112 HT_ ?_
                   refine pS_ 27 113 HT_ ?_
                   refine done_ (done_of HT_.out (by kernel_rfl)) ?_
                   try go_wp2
                   go_roundg k5
                   case measure => have := HK1.out; have := HJ11.out; have := HK3.out; have := HK4.out; have := HK5.out; omega
                   case rel => exact ⟨(x13_5), (wrap64 (x83_5 + 1)), sq_, sq_, H', ⟨by have := HK1.out; have := HJ11.out; have := HK3.out; have := HK4.out; have := HK5.out; omega⟩, ⟨by (try simp only [hl7_3]); (try simp only [hl7_4]); (with_reducible repeat (first | apply Kd.R_alloc | apply Kd.R_drewN | apply Kd.R_drew)); exact HO_7.out⟩, ⟨by (try simp only [hl7_3]); (try simp only [hl7_4]); (with_reducible repeat (first | apply Kd.R_alloc | apply Kd.R_drewN | apply Kd.R_drew)); exact HO_12.out⟩, ⟨bw_ HB.out⟩⟩
               ·rw [if_neg c29] at H
                have c29b0 : decide (x83_5 < (x7_4.length : Int)) = false := decide_eq_false c29
                (try rw [hl7_3] at c29b0)
                (try rw [hl7_4] at c29b0)
                clear c29
                obtain ⟨c48, H⟩ := ifn_ H
                have c48b0 : decide (0 ≤ x13_5) = true := decide_eq_true c48
                clear c48
                obtain ⟨c49, H⟩ := ifn_ H
                have c49b0 : decide (x13_5 < (x12_4.length : Int)) = true := decide_eq_true c49
                (try rw [hl7_3] at c49b0)
                (try rw [hl7_4] at c49b0)
                clear c49
                obtain ⟨y139, hy139⟩ : ∃ y_ : List Bool, y_ = (x12_4.set (x13_5 : Int).toNat true) := ⟨_, rfl⟩
                replace H : (if x13_5 < (x7_4.length : Int) then (spec_l18Share.l2 k5 x0_1 l2 (x7_4.set (x13_5 : Int).toNat (wrap64 ((rd x7_4 x13_5) + 1))) x8_1 (wrap64 (x10_4 - 1)) y139) else (none)) = some r := by first | (rw [hy139]; with_reducible exact H) | (have H2_ := (Option.bind_some _ _).symm.trans H; rw [hy139]; with_reducible exact H2_) | (have H2_ := (Option.bind_some _ _).symm.trans H; with_reducible exact H2_) | with_reducible exact H | (rw [hy139]; exact H) | exact H
                have Ny139 := am_ hy139
                clear hy139
                obtain ⟨c51, H⟩ := ifn_ H
                have c51b0 : decide (x13_5 < (x7_4.length : Int)) = true := decide_eq_true c51
                (try rw [hl7_3] at c51b0)
                (try rw [hl7_4] at c51b0)
                clear c51
                obtain ⟨y141, hy141⟩ : ∃ y_ : List Int, y_ = (x7_4.set (x13_5 : Int).toNat (wrap64 ((rd x7_4 x13_5) + 1))) := ⟨_, rfl⟩
                replace H : (spec_l18Share.l2 k5 x0_1 l2 y141 x8_1 (wrap64 (x10_4 - 1)) y139) = some r := by first | (rw [hy141]; with_reducible exact H) | (have H2_ := (Option.bind_some _ _).symm.trans H; rw [hy141]; with_reducible exact H2_) | (have H2_ := (Option.bind_some _ _).symm.trans H; with_reducible exact H2_) | with_reducible exact H | (rw [hy141]; exact H) | exact H
                have Ny141 := am_ hy141
                clear hy141
                have H' := am_ H
                clear H
                have p50 : 0 ≤ (x13_5 : Int) := od_
                have q50 : (x13_5 : Int) < ((x12_4.length : Int) : Int) := od_
                obtain ⟨go50, co50, eo50, gb50, gl50, cl50, HG50⟩ := Kd.R_form HO_12.out (by omega)
                (first | cases eo50 | (injection eo50 with ea_ en_ ec_; (first | subst ea_ | (injection ea_ with ea_; subst ea_)); subst ec_; clear en_))
                have GB50 := am_ gb50
                have GG50 := am_ HG50
                clear gb50 gl50 HG50
                obtain ⟨hx50_0, hf50_0⟩ := Kd.R_celln false HO_12.out (x13_5 : Int) p50 q50
                replace p50 := eq_true p50
                replace q50 := eq_true q50
                have HP53 := Kd.R_putg HO_12.out (x13_5 : Int) true
                go_wp2_with (first | ((with_reducible refine gate_store (t := 4) (p := 118) rfl ?_); refine se_ 4 118 (wr.setCell ⟨go50, (x13_5 : Int).toNat, none⟩ (.bool true)) ?_; intro w54 hw; have hg : wr.grownBy w54 (some go50) := (by rw [hw]; exact HP53.2); have hp_ : Kd.R Kd.bool 4 w54 w.heap.size (fun _ => True) (.slice (some ⟨go50, 0, none⟩) x12_4.length co50) y139 := (by rw [hw, Ny139.out]; exact HP53.1); clear HP53; have n0_ := am_ (Kd.R_over' (v := (.slice (some ⟨go50, 0, none⟩) x12_4.length co50)) (ra_ HO_7.out) (Kd.R_typed HO_12.out) (by decide) hg); have n1_ := am_ (hp_); have n2_ := am_ ((by rw [hw]; exact below_set (HB.out) GB50.out : Below w.heap.size w w54)); replace HO_7 := n0_; replace HO_12 := n1_; replace HB := n2_; clear n0_ n1_ n2_; clear hg hw hp_; have p140 : 0 ≤ (x13_5 : Int) := od_; have q140 : x13_5 < (x7_4.length : Int) := od_; obtain ⟨ad140, e140, hx140_0⟩ := Kd.at_int (Kd.R_reads' HO_7.out).2.2 x13_5 p140 q140; cases e140; replace p140 := eq_true p140; replace q140 := eq_true q140; have p52 : 0 ≤ (x13_5 : Int) := od_; have q52 : (x13_5 : Int) < ((x7_4.length : Int) : Int) := od_; obtain ⟨go52, co52, eo52, gb52, gl52, cl52, HG52⟩ := Kd.R_form HO_7.out (by omega); (first | cases eo52 | (injection eo52 with ea_ en_ ec_; (first | subst ea_ | (injection ea_ with ea_; subst ea_)); subst ec_; clear en_)); have GB52 := am_ gb52; have GG52 := am_ HG52; clear gb52 gl52 HG52; (first | simp only [add_plain] at hx140_0 | skip); obtain ⟨hx52_0, hf52_0⟩ := Kd.R_celln 0 HO_7.out (x13_5 : Int) p52 q52; replace p52 := eq_true p52; replace q52 := eq_true q52; obtain ⟨hy55_, hz55_⟩ := Kd.R_celln 0 HO_7.out (x13_5 : Int) od_ od_; have HP55 := Kd.R_putg HO_7.out (x13_5 : Int) (wrap64 ((rd x7_4 x13_5) + 1))) | ((with_reducible refine gate_store (t := 3) (p := 124) rfl ?_); refine se_ 3 124 (w54.setCell ⟨go52, (x13_5 : Int).toNat, none⟩ (.int .i64 (wrap64 ((rd x7_4 x13_5) + 1)))) ?_; intro w56 hw; have hg : w54.grownBy w56 (some go52) := (by rw [hw]; exact HP55.2); have hp_ : Kd.R (Kd.int .i64) 3 w56 w.heap.size (fun _ => True) (.slice (some ⟨go52, 0, none⟩) x7_4.length co15) y141 := (by rw [hw, Ny141.out]; exact HP55.1); clear HP55; have n0_ := am_ (hp_); have n1_ := am_ (Kd.R_over' (v := (.slice (some ⟨go52, 0, none⟩) x7_4.length co15)) (ra_ HO_12.out) (Kd.R_typed HO_7.out) (by decide) hg); have n2_ := am_ ((by rw [hw]; exact below_set (HB.out) GB52.out : Below w.heap.size w w56)); replace HO_7 := n0_; replace HO_12 := n1_; replace HB := n2_; clear n0_ n1_ n2_; clear hg hw hp_))
                (try simp only [← hl7_4])
                go_roundg k5
                case measure => have := HK1.out; have := HJ11.out; have := HK3.out; have := HK4.out; have := HK5.out; omega
                case rel => exact ⟨(y141), (wrap64 (x10_4 - 1)), (y139), sq_, H', ⟨by have := HK1.out; have := HJ11.out; have := HK3.out; have := HK4.out; have := HK5.out; omega⟩, ⟨by (try simp only [hl7_3]); (try simp only [hl7_4]); (with_reducible repeat (first | apply Kd.R_alloc | apply Kd.R_drewN | apply Kd.R_drew)); exact HO_7.out⟩, ⟨by (try simp only [hl7_3]); (try simp only [hl7_4]); (with_reducible repeat (first | apply Kd.R_alloc | apply Kd.R_drewN | apply Kd.R_drew)); exact HO_12.out⟩, ⟨bw_ HB.out⟩⟩
            ·rw [if_neg c28] at H
             have c28b0 : decide (0 < x10_4) = false := decide_eq_false c28
             clear c28
             obtain rfl := Option.some.inj H
             go_wp2
             go_ret
             exact ⟨_, by first | rfl | (simp [errW_none, errW_some] <;> rfl) | (simp [*, errW_none, errW_some] <;> rfl), ra_ HO_7.out, bw_ HB.out⟩
end Go.Proofs.Ytgfppioaggeleaa.XFnExactLayOut
