/- What the Go functions that this law comes to compute, each walked; written by a program of this session. -/
import Derived.Test.YtfgdfnnddoncjaaXShort
import Derived.Test.YtfgdfnnddoncjaaXMark
import Derived.Test.YtfgdfnnddoncjaaXFnExactMeantByx0
import Derived.Test.YtfgdfnnddoncjaaXFnExactMeantByx4
import Derived.Test.YtfgdfnnddoncjaaXFnExactMeantByx5
import Derived.Test.YtfgdfnnddoncjaaXFnExactMeantByx6
namespace Go.Proofs.Ytfgdfnnddoncjaa.XFnExactMeantBy
open Go.RowKit Go.Proofs.YtfgdfnnddoncjaaW.PrintWords Go.Proofs.YtfgdfnnddoncjaaW.PrintLast Go.Proofs.YtfgdfnnddoncjaaW.PrintMore
attribute [local go_sem] str_geq max2_int min2_int max_two min_two max_three min_three max_four min_four   -- for this text's walks alone
set_option linter.unusedVariables false
set_option linter.unusedSimpArgs false

/-! ### spec_MeantBy: function 16 -/
mutual
def spec_MeantBy.j0 : Nat → List (S53) → List (S65) → Bool → Option ((List (S69)) × Bool)
 | 0, _, _, _ => none
 | k + 1, x0, x1, x21 => if x21 = true then (some (([] : List (S69)), false)) else (if 0 ≤ (x0.length : Int) then (if ((x0.length : Int) : Int).toNat ≤ 281474976710656 then (spec_MeantBy.l0 k x0 ([] : List (S69)) ([] : List Int) (List.replicate ((x0.length : Int) : Int).toNat false) x1 (x1.length : Int) 0) else (none)) else (none))
def spec_MeantBy.l0 : Nat → List (S53) → List (S69) → List Int → List Bool → List (S65) → Int → Int → Option ((List (S69)) × Bool)
 | 0, _, _, _, _, _, _, _ => none
 | k + 1, x0, x6, x7, x8, x25, x26, x27 => if x27 < x26 then (if 0 ≤ x27 then (if x27 < (x25.length : Int) then ((spec_l17Press.f k x7 ((rd_T65 x25 x27).f0) ((rd_T65 x25 x27).f1) ((rd_T65 x25 x27).f2)).bind fun t228 => ((spec_l17Holds.f k x0 t228).bind fun t231 => (spec_MeantBy.l1 k x0 x6 t228 x8 t231 x25 x26 x27 x0 (x0.length : Int) 0 ((rd_T65 x25 x27).f0) ((rd_T65 x25 x27).f1) ((rd_T65 x25 x27).f2)))) else (none)) else (none)) else (some (x6, true))
def spec_MeantBy.l1 : Nat → List (S53) → List (S69) → List Int → List Bool → List Bool → List (S65) → Int → Int → List (S53) → Int → Int → Int → Int → Bool → Option ((List (S69)) × Bool)
 | 0, _, _, _, _, _, _, _, _, _, _, _, _, _, _ => none
 | k + 1, x0, x6, x7, x8, x11, x25, x26, x27, x37, x38, x39, x228000, x228001, x228002 => if x39 < x38 then (if 0 ≤ x39 then (if x39 < (x37.length : Int) then (if x39 < (x11.length : Int) then (if x39 < (x8.length : Int) then (if ((rdOf false x11 x39) != (rdOf false x8 x39)) = true then (if x6.length < 4398046511104 then (spec_MeantBy.l1 k x0 (x6 ++ [(⟨x228000, (rd_T53 x37 x39).f0, rdOf false x11 x39⟩ : S69)]) x7 x8 x11 x25 x26 x27 x37 x38 (wrap64 (x39 + 1)) x228000 x228001 x228002) else (none)) else (spec_MeantBy.l1 k x0 x6 x7 x8 x11 x25 x26 x27 x37 x38 (wrap64 (x39 + 1)) x228000 x228001 x228002)) else (none)) else (none)) else (none)) else (none)) else (spec_MeantBy.l0 k x0 x6 x7 x11 x25 x26 (wrap64 (x27 + 1)))
end
def spec_MeantBy.f (k : Nat) (l0 : List (S53)) (l1 : List (S65)) : Option ((List (S69)) × Bool) := (spec_GoodBinds.f k l0).bind fun t221 => (if t221 = true then ((spec_l17Events.f k l1).bind fun t222 => (spec_MeantBy.j0 k l0 l1 (!t222))) else (spec_MeantBy.j0 k l0 l1 true))
theorem spec_MeantBy.mono_l : ∀ k, (∀ y0 y1 y2, LeO (spec_MeantBy.j0 k y0 y1 y2) (spec_MeantBy.j0 (k + 1) y0 y1 y2)) ∧ (∀ y0 y1 y2 y3 y4 y5 y6, LeO (spec_MeantBy.l0 k y0 y1 y2 y3 y4 y5 y6) (spec_MeantBy.l0 (k + 1) y0 y1 y2 y3 y4 y5 y6)) ∧ (∀ y0 y1 y2 y3 y4 y5 y6 y7 y8 y9 y10 y11 y12 y13, LeO (spec_MeantBy.l1 k y0 y1 y2 y3 y4 y5 y6 y7 y8 y9 y10 y11 y12 y13) (spec_MeantBy.l1 (k + 1) y0 y1 y2 y3 y4 y5 y6 y7 y8 y9 y10 y11 y12 y13))
 | 0 => ⟨fun _ _ _ r h => by simp [spec_MeantBy.j0] at h, fun _ _ _ _ _ _ _ r h => by simp [spec_MeantBy.l0] at h, fun _ _ _ _ _ _ _ _ _ _ _ _ _ _ r h => by simp [spec_MeantBy.l1] at h⟩
 | k + 1 => by
  obtain ⟨ih0, ih1, ih2⟩ := spec_MeantBy.mono_l k
  refine ⟨?_, ?_, ?_⟩
  ·intro y0 y1 y2
   unfold spec_MeantBy.j0
   repeat' first
   | (with_reducible exact ih0 _ _ _)
   | (with_reducible exact ih1 _ _ _ _ _ _ _)
   | (with_reducible exact ih2 _ _ _ _ _ _ _ _ _ _ _ _ _ _)
   | (with_reducible exact spec_GoodBinds.mono _ _)
   | (with_reducible exact spec_l17Events.mono _ _)
   | (with_reducible exact spec_l17Holds.mono _ _ _)
   | (with_reducible exact spec_l17Press.mono _ _ _ _ _)
   | (with_reducible exact LeO.refl _)
   | (with_reducible exact LeO.none _)
   | (with_reducible refine LeO.ite ?_ ?_)
   | (with_reducible refine LeO.bind ?_ (fun _ => ?_))
   | exact ih0 _ _ _
   | exact ih1 _ _ _ _ _ _ _
   | exact ih2 _ _ _ _ _ _ _ _ _ _ _ _ _ _
   | exact spec_GoodBinds.mono _ _
   | exact spec_l17Events.mono _ _
   | exact spec_l17Holds.mono _ _ _
   | exact spec_l17Press.mono _ _ _ _ _
   | exact LeO.none _
   | refine LeO.ite ?_ ?_
   | refine LeO.bind ?_ (fun _ => ?_)
  ·intro y0 y1 y2 y3 y4 y5 y6
   unfold spec_MeantBy.l0
   repeat' first
   | (with_reducible exact ih0 _ _ _)
   | (with_reducible exact ih1 _ _ _ _ _ _ _)
   | (with_reducible exact ih2 _ _ _ _ _ _ _ _ _ _ _ _ _ _)
   | (with_reducible exact spec_GoodBinds.mono _ _)
   | (with_reducible exact spec_l17Events.mono _ _)
   | (with_reducible exact spec_l17Holds.mono _ _ _)
   | (with_reducible exact spec_l17Press.mono _ _ _ _ _)
   | (with_reducible exact LeO.refl _)
   | (with_reducible exact LeO.none _)
   | (with_reducible refine LeO.ite ?_ ?_)
   | (with_reducible refine LeO.bind ?_ (fun _ => ?_))
   | exact ih0 _ _ _
   | exact ih1 _ _ _ _ _ _ _
   | exact ih2 _ _ _ _ _ _ _ _ _ _ _ _ _ _
   | exact spec_GoodBinds.mono _ _
   | exact spec_l17Events.mono _ _
   | exact spec_l17Holds.mono _ _ _
   | exact spec_l17Press.mono _ _ _ _ _
   | exact LeO.none _
   | refine LeO.ite ?_ ?_
   | refine LeO.bind ?_ (fun _ => ?_)
  ·intro y0 y1 y2 y3 y4 y5 y6 y7 y8 y9 y10 y11 y12 y13
   unfold spec_MeantBy.l1
   repeat' first
   | (with_reducible exact ih0 _ _ _)
   | (with_reducible exact ih1 _ _ _ _ _ _ _)
   | (with_reducible exact ih2 _ _ _ _ _ _ _ _ _ _ _ _ _ _)
   | (with_reducible exact spec_GoodBinds.mono _ _)
   | (with_reducible exact spec_l17Events.mono _ _)
   | (with_reducible exact spec_l17Holds.mono _ _ _)
   | (with_reducible exact spec_l17Press.mono _ _ _ _ _)
   | (with_reducible exact LeO.refl _)
   | (with_reducible exact LeO.none _)
   | (with_reducible refine LeO.ite ?_ ?_)
   | (with_reducible refine LeO.bind ?_ (fun _ => ?_))
   | exact ih0 _ _ _
   | exact ih1 _ _ _ _ _ _ _
   | exact ih2 _ _ _ _ _ _ _ _ _ _ _ _ _ _
   | exact spec_GoodBinds.mono _ _
   | exact spec_l17Events.mono _ _
   | exact spec_l17Holds.mono _ _ _
   | exact spec_l17Press.mono _ _ _ _ _
   | exact LeO.none _
   | refine LeO.ite ?_ ?_
   | refine LeO.bind ?_ (fun _ => ?_)
theorem spec_MeantBy.mono : ∀ a0 a1 k, LeO (spec_MeantBy.f k a0 a1) (spec_MeantBy.f (k + 1) a0 a1) := by
 intro a0 a1 k
 obtain ⟨ih0, ih1, ih2⟩ := spec_MeantBy.mono_l k
 unfold spec_MeantBy.f
 repeat' first
   | (with_reducible exact ih0 _ _ _)
   | (with_reducible exact ih1 _ _ _ _ _ _ _)
   | (with_reducible exact ih2 _ _ _ _ _ _ _ _ _ _ _ _ _ _)
   | (with_reducible exact spec_GoodBinds.mono _ _)
   | (with_reducible exact spec_l17Events.mono _ _)
   | (with_reducible exact spec_l17Holds.mono _ _ _)
   | (with_reducible exact spec_l17Press.mono _ _ _ _ _)
   | (with_reducible exact LeO.refl _)
   | (with_reducible exact LeO.none _)
   | (with_reducible refine LeO.ite ?_ ?_)
   | (with_reducible refine LeO.bind ?_ (fun _ => ?_))
   | exact ih0 _ _ _
   | exact ih1 _ _ _ _ _ _ _
   | exact ih2 _ _ _ _ _ _ _ _ _ _ _ _ _ _
   | exact spec_GoodBinds.mono _ _
   | exact spec_l17Events.mono _ _
   | exact spec_l17Holds.mono _ _ _
   | exact spec_l17Press.mono _ _ _ _ _
   | exact LeO.none _
   | refine LeO.ite ?_ ?_
   | refine LeO.bind ?_ (fun _ => ?_)
def spec_MeantBy.T14 : Bool × List (List Nat × List Nat) := (true, [([], []), ([], []), ([0, 1], [0, 1]), ([2], [2]), ([], []), ([], []), ([4, 5], [4, 5]), ([6], [6]), ([3, 7], [3, 7])])
def spec_MeantBy.B14 : List Nat := [0, 0, 3, 7, 0, 0, 48, 112, 255]
theorem spec_MeantBy.tab14 : rtab .any (opsOf Try.f16 14) = spec_MeantBy.T14 := by kernel_rfl
theorem spec_MeantBy.bits14 : waitsOk spec_MeantBy.T14.2 spec_MeantBy.B14 = true := by kernel_rfl
def spec_MeantBy.T15 : Bool × List (List Nat × List Nat) := (true, [([], []), ([], []), ([1], [1]), ([], []), ([3], [3]), ([], []), ([], []), ([5, 6], [5, 6]), ([7], [7]), ([2, 4, 8], [2, 4, 8]), ([9], [9]), ([0, 10], [0, 10]), ([11, 11, 0, 1, 2, 3, 4, 5, 6, 7, 8, 9, 10, 11], [0, 11])])
def spec_MeantBy.B15 : List Nat := [0, 0, 2, 0, 8, 0, 0, 96, 224, 510, 1022, 2047, 4095]
theorem spec_MeantBy.tab15 : rtab .any (opsOf Try.f16 15) = spec_MeantBy.T15 := by kernel_rfl
theorem spec_MeantBy.bits15 : waitsOk spec_MeantBy.T15.2 spec_MeantBy.B15 = true := by kernel_rfl
set_option maxHeartbeats 8000000 in
set_option maxRecDepth 100000 in
theorem spec_MeantBy.calls (k : Nat) (A0 : Option Addr) (c0 : Nat) (l0 : List (S53)) (A1 : Option Addr) (c1 : Nat) (l1 : List (S65)) (r1 : List (S69)) (r2 : Bool) (w : World) (hr0 : Kd.C k53 w A0 l0.length l0) (hc0 : l0.length ≤ c0) (hr1 : Kd.C k65 w A1 l1.length l1) (hc1 : l1.length ≤ c1) (h : spec_MeantBy.f k l0 l1 = some (r1, r2)) :
  Calls Try.prog 16 #[.slice A0 l0.length c0, .slice A1 l1.length c1] w fun e w' => ∃ v0_ : Value, e = .returned (.tuple #[v0_, .bool r2]) ∧ Kd.R k69 69 w' w.heap.size (fun _ => True) v0_ r1 ∧ Below w.heap.size w w' := by
 have hu65 := Try.underlying65
 have hu53 := Try.underlying53
 have hu69 := Try.underlying69
 have HR0 := am_ hr0
 have HC0 := am_ hc0
 clear hr0 hc0
 have HR1 := am_ hr1
 have HC1 := am_ hc1
 clear hr1 hc1
 have HB := am_ (Below.refl w.heap.size w)
 have H : ((spec_GoodBinds.f k l0).bind fun t221 => (if t221 = true then ((spec_l17Events.f k l1).bind fun t222 => (spec_MeantBy.j0 k l0 l1 (!t222))) else (spec_MeantBy.j0 k l0 l1 true))) = some (r1, r2) := h
 clear h
 have HC3 := am_ H
 clear H
 go_enter Try.func16, Try.ntmps16
 go_upto_region 1 with (fail)
 go_cut [21] (fun v21 wc => ∃ (kq : Nat) (x21_2 : Bool), v21 = .bool x21_2 ∧ Aside0 (spec_MeantBy.j0 kq l0 l1 x21_2 = some (r1, r2)) ∧ Aside0 (kq ≤ k) ∧ Aside0 (Below w.heap.size w wc))
 case first =>
  have H := HC3.out
  clear HC3
  obtain ⟨t221, A40, H⟩ := bE_ H
  have A4 := am_ A40
  clear A40
  by_cases c5 : t221 = true
  ·subst c5
   replace H := it_ H rfl
   obtain ⟨t222, A60, H⟩ := bE_ H
   have A6 := am_ A60
   clear A60
   have H' := am_ H
   clear H
   go_wp2_with (first | ((with_reducible refine gate_callee (f := 25) rfl ?_); refine goesL_ (some 15) rfl rfl Try.func25 (by kernel_rfl) rfl #[.slice A0 l0.length c0] rfl (by (try simp only [List.map_toArray, List.map_cons, List.map_nil]); first | done | rfl | (simp only [List.length_drop, List.length_take]; rfl)) ?_; (with_reducible refine (spec_GoodBinds.calls k _ _ l0 true _ ?side1 ?side2 A4.out).mono ?_); (case side1 => repeat (first | exact (Kd.C_below HR0.out HB.out) | (with_reducible refine Kd.C_alloc ?_ _) | (with_reducible refine Kd.C_drewN ?_ _) | (with_reducible refine Kd.C_drew ?_))); (case side2 => exact HC0.out); rintro e w7 ⟨rfl, hb⟩; refine ⟨_, rfl, ?_⟩; have n0_ := am_ (below_step (bw_ HB.out) hb); replace HB := n0_; clear n0_; (try clear hb); (try clear hb2); (try clear hk); (try clear hi)) | (go_at_call 42; (with_reducible refine (spec_l17Events.calls k _ _ l1 t222 _ ?side1 ?side2 A6.out).mono ?_); (case side1 => repeat (first | exact (Kd.C_below HR1.out HB.out) | (with_reducible refine Kd.C_alloc ?_ _) | (with_reducible refine Kd.C_drewN ?_ _) | (with_reducible refine Kd.C_drew ?_))); (case side2 => exact HC1.out); rintro e w8 ⟨rfl, hb⟩; have n0_ := am_ (below_step (bw_ HB.out) hb); replace HB := n0_; clear n0_; (try clear hb); (try clear hb2); (try clear hk); (try clear hi)))
   go_meet
   case rel => exact ⟨_, (!t222), sq_, H', ⟨by first | omega | exact Nat.le_refl _⟩, ⟨bw_ HB.out⟩⟩
  ·replace c5 := Bool.eq_false_iff.mpr c5
   subst c5
   replace H := if_ H Bool.false_ne_true
   have H' := am_ H
   clear H
   go_wp2_with (first | ((with_reducible refine gate_callee (f := 25) rfl ?_); refine goesL_ (some 15) rfl rfl Try.func25 (by kernel_rfl) rfl #[.slice A0 l0.length c0] rfl (by (try simp only [List.map_toArray, List.map_cons, List.map_nil]); first | done | rfl | (simp only [List.length_drop, List.length_take]; rfl)) ?_; (with_reducible refine (spec_GoodBinds.calls k _ _ l0 false _ ?side1 ?side2 A4.out).mono ?_); (case side1 => repeat (first | exact (Kd.C_below HR0.out HB.out) | (with_reducible refine Kd.C_alloc ?_ _) | (with_reducible refine Kd.C_drewN ?_ _) | (with_reducible refine Kd.C_drew ?_))); (case side2 => exact HC0.out); rintro e w9 ⟨rfl, hb⟩; refine ⟨_, rfl, ?_⟩; have n0_ := am_ (below_step (bw_ HB.out) hb); replace HB := n0_; clear n0_; (try clear hb); (try clear hb2); (try clear hk); (try clear hi)))
   go_meet
   case rel => exact ⟨_, (true), sq_, H', ⟨by first | omega | exact Nat.le_refl _⟩, ⟨bw_ HB.out⟩⟩
 case rest =>
  clear HC3
  try clear c1
  obtain ⟨kq, x21_2, rfl, HA, HJ2, HB⟩ := hcut
  cases kq with
  | zero => exact absurd HA.out (by simp [spec_MeantBy.j0])
  | succ kj2 =>
   have H := HA.out
   clear HA
   simp only [spec_MeantBy.j0] at H
   by_cases c10 : x21_2 = true
   ·subst c10
    replace H := it_ H rfl
    simp only [Option.some.injEq, Prod.mk.injEq] at H
    obtain ⟨rfl, rfl⟩ := H
    go_wp2
    go_ret2
    exact ⟨_, by first | rfl | (simp [errW_none, errW_some] <;> rfl) | (simp [*, errW_none, errW_some] <;> rfl), by first | exact Kd.R_nil _ _ _ _ _ | exact Kd.N_nil _ _ _ _ _ | exact Kd.V_nil _ _ _ _ _ | exact Kd.Q_nil _ _ _ _ _ | exact Kd.S_nil _ _ _ _ _, bw_ HB.out⟩
   ·replace c10 := Bool.eq_false_iff.mpr c10
    subst c10
    replace H := if_ H Bool.false_ne_true
    obtain ⟨c11, H⟩ := ifn_ H
    have c11b0 := eq_true c11
    have c11b1 : decide (0 ≤ (l0.length : Int)) = true := decide_eq_true c11
    clear c11
    obtain ⟨c12, H⟩ := ifn_ H
    have c12b0 := eq_true c12
    have c12b1 : decide (((l0.length : Int) : Int).toNat ≤ 281474976710656) = true := decide_eq_true c12
    clear c12
    obtain ⟨y223, hy223⟩ : ∃ y_ : List Bool, y_ = (List.replicate ((l0.length : Int) : Int).toNat false) := ⟨_, rfl⟩
    replace H : (spec_MeantBy.l0 kj2 l0 ([] : List (S69)) ([] : List Int) y223 l1 (l1.length : Int) 0) = some (r1, r2) := by first | (rw [hy223]; with_reducible exact H) | (have H2_ := (Option.bind_some _ _).symm.trans H; rw [hy223]; with_reducible exact H2_) | (have H2_ := (Option.bind_some _ _).symm.trans H; with_reducible exact H2_) | with_reducible exact H | (rw [hy223]; exact H) | exact H
    have Ny223 := am_ hy223
    clear hy223
    have H' := am_ H
    clear H
    go_wp2_with (first | ((with_reducible refine gate_dst (N := 24) rfl ?_); refine Kd.R_make Kd.bool _ 4 rfl (N := 24) rfl 63 _ _ rfl (l0.length : Int) rfl rfl Try.underlying63 (.bool false) 1 info4 rfl (by decide) (by omega) false (ok := fun _ => True) (okp := fun _ => True) rfl (fun _ hk => hk) trivial od_ (Nat.le_trans (Nat.mul_le_mul_right _ (od_ : (l0.length : Int).toNat ≤ 281474976710656)) (by omega)) (Below.refl _ _) (Nat.le_refl _) ?_; intro v224 w13 ho14 hb hg_ hnew_; clear hg_ hnew_; (first | rw [← Ny223.out] at ho14 | (simp only [Int.reduceToNat] at ho14; rw [← Ny223.out] at ho14)); have n0_ := am_ (Kd.R_lower ho14 (below_size (bw_ HB.out))); have n1_ := am_ (below_step (bw_ HB.out) hb); have HO225 := n0_; replace HB := n1_; clear n0_ n1_; clear hb ho14))
    go_loopg [6, 7, 8, 27] kj2 (fun kq v6 v7 v8 v27 w' => ∃ (x6_2 : List (S69)) (x7_2 : List Int) (x8_2 : List Bool) (x27_2 : Int), v27 = .int .i64 x27_2 ∧ Aside0 (spec_MeantBy.l0 kq l0 x6_2 x7_2 x8_2 l1 (l1.length : Int) x27_2 = some (r1, r2)) ∧ Aside0 (kq ≤ kj2) ∧ Aside0 (Kd.R k69 69 w' w.heap.size (fun _ => True) v6 x6_2) ∧ Aside0 (Kd.R (Kd.int .i64) 3 w' w.heap.size (fun _ => True) v7 x7_2) ∧ Aside0 (Kd.R Kd.bool 4 w' w.heap.size (fun _ => True) v8 x8_2) ∧ Aside0 (Below w.heap.size w w'))
    case atStart => exact ⟨(([] : List (S69))), (([] : List Int)), (y223), (0), sq_, H', ⟨Nat.le_refl _⟩, ⟨by first | exact Kd.R_nil _ _ _ _ _ | exact Kd.N_nil _ _ _ _ _ | exact Kd.V_nil _ _ _ _ _ | exact Kd.Q_nil _ _ _ _ _ | exact Kd.S_nil _ _ _ _ _⟩, ⟨by first | exact Kd.R_nil _ _ _ _ _ | exact Kd.N_nil _ _ _ _ _ | exact Kd.V_nil _ _ _ _ _ | exact Kd.Q_nil _ _ _ _ _ | exact Kd.S_nil _ _ _ _ _⟩, ⟨ra_ HO225.out⟩, ⟨bw_ HB.out⟩⟩
    case round =>
     clear H'
     try clear c1
     try clear c10
     try clear c11
     try clear c11b0
     try clear c11b1
     try clear c12
     try clear c12b0
     try clear c12b1
     obtain ⟨x6_2, x7_2, x8_2, x27_2, rfl, HA, HK2, HO_6, HO_7, HO_8, HB⟩ := hrel
     cases gk with
     | zero => exact absurd HA.out (by simp [spec_MeantBy.l0])
     | succ k2 =>
      have H := HA.out
      clear HA
      simp only [spec_MeantBy.l0] at H
      by_cases c15 : x27_2 < (l1.length : Int)
      ·rw [if_pos c15] at H
       have c15b0 : decide (x27_2 < (l1.length : Int)) = true := decide_eq_true c15
       clear c15
       obtain ⟨c16, H⟩ := ifn_ H
       have c16b0 : decide (0 ≤ x27_2) = true := decide_eq_true c16
       clear c16
       obtain ⟨c17, H⟩ := ifn_ H
       have c17b0 : decide (x27_2 < (l1.length : Int)) = true := decide_eq_true c17
       clear c17
       obtain ⟨t228, A180, H⟩ := bE_ H
       have A18 := am_ A180
       clear A180
       obtain ⟨t231, A190, H⟩ := bE_ H
       have A19 := am_ A190
       clear A190
       have H' := am_ H
       clear H
       have p226 : 0 ≤ (x27_2 : Int) := od_
       have q226 : x27_2 < (l1.length : Int) := od_
       obtain ⟨ad226, e226, hx226_0, hx226_1, hx226_2⟩ := at_T65 HR1.out x27_2 p226 q226
       cases e226
       (try replace hx226_0 := hc_ HB.out hx226_0)
       (try replace hx226_1 := hc_ HB.out hx226_1)
       (try replace hx226_2 := hc_ HB.out hx226_2)
       replace p226 := eq_true p226
       replace q226 := eq_true q226
       go_wp2_with (first | ((with_reducible refine gate_dst (N := 10) rfl ?_); refine bx_ 10 #[.int .i64 0, .int .i64 0, .bool false] 65 ?_; intro gb227 hg w20 hbox hb; have n0_ := am_ (Kd.R_below (ra_ HO_6.out) hb); have n1_ := am_ (Kd.R_below (ra_ HO_7.out) hb); have n2_ := am_ (Kd.R_below (ra_ HO_8.out) hb); have n3_ := am_ (below_step (bw_ HB.out) hb); have n4_ := am_ (hbox); have n5_ := am_ (gs_ hg (bw_ HB.out)); have n6_ := am_ (gs_ hg (bw_ HB.out)); replace HO_6 := n0_; replace HO_7 := n1_; replace HO_8 := n2_; replace HB := n3_; have BK227 := n4_; have GW227 := n5_; have GE227 := n6_; clear n0_ n1_ n2_ n3_ n4_ n5_ n6_; clear hb hbox hg; have hcz21_0 := cz_ BK227.out 0; have hcz21_1 := cz_ BK227.out 1; have hcz21_2 := cz_ BK227.out 2; have hfz21_0 := blk_frozen BK227.out 0; have hfz21_1 := blk_frozen BK227.out 1; have hfz21_2 := blk_frozen BK227.out 2) | ((with_reducible refine gate_store (t := 65) (p := 10) rfl ?_); refine se_ 65 10 (((w20.setCell ⟨gb227, 0, none⟩ (.int .i64 ((rd_T65 l1 x27_2).f0))).setCell ⟨gb227, 1, none⟩ (.int .i64 ((rd_T65 l1 x27_2).f1))).setCell ⟨gb227, 2, none⟩ (.bool ((rd_T65 l1 x27_2).f2))) ?_; intro w22 hw; have n0_ : Aside0 (Kd.R k69 69 w22 w.heap.size (fun _ => True) u6 x6_2) := ⟨(by rw [hw]; exact (ra_ (Kd.R_mono (Kd.R_far (p := ⟨gb227, 2, none⟩) (Kd.R_far (p := ⟨gb227, 1, none⟩) (Kd.R_far (p := ⟨gb227, 0, none⟩) (Kd.R_types HO_6.out BK227.out (by decide)) (fun _ hk => hk.2) (.int .i64 ((rd_T65 l1 x27_2).f0))) (fun _ hk => hk.2) (.int .i64 ((rd_T65 l1 x27_2).f1))) (fun _ hk => hk.2) (.bool ((rd_T65 l1 x27_2).f2))) (fun _ hk => trivial))))⟩; have n1_ : Aside0 (Kd.R (Kd.int .i64) 3 w22 w.heap.size (fun _ => True) u7 x7_2) := ⟨(by rw [hw]; exact (ra_ (Kd.R_mono (Kd.R_far (p := ⟨gb227, 2, none⟩) (Kd.R_far (p := ⟨gb227, 1, none⟩) (Kd.R_far (p := ⟨gb227, 0, none⟩) (Kd.R_types HO_7.out BK227.out (by decide)) (fun _ hk => hk.2) (.int .i64 ((rd_T65 l1 x27_2).f0))) (fun _ hk => hk.2) (.int .i64 ((rd_T65 l1 x27_2).f1))) (fun _ hk => hk.2) (.bool ((rd_T65 l1 x27_2).f2))) (fun _ hk => trivial))))⟩; have n2_ : Aside0 (Kd.R Kd.bool 4 w22 w.heap.size (fun _ => True) u8 x8_2) := ⟨(by rw [hw]; exact (ra_ (Kd.R_mono (Kd.R_far (p := ⟨gb227, 2, none⟩) (Kd.R_far (p := ⟨gb227, 1, none⟩) (Kd.R_far (p := ⟨gb227, 0, none⟩) (Kd.R_types HO_8.out BK227.out (by decide)) (fun _ hk => hk.2) (.int .i64 ((rd_T65 l1 x27_2).f0))) (fun _ hk => hk.2) (.int .i64 ((rd_T65 l1 x27_2).f1))) (fun _ hk => hk.2) (.bool ((rd_T65 l1 x27_2).f2))) (fun _ hk => trivial))))⟩; have n3_ : Aside0 (w22.heap[gb227]? = some (.cells #[.int .i64 ((rd_T65 l1 x27_2).f0), .int .i64 ((rd_T65 l1 x27_2).f1), .bool ((rd_T65 l1 x27_2).f2)] 65 (0, 0))) := ⟨(by rw [hw]; exact (by (with_reducible repeat (first | refine blk_drewN ?_ _ | refine blk_drew ?_ | refine blk_alloc ?_ _)); refine blk_put (cs := #[.int .i64 ((rd_T65 l1 x27_2).f0), .int .i64 ((rd_T65 l1 x27_2).f1), .bool false]) ?_ 2 _ rfl; (with_reducible repeat (first | refine blk_drewN ?_ _ | refine blk_drew ?_ | refine blk_alloc ?_ _)); refine blk_put (cs := #[.int .i64 ((rd_T65 l1 x27_2).f0), .int .i64 0, .bool false]) ?_ 1 _ rfl; (with_reducible repeat (first | refine blk_drewN ?_ _ | refine blk_drew ?_ | refine blk_alloc ?_ _)); refine blk_put (cs := #[.int .i64 0, .int .i64 0, .bool false]) ?_ 0 _ rfl; (with_reducible repeat (first | refine blk_drewN ?_ _ | refine blk_drew ?_ | refine blk_alloc ?_ _)); exact BK227.out))⟩; have n4_ : Aside0 (Below w.heap.size w w22) := ⟨(by rw [hw]; exact (bw_ HB.out))⟩; clear hw; replace HO_6 := n0_; replace HO_7 := n1_; replace HO_8 := n2_; replace BK227 := n3_; replace HB := n4_; clear n0_ n1_ n2_ n3_ n4_; have hcz23_0 := cz_ BK227.out 0; have hcz23_1 := cz_ BK227.out 1; have hcz23_2 := cz_ BK227.out 2; have hfz23_0 := blk_frozen BK227.out 0; have hfz23_1 := blk_frozen BK227.out 1; have hfz23_2 := blk_frozen BK227.out 2; obtain ⟨Ao24, co24, eo24⟩ := Kd.R_slice HO_7.out; subst eo24) | ((with_reducible refine gate_callee (f := 43) rfl ?_); refine goesL_ (some 33) rfl rfl Try.func43 (by kernel_rfl) rfl #[.slice Ao24 x7_2.length co24, .agg #[.int .i64 ((rd_T65 l1 x27_2).f0), .int .i64 ((rd_T65 l1 x27_2).f1), .bool ((rd_T65 l1 x27_2).f2)]] rfl (by (try simp only [List.map_toArray, List.map_cons, List.map_nil]); first | done | rfl | (simp only [List.length_drop, List.length_take]; rfl)) ?_; (with_reducible refine (spec_l17Press.calls k2 (fun k_ => some k_ = (.slice Ao24 x7_2.length co24 : Value).ownBlock) (.slice Ao24 x7_2.length co24) x7_2 ((rd_T65 l1 x27_2).f0) ((rd_T65 l1 x27_2).f1) ((rd_T65 l1 x27_2).f2) t228 w _ ?side1 ?side2 A18.out).mono ?_); (case side1 => repeat (first | (with_reducible first | exact HB.out | apply below_alloc | apply pw_below_drewN | apply below_drew1 | refine below_set ?_ GE227.out) | exact HB.out)); (case side2 => exact Kd.R_tight rfl HO_7.out); rintro e w25 ⟨v229, rfl, ho0, hb, hkp⟩; refine ⟨_, rfl, ?_⟩; have n0_ := am_ (Kd.R_mono (ok' := fun k_ => True) (Kd.R_keptB ((Kd.R_apart' HO_6.out (Kd.R_typed HO_7.out) (by decide))) hkp (fun k_ hk_ hs_ => (hk_.2) hs_)) (fun k_ hk_ => trivial)); have n1_ := am_ (Kd.R_mono (ok' := fun k_ => True) (Kd.R_keptB ((Kd.R_apart' HO_8.out (Kd.R_typed HO_7.out) (by decide))) hkp (fun k_ hk_ hs_ => (hk_.2) hs_)) (fun k_ hk_ => trivial)); (first | have n2_ := am_ (blk_kept BK227.out hkp (Kd.R_ne HO_7.out BK227.out (by decide))) | have n2_ := am_ (blk_kept (blk_drewN BK227.out _) hkp (Kd.R_ne HO_7.out BK227.out (by decide)))); have n3_ := am_ (Kd.R_mono (ok' := fun k_ => True) ho0 (fun k_ hk_ => trivial)); have n4_ := am_ (hb); clear HO_7; replace HO_6 := n0_; replace HO_8 := n1_; replace BK227 := n2_; have HO230 := n3_; replace HB := n4_; clear n0_ n1_ n2_ n3_ n4_; (try clear hb); (try clear hkp); (try clear ho0); obtain ⟨Ao26, co26, eo26⟩ := Kd.R_slice HO230.out; subst eo26) | ((with_reducible refine gate_callee (f := 44) rfl ?_); refine goesL_ (some 36) rfl rfl Try.func44 (by kernel_rfl) rfl #[.slice A0 l0.length c0, .slice Ao26 t228.length co26] rfl (by (try simp only [List.map_toArray, List.map_cons, List.map_nil]); first | done | rfl | (simp only [List.length_drop, List.length_take]; rfl)) ?_; (with_reducible refine (spec_l17Holds.calls k2 _ _ l0 _ _ t228 t231 _ ?side1 ?side2 ?side3 ?side4 A19.out).mono ?_); (case side1 => repeat (first | exact (Kd.C_below HR0.out HB.out) | (with_reducible refine Kd.C_alloc ?_ _) | (with_reducible refine Kd.C_drewN ?_ _) | (with_reducible refine Kd.C_drew ?_))); (case side2 => exact HC0.out); (case side3 => repeat (first | exact (Kd.R_reads' HO230.out).2.2 | (with_reducible refine Kd.C_alloc ?_ _) | (with_reducible refine Kd.C_drewN ?_ _) | (with_reducible refine Kd.C_drew ?_))); (case side4 => exact (Kd.R_reads' HO230.out).2.1); rintro e w27 ⟨v232, rfl, ho0, hb⟩; refine ⟨_, rfl, ?_⟩; have n0_ := am_ (Kd.R_below (ra_ HO_6.out) hb); have n1_ := am_ (Kd.R_elder' (ra_ HO_8.out) (Kd.R_base ho0) hb); have n2_ := am_ (Kd.R_below (ra_ HO230.out) hb); have n3_ := am_ (Kd.R_lower (Kd.R_new' ho0 (Kd.R_lt (ra_ HO_8.out))) (below_size (bw_ HB.out))); have n4_ := am_ (blk_below (bk_ BK227.out) hb); have n5_ := am_ (below_step (bw_ HB.out) hb); replace HO_6 := n0_; replace HO_8 := n1_; replace HO230 := n2_; have HO233 := n3_; replace BK227 := n4_; replace HB := n5_; clear n0_ n1_ n2_ n3_ n4_ n5_; (try clear hb); (try clear hb2); (try clear hk); (try clear hi); (try clear ho0)))
       go_loopg [6, 39] k2 (fun kq v6 v39 w' => ∃ (x6_3 : List (S69)) (x39_3 : Int), v39 = .int .i64 x39_3 ∧ Aside0 (spec_MeantBy.l1 kq l0 x6_3 t228 x8_2 t231 l1 (l1.length : Int) x27_2 l0 (l0.length : Int) x39_3 ((rd_T65 l1 x27_2).f0) ((rd_T65 l1 x27_2).f1) ((rd_T65 l1 x27_2).f2) = some (r1, r2)) ∧ Aside0 (kq ≤ k2) ∧ Aside0 (Kd.R k69 69 w' w.heap.size (fun _ => True) v6 x6_3) ∧ Aside0 (Kd.R (Kd.int .i64) 3 w' w.heap.size (fun _ => True) (.slice Ao26 t228.length co26) t228) ∧ Aside0 (Kd.R Kd.bool 4 w' w.heap.size (fun k_ => nb k_ v232) u8 x8_2) ∧ Aside0 (Kd.R Kd.bool 4 w' w.heap.size (fun k_ => nb k_ u8) v232 t231) ∧ Aside0 (w'.heap[gb227]? = some (.cells #[.int .i64 ((rd_T65 l1 x27_2).f0), .int .i64 ((rd_T65 l1 x27_2).f1), .bool ((rd_T65 l1 x27_2).f2)] 65 (0, 0))) ∧ Aside0 (Below w.heap.size w w'))
       case atStart => exact ⟨(x6_2), (0), sq_, H', ⟨Nat.le_refl _⟩, ⟨ra_ HO_6.out⟩, ⟨ra_ HO230.out⟩, ⟨ra_ (Kd.R_mono HO_8.out (fun _ hk => hk.2))⟩, ⟨ra_ (Kd.R_mono HO233.out (fun _ hk => hk.2))⟩, ⟨bk_ BK227.out⟩, ⟨bw_ HB.out⟩⟩
       case round =>
        clear H'
        try clear c1
        try clear c10
        try clear c11
        try clear c11b0
        try clear c11b1
        try clear c12
        try clear c12b0
        try clear c12b1
        try clear c15
        try clear c15b0
        try clear c16
        try clear c16b0
        try clear c17
        try clear c17b0
        try clear hcz21_0
        try clear hcz21_1
        try clear hcz21_2
        try clear hcz23_0
        try clear hcz23_1
        try clear hcz23_2
        try clear hfz21_0
        try clear hfz21_1
        try clear hfz21_2
        try clear hfz23_0
        try clear hfz23_1
        try clear hfz23_2
        try clear hx226_0
        try clear hx226_1
        try clear hx226_2
        try clear p226
        try clear q226
        obtain ⟨x6_3, x39_3, rfl, HA, HK3, HO_6, HO_7, HO_8, HO_11, BK227, HB⟩ := hrel
        cases gk with
        | zero => exact absurd HA.out (by simp [spec_MeantBy.l1])
        | succ k3 =>
         have H := HA.out
         clear HA
         simp only [spec_MeantBy.l1] at H
         by_cases c28 : x39_3 < (l0.length : Int)
         ·rw [if_pos c28] at H
          have c28b0 : decide (x39_3 < (l0.length : Int)) = true := decide_eq_true c28
          clear c28
          obtain ⟨c29, H⟩ := ifn_ H
          have c29b0 : decide (0 ≤ x39_3) = true := decide_eq_true c29
          clear c29
          obtain ⟨c30, H⟩ := ifn_ H
          have c30b0 : decide (x39_3 < (l0.length : Int)) = true := decide_eq_true c30
          clear c30
          obtain ⟨c31, H⟩ := ifn_ H
          have c31b0 : decide (x39_3 < (t231.length : Int)) = true := decide_eq_true c31
          clear c31
          obtain ⟨c32, H⟩ := ifn_ H
          have c32b0 : decide (x39_3 < (x8_2.length : Int)) = true := decide_eq_true c32
          clear c32
          by_cases c33 : ((rdOf false t231 x39_3) != (rdOf false x8_2 x39_3)) = true
          ·rw [if_pos c33] at H
           have c33b0 : ((rdOf false t231 x39_3) != (rdOf false x8_2 x39_3)) = true := c33
           (try (have c33b1 : decide ((rdOf false t231 x39_3) = (rdOf false x8_2 x39_3)) = false := by simpa using c33))
           (try (have c33b2 : ((rdOf false t231 x39_3) == (rdOf false x8_2 x39_3)) = false := by simpa using c33))
           (try (have c33b3 : ¬ ((rdOf false t231 x39_3) = (rdOf false x8_2 x39_3)) := by simpa using c33))
           clear c33
           obtain ⟨c34, H⟩ := ifn_ H
           have LMc34 := am_ c34
           clear c34
           obtain ⟨y239, hy239⟩ : ∃ y_ : List (S69), y_ = (x6_3 ++ [(⟨((rd_T65 l1 x27_2).f0), (rd_T53 l0 x39_3).f0, rdOf false t231 x39_3⟩ : S69)]) := ⟨_, rfl⟩
           replace H : (spec_MeantBy.l1 k3 l0 y239 t228 x8_2 t231 l1 (l1.length : Int) x27_2 l0 (l0.length : Int) (wrap64 (x39_3 + 1)) ((rd_T65 l1 x27_2).f0) ((rd_T65 l1 x27_2).f1) ((rd_T65 l1 x27_2).f2)) = some (r1, r2) := by first | (rw [hy239]; with_reducible exact H) | (have H2_ := (Option.bind_some _ _).symm.trans H; rw [hy239]; with_reducible exact H2_) | (have H2_ := (Option.bind_some _ _).symm.trans H; with_reducible exact H2_) | with_reducible exact H | (rw [hy239]; exact H) | exact H
           have Ny239 := am_ hy239
           clear hy239
           have H' := am_ H
           clear H
           have p234 : 0 ≤ (x39_3 : Int) := od_
           have q234 : x39_3 < (l0.length : Int) := od_
           obtain ⟨ad234, A234_1, c234_1, e234, hx234_0, hx234_1, hl234_1, hi234_1⟩ := at_T53 HR0.out x39_3 p234 q234
           cases e234
           (try replace hx234_0 := hc_ HB.out hx234_0)
           (try replace hx234_1 := hc_ HB.out hx234_1)
           have HR234_1 := am_ hi234_1
           have HC234_1 := am_ hl234_1
           clear hi234_1 hl234_1
           replace p234 := eq_true p234
           replace q234 := eq_true q234
           try go_wp2_with (first | ((with_reducible refine gate_dst (N := 13) rfl ?_); refine bx_ 13 #[.string (⟨#[]⟩ : ByteArray), .slice none 0 0] 53 ?_; intro gb235 hg w35 hbox hb; have n0_ := am_ (Kd.R_below (ra_ HO_6.out) hb); have n1_ := am_ (Kd.R_below (ra_ HO_7.out) hb); have n2_ := am_ (Kd.R_below (ra_ HO_8.out) hb); have n3_ := am_ (Kd.R_below (ra_ HO_11.out) hb); have n4_ := am_ (blk_below (bk_ BK227.out) hb); have n5_ := am_ (below_step (bw_ HB.out) hb); have n6_ := am_ (hbox); have n7_ := am_ (gs_ hg (bw_ HB.out)); have n8_ := am_ (gs_ hg (bw_ HB.out)); have n9_ := am_ (nl_ hg (bk_ BK227.out)); have n10_ := am_ (ng_ hg (bk_ BK227.out)); replace HO_6 := n0_; replace HO_7 := n1_; replace HO_8 := n2_; replace HO_11 := n3_; replace BK227 := n4_; replace HB := n5_; have BK235 := n6_; have GW235 := n7_; have GE235 := n8_; have NB227_235 := n9_; have NB235_227 := n10_; clear n0_ n1_ n2_ n3_ n4_ n5_ n6_ n7_ n8_ n9_ n10_; clear hb hbox hg; have hnb36 := NB235_227.out; have hnc36 := NB227_235.out; have hcz37_0 := cz_ BK235.out 0; have hcz37_1 := cz_ BK235.out 1; have hfz37_0 := blk_frozen BK235.out 0; have hfz37_1 := blk_frozen BK235.out 1))
           have n0_ : Aside0 (Kd.R k69 69 ((w35.setCell ⟨gb235, 0, none⟩ (.string ((rd_T53 l0 x39_3).f0))).setCell ⟨gb235, 1, none⟩ (.slice A234_1 ((rd_T53 l0 x39_3).f1).length c234_1)) w.heap.size (fun _ => True) u6 x6_3) := ⟨ra_ (Kd.R_mono (Kd.R_far (p := ⟨gb235, 1, none⟩) (Kd.R_far (p := ⟨gb235, 0, none⟩) (Kd.R_types HO_6.out BK235.out (by decide)) (fun _ hk => hk.2) (.string ((rd_T53 l0 x39_3).f0))) (fun _ hk => hk.2) (.slice A234_1 ((rd_T53 l0 x39_3).f1).length c234_1)) (fun _ hk => trivial))⟩
           have n1_ : Aside0 (Kd.R (Kd.int .i64) 3 ((w35.setCell ⟨gb235, 0, none⟩ (.string ((rd_T53 l0 x39_3).f0))).setCell ⟨gb235, 1, none⟩ (.slice A234_1 ((rd_T53 l0 x39_3).f1).length c234_1)) w.heap.size (fun _ => True) (.slice Ao26 t228.length co26) t228) := ⟨ra_ (Kd.R_mono (Kd.R_far (p := ⟨gb235, 1, none⟩) (Kd.R_far (p := ⟨gb235, 0, none⟩) (Kd.R_types HO_7.out BK235.out (by decide)) (fun _ hk => hk.2) (.string ((rd_T53 l0 x39_3).f0))) (fun _ hk => hk.2) (.slice A234_1 ((rd_T53 l0 x39_3).f1).length c234_1)) (fun _ hk => trivial))⟩
           have n2_ : Aside0 (Kd.R Kd.bool 4 ((w35.setCell ⟨gb235, 0, none⟩ (.string ((rd_T53 l0 x39_3).f0))).setCell ⟨gb235, 1, none⟩ (.slice A234_1 ((rd_T53 l0 x39_3).f1).length c234_1)) w.heap.size (fun k_ => nb k_ v232) u8 x8_2) := ⟨ra_ (Kd.R_mono (Kd.R_far (p := ⟨gb235, 1, none⟩) (Kd.R_far (p := ⟨gb235, 0, none⟩) (Kd.R_types HO_8.out BK235.out (by decide)) (fun _ hk => hk.2) (.string ((rd_T53 l0 x39_3).f0))) (fun _ hk => hk.2) (.slice A234_1 ((rd_T53 l0 x39_3).f1).length c234_1)) (fun _ hk => hk.1))⟩
           have n3_ : Aside0 (Kd.R Kd.bool 4 ((w35.setCell ⟨gb235, 0, none⟩ (.string ((rd_T53 l0 x39_3).f0))).setCell ⟨gb235, 1, none⟩ (.slice A234_1 ((rd_T53 l0 x39_3).f1).length c234_1)) w.heap.size (fun k_ => nb k_ u8) v232 t231) := ⟨ra_ (Kd.R_mono (Kd.R_far (p := ⟨gb235, 1, none⟩) (Kd.R_far (p := ⟨gb235, 0, none⟩) (Kd.R_types HO_11.out BK235.out (by decide)) (fun _ hk => hk.2) (.string ((rd_T53 l0 x39_3).f0))) (fun _ hk => hk.2) (.slice A234_1 ((rd_T53 l0 x39_3).f1).length c234_1)) (fun _ hk => hk.1))⟩
           have n4_ : Aside0 (((w35.setCell ⟨gb235, 0, none⟩ (.string ((rd_T53 l0 x39_3).f0))).setCell ⟨gb235, 1, none⟩ (.slice A234_1 ((rd_T53 l0 x39_3).f1).length c234_1)).heap[gb227]? = some (.cells #[.int .i64 ((rd_T65 l1 x27_2).f0), .int .i64 ((rd_T65 l1 x27_2).f1), .bool ((rd_T65 l1 x27_2).f2)] 65 (0, 0))) := ⟨by (with_reducible repeat (first | refine blk_drewN ?_ _ | refine blk_drew ?_ | refine blk_alloc ?_ _)); refine blk_far ?_ NB227_235.out _; (with_reducible repeat (first | refine blk_drewN ?_ _ | refine blk_drew ?_ | refine blk_alloc ?_ _)); refine blk_far ?_ NB227_235.out _; (with_reducible repeat (first | refine blk_drewN ?_ _ | refine blk_drew ?_ | refine blk_alloc ?_ _)); exact BK227.out⟩
           have n5_ : Aside0 (((w35.setCell ⟨gb235, 0, none⟩ (.string ((rd_T53 l0 x39_3).f0))).setCell ⟨gb235, 1, none⟩ (.slice A234_1 ((rd_T53 l0 x39_3).f1).length c234_1)).heap[gb235]? = some (.cells #[.string ((rd_T53 l0 x39_3).f0), .slice A234_1 ((rd_T53 l0 x39_3).f1).length c234_1] 53 (0, 0))) := ⟨by (with_reducible repeat (first | refine blk_drewN ?_ _ | refine blk_drew ?_ | refine blk_alloc ?_ _)); refine blk_put (cs := #[.string ((rd_T53 l0 x39_3).f0), .slice none 0 0]) ?_ 1 _ rfl; (with_reducible repeat (first | refine blk_drewN ?_ _ | refine blk_drew ?_ | refine blk_alloc ?_ _)); refine blk_put (cs := #[.string (⟨#[]⟩ : ByteArray), .slice none 0 0]) ?_ 0 _ rfl; (with_reducible repeat (first | refine blk_drewN ?_ _ | refine blk_drew ?_ | refine blk_alloc ?_ _)); exact BK235.out⟩
           have n6_ : Aside0 (Below w.heap.size w ((w35.setCell ⟨gb235, 0, none⟩ (.string ((rd_T53 l0 x39_3).f0))).setCell ⟨gb235, 1, none⟩ (.slice A234_1 ((rd_T53 l0 x39_3).f1).length c234_1))) := ⟨bw_ HB.out⟩
           (try clear HO_6)
           (try clear HO_7)
           (try clear HO_8)
           (try clear HO_11)
           (try clear BK227)
           (try clear BK235)
           (try clear HB)
           generalize ((w35.setCell ⟨gb235, 0, none⟩ (.string ((rd_T53 l0 x39_3).f0))).setCell ⟨gb235, 1, none⟩ (.slice A234_1 ((rd_T53 l0 x39_3).f1).length c234_1)) = w38 at n0_ n1_ n2_ n3_ n4_ n5_ n6_ ⊢
           have HO_6 := n0_
           have HO_7 := n1_
           have HO_8 := n2_
           have HO_11 := n3_
           have BK227 := n4_
           have BK235 := n5_
           have HB := n6_
           clear n0_ n1_ n2_ n3_ n4_ n5_ n6_
           have n0_ := am_ (Kd.R_drew HO_6.out)
           have n1_ := am_ (Kd.R_drew HO_7.out)
           have n2_ := am_ (Kd.R_drew HO_8.out)
           have n3_ := am_ (Kd.R_drew HO_11.out)
           have n4_ := am_ (blk_drew BK227.out)
           have n5_ := am_ (blk_drew BK235.out)
           have n6_ := am_ (below_drew1 HB.out)
           replace HO_6 := n0_
           replace HO_7 := n1_
           replace HO_8 := n2_
           replace HO_11 := n3_
           replace BK227 := n4_
           replace BK235 := n5_
           replace HB := n6_
           clear n0_ n1_ n2_ n3_ n4_ n5_ n6_
           obtain ⟨Ao40, co40, eo40⟩ := Kd.R_slice HO_11.out
           (first | subst eo40 | (injection eo40 with f1_ f2_ f3_; have f4_ := f1_.symm; have f5_ := f3_.symm; clear f1_ f2_ f3_; subst f4_; subst f5_))
           have p236 : 0 ≤ (x39_3 : Int) := od_
           have q236 : x39_3 < (t231.length : Int) := od_
           obtain ⟨ad236, e236, hx236_0⟩ := Kd.at_bool (Kd.R_reads' HO_11.out).2.2 x39_3 p236 q236
           cases e236
           replace p236 := eq_true p236
           replace q236 := eq_true q236
           obtain ⟨Ao41, co41, eo41⟩ := Kd.R_slice HO_8.out
           (first | subst eo41 | (injection eo41 with f1_ f2_ f3_; have f4_ := f1_.symm; have f5_ := f3_.symm; clear f1_ f2_ f3_; subst f4_; subst f5_))
           have p237 : 0 ≤ (x39_3 : Int) := od_
           have q237 : x39_3 < (x8_2.length : Int) := od_
           obtain ⟨ad237, e237, hx237_0⟩ := Kd.at_bool (Kd.R_reads' HO_8.out).2.2 x39_3 p237 q237
           cases e237
           replace p237 := eq_true p237
           replace q237 := eq_true q237
           refine start_ (n := 9) (S := fun w' => w'.cell? (ad236.add (x39_3).toNat) = some (.bool (rdOf false t231 x39_3)) ∧ w'.cell? (ad237.add (x39_3).toNat) = some (.bool (rdOf false x8_2 x39_3))) (ds := []) (Array.replicate 9 false) (by kernel_rfl) rfl rfl ⟨hx236_0, hx237_0⟩ (fun hHeld => ?_); refine with_tabW spec_MeantBy.tab14 spec_MeantBy.bits14 (fun HT_ HW_ => ?_)
           generalize w38.drew = w39 at HO_6 HO_7 HO_8 HO_11 BK227 BK235 HB hx236_0 hx237_0 hHeld ⊢
           refine pS_ 0 44 HT_ ?_
           refine pS_ 1 45 HT_ ?_
           refine pS_ 2 46 HT_ ?_
           refine pS_ 4 48 HT_ ?_
           refine pS_ 5 49 HT_ ?_
           refine pS_ 6 50 HT_ ?_
           refine tS_ 3 47 HT_ HW_ hHeld ?_
           refine tS_ 7 51 HT_ HW_ hHeld ?_
           refine pS_ 8 52 HT_ ?_
           refine done_ (done_of HT_.out (by kernel_rfl)) ?_
           try go_wp2
           have n0_ := am_ (Kd.R_drew HO_6.out)
           have n1_ := am_ (Kd.R_drew HO_7.out)
           have n2_ := am_ (Kd.R_drew HO_8.out)
           have n3_ := am_ (Kd.R_drew HO_11.out)
           have n4_ := am_ (blk_drew BK227.out)
           have n5_ := am_ (blk_drew BK235.out)
           have n6_ := am_ (below_drew1 HB.out)
           replace HO_6 := n0_
           replace HO_7 := n1_
           replace HO_8 := n2_
           replace HO_11 := n3_
           replace BK227 := n4_
           replace BK235 := n5_
           replace HB := n6_
           clear n0_ n1_ n2_ n3_ n4_ n5_ n6_
           have p238 : 0 ≤ (x39_3 : Int) := od_
           have q238 : x39_3 < (t231.length : Int) := od_
           obtain ⟨ad238, e238, hx238_0⟩ := Kd.at_bool (Kd.R_reads' HO_11.out).2.2 x39_3 p238 q238
           obtain rfl : ad236 = ad238 := (by injection e238)
           replace p238 := eq_true p238
           replace q238 := eq_true q238
           refine start_ (n := 13) (S := fun w' => w'.cell? ⟨gb227, 0, none⟩ = some (.int .i64 ((rd_T65 l1 x27_2).f0)) ∧ w'.cell? ⟨gb227, 1, none⟩ = some (.int .i64 ((rd_T65 l1 x27_2).f1)) ∧ w'.cell? ⟨gb227, 2, none⟩ = some (.bool ((rd_T65 l1 x27_2).f2)) ∧ w'.cell? ⟨gb235, 0, none⟩ = some (.string ((rd_T53 l0 x39_3).f0)) ∧ w'.cell? ⟨gb235, 1, none⟩ = some (.slice A234_1 ((rd_T53 l0 x39_3).f1).length c234_1) ∧ w'.cell? (ad236.add (x39_3).toNat) = some (.bool (rdOf false t231 x39_3))) (ds := [10, 11]) (Array.replicate 13 false) (by kernel_rfl) rfl rfl ⟨cz_ BK227.out 0, cz_ BK227.out 1, cz_ BK227.out 2, cz_ BK235.out 0, cz_ BK235.out 1, hx238_0⟩ (fun hHeld => ?_); refine with_tabW spec_MeantBy.tab15 spec_MeantBy.bits15 (fun HT_ HW_ => ?_)
           generalize w39.drew = w42 at HO_6 HO_7 HO_8 HO_11 BK227 BK235 HB hx238_0 hHeld ⊢
           refine pS_ 0 53 HT_ ?_
           refine pS_ 1 54 HT_ ?_
           refine pS_ 3 56 HT_ ?_
           refine pS_ 5 58 HT_ ?_
           refine pS_ 6 59 HT_ ?_
           refine pS_ 7 60 HT_ ?_
           refine tS_ 2 55 HT_ HW_ hHeld ?_
           refine tS_ 4 57 HT_ HW_ hHeld ?_
           refine tS_ 8 61 HT_ HW_ hHeld ?_
           refine pS_ 9 62 HT_ ?_
           refine last_ (i := 10) (N := some 63) #[true, true, true, true, true, true, true, true, true, true, true, false, false] rfl rfl (one_of HT_.out (by kernel_rfl)) (by decide) (fun K hK => ?_)
           refine value_ (w1 := ?_) (v := ?_) (by rfl) rfl ?_ ?_
           rotate_left 2
           ·go_simp
            constructor
            ·rfl
            ·rfl
           refine hK.out _ _ ?_
           clear hK K
           refine nD_ 63 ?_
           refine last_ (i := 11) (N := some 64) #[true, true, true, true, true, true, true, true, true, true, true, true, false] rfl rfl (one_of HT_.out (by kernel_rfl)) (by decide) (fun K hK => ?_)
           refine Kd.R_append_step k69 (w0 := w) w.heap.size (by rfl) (.tmp 53) (.tmp 63) 37 69 (.agg #[(.int .i64 0), (.string ⟨#[]⟩), (.bool false)]) 32 rfl Try.underlying37 info69 rfl (by decide) (by omega) u6 x6_3 (⟨((rd_T65 l1 x27_2).f0), (rd_T53 l0 x39_3).f0, rdOf false t231 x39_3⟩ : S69) [.int .i64 ((rd_T65 l1 x27_2).f0), .string ((rd_T53 l0 x39_3).f0), .bool (rdOf false t231 x39_3)] (fun _ => True) (fun _ => False) rfl rfl ?aP (fun _ hk => hk.elim) ?aF ?aO ?aB ?aS ?aL ?_
           (case aP => exact k69_mkM _ _ _ (⟨((rd_T65 l1 x27_2).f0), (rd_T53 l0 x39_3).f0, rdOf false t231 x39_3⟩ : S69))
           (case aB => exact (bw_ HB.out))
           (case aF => exact (fun _ _ => trivial))
           (case aO => exact (ra_ HO_6.out))
           (case aS => exact (below_size (bw_ HB.out)))
           (case aL => have := LMc34.out; omega)
           intro v240 w43 ho hb hg hat
           rw [← Ny239.out] at ho
           have n0_ := am_ (Kd.R_over' (ra_ HO_7.out) (Kd.R_typed (ra_ HO_6.out)) (by decide) hg)
           have n1_ := am_ (Kd.R_over' (ra_ HO_8.out) (Kd.R_typed (ra_ HO_6.out)) (by decide) hg)
           have n2_ := am_ (Kd.R_over' (ra_ HO_11.out) (Kd.R_typed (ra_ HO_6.out)) (by decide) hg)
           have n3_ := am_ (blk_grown (bk_ BK227.out) hg (Kd.R_ne HO_6.out BK227.out (by decide)))
           have n4_ := am_ (blk_grown (bk_ BK235.out) hg (Kd.R_ne HO_6.out BK235.out (by decide)))
           have n5_ := am_ (hb)
           have n6_ := am_ (ho)
           clear HO_6
           replace HO_7 := n0_
           replace HO_8 := n1_
           replace HO_11 := n2_
           replace BK227 := n3_
           replace BK235 := n4_
           replace HB := n5_
           have HO241 := n6_
           clear n0_ n1_ n2_ n3_ n4_ n5_ n6_
           clear ho hb hg hat
           refine hK.out _ _ ?_
           clear hK K
           refine nD_ 64 ?_
           refine pS_ 12 6 HT_ ?_
           refine done_ (done_of HT_.out (by kernel_rfl)) ?_
           try go_wp2
           go_roundg k3
           case measure => have := HJ2.out; have := HK2.out; have := HK3.out; omega
           case rel => exact ⟨(y239), (wrap64 (x39_3 + 1)), sq_, H', ⟨by have := HJ2.out; have := HK2.out; have := HK3.out; omega⟩, ⟨ra_ HO241.out⟩, ⟨ra_ HO_7.out⟩, ⟨ra_ HO_8.out⟩, ⟨ra_ HO_11.out⟩, ⟨bk_ BK227.out⟩, ⟨bw_ HB.out⟩⟩
          ·rw [if_neg c33] at H
           have c33b0 : ((rdOf false t231 x39_3) != (rdOf false x8_2 x39_3)) = false := by simpa using c33
           (try (have c33b1 : decide ((rdOf false t231 x39_3) = (rdOf false x8_2 x39_3)) = true := by simpa using c33))
           (try (have c33b2 : ((rdOf false t231 x39_3) == (rdOf false x8_2 x39_3)) = true := by simpa using c33))
           clear c33
           have H' := am_ H
           clear H
           have p234 : 0 ≤ (x39_3 : Int) := od_
           have q234 : x39_3 < (l0.length : Int) := od_
           obtain ⟨ad234, A234_1, c234_1, e234, hx234_0, hx234_1, hl234_1, hi234_1⟩ := at_T53 HR0.out x39_3 p234 q234
           cases e234
           (try replace hx234_0 := hc_ HB.out hx234_0)
           (try replace hx234_1 := hc_ HB.out hx234_1)
           have HR234_1 := am_ hi234_1
           have HC234_1 := am_ hl234_1
           clear hi234_1 hl234_1
           replace p234 := eq_true p234
           replace q234 := eq_true q234
           try go_wp2_with (first | ((with_reducible refine gate_dst (N := 13) rfl ?_); refine bx_ 13 #[.string (⟨#[]⟩ : ByteArray), .slice none 0 0] 53 ?_; intro gb235 hg w44 hbox hb; have n0_ := am_ (Kd.R_below (ra_ HO_6.out) hb); have n1_ := am_ (Kd.R_below (ra_ HO_7.out) hb); have n2_ := am_ (Kd.R_below (ra_ HO_8.out) hb); have n3_ := am_ (Kd.R_below (ra_ HO_11.out) hb); have n4_ := am_ (blk_below (bk_ BK227.out) hb); have n5_ := am_ (below_step (bw_ HB.out) hb); have n6_ := am_ (hbox); have n7_ := am_ (gs_ hg (bw_ HB.out)); have n8_ := am_ (gs_ hg (bw_ HB.out)); have n9_ := am_ (nl_ hg (bk_ BK227.out)); have n10_ := am_ (ng_ hg (bk_ BK227.out)); replace HO_6 := n0_; replace HO_7 := n1_; replace HO_8 := n2_; replace HO_11 := n3_; replace BK227 := n4_; replace HB := n5_; have BK235 := n6_; have GW235 := n7_; have GE235 := n8_; have NB227_235 := n9_; have NB235_227 := n10_; clear n0_ n1_ n2_ n3_ n4_ n5_ n6_ n7_ n8_ n9_ n10_; clear hb hbox hg; have hnb45 := NB235_227.out; have hnc45 := NB227_235.out; have hcz46_0 := cz_ BK235.out 0; have hcz46_1 := cz_ BK235.out 1; have hfz46_0 := blk_frozen BK235.out 0; have hfz46_1 := blk_frozen BK235.out 1))
           have n0_ : Aside0 (Kd.R k69 69 ((w44.setCell ⟨gb235, 0, none⟩ (.string ((rd_T53 l0 x39_3).f0))).setCell ⟨gb235, 1, none⟩ (.slice A234_1 ((rd_T53 l0 x39_3).f1).length c234_1)) w.heap.size (fun _ => True) u6 x6_3) := ⟨ra_ (Kd.R_mono (Kd.R_far (p := ⟨gb235, 1, none⟩) (Kd.R_far (p := ⟨gb235, 0, none⟩) (Kd.R_types HO_6.out BK235.out (by decide)) (fun _ hk => hk.2) (.string ((rd_T53 l0 x39_3).f0))) (fun _ hk => hk.2) (.slice A234_1 ((rd_T53 l0 x39_3).f1).length c234_1)) (fun _ hk => trivial))⟩
           have n1_ : Aside0 (Kd.R (Kd.int .i64) 3 ((w44.setCell ⟨gb235, 0, none⟩ (.string ((rd_T53 l0 x39_3).f0))).setCell ⟨gb235, 1, none⟩ (.slice A234_1 ((rd_T53 l0 x39_3).f1).length c234_1)) w.heap.size (fun _ => True) (.slice Ao26 t228.length co26) t228) := ⟨ra_ (Kd.R_mono (Kd.R_far (p := ⟨gb235, 1, none⟩) (Kd.R_far (p := ⟨gb235, 0, none⟩) (Kd.R_types HO_7.out BK235.out (by decide)) (fun _ hk => hk.2) (.string ((rd_T53 l0 x39_3).f0))) (fun _ hk => hk.2) (.slice A234_1 ((rd_T53 l0 x39_3).f1).length c234_1)) (fun _ hk => trivial))⟩
           have n2_ : Aside0 (Kd.R Kd.bool 4 ((w44.setCell ⟨gb235, 0, none⟩ (.string ((rd_T53 l0 x39_3).f0))).setCell ⟨gb235, 1, none⟩ (.slice A234_1 ((rd_T53 l0 x39_3).f1).length c234_1)) w.heap.size (fun k_ => nb k_ v232) u8 x8_2) := ⟨ra_ (Kd.R_mono (Kd.R_far (p := ⟨gb235, 1, none⟩) (Kd.R_far (p := ⟨gb235, 0, none⟩) (Kd.R_types HO_8.out BK235.out (by decide)) (fun _ hk => hk.2) (.string ((rd_T53 l0 x39_3).f0))) (fun _ hk => hk.2) (.slice A234_1 ((rd_T53 l0 x39_3).f1).length c234_1)) (fun _ hk => hk.1))⟩
           have n3_ : Aside0 (Kd.R Kd.bool 4 ((w44.setCell ⟨gb235, 0, none⟩ (.string ((rd_T53 l0 x39_3).f0))).setCell ⟨gb235, 1, none⟩ (.slice A234_1 ((rd_T53 l0 x39_3).f1).length c234_1)) w.heap.size (fun k_ => nb k_ u8) v232 t231) := ⟨ra_ (Kd.R_mono (Kd.R_far (p := ⟨gb235, 1, none⟩) (Kd.R_far (p := ⟨gb235, 0, none⟩) (Kd.R_types HO_11.out BK235.out (by decide)) (fun _ hk => hk.2) (.string ((rd_T53 l0 x39_3).f0))) (fun _ hk => hk.2) (.slice A234_1 ((rd_T53 l0 x39_3).f1).length c234_1)) (fun _ hk => hk.1))⟩
           have n4_ : Aside0 (((w44.setCell ⟨gb235, 0, none⟩ (.string ((rd_T53 l0 x39_3).f0))).setCell ⟨gb235, 1, none⟩ (.slice A234_1 ((rd_T53 l0 x39_3).f1).length c234_1)).heap[gb227]? = some (.cells #[.int .i64 ((rd_T65 l1 x27_2).f0), .int .i64 ((rd_T65 l1 x27_2).f1), .bool ((rd_T65 l1 x27_2).f2)] 65 (0, 0))) := ⟨by (with_reducible repeat (first | refine blk_drewN ?_ _ | refine blk_drew ?_ | refine blk_alloc ?_ _)); refine blk_far ?_ NB227_235.out _; (with_reducible repeat (first | refine blk_drewN ?_ _ | refine blk_drew ?_ | refine blk_alloc ?_ _)); refine blk_far ?_ NB227_235.out _; (with_reducible repeat (first | refine blk_drewN ?_ _ | refine blk_drew ?_ | refine blk_alloc ?_ _)); exact BK227.out⟩
           have n5_ : Aside0 (((w44.setCell ⟨gb235, 0, none⟩ (.string ((rd_T53 l0 x39_3).f0))).setCell ⟨gb235, 1, none⟩ (.slice A234_1 ((rd_T53 l0 x39_3).f1).length c234_1)).heap[gb235]? = some (.cells #[.string ((rd_T53 l0 x39_3).f0), .slice A234_1 ((rd_T53 l0 x39_3).f1).length c234_1] 53 (0, 0))) := ⟨by (with_reducible repeat (first | refine blk_drewN ?_ _ | refine blk_drew ?_ | refine blk_alloc ?_ _)); refine blk_put (cs := #[.string ((rd_T53 l0 x39_3).f0), .slice none 0 0]) ?_ 1 _ rfl; (with_reducible repeat (first | refine blk_drewN ?_ _ | refine blk_drew ?_ | refine blk_alloc ?_ _)); refine blk_put (cs := #[.string (⟨#[]⟩ : ByteArray), .slice none 0 0]) ?_ 0 _ rfl; (with_reducible repeat (first | refine blk_drewN ?_ _ | refine blk_drew ?_ | refine blk_alloc ?_ _)); exact BK235.out⟩
           have n6_ : Aside0 (Below w.heap.size w ((w44.setCell ⟨gb235, 0, none⟩ (.string ((rd_T53 l0 x39_3).f0))).setCell ⟨gb235, 1, none⟩ (.slice A234_1 ((rd_T53 l0 x39_3).f1).length c234_1))) := ⟨bw_ HB.out⟩
           (try clear HO_6)
           (try clear HO_7)
           (try clear HO_8)
           (try clear HO_11)
           (try clear BK227)
           (try clear BK235)
           (try clear HB)
           generalize ((w44.setCell ⟨gb235, 0, none⟩ (.string ((rd_T53 l0 x39_3).f0))).setCell ⟨gb235, 1, none⟩ (.slice A234_1 ((rd_T53 l0 x39_3).f1).length c234_1)) = w47 at n0_ n1_ n2_ n3_ n4_ n5_ n6_ ⊢
           have HO_6 := n0_
           have HO_7 := n1_
           have HO_8 := n2_
           have HO_11 := n3_
           have BK227 := n4_
           have BK235 := n5_
           have HB := n6_
           clear n0_ n1_ n2_ n3_ n4_ n5_ n6_
           have n0_ := am_ (Kd.R_drew HO_6.out)
           have n1_ := am_ (Kd.R_drew HO_7.out)
           have n2_ := am_ (Kd.R_drew HO_8.out)
           have n3_ := am_ (Kd.R_drew HO_11.out)
           have n4_ := am_ (blk_drew BK227.out)
           have n5_ := am_ (blk_drew BK235.out)
           have n6_ := am_ (below_drew1 HB.out)
           replace HO_6 := n0_
           replace HO_7 := n1_
           replace HO_8 := n2_
           replace HO_11 := n3_
           replace BK227 := n4_
           replace BK235 := n5_
           replace HB := n6_
           clear n0_ n1_ n2_ n3_ n4_ n5_ n6_
           obtain ⟨Ao49, co49, eo49⟩ := Kd.R_slice HO_11.out
           (first | subst eo49 | (injection eo49 with f1_ f2_ f3_; have f4_ := f1_.symm; have f5_ := f3_.symm; clear f1_ f2_ f3_; subst f4_; subst f5_))
           have p236 : 0 ≤ (x39_3 : Int) := od_
           have q236 : x39_3 < (t231.length : Int) := od_
           obtain ⟨ad236, e236, hx236_0⟩ := Kd.at_bool (Kd.R_reads' HO_11.out).2.2 x39_3 p236 q236
           cases e236
           replace p236 := eq_true p236
           replace q236 := eq_true q236
           obtain ⟨Ao50, co50, eo50⟩ := Kd.R_slice HO_8.out
           (first | subst eo50 | (injection eo50 with f1_ f2_ f3_; have f4_ := f1_.symm; have f5_ := f3_.symm; clear f1_ f2_ f3_; subst f4_; subst f5_))
           have p237 : 0 ≤ (x39_3 : Int) := od_
           have q237 : x39_3 < (x8_2.length : Int) := od_
           obtain ⟨ad237, e237, hx237_0⟩ := Kd.at_bool (Kd.R_reads' HO_8.out).2.2 x39_3 p237 q237
           cases e237
           replace p237 := eq_true p237
           replace q237 := eq_true q237
           refine start_ (n := 9) (S := fun w' => w'.cell? (ad236.add (x39_3).toNat) = some (.bool (rdOf false t231 x39_3)) ∧ w'.cell? (ad237.add (x39_3).toNat) = some (.bool (rdOf false x8_2 x39_3))) (ds := []) (Array.replicate 9 false) (by kernel_rfl) rfl rfl ⟨hx236_0, hx237_0⟩ (fun hHeld => ?_); refine with_tabW spec_MeantBy.tab14 spec_MeantBy.bits14 (fun HT_ HW_ => ?_)
           generalize w47.drew = w48 at HO_6 HO_7 HO_8 HO_11 BK227 BK235 HB hx236_0 hx237_0 hHeld ⊢
           refine pS_ 0 44 HT_ ?_
           refine pS_ 1 45 HT_ ?_
           refine pS_ 2 46 HT_ ?_
           refine pS_ 4 48 HT_ ?_
           refine pS_ 5 49 HT_ ?_
           refine pS_ 6 50 HT_ ?_
           refine tS_ 3 47 HT_ HW_ hHeld ?_
           refine tS_ 7 51 HT_ HW_ hHeld ?_
           refine pS_ 8 52 HT_ ?_
           refine done_ (done_of HT_.out (by kernel_rfl)) ?_
           try go_wp2
           go_roundg k3
           case measure => have := HJ2.out; have := HK2.out; have := HK3.out; omega
           case rel => exact ⟨(x6_3), (wrap64 (x39_3 + 1)), sq_, H', ⟨by have := HJ2.out; have := HK2.out; have := HK3.out; omega⟩, ⟨ra_ HO_6.out⟩, ⟨ra_ HO_7.out⟩, ⟨ra_ HO_8.out⟩, ⟨ra_ HO_11.out⟩, ⟨bk_ BK227.out⟩, ⟨bw_ HB.out⟩⟩
         ·rw [if_neg c28] at H
          have c28b0 : decide (x39_3 < (l0.length : Int)) = false := decide_eq_false c28
          clear c28
          have H' := am_ H
          clear H
          go_wp2
          go_roundg k3
          case measure => have := HJ2.out; have := HK2.out; have := HK3.out; omega
          case rel => exact ⟨(x6_3), (t228), (t231), (wrap64 (x27_2 + 1)), sq_, H', ⟨by have := HJ2.out; have := HK2.out; have := HK3.out; omega⟩, ⟨ra_ HO_6.out⟩, ⟨ra_ HO_7.out⟩, ⟨ra_ (Kd.R_mono HO_11.out (fun _ hk => trivial))⟩, ⟨bw_ HB.out⟩⟩
      ·rw [if_neg c15] at H
       have c15b0 : decide (x27_2 < (l1.length : Int)) = false := decide_eq_false c15
       clear c15
       simp only [Option.some.injEq, Prod.mk.injEq] at H
       obtain ⟨rfl, rfl⟩ := H
       go_wp2
       go_ret2
       exact ⟨_, by first | rfl | (simp [errW_none, errW_some] <;> rfl) | (simp [*, errW_none, errW_some] <;> rfl), ra_ HO_6.out, bw_ HB.out⟩
end Go.Proofs.Ytfgdfnnddoncjaa.XFnExactMeantBy
