/- What the Go functions that this law comes to compute, each walked; written by a program of this session. -/
import Derived.Test.YtfgdfnnddoncjaaXShort
import Derived.Test.YtfgdfnnddoncjaaXMark
import Derived.Test.YtfgdfnnddoncjaaXFnExactRebindx0
import Derived.Test.YtfgdfnnddoncjaaXFnExactRebindx1
import Derived.Test.YtfgdfnnddoncjaaXFnExactRebindx2
namespace Go.Proofs.Ytfgdfnnddoncjaa.XFnExactRebind
open Go.RowKit Go.Proofs.YtfgdfnnddoncjaaW.PrintWords Go.Proofs.YtfgdfnnddoncjaaW.PrintLast Go.Proofs.YtfgdfnnddoncjaaW.PrintMore
attribute [local go_sem] str_geq max2_int min2_int max_two min_two max_three min_three max_four min_four   -- for this text's walks alone
set_option linter.unusedVariables false
set_option linter.unusedSimpArgs false

/-! ### spec_Rebind: function 6 -/
mutual
def spec_Rebind.j0 : Nat → List (S53) → ByteArray → List Int → Bool → Option ((List (S53)) × ByteArray × Bool)
 | 0, _, _, _, _ => none
 | k + 1, x0, x1, x2, x26 => if x26 = true then (some (([] : List (S53)), (⟨#[]⟩ : ByteArray), false)) else (spec_Rebind.l0 k x1 x2 (⟨#[]⟩ : ByteArray) ([] : List (S53)) false x0 (x0.length : Int) 0)
def spec_Rebind.l0 : Nat → ByteArray → List Int → ByteArray → List (S53) → Bool → List (S53) → Int → Int → Option ((List (S53)) × ByteArray × Bool)
 | 0, _, _, _, _, _, _, _, _ => none
 | k + 1, x1, x2, x9, x10, x11, x27, x28, x29 => if x29 < x28 then (if 0 ≤ x29 then (if x29 < (x27.length : Int) then (if x11 = true then (spec_Rebind.j2 k x1 x2 x9 x10 x11 x27 x28 x29 false ((rd_T53 x27 x29).f0) ((rd_T53 x27 x29).f1)) else (spec_Rebind.j2 k x1 x2 x9 x10 x11 x27 x28 x29 (!(Op.bytesLess (((rd_T53 x27 x29).f0).toList) x1.toList)) ((rd_T53 x27 x29).f0) ((rd_T53 x27 x29).f1))) else (none)) else (none)) else (if x11 = true then ((spec_GoodBinds.f k x10).bind fun t149 => (if t149 = true then (some (x10, x9, true)) else (some (([] : List (S53)), (⟨#[]⟩ : ByteArray), false)))) else ((some (([] : List Int) : List Int)).bind fun y150 => (if y150.length + x2.length < 17592186044416 then (if x10.length < 3518437208883 then ((some (x10 ++ [(⟨x1, (y150 ++ x2)⟩ : S53)] : List (S53))).bind fun y156 => ((spec_GoodBinds.f k y156).bind fun t159 => (if t159 = true then (some (y156, x9, true)) else (some (([] : List (S53)), (⟨#[]⟩ : ByteArray), false))))) else (none)) else (none))))
def spec_Rebind.j2 : Nat → ByteArray → List Int → ByteArray → List (S53) → Bool → List (S53) → Int → Int → Bool → ByteArray → List Int → Option ((List (S53)) × ByteArray × Bool)
 | 0, _, _, _, _, _, _, _, _, _, _, _ => none
 | k + 1, x1, x2, x9, x10, x11, x27, x28, x29, x40, x130000, x130001 => if x40 = true then ((some (([] : List Int) : List Int)).bind fun y130 => (if y130.length + x2.length < 17592186044416 then (if x10.length < 3518437208883 then (spec_Rebind.j3 k x1 x2 x9 (x10 ++ [(⟨x1, (y130 ++ x2)⟩ : S53)]) true x27 x28 x29 x130000 x130001) else (none)) else (none))) else (spec_Rebind.j3 k x1 x2 x9 x10 x11 x27 x28 x29 x130000 x130001)
def spec_Rebind.j3 : Nat → ByteArray → List Int → ByteArray → List (S53) → Bool → List (S53) → Int → Int → ByteArray → List Int → Option ((List (S53)) × ByteArray × Bool)
 | 0, _, _, _, _, _, _, _, _, _, _ => none
 | k + 1, x1, x2, x9, x10, x11, x27, x28, x29, x130000, x130001 => if x130000.toList = x1.toList then (spec_Rebind.l0 k x1 x2 x9 x10 x11 x27 x28 (wrap64 (x29 + 1))) else ((spec_l17Same.f k x130001 x2).bind fun t139 => (if t139 = true then (spec_Rebind.l0 k x1 x2 x130000 x10 x11 x27 x28 (wrap64 (x29 + 1))) else ((some (([] : List Int) : List Int)).bind fun y140 => (if y140.length + x130001.length < 17592186044416 then (if x10.length < 3518437208883 then (spec_Rebind.l0 k x1 x2 x9 (x10 ++ [(⟨x130000, (y140 ++ x130001)⟩ : S53)]) x11 x27 x28 (wrap64 (x29 + 1))) else (none)) else (none)))))
end
def spec_Rebind.f (k : Nat) (l0 : List (S53)) (a1 : ByteArray) (l2 : List Int) : Option ((List (S53)) × ByteArray × Bool) := (spec_GoodBinds.f k l0).bind fun t125 => (if t125 = true then ((spec_GoodName.f k a1).bind fun t126 => (if t126 = true then ((spec_l17Chord.f k l2).bind fun t127 => (spec_Rebind.j0 k l0 a1 l2 (!t127))) else (spec_Rebind.j0 k l0 a1 l2 true))) else (spec_Rebind.j0 k l0 a1 l2 true))
theorem spec_Rebind.mono_l : ∀ k, (∀ y0 y1 y2 y3, LeO (spec_Rebind.j0 k y0 y1 y2 y3) (spec_Rebind.j0 (k + 1) y0 y1 y2 y3)) ∧ (∀ y0 y1 y2 y3 y4 y5 y6 y7, LeO (spec_Rebind.l0 k y0 y1 y2 y3 y4 y5 y6 y7) (spec_Rebind.l0 (k + 1) y0 y1 y2 y3 y4 y5 y6 y7)) ∧ (∀ y0 y1 y2 y3 y4 y5 y6 y7 y8 y9 y10, LeO (spec_Rebind.j2 k y0 y1 y2 y3 y4 y5 y6 y7 y8 y9 y10) (spec_Rebind.j2 (k + 1) y0 y1 y2 y3 y4 y5 y6 y7 y8 y9 y10)) ∧ (∀ y0 y1 y2 y3 y4 y5 y6 y7 y8 y9, LeO (spec_Rebind.j3 k y0 y1 y2 y3 y4 y5 y6 y7 y8 y9) (spec_Rebind.j3 (k + 1) y0 y1 y2 y3 y4 y5 y6 y7 y8 y9))
 | 0 => ⟨fun _ _ _ _ r h => by simp [spec_Rebind.j0] at h, fun _ _ _ _ _ _ _ _ r h => by simp [spec_Rebind.l0] at h, fun _ _ _ _ _ _ _ _ _ _ _ r h => by simp [spec_Rebind.j2] at h, fun _ _ _ _ _ _ _ _ _ _ r h => by simp [spec_Rebind.j3] at h⟩
 | k + 1 => by
  obtain ⟨ih0, ih1, ih2, ih3⟩ := spec_Rebind.mono_l k
  refine ⟨?_, ?_, ?_, ?_⟩
  ·intro y0 y1 y2 y3
   unfold spec_Rebind.j0
   repeat' first
   | (with_reducible exact ih0 _ _ _ _)
   | (with_reducible exact ih1 _ _ _ _ _ _ _ _)
   | (with_reducible exact ih2 _ _ _ _ _ _ _ _ _ _ _)
   | (with_reducible exact ih3 _ _ _ _ _ _ _ _ _ _)
   | (with_reducible exact spec_GoodBinds.mono _ _)
   | (with_reducible exact spec_GoodName.mono _ _)
   | (with_reducible exact spec_l17Chord.mono _ _)
   | (with_reducible exact spec_l17Same.mono _ _ _)
   | (with_reducible exact LeO.refl _)
   | (with_reducible exact LeO.none _)
   | (with_reducible refine LeO.ite ?_ ?_)
   | (with_reducible refine LeO.bind ?_ (fun _ => ?_))
   | exact ih0 _ _ _ _
   | exact ih1 _ _ _ _ _ _ _ _
   | exact ih2 _ _ _ _ _ _ _ _ _ _ _
   | exact ih3 _ _ _ _ _ _ _ _ _ _
   | exact spec_GoodBinds.mono _ _
   | exact spec_GoodName.mono _ _
   | exact spec_l17Chord.mono _ _
   | exact spec_l17Same.mono _ _ _
   | exact LeO.none _
   | refine LeO.ite ?_ ?_
   | refine LeO.bind ?_ (fun _ => ?_)
  ·intro y0 y1 y2 y3 y4 y5 y6 y7
   unfold spec_Rebind.l0
   repeat' first
   | (with_reducible exact ih0 _ _ _ _)
   | (with_reducible exact ih1 _ _ _ _ _ _ _ _)
   | (with_reducible exact ih2 _ _ _ _ _ _ _ _ _ _ _)
   | (with_reducible exact ih3 _ _ _ _ _ _ _ _ _ _)
   | (with_reducible exact spec_GoodBinds.mono _ _)
   | (with_reducible exact spec_GoodName.mono _ _)
   | (with_reducible exact spec_l17Chord.mono _ _)
   | (with_reducible exact spec_l17Same.mono _ _ _)
   | (with_reducible exact LeO.refl _)
   | (with_reducible exact LeO.none _)
   | (with_reducible refine LeO.ite ?_ ?_)
   | (with_reducible refine LeO.bind ?_ (fun _ => ?_))
   | exact ih0 _ _ _ _
   | exact ih1 _ _ _ _ _ _ _ _
   | exact ih2 _ _ _ _ _ _ _ _ _ _ _
   | exact ih3 _ _ _ _ _ _ _ _ _ _
   | exact spec_GoodBinds.mono _ _
   | exact spec_GoodName.mono _ _
   | exact spec_l17Chord.mono _ _
   | exact spec_l17Same.mono _ _ _
   | exact LeO.none _
   | refine LeO.ite ?_ ?_
   | refine LeO.bind ?_ (fun _ => ?_)
  ·intro y0 y1 y2 y3 y4 y5 y6 y7 y8 y9 y10
   unfold spec_Rebind.j2
   repeat' first
   | (with_reducible exact ih0 _ _ _ _)
   | (with_reducible exact ih1 _ _ _ _ _ _ _ _)
   | (with_reducible exact ih2 _ _ _ _ _ _ _ _ _ _ _)
   | (with_reducible exact ih3 _ _ _ _ _ _ _ _ _ _)
   | (with_reducible exact spec_GoodBinds.mono _ _)
   | (with_reducible exact spec_GoodName.mono _ _)
   | (with_reducible exact spec_l17Chord.mono _ _)
   | (with_reducible exact spec_l17Same.mono _ _ _)
   | (with_reducible exact LeO.refl _)
   | (with_reducible exact LeO.none _)
   | (with_reducible refine LeO.ite ?_ ?_)
   | (with_reducible refine LeO.bind ?_ (fun _ => ?_))
   | exact ih0 _ _ _ _
   | exact ih1 _ _ _ _ _ _ _ _
   | exact ih2 _ _ _ _ _ _ _ _ _ _ _
   | exact ih3 _ _ _ _ _ _ _ _ _ _
   | exact spec_GoodBinds.mono _ _
   | exact spec_GoodName.mono _ _
   | exact spec_l17Chord.mono _ _
   | exact spec_l17Same.mono _ _ _
   | exact LeO.none _
   | refine LeO.ite ?_ ?_
   | refine LeO.bind ?_ (fun _ => ?_)
  ·intro y0 y1 y2 y3 y4 y5 y6 y7 y8 y9
   unfold spec_Rebind.j3
   repeat' first
   | (with_reducible exact ih0 _ _ _ _)
   | (with_reducible exact ih1 _ _ _ _ _ _ _ _)
   | (with_reducible exact ih2 _ _ _ _ _ _ _ _ _ _ _)
   | (with_reducible exact ih3 _ _ _ _ _ _ _ _ _ _)
   | (with_reducible exact spec_GoodBinds.mono _ _)
   | (with_reducible exact spec_GoodName.mono _ _)
   | (with_reducible exact spec_l17Chord.mono _ _)
   | (with_reducible exact spec_l17Same.mono _ _ _)
   | (with_reducible exact LeO.refl _)
   | (with_reducible exact LeO.none _)
   | (with_reducible refine LeO.ite ?_ ?_)
   | (with_reducible refine LeO.bind ?_ (fun _ => ?_))
   | exact ih0 _ _ _ _
   | exact ih1 _ _ _ _ _ _ _ _
   | exact ih2 _ _ _ _ _ _ _ _ _ _ _
   | exact ih3 _ _ _ _ _ _ _ _ _ _
   | exact spec_GoodBinds.mono _ _
   | exact spec_GoodName.mono _ _
   | exact spec_l17Chord.mono _ _
   | exact spec_l17Same.mono _ _ _
   | exact LeO.none _
   | refine LeO.ite ?_ ?_
   | refine LeO.bind ?_ (fun _ => ?_)
theorem spec_Rebind.mono : ∀ a0 a1 a2 k, LeO (spec_Rebind.f k a0 a1 a2) (spec_Rebind.f (k + 1) a0 a1 a2) := by
 intro a0 a1 a2 k
 obtain ⟨ih0, ih1, ih2, ih3⟩ := spec_Rebind.mono_l k
 unfold spec_Rebind.f
 repeat' first
   | (with_reducible exact ih0 _ _ _ _)
   | (with_reducible exact ih1 _ _ _ _ _ _ _ _)
   | (with_reducible exact ih2 _ _ _ _ _ _ _ _ _ _ _)
   | (with_reducible exact ih3 _ _ _ _ _ _ _ _ _ _)
   | (with_reducible exact spec_GoodBinds.mono _ _)
   | (with_reducible exact spec_GoodName.mono _ _)
   | (with_reducible exact spec_l17Chord.mono _ _)
   | (with_reducible exact spec_l17Same.mono _ _ _)
   | (with_reducible exact LeO.refl _)
   | (with_reducible exact LeO.none _)
   | (with_reducible refine LeO.ite ?_ ?_)
   | (with_reducible refine LeO.bind ?_ (fun _ => ?_))
   | exact ih0 _ _ _ _
   | exact ih1 _ _ _ _ _ _ _ _
   | exact ih2 _ _ _ _ _ _ _ _ _ _ _
   | exact ih3 _ _ _ _ _ _ _ _ _ _
   | exact spec_GoodBinds.mono _ _
   | exact spec_GoodName.mono _ _
   | exact spec_l17Chord.mono _ _
   | exact spec_l17Same.mono _ _ _
   | exact LeO.none _
   | refine LeO.ite ?_ ?_
   | refine LeO.bind ?_ (fun _ => ?_)
def spec_Rebind.T15 : Bool × List (List Nat × List Nat) := (true, [([], []), ([], []), ([1], [1]), ([], []), ([], []), ([4], [4]), ([3, 5], [3, 5]), ([2, 6], [2, 6]), ([7], [7]), ([0, 8, 6], [0, 8]), ([9, 9, 0, 1, 2, 3, 4, 5, 6, 7, 8, 9], [0, 9])])
def spec_Rebind.B15 : List Nat := [0, 0, 2, 0, 0, 16, 56, 126, 254, 511, 1023]
theorem spec_Rebind.tab15 : rtab .any (opsOf Try.f6 15) = spec_Rebind.T15 := by kernel_rfl
theorem spec_Rebind.bits15 : waitsOk spec_Rebind.T15.2 spec_Rebind.B15 = true := by kernel_rfl
set_option maxHeartbeats 8000000 in
set_option maxRecDepth 100000 in
theorem spec_Rebind.calls (k : Nat) (A0 : Option Addr) (c0 : Nat) (l0 : List (S53)) (a1 : ByteArray) (A2 : Option Addr) (c2 : Nat) (l2 : List Int) (r1 : List (S53)) (r2 : ByteArray) (r3 : Bool) (w : World) (hr0 : Kd.C k53 w A0 l0.length l0) (hc0 : l0.length ≤ c0) (hr2 : Kd.C (Kd.int .i64) w A2 l2.length l2) (hc2 : l2.length ≤ c2) (h : spec_Rebind.f k l0 a1 l2 = some (r1, r2, r3)) :
  Calls Try.prog 6 #[.slice A0 l0.length c0, .string a1, .slice A2 l2.length c2] w fun e w' => ∃ v0_ : Value, e = .returned (.tuple #[v0_, .string r2, .bool r3]) ∧ Kd.S k53 53 w' w.heap.size (fun _ => True) v0_ r1 ∧ Below w.heap.size w w' := by
 have hu53 := Try.underlying53
 have HR0 := am_ hr0
 have HC0 := am_ hc0
 clear hr0 hc0
 have HR2 := am_ hr2
 have HC2 := am_ hc2
 clear hr2 hc2
 have HB := am_ (Below.refl w.heap.size w)
 have H : ((spec_GoodBinds.f k l0).bind fun t125 => (if t125 = true then ((spec_GoodName.f k a1).bind fun t126 => (if t126 = true then ((spec_l17Chord.f k l2).bind fun t127 => (spec_Rebind.j0 k l0 a1 l2 (!t127))) else (spec_Rebind.j0 k l0 a1 l2 true))) else (spec_Rebind.j0 k l0 a1 l2 true))) = some (r1, r2, r3) := h
 clear h
 have HC4 := am_ H
 clear H
 go_enter Try.func6, Try.ntmps6
 go_upto_region 1 with (fail)
 go_cut [26] (fun v26 wc => ∃ (kq : Nat) (x26_3 : Bool), v26 = .bool x26_3 ∧ Aside0 (spec_Rebind.j0 kq l0 a1 l2 x26_3 = some (r1, r2, r3)) ∧ Aside0 (kq ≤ k) ∧ Aside0 (Below w.heap.size w wc))
 case first =>
  have H := HC4.out
  clear HC4
  obtain ⟨t125, A50, H⟩ := bE_ H
  have A5 := am_ A50
  clear A50
  by_cases c6 : t125 = true
  ·subst c6
   replace H := it_ H rfl
   obtain ⟨t126, A70, H⟩ := bE_ H
   have A7 := am_ A70
   clear A70
   by_cases c8 : t126 = true
   ·subst c8
    replace H := it_ H rfl
    obtain ⟨t127, A90, H⟩ := bE_ H
    have A9 := am_ A90
    clear A90
    have H' := am_ H
    clear H
    go_wp2_with (first | ((with_reducible refine gate_callee (f := 25) rfl ?_); refine goesL_ (some 15) rfl rfl Try.func25 (by kernel_rfl) rfl #[.slice A0 l0.length c0] rfl (by (try simp only [List.map_toArray, List.map_cons, List.map_nil]); first | done | rfl | (simp only [List.length_drop, List.length_take]; rfl)) ?_; (with_reducible refine (spec_GoodBinds.calls k _ _ l0 true _ ?side1 ?side2 A5.out).mono ?_); (case side1 => repeat (first | exact (Kd.C_below HR0.out HB.out) | (with_reducible refine Kd.C_alloc ?_ _) | (with_reducible refine Kd.C_drewN ?_ _) | (with_reducible refine Kd.C_drew ?_))); (case side2 => exact HC0.out); rintro e w10 ⟨rfl, hb⟩; refine ⟨_, rfl, ?_⟩; have n0_ := am_ (below_step (bw_ HB.out) hb); replace HB := n0_; clear n0_; (try clear hb); (try clear hb2); (try clear hk); (try clear hi)) | (go_at_call 26; (with_reducible refine (spec_GoodName.calls k a1 true _ A7.out).mono ?_); rintro e w' ⟨rfl, ⟨nd, rfl⟩⟩) | (go_at_call 27; (with_reducible refine (spec_l17Chord.calls k _ _ l2 t127 _ ?side1 ?side2 A9.out).mono ?_); (case side1 => repeat (first | exact (Kd.C_below HR2.out (bw_ HB.out)) | (with_reducible refine Kd.C_alloc ?_ _) | (with_reducible refine Kd.C_drewN ?_ _) | (with_reducible refine Kd.C_drew ?_))); (case side2 => exact HC2.out); rintro e w' ⟨rfl, ⟨nd, rfl⟩⟩))
    go_meet
    case rel => exact ⟨_, (!t127), sq_, H', ⟨by first | omega | exact Nat.le_refl _⟩, ⟨bw_ HB.out⟩⟩
   ·replace c8 := Bool.eq_false_iff.mpr c8
    subst c8
    replace H := if_ H Bool.false_ne_true
    have H' := am_ H
    clear H
    go_wp2_with (first | ((with_reducible refine gate_callee (f := 25) rfl ?_); refine goesL_ (some 15) rfl rfl Try.func25 (by kernel_rfl) rfl #[.slice A0 l0.length c0] rfl (by (try simp only [List.map_toArray, List.map_cons, List.map_nil]); first | done | rfl | (simp only [List.length_drop, List.length_take]; rfl)) ?_; (with_reducible refine (spec_GoodBinds.calls k _ _ l0 true _ ?side1 ?side2 A5.out).mono ?_); (case side1 => repeat (first | exact (Kd.C_below HR0.out HB.out) | (with_reducible refine Kd.C_alloc ?_ _) | (with_reducible refine Kd.C_drewN ?_ _) | (with_reducible refine Kd.C_drew ?_))); (case side2 => exact HC0.out); rintro e w11 ⟨rfl, hb⟩; refine ⟨_, rfl, ?_⟩; have n0_ := am_ (below_step (bw_ HB.out) hb); replace HB := n0_; clear n0_; (try clear hb); (try clear hb2); (try clear hk); (try clear hi)) | (go_at_call 26; (with_reducible refine (spec_GoodName.calls k a1 false _ A7.out).mono ?_); rintro e w' ⟨rfl, ⟨nd, rfl⟩⟩))
    go_meet
    case rel => exact ⟨_, (true), sq_, H', ⟨by first | omega | exact Nat.le_refl _⟩, ⟨bw_ HB.out⟩⟩
  ·replace c6 := Bool.eq_false_iff.mpr c6
   subst c6
   replace H := if_ H Bool.false_ne_true
   have H' := am_ H
   clear H
   go_wp2_with (first | ((with_reducible refine gate_callee (f := 25) rfl ?_); refine goesL_ (some 15) rfl rfl Try.func25 (by kernel_rfl) rfl #[.slice A0 l0.length c0] rfl (by (try simp only [List.map_toArray, List.map_cons, List.map_nil]); first | done | rfl | (simp only [List.length_drop, List.length_take]; rfl)) ?_; (with_reducible refine (spec_GoodBinds.calls k _ _ l0 false _ ?side1 ?side2 A5.out).mono ?_); (case side1 => repeat (first | exact (Kd.C_below HR0.out HB.out) | (with_reducible refine Kd.C_alloc ?_ _) | (with_reducible refine Kd.C_drewN ?_ _) | (with_reducible refine Kd.C_drew ?_))); (case side2 => exact HC0.out); rintro e w12 ⟨rfl, hb⟩; refine ⟨_, rfl, ?_⟩; have n0_ := am_ (below_step (bw_ HB.out) hb); replace HB := n0_; clear n0_; (try clear hb); (try clear hb2); (try clear hk); (try clear hi)))
   go_meet
   case rel => exact ⟨_, (true), sq_, H', ⟨by first | omega | exact Nat.le_refl _⟩, ⟨bw_ HB.out⟩⟩
 case rest =>
  clear HC4
  try clear c2
  obtain ⟨kq, x26_3, rfl, HA, HJ3, HB⟩ := hcut
  cases kq with
  | zero => exact absurd HA.out (by simp [spec_Rebind.j0])
  | succ kj3 =>
   have H := HA.out
   clear HA
   simp only [spec_Rebind.j0] at H
   by_cases c13 : x26_3 = true
   ·subst c13
    replace H := it_ H rfl
    simp only [Option.some.injEq, Prod.mk.injEq] at H
    obtain ⟨rfl, rfl, rfl⟩ := H
    go_wp2
    go_ret3
    exact ⟨_, by first | rfl | (simp [errW_none, errW_some] <;> rfl) | (simp [*, errW_none, errW_some] <;> rfl), by first | exact Kd.S_nil _ _ _ _ _ | exact Kd.N_nil _ _ _ _ _ | exact Kd.V_nil _ _ _ _ _ | exact Kd.Q_nil _ _ _ _ _ | exact Kd.R_nil _ _ _ _ _, bw_ HB.out⟩
   ·replace c13 := Bool.eq_false_iff.mpr c13
    subst c13
    replace H := if_ H Bool.false_ne_true
    have H' := am_ H
    clear H
    go_wp2
    go_loopg [9, 10, 11, 29] kj3 (fun kq v9 v10 v11 v29 w' => ∃ (x9_2 : ByteArray) (x10_2 : List (S53)) (x11_2 : Bool) (x29_2 : Int), v9 = .string x9_2 ∧ v11 = .bool x11_2 ∧ v29 = .int .i64 x29_2 ∧ Aside0 (spec_Rebind.l0 kq a1 l2 x9_2 x10_2 x11_2 l0 (l0.length : Int) x29_2 = some (r1, r2, r3)) ∧ Aside0 (kq ≤ kj3) ∧ Aside0 (Kd.S k53 53 w' w.heap.size (fun _ => True) v10 x10_2) ∧ Aside0 (Below w.heap.size w w'))
    case atStart => exact ⟨((⟨#[]⟩ : ByteArray)), (([] : List (S53))), (false), (0), sq_, sq_, sq_, H', ⟨Nat.le_refl _⟩, ⟨by first | exact Kd.S_nil _ _ _ _ _ | exact Kd.N_nil _ _ _ _ _ | exact Kd.V_nil _ _ _ _ _ | exact Kd.Q_nil _ _ _ _ _ | exact Kd.R_nil _ _ _ _ _⟩, ⟨bw_ HB.out⟩⟩
    case round =>
     clear H'
     try clear c2
     try clear c13
     obtain ⟨x9_2, x10_2, x11_2, x29_2, rfl, rfl, rfl, HA, HK2, HO_10, HB⟩ := hrel
     cases gk with
     | zero => exact absurd HA.out (by simp [spec_Rebind.l0])
     | succ k2 =>
      have H := HA.out
      clear HA
      simp only [spec_Rebind.l0] at H
      by_cases c14 : x29_2 < (l0.length : Int)
      ·rw [if_pos c14] at H
       have c14b0 : decide (x29_2 < (l0.length : Int)) = true := decide_eq_true c14
       clear c14
       obtain ⟨c15, H⟩ := ifn_ H
       have c15b0 : decide (0 ≤ x29_2) = true := decide_eq_true c15
       clear c15
       obtain ⟨c16, H⟩ := ifn_ H
       have c16b0 : decide (x29_2 < (l0.length : Int)) = true := decide_eq_true c16
       clear c16
       have HC17 := am_ H
       clear H
       have p128 : 0 ≤ (x29_2 : Int) := od_
       have q128 : x29_2 < (l0.length : Int) := od_
       obtain ⟨ad128, A128_1, c128_1, e128, hx128_0, hx128_1, hl128_1, hi128_1⟩ := at_T53 HR0.out x29_2 p128 q128
       cases e128
       (try replace hx128_0 := hc_ HB.out hx128_0)
       (try replace hx128_1 := hc_ HB.out hx128_1)
       have HR128_1 := am_ hi128_1
       have HC128_1 := am_ hl128_1
       clear hi128_1 hl128_1
       replace p128 := eq_true p128
       replace q128 := eq_true q128
       go_upto_region 9 with (first | ((with_reducible refine gate_dst (N := 13) rfl ?_); refine bx_ 13 #[.string (⟨#[]⟩ : ByteArray), .slice none 0 0] 53 ?_; intro gb129 hg w18 hbox hb; have n0_ := am_ (Kd.S_below (Kd.S_elderB (by (with_reducible repeat (first | apply Kd.S_alloc | apply Kd.S_drewN | apply Kd.S_drew)); exact HO_10.out) gb129 (Nat.le_of_eq hg.symm)) hb); have n1_ := am_ (below_step (bw_ HB.out) hb); have n2_ := am_ (hbox); have n3_ := am_ (gs_ hg (bw_ HB.out)); have n4_ := am_ (gs_ hg (bw_ HB.out)); replace HO_10 := n0_; replace HB := n1_; have BK129 := n2_; have GW129 := n3_; have GE129 := n4_; clear n0_ n1_ n2_ n3_ n4_; clear hb hbox hg; have hcz19_0 := cz_ BK129.out 0; have hcz19_1 := cz_ BK129.out 1; have hfz19_0 := blk_frozen BK129.out 0; have hfz19_1 := blk_frozen BK129.out 1))
       (try simp only [Act.put, List.setIfInBounds_toArray, List.set_cons_zero, List.set_cons_succ])
       go_cut [40] (fun v40 wc => ∃ (kq : Nat) (x40_16 : Bool), v40 = .bool x40_16 ∧ Aside0 (spec_Rebind.j2 kq a1 l2 x9_2 x10_2 x11_2 l0 (l0.length : Int) x29_2 x40_16 ((rd_T53 l0 x29_2).f0) ((rd_T53 l0 x29_2).f1) = some (r1, r2, r3)) ∧ Aside0 (kq ≤ k2) ∧ Aside0 (Kd.S k53 53 wc w.heap.size (fun k_ => k_ ≠ gb129) u10 x10_2) ∧ Aside0 (wc.heap[gb129]? = some (.cells #[.string ((rd_T53 l0 x29_2).f0), (.slice A128_1 ((rd_T53 l0 x29_2).f1).length c128_1)] 53 (0, 0))) ∧ Aside0 (Below w.heap.size w wc))
       case first =>
        have H := HC17.out
        clear HC17
        by_cases c20 : x11_2 = true
        ·subst c20
         replace H := it_ H rfl
         have H' := am_ H
         clear H
         go_wp2
         go_meet
         case rel => exact ⟨_, (false), sq_, H', ⟨by have := HJ3.out; have := HK2.out; first | omega | exact Nat.le_refl _⟩, ⟨by (with_reducible repeat (first | apply Kd.S_alloc | apply Kd.S_drewN | apply Kd.S_drew)); exact Kd.S_mono (Kd.S_far (p := ⟨gb129, 1, none⟩) (Kd.S_far (p := ⟨gb129, 0, none⟩) (Kd.S_mono HO_10.out (fun k_ hk => (⟨hk, hk.2⟩ : _ ∧ k_ ≠ gb129))) (fun _ hk => hk.2) (.string ((rd_T53 l0 x29_2).f0))) (fun _ hk => hk.2) (.slice A128_1 ((rd_T53 l0 x29_2).f1).length c128_1)) (fun _ hk => hk.1.2)⟩, ⟨by (with_reducible repeat (first | refine blk_drewN ?_ _ | refine blk_drew ?_ | refine blk_alloc ?_ _)); refine blk_put (cs := #[.string ((rd_T53 l0 x29_2).f0), .slice none 0 0]) ?_ 1 _ rfl; (with_reducible repeat (first | refine blk_drewN ?_ _ | refine blk_drew ?_ | refine blk_alloc ?_ _)); refine blk_put (cs := #[.string (⟨#[]⟩ : ByteArray), .slice none 0 0]) ?_ 0 _ rfl; (with_reducible repeat (first | refine blk_drewN ?_ _ | refine blk_drew ?_ | refine blk_alloc ?_ _)); exact BK129.out⟩, ⟨bw_ HB.out⟩⟩
        ·replace c20 := Bool.eq_false_iff.mpr c20
         subst c20
         replace H := if_ H Bool.false_ne_true
         have H' := am_ H
         clear H
         have hcz21_0 := cz_ BK129.out 0
         have hcz21_1 := cz_ BK129.out 1
         have hfz21_0 := blk_frozen BK129.out 0
         have hfz21_1 := blk_frozen BK129.out 1
         go_wp2
         go_meet
         case rel => exact ⟨_, (!(Op.bytesLess (((rd_T53 l0 x29_2).f0).toList) a1.toList)), sq_, H', ⟨by have := HJ3.out; have := HK2.out; first | omega | exact Nat.le_refl _⟩, ⟨by (with_reducible repeat (first | apply Kd.S_alloc | apply Kd.S_drewN | apply Kd.S_drew)); exact Kd.S_mono (Kd.S_far (p := ⟨gb129, 1, none⟩) (Kd.S_far (p := ⟨gb129, 0, none⟩) (Kd.S_mono HO_10.out (fun k_ hk => (⟨hk, hk.2⟩ : _ ∧ k_ ≠ gb129))) (fun _ hk => hk.2) (.string ((rd_T53 l0 x29_2).f0))) (fun _ hk => hk.2) (.slice A128_1 ((rd_T53 l0 x29_2).f1).length c128_1)) (fun _ hk => hk.1.2)⟩, ⟨by (with_reducible repeat (first | refine blk_drewN ?_ _ | refine blk_drew ?_ | refine blk_alloc ?_ _)); refine blk_put (cs := #[.string ((rd_T53 l0 x29_2).f0), .slice none 0 0]) ?_ 1 _ rfl; (with_reducible repeat (first | refine blk_drewN ?_ _ | refine blk_drew ?_ | refine blk_alloc ?_ _)); refine blk_put (cs := #[.string (⟨#[]⟩ : ByteArray), .slice none 0 0]) ?_ 0 _ rfl; (with_reducible repeat (first | refine blk_drewN ?_ _ | refine blk_drew ?_ | refine blk_alloc ?_ _)); exact BK129.out⟩, ⟨bw_ HB.out⟩⟩
       case rest =>
        clear HC17
        try clear c2
        try clear c13
        try clear c14
        try clear c14b0
        try clear c15
        try clear c15b0
        try clear c16
        try clear c16b0
        try clear hcz19_0
        try clear hcz19_1
        try clear hfz19_0
        try clear hfz19_1
        try clear hx128_0
        try clear hx128_1
        try clear p128
        try clear q128
        obtain ⟨kq, x40_16, rfl, HA, HJ16, HO_10, BK129, HB⟩ := hcut
        cases kq with
        | zero => exact absurd HA.out (by simp [spec_Rebind.j2])
        | succ kj16 =>
         have H := HA.out
         clear HA
         simp only [spec_Rebind.j2] at H
         have HC22 := am_ H
         clear H
         go_upto_if 40 with (fail)
         go_cut [10, 11] (fun v10 v11 wc => ∃ (kq : Nat) (x10_21 : List (S53)) (x11_21 : Bool), v11 = .bool x11_21 ∧ Aside0 (spec_Rebind.j3 kq a1 l2 x9_2 x10_21 x11_21 l0 (l0.length : Int) x29_2 ((rd_T53 l0 x29_2).f0) ((rd_T53 l0 x29_2).f1) = some (r1, r2, r3)) ∧ Aside0 (kq ≤ kj16) ∧ Aside0 (Kd.S k53 53 wc w.heap.size (fun k_ => k_ ≠ gb129) v10 x10_21) ∧ Aside0 (wc.heap[gb129]? = some (.cells #[.string ((rd_T53 l0 x29_2).f0), (.slice A128_1 ((rd_T53 l0 x29_2).f1).length c128_1)] 53 (0, 0))) ∧ Aside0 (Below w.heap.size w wc))
         case first =>
          have H := HC22.out
          clear HC22
          by_cases c23 : x40_16 = true
          ·subst c23
           replace H := it_ H rfl
           obtain ⟨y130, hy130⟩ : ∃ y_ : List Int, y_ = (([] : List Int)) := ⟨_, rfl⟩
           replace H : (if y130.length + l2.length < 17592186044416 then (if x10_2.length < 3518437208883 then (spec_Rebind.j3 kj16 a1 l2 x9_2 (x10_2 ++ [(⟨a1, (y130 ++ l2)⟩ : S53)]) true l0 (l0.length : Int) x29_2 ((rd_T53 l0 x29_2).f0) ((rd_T53 l0 x29_2).f1)) else (none)) else (none)) = some (r1, r2, r3) := by first | (rw [hy130]; with_reducible exact H) | (have H2_ := (Option.bind_some _ _).symm.trans H; rw [hy130]; with_reducible exact H2_) | (have H2_ := (Option.bind_some _ _).symm.trans H; with_reducible exact H2_) | with_reducible exact H | (rw [hy130]; exact H) | exact H
           have Ny130 := am_ hy130
           clear hy130
           obtain ⟨c24, H⟩ := ifn_ H
           have LMc24 := am_ c24
           clear c24
           obtain ⟨y133, hy133⟩ : ∃ y_ : List Int, y_ = (y130 ++ l2) := ⟨_, rfl⟩
           replace H : (if x10_2.length < 3518437208883 then (spec_Rebind.j3 kj16 a1 l2 x9_2 (x10_2 ++ [(⟨a1, y133⟩ : S53)]) true l0 (l0.length : Int) x29_2 ((rd_T53 l0 x29_2).f0) ((rd_T53 l0 x29_2).f1)) else (none)) = some (r1, r2, r3) := by first | (rw [hy133]; with_reducible exact H) | (have H2_ := (Option.bind_some _ _).symm.trans H; rw [hy133]; with_reducible exact H2_) | (have H2_ := (Option.bind_some _ _).symm.trans H; with_reducible exact H2_) | with_reducible exact H | (rw [hy133]; exact H) | exact H
           have Ny133 := am_ hy133
           clear hy133
           obtain ⟨c25, H⟩ := ifn_ H
           have LMc25 := am_ c25
           clear c25
           obtain ⟨y136, hy136⟩ : ∃ y_ : List (S53), y_ = (x10_2 ++ [(⟨a1, y133⟩ : S53)]) := ⟨_, rfl⟩
           replace H : (spec_Rebind.j3 kj16 a1 l2 x9_2 y136 true l0 (l0.length : Int) x29_2 ((rd_T53 l0 x29_2).f0) ((rd_T53 l0 x29_2).f1)) = some (r1, r2, r3) := by first | (rw [hy136]; with_reducible exact H) | (have H2_ := (Option.bind_some _ _).symm.trans H; rw [hy136]; with_reducible exact H2_) | (have H2_ := (Option.bind_some _ _).symm.trans H; with_reducible exact H2_) | with_reducible exact H | (rw [hy136]; exact H) | exact H
           have Ny136 := am_ hy136
           clear hy136
           have H' := am_ H
           clear H
           go_wp2_with (first | ((with_reducible refine gate_dst (N := 43) rfl ?_); refine Kd.R_lit (Kd.int .i64) _ 3 ?hg (N := 43) ?hd (xs := ([] : List Int)) (inner := []) (ok := fun _ => True) (okp := fun _ => True) ?hr ?hp (fun _ hk => hk) trivial (Below.refl _ _) (Nat.le_refl _) (by simp) ?_; (case hd => rfl); (case hg => rfl); (case hr => first | (go_simp; done) | (go_simp; rfl)); (case hp => exact (Reps.none _ _)); intro v131 w26 ho27 hb hg_ hnew_; clear hg_ hnew_; (first | rw [← Ny130.out] at ho27 | (simp only [Int.reduceToNat] at ho27; rw [← Ny130.out] at ho27)); have n0_ := am_ (Kd.S_elder' (by (with_reducible repeat (first | apply Kd.S_alloc | apply Kd.S_drewN | apply Kd.S_drew)); exact HO_10.out) (Kd.R_base ho27) hb); have n1_ := am_ (Kd.R_lower ho27 (below_size (bw_ HB.out))); have n2_ := am_ (blk_below (bk_ BK129.out) hb); have n3_ := am_ (below_step (bw_ HB.out) hb); replace HO_10 := n0_; have HO132 := n1_; replace BK129 := n2_; replace HB := n3_; clear n0_ n1_ n2_ n3_; clear hb ho27) | ((with_reducible refine gate_builtin (b := .append) (xs := #[.tmp 43, .tmp 44]) rfl ?_); at_builtin; refine Kd.R_append_rows (Kd.int .i64) (w0 := w) w.heap.size rfl (.tmp 43) (.tmp 44) 23 3 (.int .i64 0) 8 rfl Try.underlying23 info3 rfl (by decide) (by omega) v131 y130 l2 _ _ _ (fun _ => True) (fun _ => False) rfl rfl ?aO ?aR (fun _ _ h => h) (fun _ h => h.elim) ?aF ?aB ?aS ?aL ?_; (case aR => repeat (first | exact (Kd.C_below HR2.out HB.out) | (with_reducible refine Kd.C_alloc ?_ _) | (with_reducible refine Kd.C_drewN ?_ _) | (with_reducible refine Kd.C_drew ?_))); (case aB => exact (bw_ HB.out)); (case aF => exact (fun _ _ => trivial)); (case aO => exact (ra_ HO132.out)); (case aS => exact (below_size (bw_ HB.out))); (case aL => have := LMc24.out; omega); intro v134 w28 ho hb hg hat; rw [← Ny133.out] at ho; have n0_ := am_ (Kd.S_after (ok := (fun k_ => k_ ≠ gb129)) (by (with_reducible repeat (first | apply Kd.S_alloc | apply Kd.S_drewN | apply Kd.S_drew)); exact HO_10.out) hg hat); have n1_ := am_ (blk_grown (bk_ BK129.out) hg (Kd.R_ne HO132.out BK129.out (by decide))); have n2_ := am_ (hb); have n3_ := am_ (ho); clear HO132; replace HO_10 := n0_; replace BK129 := n1_; replace HB := n2_; have HO135 := n3_; clear n0_ n1_ n2_ n3_; clear ho hb hg hat; obtain ⟨Ao29, co29, eo29⟩ := Kd.R_slice HO135.out; subst eo29) | ((with_reducible refine gate_builtin (b := .append) (xs := #[.tmp 41, .tmp 47]) rfl ?_); at_builtin; refine Kd.S_append k53 (w0 := w) w.heap.size rfl (.tmp 41) (.tmp 47) 25 53 (.agg #[(.string ⟨#[]⟩), (.slice none 0 0)]) 40 rfl Try.underlying25 info53 rfl (by decide) (by omega) u10 x10_2 (⟨a1, y133⟩ : S53) [.string a1, .slice Ao29 y133.length co29] (fun k_ => k_ ≠ gb129) (fun k_ => some k_ = (.slice Ao29 y133.length co29 : Value).ownBlock) rfl rfl ?aP (fun k_ hk_ => ((Kd.R_mono (ok' := fun k_ => ((fun k_ => k_ ≠ gb129)) k_ ∧ nb k_ u10) (Kd.R_types (Kd.R_apart' (HO135.out) (Kd.S_typed HO_10.out) (by decide)) BK129.out (by decide)) (fun k_ hk => ⟨hk.2, hk.1.2⟩))).1 k_ hk_.symm) ?aF ?aO ?aB ?aS ?aL ?_; (case aP => exact k53_mkM _ _ _ (⟨a1, y133⟩ : S53) (Kd.R_mono (Kd.R_tight rfl (Kd.R_mono (ok' := fun k_ => ((fun k_ => k_ ≠ gb129)) k_ ∧ nb k_ u10) (Kd.R_types (Kd.R_apart' (HO135.out) (Kd.S_typed HO_10.out) (by decide)) BK129.out (by decide)) (fun k_ hk => ⟨hk.2, hk.1.2⟩))) (fun _ h_ => h_))); (case aB => exact (bw_ HB.out)); (case aF => exact (fun k_ hk => Kd.freshB (bk_ BK129.out) k_ hk)); (case aO => exact (by (with_reducible repeat (first | apply Kd.S_alloc | apply Kd.S_drewN | apply Kd.S_drew)); exact Kd.S_mono HO_10.out (fun k_ hk => ⟨hk.1, fun e_ => hk.2 e_⟩))); (case aS => exact (below_size (bw_ HB.out))); (case aL => have := LMc25.out; omega); intro v137 w30 ho hb hg hat; rw [← Ny136.out] at ho; have n0_ := am_ (blk_grown (bk_ BK129.out) hg (Kd.S_away HO_10.out (fun _ hk => hk.1))); have n1_ := am_ (hb); have n2_ := am_ (ho); clear HO_10; clear HO135; replace BK129 := n0_; replace HB := n1_; have HO138 := n2_; clear n0_ n1_ n2_; clear ho hb hg hat))
           go_meet
           case rel => exact ⟨_, (y136), (true), sq_, H', ⟨by have := HJ3.out; have := HK2.out; have := HJ16.out; first | omega | exact Nat.le_refl _⟩, ⟨by (with_reducible repeat (first | apply Kd.S_alloc | apply Kd.S_drewN | apply Kd.S_drew)); exact HO138.out⟩, ⟨bk_ BK129.out⟩, ⟨bw_ HB.out⟩⟩
          ·replace c23 := Bool.eq_false_iff.mpr c23
           subst c23
           replace H := if_ H Bool.false_ne_true
           have H' := am_ H
           clear H
           go_wp2
           go_meet
           case rel => exact ⟨_, (x10_2), (x11_2), sq_, H', ⟨by have := HJ3.out; have := HK2.out; have := HJ16.out; first | omega | exact Nat.le_refl _⟩, ⟨by (with_reducible repeat (first | apply Kd.S_alloc | apply Kd.S_drewN | apply Kd.S_drew)); exact HO_10.out⟩, ⟨bk_ BK129.out⟩, ⟨bw_ HB.out⟩⟩
         case rest =>
          clear HC22
          try clear c2
          try clear c13
          try clear c14
          try clear c14b0
          try clear c15
          try clear c15b0
          try clear c16
          try clear c16b0
          try clear hcz19_0
          try clear hcz19_1
          try clear hfz19_0
          try clear hfz19_1
          try clear hx128_0
          try clear hx128_1
          try clear p128
          try clear q128
          obtain ⟨kq, x10_21, x11_21, rfl, HA, HJ21, HO_10, BK129, HB⟩ := hcut
          cases kq with
          | zero => exact absurd HA.out (by simp [spec_Rebind.j3])
          | succ kj21 =>
           have H := HA.out
           clear HA
           simp only [spec_Rebind.j3] at H
           by_cases c31 : ((rd_T53 l0 x29_2).f0).toList = a1.toList
           ·rw [if_pos c31] at H
            have c31b0 : (((rd_T53 l0 x29_2).f0).toList == a1.toList) = true := beq_iff_eq.mpr c31
            have c31b1 : (((rd_T53 l0 x29_2).f0).toList != a1.toList) = false := bne_eq_false_iff_eq.mpr c31
            clear c31
            have H' := am_ H
            clear H
            have hcz32_0 := cz_ BK129.out 0
            have hcz32_1 := cz_ BK129.out 1
            have hfz32_0 := blk_frozen BK129.out 0
            have hfz32_1 := blk_frozen BK129.out 1
            go_wp2
            go_roundg kj21
            case measure => have := HJ3.out; have := HK2.out; have := HJ16.out; have := HJ21.out; omega
            case rel => exact ⟨(x9_2), (x10_21), (x11_21), (wrap64 (x29_2 + 1)), sq_, sq_, sq_, H', ⟨by have := HJ3.out; have := HK2.out; have := HJ16.out; have := HJ21.out; omega⟩, ⟨by (with_reducible repeat (first | apply Kd.S_alloc | apply Kd.S_drewN | apply Kd.S_drew)); exact Kd.S_mono HO_10.out (fun _ hk => trivial)⟩, ⟨bw_ HB.out⟩⟩
           ·rw [if_neg c31] at H
            have c31b0 : (((rd_T53 l0 x29_2).f0).toList == a1.toList) = false := beq_eq_false_iff_ne.mpr c31
            have c31b1 : (((rd_T53 l0 x29_2).f0).toList != a1.toList) = true := bne_iff_ne.mpr c31
            obtain ⟨t139, A330, H⟩ := bE_ H
            have A33 := am_ A330
            clear A330
            by_cases c34 : t139 = true
            ·subst c34
             replace H := it_ H rfl
             have H' := am_ H
             clear H
             have hcz35_0 := cz_ BK129.out 0
             have hcz35_1 := cz_ BK129.out 1
             have hfz35_0 := blk_frozen BK129.out 0
             have hfz35_1 := blk_frozen BK129.out 1
             go_wp2_with (first | ((with_reducible refine gate_callee (f := 28) rfl ?_); refine goesL_ (some 56) rfl rfl Try.func28 (by kernel_rfl) rfl #[.slice A128_1 ((rd_T53 l0 x29_2).f1).length c128_1, .slice A2 l2.length c2] rfl (by (try simp only [List.map_toArray, List.map_cons, List.map_nil]); first | done | rfl | (simp only [List.length_drop, List.length_take]; rfl)) ?_; (with_reducible refine (spec_l17Same.calls kj21 _ _ ((rd_T53 l0 x29_2).f1) _ _ l2 true _ ?side1 ?side2 ?side3 ?side4 A33.out).mono ?_); (case side1 => repeat (first | exact (Kd.C_below HR128_1.out HB.out) | (with_reducible refine Kd.C_alloc ?_ _) | (with_reducible refine Kd.C_drewN ?_ _) | (with_reducible refine Kd.C_drew ?_))); (case side2 => exact HC128_1.out); (case side3 => repeat (first | exact (Kd.C_below HR2.out HB.out) | (with_reducible refine Kd.C_alloc ?_ _) | (with_reducible refine Kd.C_drewN ?_ _) | (with_reducible refine Kd.C_drew ?_))); (case side4 => exact HC2.out); rintro e w' ⟨rfl, ⟨nd, rfl⟩⟩; refine ⟨_, rfl, ?_⟩))
             go_roundg kj21
             case measure => have := HJ3.out; have := HK2.out; have := HJ16.out; have := HJ21.out; omega
             case rel => exact ⟨(((rd_T53 l0 x29_2).f0)), (x10_21), (x11_21), (wrap64 (x29_2 + 1)), sq_, sq_, sq_, H', ⟨by have := HJ3.out; have := HK2.out; have := HJ16.out; have := HJ21.out; omega⟩, ⟨by (with_reducible repeat (first | apply Kd.S_alloc | apply Kd.S_drewN | apply Kd.S_drew)); exact Kd.S_mono HO_10.out (fun _ hk => trivial)⟩, ⟨bw_ HB.out⟩⟩
            ·replace c34 := Bool.eq_false_iff.mpr c34
             subst c34
             replace H := if_ H Bool.false_ne_true
             obtain ⟨y140, hy140⟩ : ∃ y_ : List Int, y_ = (([] : List Int)) := ⟨_, rfl⟩
             replace H : (if y140.length + ((rd_T53 l0 x29_2).f1).length < 17592186044416 then (if x10_21.length < 3518437208883 then (spec_Rebind.l0 kj21 a1 l2 x9_2 (x10_21 ++ [(⟨((rd_T53 l0 x29_2).f0), (y140 ++ ((rd_T53 l0 x29_2).f1))⟩ : S53)]) x11_21 l0 (l0.length : Int) (wrap64 (x29_2 + 1))) else (none)) else (none)) = some (r1, r2, r3) := by first | (rw [hy140]; with_reducible exact H) | (have H2_ := (Option.bind_some _ _).symm.trans H; rw [hy140]; with_reducible exact H2_) | (have H2_ := (Option.bind_some _ _).symm.trans H; with_reducible exact H2_) | with_reducible exact H | (rw [hy140]; exact H) | exact H
             have Ny140 := am_ hy140
             clear hy140
             obtain ⟨c36, H⟩ := ifn_ H
             have LMc36 := am_ c36
             clear c36
             obtain ⟨y143, hy143⟩ : ∃ y_ : List Int, y_ = (y140 ++ ((rd_T53 l0 x29_2).f1)) := ⟨_, rfl⟩
             replace H : (if x10_21.length < 3518437208883 then (spec_Rebind.l0 kj21 a1 l2 x9_2 (x10_21 ++ [(⟨((rd_T53 l0 x29_2).f0), y143⟩ : S53)]) x11_21 l0 (l0.length : Int) (wrap64 (x29_2 + 1))) else (none)) = some (r1, r2, r3) := by first | (rw [hy143]; with_reducible exact H) | (have H2_ := (Option.bind_some _ _).symm.trans H; rw [hy143]; with_reducible exact H2_) | (have H2_ := (Option.bind_some _ _).symm.trans H; with_reducible exact H2_) | with_reducible exact H | (rw [hy143]; exact H) | exact H
             have Ny143 := am_ hy143
             clear hy143
             obtain ⟨c37, H⟩ := ifn_ H
             have LMc37 := am_ c37
             clear c37
             obtain ⟨y146, hy146⟩ : ∃ y_ : List (S53), y_ = (x10_21 ++ [(⟨((rd_T53 l0 x29_2).f0), y143⟩ : S53)]) := ⟨_, rfl⟩
             replace H : (spec_Rebind.l0 kj21 a1 l2 x9_2 y146 x11_21 l0 (l0.length : Int) (wrap64 (x29_2 + 1))) = some (r1, r2, r3) := by first | (rw [hy146]; with_reducible exact H) | (have H2_ := (Option.bind_some _ _).symm.trans H; rw [hy146]; with_reducible exact H2_) | (have H2_ := (Option.bind_some _ _).symm.trans H; with_reducible exact H2_) | with_reducible exact H | (rw [hy146]; exact H) | exact H
             have Ny146 := am_ hy146
             clear hy146
             have H' := am_ H
             clear H
             have hcz38_0 := cz_ BK129.out 0
             have hcz38_1 := cz_ BK129.out 1
             have hfz38_0 := blk_frozen BK129.out 0
             have hfz38_1 := blk_frozen BK129.out 1
             try go_wp2_with (first | ((with_reducible refine gate_callee (f := 28) rfl ?_); refine goesL_ (some 56) rfl rfl Try.func28 (by kernel_rfl) rfl #[.slice A128_1 ((rd_T53 l0 x29_2).f1).length c128_1, .slice A2 l2.length c2] rfl (by (try simp only [List.map_toArray, List.map_cons, List.map_nil]); first | done | rfl | (simp only [List.length_drop, List.length_take]; rfl)) ?_; (with_reducible refine (spec_l17Same.calls kj21 _ _ ((rd_T53 l0 x29_2).f1) _ _ l2 false _ ?side1 ?side2 ?side3 ?side4 A33.out).mono ?_); (case side1 => repeat (first | exact (Kd.C_below HR128_1.out HB.out) | (with_reducible refine Kd.C_alloc ?_ _) | (with_reducible refine Kd.C_drewN ?_ _) | (with_reducible refine Kd.C_drew ?_))); (case side2 => exact HC128_1.out); (case side3 => repeat (first | exact (Kd.C_below HR2.out HB.out) | (with_reducible refine Kd.C_alloc ?_ _) | (with_reducible refine Kd.C_drewN ?_ _) | (with_reducible refine Kd.C_drew ?_))); (case side4 => exact HC2.out); rintro e w' ⟨rfl, ⟨nd, rfl⟩⟩; refine ⟨_, rfl, ?_⟩))
             (try (rw [drewN_self wc]; generalize hq_ : World.drewN wc _ = wc; have n0_ : Aside0 (Kd.S k53 53 wc w.heap.size (fun k_ => k_ ≠ gb129) u10 x10_21) := ⟨by rw [← hq_]; exact (by (with_reducible repeat (first | apply Kd.S_alloc | apply Kd.S_drewN | apply Kd.S_drew)); exact HO_10.out)⟩; have n1_ : Aside0 (wc.heap[gb129]? = some (.cells #[.string ((rd_T53 l0 x29_2).f0), .slice A128_1 ((rd_T53 l0 x29_2).f1).length c128_1] 53 (0, 0))) := ⟨by rw [← hq_]; exact (bk_ BK129.out)⟩; have n2_ : Aside0 (Below w.heap.size w wc) := ⟨by rw [← hq_]; exact (bw_ HB.out)⟩; clear HO_10 BK129 HB hq_; have HO_10 := n0_; have BK129 := n1_; have HB := n2_; clear n0_ n1_ n2_))
             have n0_ := am_ (Kd.S_drew HO_10.out)
             have n1_ := am_ (blk_drew BK129.out)
             have n2_ := am_ (below_drew1 HB.out)
             replace HO_10 := n0_
             replace BK129 := n1_
             replace HB := n2_
             clear n0_ n1_ n2_
             refine start_ (n := 11) (S := fun w' => w'.cell? ⟨gb129, 0, none⟩ = some (.string ((rd_T53 l0 x29_2).f0)) ∧ w'.cell? ⟨gb129, 1, none⟩ = some (.slice A128_1 ((rd_T53 l0 x29_2).f1).length c128_1)) (ds := []) (Array.replicate 11 false) (by kernel_rfl) rfl rfl ⟨cz_ BK129.out 0, cz_ BK129.out 1⟩ (fun hHeld => ?_); refine with_tabW spec_Rebind.tab15 spec_Rebind.bits15 (fun HT_ HW_ => ?_)
             generalize wc.drew = w39 at HO_10 BK129 HB hHeld ⊢
             refine pS_ 0 59 HT_ ?_
             refine pS_ 1 60 HT_ ?_
             refine pS_ 4 63 HT_ ?_
             refine tS_ 2 61 HT_ HW_ hHeld ?_
             refine tS_ 5 64 HT_ HW_ hHeld ?_
             refine oS_ 3 62 HT_ (fun K hK => ?_)
             refine Kd.R_lit_step (Kd.int .i64) _ 3 ?hg (N := 62) ?hd (xs := ([] : List Int)) (inner := []) (ok := fun _ => True) (okp := fun _ => True) ?hr ?hp (fun _ hk => hk) trivial (Below.refl _ _) (Nat.le_refl _) (by simp) ?_; (case hd => rfl); (case hg => rfl); (case hr => first | (go_simp; done) | (go_simp; rfl)); (case hp => exact (Reps.none _ _))
             intro v141 w40 ho41 hb hg_ hnew_
             clear hg_ hnew_
             (first | rw [← Ny140.out] at ho41 | (simp only [Int.reduceToNat] at ho41; rw [← Ny140.out] at ho41))
             have n0_ := am_ (Kd.S_elder' (by (with_reducible repeat (first | apply Kd.S_alloc | apply Kd.S_drewN | apply Kd.S_drew)); exact HO_10.out) (Kd.R_base ho41) hb)
             have n1_ := am_ (Kd.R_lower ho41 (below_size (bw_ HB.out)))
             have n2_ := am_ (blk_below (bk_ BK129.out) hb)
             have n3_ := am_ (below_step (bw_ HB.out) hb)
             replace HO_10 := n0_
             have HO142 := n1_
             replace BK129 := n2_
             replace HB := n3_
             clear n0_ n1_ n2_ n3_
             clear hb ho41
             refine hK.out _ _ ⟨cz_ BK129.out 0, cz_ BK129.out 1⟩ (fun hHeld => ?_)
             clear hK K
             refine nD_ 62 ?_
             refine oS_ 6 65 HT_ (fun K hK => ?_)
             refine Kd.R_append_rows_step (Kd.int .i64) (w0 := w) w.heap.size (by rfl) (.tmp 62) (.tmp 64) 23 3 (.int .i64 0) 8 rfl Try.underlying23 info3 rfl (by decide) (by omega) v141 y140 ((rd_T53 l0 x29_2).f1) _ _ _ (fun _ => True) (fun _ => False) rfl rfl ?aO ?aR (fun _ _ h => h) (fun _ h => h.elim) ?aF ?aB ?aS ?aL ?_
             (case aR => repeat (first | exact (Kd.C_below HR128_1.out HB.out) | (with_reducible refine Kd.C_alloc ?_ _) | (with_reducible refine Kd.C_drewN ?_ _) | (with_reducible refine Kd.C_drew ?_)))
             (case aB => exact (bw_ HB.out))
             (case aF => exact (fun _ _ => trivial))
             (case aO => exact (ra_ HO142.out))
             (case aS => exact (below_size (bw_ HB.out)))
             (case aL => have := LMc36.out; omega)
             intro v144 w42 ho hb hg hat
             rw [← Ny143.out] at ho
             have n0_ := am_ (Kd.S_after (ok := (fun k_ => k_ ≠ gb129)) (by (with_reducible repeat (first | apply Kd.S_alloc | apply Kd.S_drewN | apply Kd.S_drew)); exact HO_10.out) hg hat)
             have n1_ := am_ (blk_grown (bk_ BK129.out) hg (Kd.R_ne HO142.out BK129.out (by decide)))
             have n2_ := am_ (hb)
             have n3_ := am_ (ho)
             clear HO142
             replace HO_10 := n0_
             replace BK129 := n1_
             replace HB := n2_
             have HO145 := n3_
             clear n0_ n1_ n2_ n3_
             clear ho hb hg hat
             obtain ⟨Ao43, co43, eo43⟩ := Kd.R_slice HO145.out
             (first | subst eo43 | (injection eo43 with f1_ f2_ f3_; have f4_ := f1_.symm; have f5_ := f3_.symm; clear f1_ f2_ f3_; subst f4_; subst f5_))
             refine hK.out _ _ ⟨cz_ BK129.out 0, cz_ BK129.out 1⟩ (fun hHeld => ?_)
             clear hK K
             refine nD_ 65 ?_
             refine pS_ 7 66 HT_ ?_
             refine oS_ 8 67 HT_ (fun K hK => ?_)
             refine value_ (w1 := ?_) (v := ?_) (by rfl) rfl ?_ ?_
             rotate_left 2
             ·go_simp
              constructor
              ·rfl
              ·rfl
             refine hK.out _ _ ⟨(blk_cell (blk_alloc BK129.out _) 0).trans rfl, (blk_cell (blk_alloc BK129.out _) 1).trans rfl⟩ (fun hHeld => ?_)
             clear hK K
             refine nD_ 67 ?_
             refine oS_ 9 68 HT_ (fun K hK => ?_)
             refine Kd.S_append_step k53 (w0 := w) w.heap.size (by rfl) (.tmp 59) (.tmp 67) 25 53 (.agg #[(.string ⟨#[]⟩), (.slice none 0 0)]) 40 rfl Try.underlying25 info53 rfl (by decide) (by omega) u10 x10_21 (⟨((rd_T53 l0 x29_2).f0), y143⟩ : S53) [.string ((rd_T53 l0 x29_2).f0), .slice Ao43 y143.length co43] (fun k_ => k_ ≠ gb129) (fun k_ => some k_ = (.slice Ao43 y143.length co43 : Value).ownBlock) rfl rfl ?aP (fun k_ hk_ => ((Kd.R_mono (ok' := fun k_ => ((fun k_ => k_ ≠ gb129)) k_ ∧ nb k_ u10) (Kd.R_types (Kd.R_apart' (HO145.out) (Kd.S_typed HO_10.out) (by decide)) BK129.out (by decide)) (fun k_ hk => ⟨hk.2, hk.1.2⟩))).1 k_ hk_.symm) ?aF ?aO ?aB ?aS ?aL ?_
             (case aP => exact k53_mkM _ _ _ (⟨((rd_T53 l0 x29_2).f0), y143⟩ : S53) (Kd.R_mono (Kd.R_tight rfl (Kd.R_mono (ok' := fun k_ => ((fun k_ => k_ ≠ gb129)) k_ ∧ nb k_ u10) (Kd.R_types (Kd.R_apart' (HO145.out) (Kd.S_typed HO_10.out) (by decide)) BK129.out (by decide)) (fun k_ hk => ⟨hk.2, hk.1.2⟩))) (fun _ h_ => h_)))
             (case aB => exact (bw_ HB.out))
             (case aF => exact (fun k_ hk => Kd.freshB (bk_ BK129.out) k_ hk))
             (case aO => exact (by (with_reducible repeat (first | apply Kd.S_alloc | apply Kd.S_drewN | apply Kd.S_drew)); exact Kd.S_mono HO_10.out (fun k_ hk => ⟨hk.1, fun e_ => hk.2 e_⟩)))
             (case aS => exact (below_size (bw_ HB.out)))
             (case aL => have := LMc37.out; omega)
             intro v147 w44 ho hb hg hat
             rw [← Ny146.out] at ho
             have n0_ := am_ (blk_grown (bk_ BK129.out) hg (Kd.S_away HO_10.out (fun _ hk => hk.1)))
             have n1_ := am_ (hb)
             have n2_ := am_ (ho)
             clear HO_10
             clear HO145
             replace BK129 := n0_
             replace HB := n1_
             have HO148 := n2_
             clear n0_ n1_ n2_
             clear ho hb hg hat
             refine hK.out _ _ ⟨cz_ BK129.out 0, cz_ BK129.out 1⟩ (fun hHeld => ?_)
             clear hK K
             refine nD_ 68 ?_
             refine pS_ 10 10 HT_ ?_
             refine done_ (done_of HT_.out (by kernel_rfl)) ?_
             try go_wp2
             go_roundg kj21
             case measure => have := HJ3.out; have := HK2.out; have := HJ16.out; have := HJ21.out; omega
             case rel => exact ⟨(x9_2), (y146), (x11_21), (wrap64 (x29_2 + 1)), sq_, sq_, sq_, H', ⟨by have := HJ3.out; have := HK2.out; have := HJ16.out; have := HJ21.out; omega⟩, ⟨by (with_reducible repeat (first | apply Kd.S_alloc | apply Kd.S_drewN | apply Kd.S_drew)); exact Kd.S_mono HO148.out (fun _ hk => trivial)⟩, ⟨bw_ HB.out⟩⟩
      ·rw [if_neg c14] at H
       have c14b0 : decide (x29_2 < (l0.length : Int)) = false := decide_eq_false c14
       clear c14
       by_cases c45 : x11_2 = true
       ·subst c45
        replace H := it_ H rfl
        obtain ⟨t149, A460, H⟩ := bE_ H
        have A46 := am_ A460
        clear A460
        by_cases c47 : t149 = true
        ·subst c47
         replace H := it_ H rfl
         simp only [Option.some.injEq, Prod.mk.injEq] at H
         obtain ⟨rfl, rfl, rfl⟩ := H
         obtain ⟨Ao48, co48, eo48⟩ := Kd.S_slice HO_10.out
         subst eo48
         go_wp2_with (first | ((with_reducible refine gate_callee (f := 25) rfl ?_); refine goesL_ (some 81) rfl rfl Try.func25 (by kernel_rfl) rfl #[.slice Ao48 x10_2.length co48] rfl (by (try simp only [List.map_toArray, List.map_cons, List.map_nil]); first | done | rfl | (simp only [List.length_drop, List.length_take]; rfl)) ?_; (with_reducible refine (spec_GoodBinds.calls k2 _ _ x10_2 true _ ?side1 ?side2 A46.out).mono ?_); (case side1 => repeat (first | exact (Kd.S_reads' HO_10.out).2.2 | (with_reducible refine Kd.C_alloc ?_ _) | (with_reducible refine Kd.C_drewN ?_ _) | (with_reducible refine Kd.C_drew ?_))); (case side2 => exact (Kd.S_reads' HO_10.out).2.1); rintro e w49 ⟨rfl, hb⟩; refine ⟨_, rfl, ?_⟩; have n0_ := am_ (Kd.S_below (by (with_reducible repeat (first | apply Kd.S_alloc | apply Kd.S_drewN | apply Kd.S_drew)); exact HO_10.out) hb); have n1_ := am_ (below_step (bw_ HB.out) hb); replace HO_10 := n0_; replace HB := n1_; clear n0_ n1_; (try clear hb); (try clear hb2); (try clear hk); (try clear hi)))
         go_ret3
         exact ⟨_, by first | rfl | (simp [errW_none, errW_some] <;> rfl) | (simp [*, errW_none, errW_some] <;> rfl), by (with_reducible repeat (first | apply Kd.S_alloc | apply Kd.S_drewN | apply Kd.S_drew)); exact HO_10.out, bw_ HB.out⟩
        ·replace c47 := Bool.eq_false_iff.mpr c47
         subst c47
         replace H := if_ H Bool.false_ne_true
         simp only [Option.some.injEq, Prod.mk.injEq] at H
         obtain ⟨rfl, rfl, rfl⟩ := H
         obtain ⟨Ao50, co50, eo50⟩ := Kd.S_slice HO_10.out
         subst eo50
         go_wp2_with (first | ((with_reducible refine gate_callee (f := 25) rfl ?_); refine goesL_ (some 81) rfl rfl Try.func25 (by kernel_rfl) rfl #[.slice Ao50 x10_2.length co50] rfl (by (try simp only [List.map_toArray, List.map_cons, List.map_nil]); first | done | rfl | (simp only [List.length_drop, List.length_take]; rfl)) ?_; (with_reducible refine (spec_GoodBinds.calls k2 _ _ x10_2 false _ ?side1 ?side2 A46.out).mono ?_); (case side1 => repeat (first | exact (Kd.S_reads' HO_10.out).2.2 | (with_reducible refine Kd.C_alloc ?_ _) | (with_reducible refine Kd.C_drewN ?_ _) | (with_reducible refine Kd.C_drew ?_))); (case side2 => exact (Kd.S_reads' HO_10.out).2.1); rintro e w51 ⟨rfl, hb⟩; refine ⟨_, rfl, ?_⟩; have n0_ := am_ (Kd.S_below (by (with_reducible repeat (first | apply Kd.S_alloc | apply Kd.S_drewN | apply Kd.S_drew)); exact HO_10.out) hb); have n1_ := am_ (below_step (bw_ HB.out) hb); replace HO_10 := n0_; replace HB := n1_; clear n0_ n1_; (try clear hb); (try clear hb2); (try clear hk); (try clear hi)))
         go_ret3
         exact ⟨_, by first | rfl | (simp [errW_none, errW_some] <;> rfl) | (simp [*, errW_none, errW_some] <;> rfl), by first | exact Kd.S_nil _ _ _ _ _ | exact Kd.N_nil _ _ _ _ _ | exact Kd.V_nil _ _ _ _ _ | exact Kd.Q_nil _ _ _ _ _ | exact Kd.R_nil _ _ _ _ _, bw_ HB.out⟩
       ·replace c45 := Bool.eq_false_iff.mpr c45
        subst c45
        replace H := if_ H Bool.false_ne_true
        obtain ⟨y150, hy150⟩ : ∃ y_ : List Int, y_ = (([] : List Int)) := ⟨_, rfl⟩
        replace H : (if y150.length + l2.length < 17592186044416 then (if x10_2.length < 3518437208883 then ((some (x10_2 ++ [(⟨a1, (y150 ++ l2)⟩ : S53)] : List (S53))).bind fun y156 => ((spec_GoodBinds.f k2 y156).bind fun t159 => (if t159 = true then (some (y156, x9_2, true)) else (some (([] : List (S53)), (⟨#[]⟩ : ByteArray), false))))) else (none)) else (none)) = some (r1, r2, r3) := by first | (rw [hy150]; with_reducible exact H) | (have H2_ := (Option.bind_some _ _).symm.trans H; rw [hy150]; with_reducible exact H2_) | (have H2_ := (Option.bind_some _ _).symm.trans H; with_reducible exact H2_) | with_reducible exact H | (rw [hy150]; exact H) | exact H
        have Ny150 := am_ hy150
        clear hy150
        obtain ⟨c52, H⟩ := ifn_ H
        have LMc52 := am_ c52
        clear c52
        obtain ⟨y153, hy153⟩ : ∃ y_ : List Int, y_ = (y150 ++ l2) := ⟨_, rfl⟩
        replace H : (if x10_2.length < 3518437208883 then ((some (x10_2 ++ [(⟨a1, y153⟩ : S53)] : List (S53))).bind fun y156 => ((spec_GoodBinds.f k2 y156).bind fun t159 => (if t159 = true then (some (y156, x9_2, true)) else (some (([] : List (S53)), (⟨#[]⟩ : ByteArray), false))))) else (none)) = some (r1, r2, r3) := by first | (rw [hy153]; with_reducible exact H) | (have H2_ := (Option.bind_some _ _).symm.trans H; rw [hy153]; with_reducible exact H2_) | (have H2_ := (Option.bind_some _ _).symm.trans H; with_reducible exact H2_) | with_reducible exact H | (rw [hy153]; exact H) | exact H
        have Ny153 := am_ hy153
        clear hy153
        obtain ⟨c53, H⟩ := ifn_ H
        have LMc53 := am_ c53
        clear c53
        obtain ⟨y156, hy156⟩ : ∃ y_ : List (S53), y_ = (x10_2 ++ [(⟨a1, y153⟩ : S53)]) := ⟨_, rfl⟩
        replace H : ((spec_GoodBinds.f k2 y156).bind fun t159 => (if t159 = true then (some (y156, x9_2, true)) else (some (([] : List (S53)), (⟨#[]⟩ : ByteArray), false)))) = some (r1, r2, r3) := by first | (rw [hy156]; with_reducible exact H) | (have H2_ := (Option.bind_some _ _).symm.trans H; rw [hy156]; with_reducible exact H2_) | (have H2_ := (Option.bind_some _ _).symm.trans H; with_reducible exact H2_) | with_reducible exact H | (rw [hy156]; exact H) | exact H
        have Ny156 := am_ hy156
        clear hy156
        obtain ⟨t159, A540, H⟩ := bE_ H
        have A54 := am_ A540
        clear A540
        by_cases c55 : t159 = true
        ·subst c55
         replace H := it_ H rfl
         simp only [Option.some.injEq, Prod.mk.injEq] at H
         obtain ⟨rfl, rfl, rfl⟩ := H
         go_wp2_with (first | ((with_reducible refine gate_dst (N := 74) rfl ?_); refine Kd.R_lit (Kd.int .i64) _ 3 ?hg (N := 74) ?hd (xs := ([] : List Int)) (inner := []) (ok := fun _ => True) (okp := fun _ => True) ?hr ?hp (fun _ hk => hk) trivial (Below.refl _ _) (Nat.le_refl _) (by simp) ?_; (case hd => rfl); (case hg => rfl); (case hr => first | (go_simp; done) | (go_simp; rfl)); (case hp => exact (Reps.none _ _)); intro v151 w56 ho57 hb hg_ hnew_; clear hg_ hnew_; (first | rw [← Ny150.out] at ho57 | (simp only [Int.reduceToNat] at ho57; rw [← Ny150.out] at ho57)); have n0_ := am_ (Kd.S_elder' (by (with_reducible repeat (first | apply Kd.S_alloc | apply Kd.S_drewN | apply Kd.S_drew)); exact HO_10.out) (Kd.R_base ho57) hb); have n1_ := am_ (Kd.R_lower ho57 (below_size (bw_ HB.out))); have n2_ := am_ (below_step (bw_ HB.out) hb); replace HO_10 := n0_; have HO152 := n1_; replace HB := n2_; clear n0_ n1_ n2_; clear hb ho57) | ((with_reducible refine gate_builtin (b := .append) (xs := #[.tmp 74, .tmp 75]) rfl ?_); at_builtin; refine Kd.R_append_rows (Kd.int .i64) (w0 := w) w.heap.size rfl (.tmp 74) (.tmp 75) 23 3 (.int .i64 0) 8 rfl Try.underlying23 info3 rfl (by decide) (by omega) v151 y150 l2 _ _ _ (fun _ => True) (fun _ => False) rfl rfl ?aO ?aR (fun _ _ h => h) (fun _ h => h.elim) ?aF ?aB ?aS ?aL ?_; (case aR => repeat (first | exact (Kd.C_below HR2.out HB.out) | (with_reducible refine Kd.C_alloc ?_ _) | (with_reducible refine Kd.C_drewN ?_ _) | (with_reducible refine Kd.C_drew ?_))); (case aB => exact (bw_ HB.out)); (case aF => exact (fun _ _ => trivial)); (case aO => exact (ra_ HO152.out)); (case aS => exact (below_size (bw_ HB.out))); (case aL => have := LMc52.out; omega); intro v154 w58 ho hb hg hat; rw [← Ny153.out] at ho; have n0_ := am_ (Kd.S_after (ok := (fun _ => True)) (by (with_reducible repeat (first | apply Kd.S_alloc | apply Kd.S_drewN | apply Kd.S_drew)); exact HO_10.out) hg hat); have n1_ := am_ (hb); have n2_ := am_ (ho); clear HO152; replace HO_10 := n0_; replace HB := n1_; have HO155 := n2_; clear n0_ n1_ n2_; clear ho hb hg hat; obtain ⟨Ao59, co59, eo59⟩ := Kd.R_slice HO155.out; subst eo59) | ((with_reducible refine gate_builtin (b := .append) (xs := #[.tmp 72, .tmp 78]) rfl ?_); at_builtin; refine Kd.S_append k53 (w0 := w) w.heap.size rfl (.tmp 72) (.tmp 78) 25 53 (.agg #[(.string ⟨#[]⟩), (.slice none 0 0)]) 40 rfl Try.underlying25 info53 rfl (by decide) (by omega) u10 x10_2 (⟨a1, y153⟩ : S53) [.string a1, .slice Ao59 y153.length co59] (fun _ => True) (fun k_ => some k_ = (.slice Ao59 y153.length co59 : Value).ownBlock) rfl rfl ?aP (fun k_ hk_ => ((Kd.R_mono (ok' := fun k_ => ((fun _ => True)) k_ ∧ nb k_ u10) (Kd.R_apart' (HO155.out) (Kd.S_typed HO_10.out) (by decide)) (fun k_ hk => ⟨trivial, hk.2⟩))).1 k_ hk_.symm) ?aF ?aO ?aB ?aS ?aL ?_; (case aP => exact k53_mkM _ _ _ (⟨a1, y153⟩ : S53) (Kd.R_mono (Kd.R_tight rfl (Kd.R_mono (ok' := fun k_ => ((fun _ => True)) k_ ∧ nb k_ u10) (Kd.R_apart' (HO155.out) (Kd.S_typed HO_10.out) (by decide)) (fun k_ hk => ⟨trivial, hk.2⟩))) (fun _ h_ => h_))); (case aB => exact (bw_ HB.out)); (case aF => exact (fun _ _ => trivial)); (case aO => exact (by (with_reducible repeat (first | apply Kd.S_alloc | apply Kd.S_drewN | apply Kd.S_drew)); exact Kd.S_mono HO_10.out (fun k_ hk => ⟨trivial, fun e_ => hk.2 e_⟩))); (case aS => exact (below_size (bw_ HB.out))); (case aL => have := LMc53.out; omega); intro v157 w60 ho hb hg hat; rw [← Ny156.out] at ho; have n0_ := am_ (hb); have n1_ := am_ (ho); clear HO_10; clear HO155; replace HB := n0_; have HO158 := n1_; clear n0_ n1_; clear ho hb hg hat; obtain ⟨Ao61, co61, eo61⟩ := Kd.S_slice HO158.out; subst eo61) | ((with_reducible refine gate_callee (f := 25) rfl ?_); refine goesL_ (some 81) rfl rfl Try.func25 (by kernel_rfl) rfl #[.slice Ao61 y156.length co61] rfl (by (try simp only [List.map_toArray, List.map_cons, List.map_nil]); first | done | rfl | (simp only [List.length_drop, List.length_take]; rfl)) ?_; (with_reducible refine (spec_GoodBinds.calls k2 _ _ y156 true _ ?side1 ?side2 A54.out).mono ?_); (case side1 => repeat (first | exact (Kd.S_reads' HO158.out).2.2 | (with_reducible refine Kd.C_alloc ?_ _) | (with_reducible refine Kd.C_drewN ?_ _) | (with_reducible refine Kd.C_drew ?_))); (case side2 => exact (Kd.S_reads' HO158.out).2.1); rintro e w62 ⟨rfl, hb⟩; refine ⟨_, rfl, ?_⟩; have n0_ := am_ (Kd.S_below (by (with_reducible repeat (first | apply Kd.S_alloc | apply Kd.S_drewN | apply Kd.S_drew)); exact HO158.out) hb); have n1_ := am_ (below_step (bw_ HB.out) hb); replace HO158 := n0_; replace HB := n1_; clear n0_ n1_; (try clear hb); (try clear hb2); (try clear hk); (try clear hi)))
         go_ret3
         exact ⟨_, by first | rfl | (simp [errW_none, errW_some] <;> rfl) | (simp [*, errW_none, errW_some] <;> rfl), by (with_reducible repeat (first | apply Kd.S_alloc | apply Kd.S_drewN | apply Kd.S_drew)); exact HO158.out, bw_ HB.out⟩
        ·replace c55 := Bool.eq_false_iff.mpr c55
         subst c55
         replace H := if_ H Bool.false_ne_true
         simp only [Option.some.injEq, Prod.mk.injEq] at H
         obtain ⟨rfl, rfl, rfl⟩ := H
         go_wp2_with (first | ((with_reducible refine gate_dst (N := 74) rfl ?_); refine Kd.R_lit (Kd.int .i64) _ 3 ?hg (N := 74) ?hd (xs := ([] : List Int)) (inner := []) (ok := fun _ => True) (okp := fun _ => True) ?hr ?hp (fun _ hk => hk) trivial (Below.refl _ _) (Nat.le_refl _) (by simp) ?_; (case hd => rfl); (case hg => rfl); (case hr => first | (go_simp; done) | (go_simp; rfl)); (case hp => exact (Reps.none _ _)); intro v151 w63 ho64 hb hg_ hnew_; clear hg_ hnew_; (first | rw [← Ny150.out] at ho64 | (simp only [Int.reduceToNat] at ho64; rw [← Ny150.out] at ho64)); have n0_ := am_ (Kd.S_elder' (by (with_reducible repeat (first | apply Kd.S_alloc | apply Kd.S_drewN | apply Kd.S_drew)); exact HO_10.out) (Kd.R_base ho64) hb); have n1_ := am_ (Kd.R_lower ho64 (below_size (bw_ HB.out))); have n2_ := am_ (below_step (bw_ HB.out) hb); replace HO_10 := n0_; have HO152 := n1_; replace HB := n2_; clear n0_ n1_ n2_; clear hb ho64) | ((with_reducible refine gate_builtin (b := .append) (xs := #[.tmp 74, .tmp 75]) rfl ?_); at_builtin; refine Kd.R_append_rows (Kd.int .i64) (w0 := w) w.heap.size rfl (.tmp 74) (.tmp 75) 23 3 (.int .i64 0) 8 rfl Try.underlying23 info3 rfl (by decide) (by omega) v151 y150 l2 _ _ _ (fun _ => True) (fun _ => False) rfl rfl ?aO ?aR (fun _ _ h => h) (fun _ h => h.elim) ?aF ?aB ?aS ?aL ?_; (case aR => repeat (first | exact (Kd.C_below HR2.out HB.out) | (with_reducible refine Kd.C_alloc ?_ _) | (with_reducible refine Kd.C_drewN ?_ _) | (with_reducible refine Kd.C_drew ?_))); (case aB => exact (bw_ HB.out)); (case aF => exact (fun _ _ => trivial)); (case aO => exact (ra_ HO152.out)); (case aS => exact (below_size (bw_ HB.out))); (case aL => have := LMc52.out; omega); intro v154 w65 ho hb hg hat; rw [← Ny153.out] at ho; have n0_ := am_ (Kd.S_after (ok := (fun _ => True)) (by (with_reducible repeat (first | apply Kd.S_alloc | apply Kd.S_drewN | apply Kd.S_drew)); exact HO_10.out) hg hat); have n1_ := am_ (hb); have n2_ := am_ (ho); clear HO152; replace HO_10 := n0_; replace HB := n1_; have HO155 := n2_; clear n0_ n1_ n2_; clear ho hb hg hat; obtain ⟨Ao66, co66, eo66⟩ := Kd.R_slice HO155.out; subst eo66) | ((with_reducible refine gate_builtin (b := .append) (xs := #[.tmp 72, .tmp 78]) rfl ?_); at_builtin; refine Kd.S_append k53 (w0 := w) w.heap.size rfl (.tmp 72) (.tmp 78) 25 53 (.agg #[(.string ⟨#[]⟩), (.slice none 0 0)]) 40 rfl Try.underlying25 info53 rfl (by decide) (by omega) u10 x10_2 (⟨a1, y153⟩ : S53) [.string a1, .slice Ao66 y153.length co66] (fun _ => True) (fun k_ => some k_ = (.slice Ao66 y153.length co66 : Value).ownBlock) rfl rfl ?aP (fun k_ hk_ => ((Kd.R_mono (ok' := fun k_ => ((fun _ => True)) k_ ∧ nb k_ u10) (Kd.R_apart' (HO155.out) (Kd.S_typed HO_10.out) (by decide)) (fun k_ hk => ⟨trivial, hk.2⟩))).1 k_ hk_.symm) ?aF ?aO ?aB ?aS ?aL ?_; (case aP => exact k53_mkM _ _ _ (⟨a1, y153⟩ : S53) (Kd.R_mono (Kd.R_tight rfl (Kd.R_mono (ok' := fun k_ => ((fun _ => True)) k_ ∧ nb k_ u10) (Kd.R_apart' (HO155.out) (Kd.S_typed HO_10.out) (by decide)) (fun k_ hk => ⟨trivial, hk.2⟩))) (fun _ h_ => h_))); (case aB => exact (bw_ HB.out)); (case aF => exact (fun _ _ => trivial)); (case aO => exact (by (with_reducible repeat (first | apply Kd.S_alloc | apply Kd.S_drewN | apply Kd.S_drew)); exact Kd.S_mono HO_10.out (fun k_ hk => ⟨trivial, fun e_ => hk.2 e_⟩))); (case aS => exact (below_size (bw_ HB.out))); (case aL => have := LMc53.out; omega); intro v157 w67 ho hb hg hat; rw [← Ny156.out] at ho; have n0_ := am_ (hb); have n1_ := am_ (ho); clear HO_10; clear HO155; replace HB := n0_; have HO158 := n1_; clear n0_ n1_; clear ho hb hg hat; obtain ⟨Ao68, co68, eo68⟩ := Kd.S_slice HO158.out; subst eo68) | ((with_reducible refine gate_callee (f := 25) rfl ?_); refine goesL_ (some 81) rfl rfl Try.func25 (by kernel_rfl) rfl #[.slice Ao68 y156.length co68] rfl (by (try simp only [List.map_toArray, List.map_cons, List.map_nil]); first | done | rfl | (simp only [List.length_drop, List.length_take]; rfl)) ?_; (with_reducible refine (spec_GoodBinds.calls k2 _ _ y156 false _ ?side1 ?side2 A54.out).mono ?_); (case side1 => repeat (first | exact (Kd.S_reads' HO158.out).2.2 | (with_reducible refine Kd.C_alloc ?_ _) | (with_reducible refine Kd.C_drewN ?_ _) | (with_reducible refine Kd.C_drew ?_))); (case side2 => exact (Kd.S_reads' HO158.out).2.1); rintro e w69 ⟨rfl, hb⟩; refine ⟨_, rfl, ?_⟩; have n0_ := am_ (Kd.S_below (by (with_reducible repeat (first | apply Kd.S_alloc | apply Kd.S_drewN | apply Kd.S_drew)); exact HO158.out) hb); have n1_ := am_ (below_step (bw_ HB.out) hb); replace HO158 := n0_; replace HB := n1_; clear n0_ n1_; (try clear hb); (try clear hb2); (try clear hk); (try clear hi)))
         go_ret3
         exact ⟨_, by first | rfl | (simp [errW_none, errW_some] <;> rfl) | (simp [*, errW_none, errW_some] <;> rfl), by first | exact Kd.S_nil _ _ _ _ _ | exact Kd.N_nil _ _ _ _ _ | exact Kd.V_nil _ _ _ _ _ | exact Kd.Q_nil _ _ _ _ _ | exact Kd.R_nil _ _ _ _ _, bw_ HB.out⟩
end Go.Proofs.Ytfgdfnnddoncjaa.XFnExactRebind
