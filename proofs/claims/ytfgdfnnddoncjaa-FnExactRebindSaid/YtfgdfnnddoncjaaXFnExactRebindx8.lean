/- What the Go functions that this law comes to compute, each walked; written by a program of this session. -/
import Derived.Test.YtfgdfnnddoncjaaXShort
import Derived.Test.YtfgdfnnddoncjaaXMark
import Derived.Test.YtfgdfnnddoncjaaXFnExactRebindx0
import Derived.Test.YtfgdfnnddoncjaaXFnExactRebindx4
import Derived.Test.YtfgdfnnddoncjaaXFnExactRebindx5
import Derived.Test.YtfgdfnnddoncjaaXFnExactRebindx6
import Derived.Test.YtfgdfnnddoncjaaXFnExactRebindx7
namespace Go.Proofs.Ytfgdfnnddoncjaa.XFnExactRebind
open Go.RowKit Go.Proofs.YtfgdfnnddoncjaaW.PrintWords Go.Proofs.YtfgdfnnddoncjaaW.PrintLast Go.Proofs.YtfgdfnnddoncjaaW.PrintMore
attribute [local go_sem] str_geq max2_int min2_int max_two min_two max_three min_three max_four min_four   -- for this text's walks alone
set_option linter.unusedVariables false
set_option linter.unusedSimpArgs false

/-! ### impl_Rebind: function 9 -/
mutual
def impl_Rebind.j0 : Nat → List (S53) → ByteArray → List Int → Bool → Option ((List (S53)) × ByteArray × Bool)
 | 0, _, _, _, _ => none
 | k + 1, x0, x1, x2, x27 => if x27 = true then (some (([] : List (S53)), (⟨#[]⟩ : ByteArray), false)) else (impl_Rebind.l0 k x1 x2 (([] : List (S53))) (⟨#[]⟩ : ByteArray) x0 (x0.length : Int) 0)
def impl_Rebind.l0 : Nat → ByteArray → List Int → List (S53) → ByteArray → List (S53) → Int → Int → Option ((List (S53)) × ByteArray × Bool)
 | 0, _, _, _, _, _, _, _ => none
 | k + 1, x1, x2, x9, x10, x29, x30, x31 => if x31 < x30 then (if 0 ≤ x31 then (if x31 < (x29.length : Int) then (if ((rd_T53 x29 x31).f0).toList = x1.toList then (impl_Rebind.l0 k x1 x2 x9 x10 x29 x30 (wrap64 (x31 + 1))) else ((slices_Equal_int_int.f k ((rd_T53 x29 x31).f1) x2).bind fun t231 => (if t231 = true then (impl_Rebind.l0 k x1 x2 x9 ((rd_T53 x29 x31).f0) x29 x30 (wrap64 (x31 + 1))) else ((slices_Clone_int_int.f ((rd_T53 x29 x31).f1)).bind fun t232 => (if x9.length < 3518437208883 then (impl_Rebind.l0 k x1 x2 (x9 ++ [(⟨(rd_T53 x29 x31).f0, t232⟩ : S53)]) x10 x29 x30 (wrap64 (x31 + 1))) else (none)))))) else (none)) else (none)) else ((slices_BinarySearchFunc_impl_Bind_impl_Bind_string_at_impl_Rebind_1.f k x9 x1).bind fun bt238 => ((slices_Clone_int_int.f x2).bind fun t240 => (if x9.length < 3518437208883 then ((impl_Bind_38.f x9 bt238.1 (⟨x1, t240⟩ : S53)).bind fun y243 => ((impl_GoodBinds.f k y243).bind fun t246 => (if t246 = true then (some (y243, x10, true)) else (some (([] : List (S53)), (⟨#[]⟩ : ByteArray), false))))) else (none))))
end
def impl_Rebind.f (k : Nat) (l0 : List (S53)) (a1 : ByteArray) (l2 : List Int) : Option ((List (S53)) × ByteArray × Bool) := (impl_GoodBinds.f k l0).bind fun t223 => (if t223 = true then ((impl_GoodName.f k a1).bind fun t224 => (if t224 = true then ((impl_isChord.f k l2).bind fun t225 => (impl_Rebind.j0 k l0 a1 l2 (!t225))) else (impl_Rebind.j0 k l0 a1 l2 true))) else (impl_Rebind.j0 k l0 a1 l2 true))
theorem impl_Rebind.mono_l : ∀ k, (∀ y0 y1 y2 y3, LeO (impl_Rebind.j0 k y0 y1 y2 y3) (impl_Rebind.j0 (k + 1) y0 y1 y2 y3)) ∧ (∀ y0 y1 y2 y3 y4 y5 y6, LeO (impl_Rebind.l0 k y0 y1 y2 y3 y4 y5 y6) (impl_Rebind.l0 (k + 1) y0 y1 y2 y3 y4 y5 y6))
 | 0 => ⟨fun _ _ _ _ r h => by simp [impl_Rebind.j0] at h, fun _ _ _ _ _ _ _ r h => by simp [impl_Rebind.l0] at h⟩
 | k + 1 => by
  obtain ⟨ih0, ih1⟩ := impl_Rebind.mono_l k
  refine ⟨?_, ?_⟩
  ·intro y0 y1 y2 y3
   unfold impl_Rebind.j0
   repeat' first
   | (with_reducible exact ih0 _ _ _ _)
   | (with_reducible exact ih1 _ _ _ _ _ _ _)
   | (with_reducible exact impl_GoodBinds.mono _ _)
   | (with_reducible exact impl_GoodName.mono _ _)
   | (with_reducible exact impl_isChord.mono _ _)
   | (with_reducible exact slices_BinarySearchFunc_impl_Bind_impl_Bind_string_at_impl_Rebind_1.mono _ _ _)
   | (with_reducible exact slices_Equal_int_int.mono _ _ _)
   | (with_reducible exact LeO.refl _)
   | (with_reducible exact LeO.none _)
   | (with_reducible refine LeO.ite ?_ ?_)
   | (with_reducible refine LeO.bind ?_ (fun _ => ?_))
   | exact ih0 _ _ _ _
   | exact ih1 _ _ _ _ _ _ _
   | exact impl_GoodBinds.mono _ _
   | exact impl_GoodName.mono _ _
   | exact impl_isChord.mono _ _
   | exact slices_BinarySearchFunc_impl_Bind_impl_Bind_string_at_impl_Rebind_1.mono _ _ _
   | exact slices_Equal_int_int.mono _ _ _
   | exact LeO.none _
   | refine LeO.ite ?_ ?_
   | refine LeO.bind ?_ (fun _ => ?_)
  ·intro y0 y1 y2 y3 y4 y5 y6
   unfold impl_Rebind.l0
   repeat' first
   | (with_reducible exact ih0 _ _ _ _)
   | (with_reducible exact ih1 _ _ _ _ _ _ _)
   | (with_reducible exact impl_GoodBinds.mono _ _)
   | (with_reducible exact impl_GoodName.mono _ _)
   | (with_reducible exact impl_isChord.mono _ _)
   | (with_reducible exact slices_BinarySearchFunc_impl_Bind_impl_Bind_string_at_impl_Rebind_1.mono _ _ _)
   | (with_reducible exact slices_Equal_int_int.mono _ _ _)
   | (with_reducible exact LeO.refl _)
   | (with_reducible exact LeO.none _)
   | (with_reducible refine LeO.ite ?_ ?_)
   | (with_reducible refine LeO.bind ?_ (fun _ => ?_))
   | exact ih0 _ _ _ _
   | exact ih1 _ _ _ _ _ _ _
   | exact impl_GoodBinds.mono _ _
   | exact impl_GoodName.mono _ _
   | exact impl_isChord.mono _ _
   | exact slices_BinarySearchFunc_impl_Bind_impl_Bind_string_at_impl_Rebind_1.mono _ _ _
   | exact slices_Equal_int_int.mono _ _ _
   | exact LeO.none _
   | refine LeO.ite ?_ ?_
   | refine LeO.bind ?_ (fun _ => ?_)
theorem impl_Rebind.mono : ∀ a0 a1 a2 k, LeO (impl_Rebind.f k a0 a1 a2) (impl_Rebind.f (k + 1) a0 a1 a2) := by
 intro a0 a1 a2 k
 obtain ⟨ih0, ih1⟩ := impl_Rebind.mono_l k
 unfold impl_Rebind.f
 repeat' first
   | (with_reducible exact ih0 _ _ _ _)
   | (with_reducible exact ih1 _ _ _ _ _ _ _)
   | (with_reducible exact impl_GoodBinds.mono _ _)
   | (with_reducible exact impl_GoodName.mono _ _)
   | (with_reducible exact impl_isChord.mono _ _)
   | (with_reducible exact slices_BinarySearchFunc_impl_Bind_impl_Bind_string_at_impl_Rebind_1.mono _ _ _)
   | (with_reducible exact slices_Equal_int_int.mono _ _ _)
   | (with_reducible exact LeO.refl _)
   | (with_reducible exact LeO.none _)
   | (with_reducible refine LeO.ite ?_ ?_)
   | (with_reducible refine LeO.bind ?_ (fun _ => ?_))
   | exact ih0 _ _ _ _
   | exact ih1 _ _ _ _ _ _ _
   | exact impl_GoodBinds.mono _ _
   | exact impl_GoodName.mono _ _
   | exact impl_isChord.mono _ _
   | exact slices_BinarySearchFunc_impl_Bind_impl_Bind_string_at_impl_Rebind_1.mono _ _ _
   | exact slices_Equal_int_int.mono _ _ _
   | exact LeO.none _
   | refine LeO.ite ?_ ?_
   | refine LeO.bind ?_ (fun _ => ?_)
def impl_Rebind.T7 : Bool × List (List Nat × List Nat) := (true, [([], []), ([], []), ([1], [1]), ([], []), ([3], [3]), ([4], [4]), ([2, 5], [2, 5]), ([6], [6]), ([0, 7, 5], [0, 7]), ([8, 8, 0, 1, 2, 3, 4, 5, 6, 7, 8], [0, 8])])
def impl_Rebind.B7 : List Nat := [0, 0, 2, 0, 8, 24, 62, 126, 255, 511]
theorem impl_Rebind.tab7 : rtab .any (opsOf Try.f9 7) = impl_Rebind.T7 := by kernel_rfl
theorem impl_Rebind.bits7 : waitsOk impl_Rebind.T7.2 impl_Rebind.B7 = true := by kernel_rfl
set_option maxHeartbeats 8000000 in
set_option maxRecDepth 100000 in
theorem impl_Rebind.calls (k : Nat) (A0 : Option Addr) (c0 : Nat) (l0 : List (S53)) (a1 : ByteArray) (A2 : Option Addr) (c2 : Nat) (l2 : List Int) (r1 : List (S53)) (r2 : ByteArray) (r3 : Bool) (w : World) (hr0 : Kd.C k53 w A0 l0.length l0) (hc0 : l0.length ≤ c0) (hr2 : Kd.C (Kd.int .i64) w A2 l2.length l2) (hc2 : l2.length ≤ c2) (h : impl_Rebind.f k l0 a1 l2 = some (r1, r2, r3)) :
  Calls Try.prog 9 #[.slice A0 l0.length c0, .string a1, .slice A2 l2.length c2] w fun e w' => ∃ v0_ : Value, e = .returned (.tuple #[v0_, .string r2, .bool r3]) ∧ Kd.S k53 53 w' w.heap.size (fun _ => True) v0_ r1 ∧ Below w.heap.size w w' := by
 have hu53 := Try.underlying53
 have HR0 := am_ hr0
 have HC0 := am_ hc0
 clear hr0 hc0
 have HR2 := am_ hr2
 have HC2 := am_ hc2
 clear hr2 hc2
 have HB := am_ (Below.refl w.heap.size w)
 have H : ((impl_GoodBinds.f k l0).bind fun t223 => (if t223 = true then ((impl_GoodName.f k a1).bind fun t224 => (if t224 = true then ((impl_isChord.f k l2).bind fun t225 => (impl_Rebind.j0 k l0 a1 l2 (!t225))) else (impl_Rebind.j0 k l0 a1 l2 true))) else (impl_Rebind.j0 k l0 a1 l2 true))) = some (r1, r2, r3) := h
 clear h
 have HC4 := am_ H
 clear H
 go_enter Try.func9, Try.ntmps9
 go_upto_region 1 with (fail)
 go_cut [27] (fun v27 wc => ∃ (kq : Nat) (x27_3 : Bool), v27 = .bool x27_3 ∧ Aside0 (impl_Rebind.j0 kq l0 a1 l2 x27_3 = some (r1, r2, r3)) ∧ Aside0 (kq ≤ k) ∧ Aside0 (Below w.heap.size w wc))
 case first =>
  have H := HC4.out
  clear HC4
  obtain ⟨t223, A50, H⟩ := bE_ H
  have A5 := am_ A50
  clear A50
  by_cases c6 : t223 = true
  ·subst c6
   replace H := it_ H rfl
   obtain ⟨t224, A70, H⟩ := bE_ H
   have A7 := am_ A70
   clear A70
   by_cases c8 : t224 = true
   ·subst c8
    replace H := it_ H rfl
    obtain ⟨t225, A90, H⟩ := bE_ H
    have A9 := am_ A90
    clear A90
    have H' := am_ H
    clear H
    go_wp2_with (first | ((with_reducible refine gate_callee (f := 30) rfl ?_); refine goesL_ (some 16) rfl rfl Try.func30 (by kernel_rfl) rfl #[.slice A0 l0.length c0] rfl (by (try simp only [List.map_toArray, List.map_cons, List.map_nil]); first | done | rfl | (simp only [List.length_drop, List.length_take]; rfl)) ?_; (with_reducible refine (impl_GoodBinds.calls k _ _ l0 true _ ?side1 ?side2 A5.out).mono ?_); (case side1 => repeat (first | exact (Kd.C_below HR0.out HB.out) | (with_reducible refine Kd.C_alloc ?_ _) | (with_reducible refine Kd.C_drewN ?_ _) | (with_reducible refine Kd.C_drew ?_))); (case side2 => exact HC0.out); rintro e w10 ⟨rfl, hb⟩; refine ⟨_, rfl, ?_⟩; have n0_ := am_ (below_step (bw_ HB.out) hb); replace HB := n0_; clear n0_; (try clear hb); (try clear hb2); (try clear hk); (try clear hi)) | (go_at_call 31; (with_reducible refine (impl_GoodName.calls k a1 true _ A7.out).mono ?_); rintro e w' ⟨rfl, ⟨nd, rfl⟩⟩) | (go_at_call 32; (with_reducible refine (impl_isChord.calls k _ _ l2 t225 _ ?side1 ?side2 A9.out).mono ?_); (case side1 => repeat (first | exact (Kd.C_below HR2.out (bw_ HB.out)) | (with_reducible refine Kd.C_alloc ?_ _) | (with_reducible refine Kd.C_drewN ?_ _) | (with_reducible refine Kd.C_drew ?_))); (case side2 => exact HC2.out); rintro e w' ⟨rfl, ⟨nd, rfl⟩⟩))
    go_meet
    case rel => exact ⟨_, (!t225), sq_, H', ⟨by first | omega | exact Nat.le_refl _⟩, ⟨bw_ HB.out⟩⟩
   ·replace c8 := Bool.eq_false_iff.mpr c8
    subst c8
    replace H := if_ H Bool.false_ne_true
    have H' := am_ H
    clear H
    go_wp2_with (first | ((with_reducible refine gate_callee (f := 30) rfl ?_); refine goesL_ (some 16) rfl rfl Try.func30 (by kernel_rfl) rfl #[.slice A0 l0.length c0] rfl (by (try simp only [List.map_toArray, List.map_cons, List.map_nil]); first | done | rfl | (simp only [List.length_drop, List.length_take]; rfl)) ?_; (with_reducible refine (impl_GoodBinds.calls k _ _ l0 true _ ?side1 ?side2 A5.out).mono ?_); (case side1 => repeat (first | exact (Kd.C_below HR0.out HB.out) | (with_reducible refine Kd.C_alloc ?_ _) | (with_reducible refine Kd.C_drewN ?_ _) | (with_reducible refine Kd.C_drew ?_))); (case side2 => exact HC0.out); rintro e w11 ⟨rfl, hb⟩; refine ⟨_, rfl, ?_⟩; have n0_ := am_ (below_step (bw_ HB.out) hb); replace HB := n0_; clear n0_; (try clear hb); (try clear hb2); (try clear hk); (try clear hi)) | (go_at_call 31; (with_reducible refine (impl_GoodName.calls k a1 false _ A7.out).mono ?_); rintro e w' ⟨rfl, ⟨nd, rfl⟩⟩))
    go_meet
    case rel => exact ⟨_, (true), sq_, H', ⟨by first | omega | exact Nat.le_refl _⟩, ⟨bw_ HB.out⟩⟩
  ·replace c6 := Bool.eq_false_iff.mpr c6
   subst c6
   replace H := if_ H Bool.false_ne_true
   have H' := am_ H
   clear H
   go_wp2_with (first | ((with_reducible refine gate_callee (f := 30) rfl ?_); refine goesL_ (some 16) rfl rfl Try.func30 (by kernel_rfl) rfl #[.slice A0 l0.length c0] rfl (by (try simp only [List.map_toArray, List.map_cons, List.map_nil]); first | done | rfl | (simp only [List.length_drop, List.length_take]; rfl)) ?_; (with_reducible refine (impl_GoodBinds.calls k _ _ l0 false _ ?side1 ?side2 A5.out).mono ?_); (case side1 => repeat (first | exact (Kd.C_below HR0.out HB.out) | (with_reducible refine Kd.C_alloc ?_ _) | (with_reducible refine Kd.C_drewN ?_ _) | (with_reducible refine Kd.C_drew ?_))); (case side2 => exact HC0.out); rintro e w12 ⟨rfl, hb⟩; refine ⟨_, rfl, ?_⟩; have n0_ := am_ (below_step (bw_ HB.out) hb); replace HB := n0_; clear n0_; (try clear hb); (try clear hb2); (try clear hk); (try clear hi)))
   go_meet
   case rel => exact ⟨_, (true), sq_, H', ⟨by first | omega | exact Nat.le_refl _⟩, ⟨bw_ HB.out⟩⟩
 case rest =>
  clear HC4
  try clear c2
  obtain ⟨kq, x27_3, rfl, HA, HJ3, HB⟩ := hcut
  cases kq with
  | zero => exact absurd HA.out (by simp [impl_Rebind.j0])
  | succ kj3 =>
   have H := HA.out
   clear HA
   simp only [impl_Rebind.j0] at H
   by_cases c13 : x27_3 = true
   ·subst c13
    replace H := it_ H rfl
    simp only [Option.some.injEq, Prod.mk.injEq] at H
    obtain ⟨rfl, rfl, rfl⟩ := H
    go_wp2
    go_ret3
    exact ⟨_, by first | rfl | (simp [errW_none, errW_some] <;> rfl) | (simp [*, errW_none, errW_some] <;> rfl), by first | exact Kd.S_nil _ _ _ _ _ | exact Kd.N_nil _ _ _ _ _ | exact Kd.V_nil _ _ _ _ _ | exact Kd.Q_nil _ _ _ _ _ | exact Kd.R_nil _ _ _ _ _, bw_ HB.out⟩
   ·replace c13 := Bool.eq_false_iff.mpr c13
    subst c13
    replace H := if_ H Bool.false_ne_true
    obtain ⟨y226, hy226⟩ : ∃ y_ : List (S53), y_ = (([] : List (S53))) := ⟨_, rfl⟩
    replace H : (impl_Rebind.l0 kj3 a1 l2 y226 (⟨#[]⟩ : ByteArray) l0 (l0.length : Int) 0) = some (r1, r2, r3) := by first | (rw [hy226]; with_reducible exact H) | (have H2_ := (Option.bind_some _ _).symm.trans H; rw [hy226]; with_reducible exact H2_) | (have H2_ := (Option.bind_some _ _).symm.trans H; with_reducible exact H2_) | with_reducible exact H | (rw [hy226]; exact H) | exact H
    have Ny226 := am_ hy226
    clear hy226
    have H' := am_ H
    clear H
    go_wp2_with (first | ((with_reducible refine gate_dst (N := 28) rfl ?_); refine Kd.S_lit k53 _ 53 ?hg (N := 28) ?hd (xs := ([] : List (S53))) (inner := []) (ok := fun _ => True) (okp := fun _ => True) ?hr ?hp (fun _ hk => hk) trivial (Below.refl _ _) (Nat.le_refl _) (by simp) ?_; (case hd => rfl); (case hg => rfl); (case hr => first | (go_simp; done) | (go_simp; rfl)); (case hp => exact (Reps.none _ _)); intro v227 w14 ho15 hb hg_ hnew_; clear hg_ hnew_; (first | rw [← Ny226.out] at ho15 | (simp only [Int.reduceToNat] at ho15; rw [← Ny226.out] at ho15)); have n0_ := am_ (Kd.S_lower ho15 (below_size (bw_ HB.out))); have n1_ := am_ (below_step (bw_ HB.out) hb); have HO228 := n0_; replace HB := n1_; clear n0_ n1_; clear hb ho15))
    go_loopg [9, 10, 31] kj3 (fun kq v9 v10 v31 w' => ∃ (x9_2 : List (S53)) (x10_2 : ByteArray) (x31_2 : Int), v10 = .string x10_2 ∧ v31 = .int .i64 x31_2 ∧ Aside0 (impl_Rebind.l0 kq a1 l2 x9_2 x10_2 l0 (l0.length : Int) x31_2 = some (r1, r2, r3)) ∧ Aside0 (kq ≤ kj3) ∧ Aside0 (Kd.S k53 53 w' w.heap.size (fun _ => True) v9 x9_2) ∧ Aside0 (Below w.heap.size w w'))
    case atStart => exact ⟨(y226), ((⟨#[]⟩ : ByteArray)), (0), sq_, sq_, H', ⟨Nat.le_refl _⟩, ⟨by (with_reducible repeat (first | apply Kd.S_alloc | apply Kd.S_drewN | apply Kd.S_drew)); exact HO228.out⟩, ⟨bw_ HB.out⟩⟩
    case round =>
     clear H'
     try clear c2
     try clear c13
     (try clear HO_9)
     obtain ⟨x9_2, x10_2, x31_2, rfl, rfl, HA, HK2, HO_9, HB⟩ := hrel
     cases gk with
     | zero => exact absurd HA.out (by simp [impl_Rebind.l0])
     | succ k2 =>
      have H := HA.out
      clear HA
      simp only [impl_Rebind.l0] at H
      by_cases c16 : x31_2 < (l0.length : Int)
      ·rw [if_pos c16] at H
       have c16b0 : decide (x31_2 < (l0.length : Int)) = true := decide_eq_true c16
       clear c16
       obtain ⟨c17, H⟩ := ifn_ H
       have c17b0 : decide (0 ≤ x31_2) = true := decide_eq_true c17
       clear c17
       obtain ⟨c18, H⟩ := ifn_ H
       have c18b0 : decide (x31_2 < (l0.length : Int)) = true := decide_eq_true c18
       clear c18
       by_cases c19 : ((rd_T53 l0 x31_2).f0).toList = a1.toList
       ·rw [if_pos c19] at H
        have c19b0 : (((rd_T53 l0 x31_2).f0).toList == a1.toList) = true := beq_iff_eq.mpr c19
        have c19b1 : (((rd_T53 l0 x31_2).f0).toList != a1.toList) = false := bne_eq_false_iff_eq.mpr c19
        clear c19
        have H' := am_ H
        clear H
        have p229 : 0 ≤ (x31_2 : Int) := od_
        have q229 : x31_2 < (l0.length : Int) := od_
        obtain ⟨ad229, A229_1, c229_1, e229, hx229_0, hx229_1, hl229_1, hi229_1⟩ := at_T53 HR0.out x31_2 p229 q229
        cases e229
        (try replace hx229_0 := hc_ HB.out hx229_0)
        (try replace hx229_1 := hc_ HB.out hx229_1)
        have HR229_1 := am_ hi229_1
        have HC229_1 := am_ hl229_1
        clear hi229_1 hl229_1
        replace p229 := eq_true p229
        replace q229 := eq_true q229
        go_wp2_with (first | ((with_reducible refine gate_dst (N := 12) rfl ?_); refine bx_ 12 #[.string (⟨#[]⟩ : ByteArray), .slice none 0 0] 53 ?_; intro gb230 hg w20 hbox hb; have n0_ := am_ (Kd.S_below (Kd.S_elderB (by (with_reducible repeat (first | apply Kd.S_alloc | apply Kd.S_drewN | apply Kd.S_drew)); exact HO_9.out) gb230 (Nat.le_of_eq hg.symm)) hb); have n1_ := am_ (below_step (bw_ HB.out) hb); have n2_ := am_ (hbox); have n3_ := am_ (gs_ hg (bw_ HB.out)); have n4_ := am_ (gs_ hg (bw_ HB.out)); replace HO_9 := n0_; replace HB := n1_; have BK230 := n2_; have GW230 := n3_; have GE230 := n4_; clear n0_ n1_ n2_ n3_ n4_; clear hb hbox hg; have hcz21_0 := cz_ BK230.out 0; have hcz21_1 := cz_ BK230.out 1; have hfz21_0 := blk_frozen BK230.out 0; have hfz21_1 := blk_frozen BK230.out 1))
        go_roundg k2
        case measure => have := HJ3.out; have := HK2.out; omega
        case rel => exact ⟨(x9_2), (x10_2), (wrap64 (x31_2 + 1)), sq_, sq_, H', ⟨by have := HJ3.out; have := HK2.out; omega⟩, ⟨by (with_reducible repeat (first | apply Kd.S_alloc | apply Kd.S_drewN | apply Kd.S_drew)); exact Kd.S_mono (Kd.S_far (p := ⟨gb230, 1, none⟩) (Kd.S_far (p := ⟨gb230, 0, none⟩) (Kd.S_mono HO_9.out (fun k_ hk => (⟨hk, hk.2⟩ : _ ∧ k_ ≠ gb230))) (fun _ hk => hk.2) (.string ((rd_T53 l0 x31_2).f0))) (fun _ hk => hk.2) (.slice A229_1 ((rd_T53 l0 x31_2).f1).length c229_1)) (fun _ hk => trivial)⟩, ⟨bw_ HB.out⟩⟩
       ·rw [if_neg c19] at H
        have c19b0 : (((rd_T53 l0 x31_2).f0).toList == a1.toList) = false := beq_eq_false_iff_ne.mpr c19
        have c19b1 : (((rd_T53 l0 x31_2).f0).toList != a1.toList) = true := bne_iff_ne.mpr c19
        obtain ⟨t231, A220, H⟩ := bE_ H
        have A22 := am_ A220
        clear A220
        by_cases c23 : t231 = true
        ·subst c23
         replace H := it_ H rfl
         have H' := am_ H
         clear H
         have p229 : 0 ≤ (x31_2 : Int) := od_
         have q229 : x31_2 < (l0.length : Int) := od_
         obtain ⟨ad229, A229_1, c229_1, e229, hx229_0, hx229_1, hl229_1, hi229_1⟩ := at_T53 HR0.out x31_2 p229 q229
         cases e229
         (try replace hx229_0 := hc_ HB.out hx229_0)
         (try replace hx229_1 := hc_ HB.out hx229_1)
         have HR229_1 := am_ hi229_1
         have HC229_1 := am_ hl229_1
         clear hi229_1 hl229_1
         replace p229 := eq_true p229
         replace q229 := eq_true q229
         go_wp2_with (first | ((with_reducible refine gate_dst (N := 12) rfl ?_); refine bx_ 12 #[.string (⟨#[]⟩ : ByteArray), .slice none 0 0] 53 ?_; intro gb230 hg w24 hbox hb; have n0_ := am_ (Kd.S_below (Kd.S_elderB (by (with_reducible repeat (first | apply Kd.S_alloc | apply Kd.S_drewN | apply Kd.S_drew)); exact HO_9.out) gb230 (Nat.le_of_eq hg.symm)) hb); have n1_ := am_ (below_step (bw_ HB.out) hb); have n2_ := am_ (hbox); have n3_ := am_ (gs_ hg (bw_ HB.out)); have n4_ := am_ (gs_ hg (bw_ HB.out)); replace HO_9 := n0_; replace HB := n1_; have BK230 := n2_; have GW230 := n3_; have GE230 := n4_; clear n0_ n1_ n2_ n3_ n4_; clear hb hbox hg; have hcz25_0 := cz_ BK230.out 0; have hcz25_1 := cz_ BK230.out 1; have hfz25_0 := blk_frozen BK230.out 0; have hfz25_1 := blk_frozen BK230.out 1) | ((with_reducible refine gate_callee (f := 33) rfl ?_); refine goesL_ (some 53) rfl rfl Try.func33 (by kernel_rfl) rfl #[.slice A229_1 ((rd_T53 l0 x31_2).f1).length c229_1, .slice A2 l2.length c2] rfl (by (try simp only [List.map_toArray, List.map_cons, List.map_nil]); first | done | rfl | (simp only [List.length_drop, List.length_take]; rfl)) ?_; (with_reducible refine (slices_Equal_int_int.calls k2 _ _ ((rd_T53 l0 x31_2).f1) _ _ l2 true _ ?side1 ?side2 ?side3 ?side4 A22.out).mono ?_); (case side1 => exact Kd.C_below HR229_1.out (bw_ HB.out)); (case side2 => exact HC229_1.out); (case side3 => exact Kd.C_below HR2.out (bw_ HB.out)); (case side4 => exact HC2.out); rintro e w' ⟨rfl, ⟨nd, rfl⟩⟩; refine ⟨_, rfl, ?_⟩))
         go_roundg k2
         case measure => have := HJ3.out; have := HK2.out; omega
         case rel => exact ⟨(x9_2), ((rd_T53 l0 x31_2).f0), (wrap64 (x31_2 + 1)), sq_, sq_, H', ⟨by have := HJ3.out; have := HK2.out; omega⟩, ⟨by (with_reducible repeat (first | apply Kd.S_alloc | apply Kd.S_drewN | apply Kd.S_drew)); exact Kd.S_mono (Kd.S_far (p := ⟨gb230, 1, none⟩) (Kd.S_far (p := ⟨gb230, 0, none⟩) (Kd.S_mono HO_9.out (fun k_ hk => (⟨hk, hk.2⟩ : _ ∧ k_ ≠ gb230))) (fun _ hk => hk.2) (.string ((rd_T53 l0 x31_2).f0))) (fun _ hk => hk.2) (.slice A229_1 ((rd_T53 l0 x31_2).f1).length c229_1)) (fun _ hk => trivial)⟩, ⟨bw_ HB.out⟩⟩
        ·replace c23 := Bool.eq_false_iff.mpr c23
         subst c23
         replace H := if_ H Bool.false_ne_true
         obtain ⟨t232, A260, H⟩ := bE_ H
         have A26 := am_ A260
         clear A260
         obtain ⟨c27, H⟩ := ifn_ H
         have LMc27 := am_ c27
         clear c27
         obtain ⟨y235, hy235⟩ : ∃ y_ : List (S53), y_ = (x9_2 ++ [(⟨(rd_T53 l0 x31_2).f0, t232⟩ : S53)]) := ⟨_, rfl⟩
         replace H : (impl_Rebind.l0 k2 a1 l2 y235 x10_2 l0 (l0.length : Int) (wrap64 (x31_2 + 1))) = some (r1, r2, r3) := by first | (rw [hy235]; with_reducible exact H) | (have H2_ := (Option.bind_some _ _).symm.trans H; rw [hy235]; with_reducible exact H2_) | (have H2_ := (Option.bind_some _ _).symm.trans H; with_reducible exact H2_) | with_reducible exact H | (rw [hy235]; exact H) | exact H
         have Ny235 := am_ hy235
         clear hy235
         have H' := am_ H
         clear H
         have p229 : 0 ≤ (x31_2 : Int) := od_
         have q229 : x31_2 < (l0.length : Int) := od_
         obtain ⟨ad229, A229_1, c229_1, e229, hx229_0, hx229_1, hl229_1, hi229_1⟩ := at_T53 HR0.out x31_2 p229 q229
         cases e229
         (try replace hx229_0 := hc_ HB.out hx229_0)
         (try replace hx229_1 := hc_ HB.out hx229_1)
         have HR229_1 := am_ hi229_1
         have HC229_1 := am_ hl229_1
         clear hi229_1 hl229_1
         replace p229 := eq_true p229
         replace q229 := eq_true q229
         try go_wp2_with (first | ((with_reducible refine gate_dst (N := 12) rfl ?_); refine bx_ 12 #[.string (⟨#[]⟩ : ByteArray), .slice none 0 0] 53 ?_; intro gb230 hg w28 hbox hb; have n0_ := am_ (Kd.S_below (Kd.S_elderB (by (with_reducible repeat (first | apply Kd.S_alloc | apply Kd.S_drewN | apply Kd.S_drew)); exact HO_9.out) gb230 (Nat.le_of_eq hg.symm)) hb); have n1_ := am_ (below_step (bw_ HB.out) hb); have n2_ := am_ (hbox); have n3_ := am_ (gs_ hg (bw_ HB.out)); have n4_ := am_ (gs_ hg (bw_ HB.out)); replace HO_9 := n0_; replace HB := n1_; have BK230 := n2_; have GW230 := n3_; have GE230 := n4_; clear n0_ n1_ n2_ n3_ n4_; clear hb hbox hg; have hcz29_0 := cz_ BK230.out 0; have hcz29_1 := cz_ BK230.out 1; have hfz29_0 := blk_frozen BK230.out 0; have hfz29_1 := blk_frozen BK230.out 1) | ((with_reducible refine gate_callee (f := 33) rfl ?_); refine goesL_ (some 53) rfl rfl Try.func33 (by kernel_rfl) rfl #[.slice A229_1 ((rd_T53 l0 x31_2).f1).length c229_1, .slice A2 l2.length c2] rfl (by (try simp only [List.map_toArray, List.map_cons, List.map_nil]); first | done | rfl | (simp only [List.length_drop, List.length_take]; rfl)) ?_; (with_reducible refine (slices_Equal_int_int.calls k2 _ _ ((rd_T53 l0 x31_2).f1) _ _ l2 false _ ?side1 ?side2 ?side3 ?side4 A22.out).mono ?_); (case side1 => exact Kd.C_below HR229_1.out (bw_ HB.out)); (case side2 => exact HC229_1.out); (case side3 => exact Kd.C_below HR2.out (bw_ HB.out)); (case side4 => exact HC2.out); rintro e w' ⟨rfl, ⟨nd, rfl⟩⟩; refine ⟨_, rfl, ?_⟩))
         have n0_ : Aside0 (Kd.S k53 53 ((w28.setCell ⟨gb230, 0, none⟩ (.string ((rd_T53 l0 x31_2).f0))).setCell ⟨gb230, 1, none⟩ (.slice A229_1 ((rd_T53 l0 x31_2).f1).length c229_1)) w.heap.size (fun k_ => k_ ≠ gb230) u9 x9_2) := ⟨by (with_reducible repeat (first | apply Kd.S_alloc | apply Kd.S_drewN | apply Kd.S_drew)); exact Kd.S_mono (Kd.S_far (p := ⟨gb230, 1, none⟩) (Kd.S_far (p := ⟨gb230, 0, none⟩) (Kd.S_mono HO_9.out (fun k_ hk => (⟨hk, hk.2⟩ : _ ∧ k_ ≠ gb230))) (fun _ hk => hk.2) (.string ((rd_T53 l0 x31_2).f0))) (fun _ hk => hk.2) (.slice A229_1 ((rd_T53 l0 x31_2).f1).length c229_1)) (fun _ hk => hk.1.2)⟩
         have n1_ : Aside0 (((w28.setCell ⟨gb230, 0, none⟩ (.string ((rd_T53 l0 x31_2).f0))).setCell ⟨gb230, 1, none⟩ (.slice A229_1 ((rd_T53 l0 x31_2).f1).length c229_1)).heap[gb230]? = some (.cells #[.string ((rd_T53 l0 x31_2).f0), .slice A229_1 ((rd_T53 l0 x31_2).f1).length c229_1] 53 (0, 0))) := ⟨by (with_reducible repeat (first | refine blk_drewN ?_ _ | refine blk_drew ?_ | refine blk_alloc ?_ _)); refine blk_put (cs := #[.string ((rd_T53 l0 x31_2).f0), .slice none 0 0]) ?_ 1 _ rfl; (with_reducible repeat (first | refine blk_drewN ?_ _ | refine blk_drew ?_ | refine blk_alloc ?_ _)); refine blk_put (cs := #[.string (⟨#[]⟩ : ByteArray), .slice none 0 0]) ?_ 0 _ rfl; (with_reducible repeat (first | refine blk_drewN ?_ _ | refine blk_drew ?_ | refine blk_alloc ?_ _)); exact BK230.out⟩
         have n2_ : Aside0 (Below w.heap.size w ((w28.setCell ⟨gb230, 0, none⟩ (.string ((rd_T53 l0 x31_2).f0))).setCell ⟨gb230, 1, none⟩ (.slice A229_1 ((rd_T53 l0 x31_2).f1).length c229_1))) := ⟨bw_ HB.out⟩
         (try clear HO_9)
         (try clear BK230)
         (try clear HB)
         generalize ((w28.setCell ⟨gb230, 0, none⟩ (.string ((rd_T53 l0 x31_2).f0))).setCell ⟨gb230, 1, none⟩ (.slice A229_1 ((rd_T53 l0 x31_2).f1).length c229_1)) = w30 at n0_ n1_ n2_ ⊢
         have HO_9 := n0_
         have BK230 := n1_
         have HB := n2_
         clear n0_ n1_ n2_
         (try (rw [drewN_self w30]; generalize hq_ : World.drewN w30 _ = w30; have n0_ : Aside0 (Kd.S k53 53 w30 w.heap.size (fun k_ => k_ ≠ gb230) u9 x9_2) := ⟨by rw [← hq_]; exact (by (with_reducible repeat (first | apply Kd.S_alloc | apply Kd.S_drewN | apply Kd.S_drew)); exact HO_9.out)⟩; have n1_ : Aside0 (w30.heap[gb230]? = some (.cells #[.string ((rd_T53 l0 x31_2).f0), .slice A229_1 ((rd_T53 l0 x31_2).f1).length c229_1] 53 (0, 0))) := ⟨by rw [← hq_]; exact (bk_ BK230.out)⟩; have n2_ : Aside0 (Below w.heap.size w w30) := ⟨by rw [← hq_]; exact (bw_ HB.out)⟩; clear HO_9 BK230 HB hq_; have HO_9 := n0_; have BK230 := n1_; have HB := n2_; clear n0_ n1_ n2_))
         have n0_ := am_ (Kd.S_drew HO_9.out)
         have n1_ := am_ (blk_drew BK230.out)
         have n2_ := am_ (below_drew1 HB.out)
         replace HO_9 := n0_
         replace BK230 := n1_
         replace HB := n2_
         clear n0_ n1_ n2_
         refine start_ (n := 10) (S := fun w' => w'.cell? ⟨gb230, 0, none⟩ = some (.string ((rd_T53 l0 x31_2).f0)) ∧ w'.cell? ⟨gb230, 1, none⟩ = some (.slice A229_1 ((rd_T53 l0 x31_2).f1).length c229_1)) (ds := []) (Array.replicate 10 false) (by kernel_rfl) rfl rfl ⟨cz_ BK230.out 0, cz_ BK230.out 1⟩ (fun hHeld => ?_); refine with_tabW impl_Rebind.tab7 impl_Rebind.bits7 (fun HT_ HW_ => ?_)
         generalize w30.drew = w31 at HO_9 BK230 HB hHeld ⊢
         refine pS_ 0 35 HT_ ?_
         refine pS_ 1 36 HT_ ?_
         refine pS_ 3 38 HT_ ?_
         refine tS_ 2 37 HT_ HW_ hHeld ?_
         refine tS_ 4 39 HT_ HW_ hHeld ?_
         refine oS_ 5 40 HT_ (fun K hK => ?_)
         refine goes_ Try.func34 (by kernel_rfl) rfl #[.slice A229_1 ((rd_T53 l0 x31_2).f1).length c229_1] (by rfl) rfl rfl (by (try simp only [List.map_toArray, List.map_cons, List.map_nil]); first | done | rfl | (simp only [List.length_drop, List.length_take]; rfl)) ?_
         with_reducible refine (slices_Clone_int_int.calls _ _ ((rd_T53 l0 x31_2).f1) t232 _ ?side1 ?side2 A26.out).mono ?_
         (case side1 => repeat (first | exact (Kd.C_below HR229_1.out HB.out) | (with_reducible refine Kd.C_alloc ?_ _) | (with_reducible refine Kd.C_drewN ?_ _) | (with_reducible refine Kd.C_drew ?_)))
         (case side2 => exact HC229_1.out)
         rintro e w32 ⟨v233, rfl, ho0, hb⟩
         refine ⟨_, rfl, ?_⟩
         have n0_ := am_ (Kd.S_elder' (by (with_reducible repeat (first | apply Kd.S_alloc | apply Kd.S_drewN | apply Kd.S_drew)); exact HO_9.out) (Kd.R_base ho0) hb)
         have n1_ := am_ (Kd.R_lower ho0 (below_size (bw_ HB.out)))
         have n2_ := am_ (blk_below (bk_ BK230.out) hb)
         have n3_ := am_ (below_step (bw_ HB.out) hb)
         replace HO_9 := n0_
         have HO234 := n1_
         replace BK230 := n2_
         replace HB := n3_
         clear n0_ n1_ n2_ n3_
         (try clear hb)
         (try clear hb2)
         (try clear hk)
         (try clear hi)
         (try clear ho0)
         obtain ⟨Ao33, co33, eo33⟩ := Kd.R_slice HO234.out
         (first | subst eo33 | (injection eo33 with f1_ f2_ f3_; have f4_ := f1_.symm; have f5_ := f3_.symm; clear f1_ f2_ f3_; subst f4_; subst f5_))
         refine hK.out _ _ ⟨cz_ BK230.out 0, cz_ BK230.out 1⟩ (fun hHeld => ?_)
         clear hK K
         refine nD_ 40 ?_
         refine pS_ 6 41 HT_ ?_
         refine oS_ 7 42 HT_ (fun K hK => ?_)
         refine value_ (w1 := ?_) (v := ?_) (by rfl) rfl ?_ ?_
         rotate_left 2
         ·go_simp
          constructor
          ·rfl
          ·rfl
         refine hK.out _ _ ⟨(blk_cell (blk_alloc BK230.out _) 0).trans rfl, (blk_cell (blk_alloc BK230.out _) 1).trans rfl⟩ (fun hHeld => ?_)
         clear hK K
         refine nD_ 42 ?_
         refine oS_ 8 43 HT_ (fun K hK => ?_)
         refine Kd.S_append_step k53 (w0 := w) w.heap.size (by rfl) (.tmp 35) (.tmp 42) 25 53 (.agg #[(.string ⟨#[]⟩), (.slice none 0 0)]) 40 rfl Try.underlying25 info53 rfl (by decide) (by omega) u9 x9_2 (⟨(rd_T53 l0 x31_2).f0, t232⟩ : S53) [.string ((rd_T53 l0 x31_2).f0), .slice Ao33 t232.length co33] (fun k_ => k_ ≠ gb230) (fun k_ => some k_ = (.slice Ao33 t232.length co33 : Value).ownBlock) rfl rfl ?aP (fun k_ hk_ => ((Kd.R_mono (ok' := fun k_ => ((fun k_ => k_ ≠ gb230)) k_ ∧ nb k_ u9) (Kd.R_types (Kd.R_apart' (HO234.out) (Kd.S_typed HO_9.out) (by decide)) BK230.out (by decide)) (fun k_ hk => ⟨hk.2, hk.1.2⟩))).1 k_ hk_.symm) ?aF ?aO ?aB ?aS ?aL ?_
         (case aP => exact k53_mkM _ _ _ (⟨(rd_T53 l0 x31_2).f0, t232⟩ : S53) (Kd.R_mono (Kd.R_tight rfl (Kd.R_mono (ok' := fun k_ => ((fun k_ => k_ ≠ gb230)) k_ ∧ nb k_ u9) (Kd.R_types (Kd.R_apart' (HO234.out) (Kd.S_typed HO_9.out) (by decide)) BK230.out (by decide)) (fun k_ hk => ⟨hk.2, hk.1.2⟩))) (fun _ h_ => h_)))
         (case aB => exact (bw_ HB.out))
         (case aF => exact (fun k_ hk => Kd.freshB (bk_ BK230.out) k_ hk))
         (case aO => exact (by (with_reducible repeat (first | apply Kd.S_alloc | apply Kd.S_drewN | apply Kd.S_drew)); exact Kd.S_mono HO_9.out (fun k_ hk => ⟨hk.1, fun e_ => hk.2 e_⟩)))
         (case aS => exact (below_size (bw_ HB.out)))
         (case aL => have := LMc27.out; omega)
         intro v236 w34 ho hb hg hat
         rw [← Ny235.out] at ho
         have n0_ := am_ (blk_grown (bk_ BK230.out) hg (Kd.S_away HO_9.out (fun _ hk => hk.1)))
         have n1_ := am_ (hb)
         have n2_ := am_ (ho)
         clear HO_9
         clear HO234
         replace BK230 := n0_
         replace HB := n1_
         have HO237 := n2_
         clear n0_ n1_ n2_
         clear ho hb hg hat
         refine hK.out _ _ ⟨cz_ BK230.out 0, cz_ BK230.out 1⟩ (fun hHeld => ?_)
         clear hK K
         refine nD_ 43 ?_
         refine pS_ 9 9 HT_ ?_
         refine done_ (done_of HT_.out (by kernel_rfl)) ?_
         try go_wp2
         go_roundg k2
         case measure => have := HJ3.out; have := HK2.out; omega
         case rel => exact ⟨(y235), (x10_2), (wrap64 (x31_2 + 1)), sq_, sq_, H', ⟨by have := HJ3.out; have := HK2.out; omega⟩, ⟨by (with_reducible repeat (first | apply Kd.S_alloc | apply Kd.S_drewN | apply Kd.S_drew)); exact Kd.S_mono HO237.out (fun _ hk => trivial)⟩, ⟨bw_ HB.out⟩⟩
      ·rw [if_neg c16] at H
       have c16b0 : decide (x31_2 < (l0.length : Int)) = false := decide_eq_false c16
       clear c16
       replace H := Option.bind_eq_some_iff.mp H
       obtain ⟨⟨t238, t239⟩, A350, H⟩ := H
       replace H : ((slices_Clone_int_int.f l2).bind fun t240 => (if x9_2.length < 3518437208883 then ((impl_Bind_38.f x9_2 t238 (⟨a1, t240⟩ : S53)).bind fun y243 => ((impl_GoodBinds.f k2 y243).bind fun t246 => (if t246 = true then (some (y243, x10_2, true)) else (some (([] : List (S53)), (⟨#[]⟩ : ByteArray), false))))) else (none))) = some (r1, r2, r3) := H
       have A35 := am_ A350
       clear A350
       obtain ⟨t240, A360, H⟩ := bE_ H
       have A36 := am_ A360
       clear A360
       obtain ⟨c37, H⟩ := ifn_ H
       have LMc37 := am_ c37
       clear c37
       obtain ⟨y243, hy243, H⟩ := Option.bind_eq_some_iff.mp H
       have Ny243 := am_ hy243
       clear hy243
       obtain ⟨t246, A380, H⟩ := bE_ H
       have A38 := am_ A380
       clear A380
       by_cases c39 : t246 = true
       ·subst c39
        replace H := it_ H rfl
        simp only [Option.some.injEq, Prod.mk.injEq] at H
        obtain ⟨rfl, rfl, rfl⟩ := H
        obtain ⟨Ao40, co40, eo40⟩ := Kd.S_slice HO_9.out
        subst eo40
        go_wp2_with (first | ((with_reducible refine gate_callee (f := 35) rfl ?_); refine goesL_ (some 60) rfl rfl Try.func35 (by kernel_rfl) rfl #[.slice Ao40 x9_2.length co40, .string a1, .func (.func 36) #[] #[]] rfl (by (try simp only [List.map_toArray, List.map_cons, List.map_nil]); first | done | rfl | (simp only [List.length_drop, List.length_take]; rfl)) ?_; (with_reducible refine (slices_BinarySearchFunc_impl_Bind_impl_Bind_string_at_impl_Rebind_1.calls k2 _ _ x9_2 a1  t238 t239 _ ?side1 ?side2 A35.out).mono ?_); (case side1 => repeat (first | exact (Kd.S_reads' HO_9.out).2.2 | (with_reducible refine Kd.C_alloc ?_ _) | (with_reducible refine Kd.C_drewN ?_ _) | (with_reducible refine Kd.C_drew ?_))); (case side2 => exact (Kd.S_reads' HO_9.out).2.1); rintro e w41 ⟨rfl, hb⟩; refine ⟨_, rfl, ?_⟩; have n0_ := am_ (Kd.S_below (by (with_reducible repeat (first | apply Kd.S_alloc | apply Kd.S_drewN | apply Kd.S_drew)); exact HO_9.out) hb); have n1_ := am_ (below_step (bw_ HB.out) hb); replace HO_9 := n0_; replace HB := n1_; clear n0_ n1_; (try clear hb); (try clear hb2); (try clear hk); (try clear hi)) | ((with_reducible refine gate_callee (f := 34) rfl ?_); refine goesL_ (some 67) rfl rfl Try.func34 (by kernel_rfl) rfl #[.slice A2 l2.length c2] rfl (by (try simp only [List.map_toArray, List.map_cons, List.map_nil]); first | done | rfl | (simp only [List.length_drop, List.length_take]; rfl)) ?_; (with_reducible refine (slices_Clone_int_int.calls _ _ l2 t240 _ ?side1 ?side2 A36.out).mono ?_); (case side1 => repeat (first | exact (Kd.C_below HR2.out HB.out) | (with_reducible refine Kd.C_alloc ?_ _) | (with_reducible refine Kd.C_drewN ?_ _) | (with_reducible refine Kd.C_drew ?_))); (case side2 => exact HC2.out); rintro e w42 ⟨v241, rfl, ho0, hb⟩; refine ⟨_, rfl, ?_⟩; have n0_ := am_ (Kd.S_elder' (by (with_reducible repeat (first | apply Kd.S_alloc | apply Kd.S_drewN | apply Kd.S_drew)); exact HO_9.out) (Kd.R_base ho0) hb); have n1_ := am_ (Kd.R_lower ho0 (below_size (bw_ HB.out))); have n2_ := am_ (below_step (bw_ HB.out) hb); replace HO_9 := n0_; have HO242 := n1_; replace HB := n2_; clear n0_ n1_ n2_; (try clear hb); (try clear hb2); (try clear hk); (try clear hi); (try clear ho0); obtain ⟨Ao43, co43, eo43⟩ := Kd.R_slice HO242.out; subst eo43) | (go_at_call 38; refine (impl_Bind_38.calls (w0 := w) w.heap.size (.slice Ao40 x9_2.length co40) x9_2 (⟨a1, t240⟩ : S53) [.string a1, .slice Ao43 t240.length co43] (fun _ => True) (fun k_ => some k_ = (.slice Ao43 t240.length co43 : Value).ownBlock) t238 (impl_Bind_38.eq Ny243.out).1 (impl_Bind_38.eq Ny243.out).2.1 ?aP (fun k_ hk_ => ((Kd.R_mono (ok' := fun k_ => ((fun _ => True)) k_ ∧ nb k_ (.slice Ao40 x9_2.length co40)) (Kd.R_apart' (HO242.out) (Kd.S_typed HO_9.out) (by decide)) (fun k_ hk => ⟨trivial, hk.2⟩))).1 k_ hk_.symm) ?aF ?aO ?aB ?aS ?aL).mono ?_; (case aP => exact k53_mkM _ _ _ (⟨a1, t240⟩ : S53) (Kd.R_mono (Kd.R_tight rfl (Kd.R_mono (ok' := fun k_ => ((fun _ => True)) k_ ∧ nb k_ (.slice Ao40 x9_2.length co40)) (Kd.R_apart' (HO242.out) (Kd.S_typed HO_9.out) (by decide)) (fun k_ hk => ⟨trivial, hk.2⟩))) (fun _ h_ => h_))); (case aB => exact (bw_ HB.out)); (case aF => exact (fun _ _ => trivial)); (case aO => exact (by (with_reducible repeat (first | apply Kd.S_alloc | apply Kd.S_drewN | apply Kd.S_drew)); exact Kd.S_mono HO_9.out (fun k_ hk => ⟨trivial, fun e_ => hk.2 e_⟩))); (case aS => exact (below_size (bw_ HB.out))); (case aL => have := LMc37.out; omega); rintro e w44 ⟨v244, rfl, ho, hb⟩; rw [← (impl_Bind_38.eq Ny243.out).2.2] at ho; have n0_ := am_ (hb); have n1_ := am_ (ho); clear HO_9; clear HO242; replace HB := n0_; have HO245 := n1_; clear n0_ n1_; clear ho hb; obtain ⟨Ao45, co45, eo45⟩ := Kd.S_slice HO245.out; subst eo45) | ((with_reducible refine gate_callee (f := 30) rfl ?_); refine goesL_ (some 72) rfl rfl Try.func30 (by kernel_rfl) rfl #[.slice Ao45 y243.length co45] rfl (by (try simp only [List.map_toArray, List.map_cons, List.map_nil]); first | done | rfl | (simp only [List.length_drop, List.length_take]; rfl)) ?_; (with_reducible refine (impl_GoodBinds.calls k2 _ _ y243 true _ ?side1 ?side2 A38.out).mono ?_); (case side1 => repeat (first | exact (Kd.S_reads' HO245.out).2.2 | (with_reducible refine Kd.C_alloc ?_ _) | (with_reducible refine Kd.C_drewN ?_ _) | (with_reducible refine Kd.C_drew ?_))); (case side2 => exact (Kd.S_reads' HO245.out).2.1); rintro e w46 ⟨rfl, hb⟩; refine ⟨_, rfl, ?_⟩; have n0_ := am_ (Kd.S_below (by (with_reducible repeat (first | apply Kd.S_alloc | apply Kd.S_drewN | apply Kd.S_drew)); exact HO245.out) hb); have n1_ := am_ (below_step (bw_ HB.out) hb); replace HO245 := n0_; replace HB := n1_; clear n0_ n1_; (try clear hb); (try clear hb2); (try clear hk); (try clear hi)))
        go_ret3
        exact ⟨_, by first | rfl | (simp [errW_none, errW_some] <;> rfl) | (simp [*, errW_none, errW_some] <;> rfl), by (with_reducible repeat (first | apply Kd.S_alloc | apply Kd.S_drewN | apply Kd.S_drew)); exact HO245.out, bw_ HB.out⟩
       ·replace c39 := Bool.eq_false_iff.mpr c39
        subst c39
        replace H := if_ H Bool.false_ne_true
        simp only [Option.some.injEq, Prod.mk.injEq] at H
        obtain ⟨rfl, rfl, rfl⟩ := H
        obtain ⟨Ao47, co47, eo47⟩ := Kd.S_slice HO_9.out
        subst eo47
        go_wp2_with (first | ((with_reducible refine gate_callee (f := 35) rfl ?_); refine goesL_ (some 60) rfl rfl Try.func35 (by kernel_rfl) rfl #[.slice Ao47 x9_2.length co47, .string a1, .func (.func 36) #[] #[]] rfl (by (try simp only [List.map_toArray, List.map_cons, List.map_nil]); first | done | rfl | (simp only [List.length_drop, List.length_take]; rfl)) ?_; (with_reducible refine (slices_BinarySearchFunc_impl_Bind_impl_Bind_string_at_impl_Rebind_1.calls k2 _ _ x9_2 a1  t238 t239 _ ?side1 ?side2 A35.out).mono ?_); (case side1 => repeat (first | exact (Kd.S_reads' HO_9.out).2.2 | (with_reducible refine Kd.C_alloc ?_ _) | (with_reducible refine Kd.C_drewN ?_ _) | (with_reducible refine Kd.C_drew ?_))); (case side2 => exact (Kd.S_reads' HO_9.out).2.1); rintro e w48 ⟨rfl, hb⟩; refine ⟨_, rfl, ?_⟩; have n0_ := am_ (Kd.S_below (by (with_reducible repeat (first | apply Kd.S_alloc | apply Kd.S_drewN | apply Kd.S_drew)); exact HO_9.out) hb); have n1_ := am_ (below_step (bw_ HB.out) hb); replace HO_9 := n0_; replace HB := n1_; clear n0_ n1_; (try clear hb); (try clear hb2); (try clear hk); (try clear hi)) | ((with_reducible refine gate_callee (f := 34) rfl ?_); refine goesL_ (some 67) rfl rfl Try.func34 (by kernel_rfl) rfl #[.slice A2 l2.length c2] rfl (by (try simp only [List.map_toArray, List.map_cons, List.map_nil]); first | done | rfl | (simp only [List.length_drop, List.length_take]; rfl)) ?_; (with_reducible refine (slices_Clone_int_int.calls _ _ l2 t240 _ ?side1 ?side2 A36.out).mono ?_); (case side1 => repeat (first | exact (Kd.C_below HR2.out HB.out) | (with_reducible refine Kd.C_alloc ?_ _) | (with_reducible refine Kd.C_drewN ?_ _) | (with_reducible refine Kd.C_drew ?_))); (case side2 => exact HC2.out); rintro e w49 ⟨v241, rfl, ho0, hb⟩; refine ⟨_, rfl, ?_⟩; have n0_ := am_ (Kd.S_elder' (by (with_reducible repeat (first | apply Kd.S_alloc | apply Kd.S_drewN | apply Kd.S_drew)); exact HO_9.out) (Kd.R_base ho0) hb); have n1_ := am_ (Kd.R_lower ho0 (below_size (bw_ HB.out))); have n2_ := am_ (below_step (bw_ HB.out) hb); replace HO_9 := n0_; have HO242 := n1_; replace HB := n2_; clear n0_ n1_ n2_; (try clear hb); (try clear hb2); (try clear hk); (try clear hi); (try clear ho0); obtain ⟨Ao50, co50, eo50⟩ := Kd.R_slice HO242.out; subst eo50) | (go_at_call 38; refine (impl_Bind_38.calls (w0 := w) w.heap.size (.slice Ao47 x9_2.length co47) x9_2 (⟨a1, t240⟩ : S53) [.string a1, .slice Ao50 t240.length co50] (fun _ => True) (fun k_ => some k_ = (.slice Ao50 t240.length co50 : Value).ownBlock) t238 (impl_Bind_38.eq Ny243.out).1 (impl_Bind_38.eq Ny243.out).2.1 ?aP (fun k_ hk_ => ((Kd.R_mono (ok' := fun k_ => ((fun _ => True)) k_ ∧ nb k_ (.slice Ao47 x9_2.length co47)) (Kd.R_apart' (HO242.out) (Kd.S_typed HO_9.out) (by decide)) (fun k_ hk => ⟨trivial, hk.2⟩))).1 k_ hk_.symm) ?aF ?aO ?aB ?aS ?aL).mono ?_; (case aP => exact k53_mkM _ _ _ (⟨a1, t240⟩ : S53) (Kd.R_mono (Kd.R_tight rfl (Kd.R_mono (ok' := fun k_ => ((fun _ => True)) k_ ∧ nb k_ (.slice Ao47 x9_2.length co47)) (Kd.R_apart' (HO242.out) (Kd.S_typed HO_9.out) (by decide)) (fun k_ hk => ⟨trivial, hk.2⟩))) (fun _ h_ => h_))); (case aB => exact (bw_ HB.out)); (case aF => exact (fun _ _ => trivial)); (case aO => exact (by (with_reducible repeat (first | apply Kd.S_alloc | apply Kd.S_drewN | apply Kd.S_drew)); exact Kd.S_mono HO_9.out (fun k_ hk => ⟨trivial, fun e_ => hk.2 e_⟩))); (case aS => exact (below_size (bw_ HB.out))); (case aL => have := LMc37.out; omega); rintro e w51 ⟨v244, rfl, ho, hb⟩; rw [← (impl_Bind_38.eq Ny243.out).2.2] at ho; have n0_ := am_ (hb); have n1_ := am_ (ho); clear HO_9; clear HO242; replace HB := n0_; have HO245 := n1_; clear n0_ n1_; clear ho hb; obtain ⟨Ao52, co52, eo52⟩ := Kd.S_slice HO245.out; subst eo52) | ((with_reducible refine gate_callee (f := 30) rfl ?_); refine goesL_ (some 72) rfl rfl Try.func30 (by kernel_rfl) rfl #[.slice Ao52 y243.length co52] rfl (by (try simp only [List.map_toArray, List.map_cons, List.map_nil]); first | done | rfl | (simp only [List.length_drop, List.length_take]; rfl)) ?_; (with_reducible refine (impl_GoodBinds.calls k2 _ _ y243 false _ ?side1 ?side2 A38.out).mono ?_); (case side1 => repeat (first | exact (Kd.S_reads' HO245.out).2.2 | (with_reducible refine Kd.C_alloc ?_ _) | (with_reducible refine Kd.C_drewN ?_ _) | (with_reducible refine Kd.C_drew ?_))); (case side2 => exact (Kd.S_reads' HO245.out).2.1); rintro e w53 ⟨rfl, hb⟩; refine ⟨_, rfl, ?_⟩; have n0_ := am_ (Kd.S_below (by (with_reducible repeat (first | apply Kd.S_alloc | apply Kd.S_drewN | apply Kd.S_drew)); exact HO245.out) hb); have n1_ := am_ (below_step (bw_ HB.out) hb); replace HO245 := n0_; replace HB := n1_; clear n0_ n1_; (try clear hb); (try clear hb2); (try clear hk); (try clear hi)))
        go_ret3
        exact ⟨_, by first | rfl | (simp [errW_none, errW_some] <;> rfl) | (simp [*, errW_none, errW_some] <;> rfl), by first | exact Kd.S_nil _ _ _ _ _ | exact Kd.N_nil _ _ _ _ _ | exact Kd.V_nil _ _ _ _ _ | exact Kd.Q_nil _ _ _ _ _ | exact Kd.R_nil _ _ _ _ _, bw_ HB.out⟩
/-! ### laws_eqIntS: function 11 -/
def laws_eqIntS.l0 : Nat → List Int → List Int → Int → Option (Bool)
 | 0, _, _, _ => none
 | k + 1, x0, x1, x5 => if x5 < (x0.length : Int) then (if 0 ≤ x5 then (if x5 < (x1.length : Int) then (if (rd x0 x5) = (rd x1 x5) then (laws_eqIntS.l0 k x0 x1 (wrap64 (x5 + 1))) else (some false)) else (none)) else (none)) else (some true)
def laws_eqIntS.f (k : Nat) (l0 : List Int) (l1 : List Int) : Option (Bool) := if (l0.length : Int) = (l1.length : Int) then (laws_eqIntS.l0 k l0 l1 0) else (some false)
theorem laws_eqIntS.mono_l : ∀ k, (∀ y0 y1 y2, LeO (laws_eqIntS.l0 k y0 y1 y2) (laws_eqIntS.l0 (k + 1) y0 y1 y2))
 | 0 => fun _ _ _ r h => by simp [laws_eqIntS.l0] at h
 | k + 1 => by
  have ih0 := laws_eqIntS.mono_l k
  ·intro y0 y1 y2
   unfold laws_eqIntS.l0
   repeat' first
   | (with_reducible exact ih0 _ _ _)
   | (with_reducible exact LeO.refl _)
   | (with_reducible exact LeO.none _)
   | (with_reducible refine LeO.ite ?_ ?_)
   | (with_reducible refine LeO.bind ?_ (fun _ => ?_))
   | exact ih0 _ _ _
   | exact LeO.none _
   | refine LeO.ite ?_ ?_
   | refine LeO.bind ?_ (fun _ => ?_)
theorem laws_eqIntS.mono : ∀ a0 a1 k, LeO (laws_eqIntS.f k a0 a1) (laws_eqIntS.f (k + 1) a0 a1) := by
 intro a0 a1 k
 have ih0 := laws_eqIntS.mono_l k
 unfold laws_eqIntS.f
 repeat' first
   | (with_reducible exact ih0 _ _ _)
   | (with_reducible exact LeO.refl _)
   | (with_reducible exact LeO.none _)
   | (with_reducible refine LeO.ite ?_ ?_)
   | (with_reducible refine LeO.bind ?_ (fun _ => ?_))
   | exact ih0 _ _ _
   | exact LeO.none _
   | refine LeO.ite ?_ ?_
   | refine LeO.bind ?_ (fun _ => ?_)
set_option maxHeartbeats 8000000 in
set_option maxRecDepth 100000 in
theorem laws_eqIntS.calls (k : Nat) (A0 : Option Addr) (c0 : Nat) (l0 : List Int) (A1 : Option Addr) (c1 : Nat) (l1 : List Int) (r : Bool) (w : World) (hr0 : Kd.C (Kd.int .i64) w A0 l0.length l0) (hc0 : l0.length ≤ c0) (hr1 : Kd.C (Kd.int .i64) w A1 l1.length l1) (hc1 : l1.length ≤ c1) (h : laws_eqIntS.f k l0 l1 = some r) :
  Calls Try.prog 11 #[.slice A0 l0.length c0, .slice A1 l1.length c1] w fun e w' => e = .returned (.bool r) ∧ Drawn0 w w' := by
 have HR0 := am_ hr0
 have HC0 := am_ hc0
 clear hr0 hc0
 have HR1 := am_ hr1
 have HC1 := am_ hc1
 clear hr1 hc1
 have H : (if (l0.length : Int) = (l1.length : Int) then (laws_eqIntS.l0 k l0 l1 0) else (some false)) = some r := h
 clear h
 by_cases c3 : (l0.length : Int) = (l1.length : Int)
 ·rw [if_pos c3] at H
  have c3b0 : ((l0.length : Int) == (l1.length : Int)) = true := beq_iff_eq.mpr c3
  have c3b1 : ((l0.length : Int) != (l1.length : Int)) = false := bne_eq_false_iff_eq.mpr c3
  have c3b2 : (l0.length == l1.length) = true := by first | simpa using c3 | (simp at c3 ⊢; omega)
  clear c3
  have H' := am_ H
  clear H
  go_enter Try.func11, Try.ntmps11
  go_wp2
  repeat (go_quiet (fail); try go_wp2)
  go_loopg [5] k (fun kq v5 w' => ∃ (x5_1 : Int), v5 = .int .i64 x5_1 ∧ Aside0 (laws_eqIntS.l0 kq l0 l1 x5_1 = some r) ∧ Aside0 (kq ≤ k) ∧ Drawn0 w w')
  case atStart => exact ⟨(0), sq_, H', ⟨Nat.le_refl _⟩, by repeat (first | exact Drawn0.refl _ | apply Drawn0.step)⟩
  case round =>
   clear H'
   try clear c1
   try clear c3
   try clear c3b0
   try clear c3b1
   try clear c3b2
   obtain ⟨x5_1, rfl, HA, HK1, ⟨m1, rfl⟩⟩ := hrel
   cases gk with
   | zero => exact absurd HA.out (by simp [laws_eqIntS.l0])
   | succ k1 =>
    have H := HA.out
    clear HA
    simp only [laws_eqIntS.l0] at H
    by_cases c4 : x5_1 < (l0.length : Int)
    ·rw [if_pos c4] at H
     have c4b0 : decide (x5_1 < (l0.length : Int)) = true := decide_eq_true c4
     clear c4
     obtain ⟨c5, H⟩ := ifn_ H
     have c5b0 : decide (0 ≤ x5_1) = true := decide_eq_true c5
     clear c5
     obtain ⟨c6, H⟩ := ifn_ H
     have c6b0 : decide (x5_1 < (l1.length : Int)) = true := decide_eq_true c6
     clear c6
     by_cases c7 : (rd l0 x5_1) = (rd l1 x5_1)
     ·rw [if_pos c7] at H
      have c7b0 : ((rd l0 x5_1) == (rd l1 x5_1)) = true := beq_iff_eq.mpr c7
      have c7b1 : ((rd l0 x5_1) != (rd l1 x5_1)) = false := bne_eq_false_iff_eq.mpr c7
      clear c7
      have H' := am_ H
      clear H
      have p247 : 0 ≤ (x5_1 : Int) := od_
      have q247 : x5_1 < (l0.length : Int) := od_
      obtain ⟨ad247, e247, hx247_0⟩ := Kd.at_int HR0.out x5_1 p247 q247
      cases e247
      replace p247 := eq_true p247
      replace q247 := eq_true q247
      have p248 : 0 ≤ (x5_1 : Int) := od_
      have q248 : x5_1 < (l1.length : Int) := od_
      obtain ⟨ad248, e248, hx248_0⟩ := Kd.at_int HR1.out x5_1 p248 q248
      cases e248
      replace p248 := eq_true p248
      replace q248 := eq_true q248
      go_wp2
      repeat (go_quiet (fail); try go_wp2)
      go_roundg k1
      case measure => have := HK1.out; omega
      case rel => exact ⟨(wrap64 (x5_1 + 1)), sq_, H', ⟨by have := HK1.out; omega⟩, by repeat (first | exact Drawn0.refl _ | apply Drawn0.step)⟩
     ·rw [if_neg c7] at H
      have c7b0 : ((rd l0 x5_1) == (rd l1 x5_1)) = false := beq_eq_false_iff_ne.mpr c7
      have c7b1 : ((rd l0 x5_1) != (rd l1 x5_1)) = true := bne_iff_ne.mpr c7
      obtain rfl := Option.some.inj H
      have p247 : 0 ≤ (x5_1 : Int) := od_
      have q247 : x5_1 < (l0.length : Int) := od_
      obtain ⟨ad247, e247, hx247_0⟩ := Kd.at_int HR0.out x5_1 p247 q247
      cases e247
      replace p247 := eq_true p247
      replace q247 := eq_true q247
      have p248 : 0 ≤ (x5_1 : Int) := od_
      have q248 : x5_1 < (l1.length : Int) := od_
      obtain ⟨ad248, e248, hx248_0⟩ := Kd.at_int HR1.out x5_1 p248 q248
      cases e248
      replace p248 := eq_true p248
      replace q248 := eq_true q248
      go_wp2
      repeat (go_quiet (fail); try go_wp2)
      go_ret
      exact ⟨by first | rfl | (simp; done) | (simp [*]; done), by repeat (first | exact Drawn0.refl _ | apply Drawn0.step)⟩
    ·rw [if_neg c4] at H
     have c4b0 : decide (x5_1 < (l0.length : Int)) = false := decide_eq_false c4
     clear c4
     obtain rfl := Option.some.inj H
     go_wp2
     repeat (go_quiet (fail); try go_wp2)
     go_ret
     exact ⟨by first | rfl | (simp; done) | (simp [*]; done), by repeat (first | exact Drawn0.refl _ | apply Drawn0.step)⟩
 ·rw [if_neg c3] at H
  have c3b0 : ((l0.length : Int) == (l1.length : Int)) = false := beq_eq_false_iff_ne.mpr c3
  have c3b1 : ((l0.length : Int) != (l1.length : Int)) = true := bne_iff_ne.mpr c3
  have c3b2 : (l0.length == l1.length) = false := by first | simpa using c3 | (simp at c3 ⊢; omega)
  obtain rfl := Option.some.inj H
  go_enter Try.func11, Try.ntmps11
  go_wp2
  repeat (go_quiet (fail); try go_wp2)
  go_ret
  exact ⟨by first | rfl | (simp; done) | (simp [*]; done), by repeat (first | exact Drawn0.refl _ | apply Drawn0.step)⟩

/-! ### laws_eqBind: function 39 -/
def laws_eqBind.f (k : Nat) (a0_0 : ByteArray) (l0_1 : List Int) (a1_0 : ByteArray) (l1_1 : List Int) : Option (Bool) := if a0_0.toList = a1_0.toList then ((laws_eqIntS.f k l0_1 l1_1).bind fun t251 => (if t251 = true then (some true) else (some false))) else (some false)
theorem laws_eqBind.mono : ∀ a0 a1 a2 a3 k, LeO (laws_eqBind.f k a0 a1 a2 a3) (laws_eqBind.f (k + 1) a0 a1 a2 a3) := by
 intro a0 a1 a2 a3 k
 unfold laws_eqBind.f
 repeat' first
   | (with_reducible exact laws_eqIntS.mono _ _ _)
   | (with_reducible exact LeO.refl _)
   | (with_reducible exact LeO.none _)
   | (with_reducible refine LeO.ite ?_ ?_)
   | (with_reducible refine LeO.bind ?_ (fun _ => ?_))
   | exact laws_eqIntS.mono _ _ _
   | exact LeO.none _
   | refine LeO.ite ?_ ?_
   | refine LeO.bind ?_ (fun _ => ?_)
set_option maxHeartbeats 8000000 in
set_option maxRecDepth 100000 in
theorem laws_eqBind.calls (k : Nat) (a0_0 : ByteArray) (A0_1 : Option Addr) (c0_1 : Nat) (l0_1 : List Int) (a1_0 : ByteArray) (A1_1 : Option Addr) (c1_1 : Nat) (l1_1 : List Int) (r : Bool) (w : World) (hr0_1 : Kd.C (Kd.int .i64) w A0_1 l0_1.length l0_1) (hc0_1 : l0_1.length ≤ c0_1) (hr1_1 : Kd.C (Kd.int .i64) w A1_1 l1_1.length l1_1) (hc1_1 : l1_1.length ≤ c1_1) (h : laws_eqBind.f k a0_0 l0_1 a1_0 l1_1 = some r) :
  Calls Try.prog 39 #[.agg #[.string a0_0, .slice A0_1 l0_1.length c0_1], .agg #[.string a1_0, .slice A1_1 l1_1.length c1_1]] w fun e w' => e = .returned (.bool r) ∧ Below w.heap.size w w' := by
 have hu53 := Try.underlying53
 have HR0_1 := am_ hr0_1
 have HC0_1 := am_ hc0_1
 clear hr0_1 hc0_1
 have HR1_1 := am_ hr1_1
 have HC1_1 := am_ hc1_1
 clear hr1_1 hc1_1
 have HB := am_ (Below.refl w.heap.size w)
 have H : (if a0_0.toList = a1_0.toList then ((laws_eqIntS.f k l0_1 l1_1).bind fun t251 => (if t251 = true then (some true) else (some false))) else (some false)) = some r := h
 clear h
 by_cases c3 : a0_0.toList = a1_0.toList
 ·rw [if_pos c3] at H
  have c3b0 : (a0_0.toList == a1_0.toList) = true := beq_iff_eq.mpr c3
  have c3b1 : (a0_0.toList != a1_0.toList) = false := bne_eq_false_iff_eq.mpr c3
  clear c3
  obtain ⟨t251, A40, H⟩ := bE_ H
  have A4 := am_ A40
  clear A40
  by_cases c5 : t251 = true
  ·subst c5
   replace H := it_ H rfl
   obtain rfl := Option.some.inj H
   go_enter Try.func39, Try.ntmps39
   go_wp2_with (first | ((with_reducible refine gate_dst (N := 2) rfl ?_); refine bx_ 2 #[.string a0_0, .slice A0_1 l0_1.length c0_1] 53 ?_; intro gb249 hg w6 hbox hb; have n0_ := am_ (below_step (bw_ HB.out) hb); have n1_ := am_ (hbox); have n2_ := am_ (gs_ hg (bw_ HB.out)); have n3_ := am_ (gs_ hg (bw_ HB.out)); replace HB := n0_; have BK249 := n1_; have GW249 := n2_; have GE249 := n3_; clear n0_ n1_ n2_ n3_; clear hb hbox hg) | ((with_reducible refine gate_dst (N := 3) rfl ?_); refine bx_ 3 #[.string a1_0, .slice A1_1 l1_1.length c1_1] 53 ?_; intro gb250 hg w7 hbox hb; have n0_ := am_ (blk_below (bk_ BK249.out) hb); have n1_ := am_ (below_step (bw_ HB.out) hb); have n2_ := am_ (hbox); have n3_ := am_ (gs_ hg (bw_ HB.out)); have n4_ := am_ (gs_ hg (bw_ HB.out)); have n5_ := am_ (nl_ hg (bk_ BK249.out)); have n6_ := am_ (ng_ hg (bk_ BK249.out)); replace BK249 := n0_; replace HB := n1_; have BK250 := n2_; have GW250 := n3_; have GE250 := n4_; have NB249_250 := n5_; have NB250_249 := n6_; clear n0_ n1_ n2_ n3_ n4_ n5_ n6_; clear hb hbox hg; have hnb8 := NB249_250.out; have hnc8 := NB250_249.out; have hcz9_0 := cz_ BK249.out 0; have hcz9_1 := cz_ BK249.out 1; have hfz9_0 := blk_frozen BK249.out 0; have hfz9_1 := blk_frozen BK249.out 1; have hcz10_0 := cz_ BK250.out 0; have hcz10_1 := cz_ BK250.out 1; have hfz10_0 := blk_frozen BK250.out 0; have hfz10_1 := blk_frozen BK250.out 1) | ((with_reducible refine gate_callee (f := 11) rfl ?_); refine goesL_ (some 14) rfl rfl Try.func11 (by kernel_rfl) rfl #[.slice A0_1 l0_1.length c0_1, .slice A1_1 l1_1.length c1_1] rfl (by (try simp only [List.map_toArray, List.map_cons, List.map_nil]); first | done | rfl | (simp only [List.length_drop, List.length_take]; rfl)) ?_; (with_reducible refine (laws_eqIntS.calls k _ _ l0_1 _ _ l1_1 true _ ?side1 ?side2 ?side3 ?side4 A4.out).mono ?_); (case side1 => repeat (first | exact (Kd.C_below HR0_1.out HB.out) | (with_reducible refine Kd.C_alloc ?_ _) | (with_reducible refine Kd.C_drewN ?_ _) | (with_reducible refine Kd.C_drew ?_))); (case side2 => exact HC0_1.out); (case side3 => repeat (first | exact (Kd.C_below HR1_1.out HB.out) | (with_reducible refine Kd.C_alloc ?_ _) | (with_reducible refine Kd.C_drewN ?_ _) | (with_reducible refine Kd.C_drew ?_))); (case side4 => exact HC1_1.out); rintro e w' ⟨rfl, ⟨nd, rfl⟩⟩; refine ⟨_, rfl, ?_⟩))
   go_ret
   exact ⟨by first | rfl | (simp [errW_none, errW_some] <;> rfl) | (simp [*, errW_none, errW_some] <;> rfl), bw_ HB.out⟩
  ·replace c5 := Bool.eq_false_iff.mpr c5
   subst c5
   replace H := if_ H Bool.false_ne_true
   obtain rfl := Option.some.inj H
   go_enter Try.func39, Try.ntmps39
   go_wp2_with (first | ((with_reducible refine gate_dst (N := 2) rfl ?_); refine bx_ 2 #[.string a0_0, .slice A0_1 l0_1.length c0_1] 53 ?_; intro gb249 hg w11 hbox hb; have n0_ := am_ (below_step (bw_ HB.out) hb); have n1_ := am_ (hbox); have n2_ := am_ (gs_ hg (bw_ HB.out)); have n3_ := am_ (gs_ hg (bw_ HB.out)); replace HB := n0_; have BK249 := n1_; have GW249 := n2_; have GE249 := n3_; clear n0_ n1_ n2_ n3_; clear hb hbox hg) | ((with_reducible refine gate_dst (N := 3) rfl ?_); refine bx_ 3 #[.string a1_0, .slice A1_1 l1_1.length c1_1] 53 ?_; intro gb250 hg w12 hbox hb; have n0_ := am_ (blk_below (bk_ BK249.out) hb); have n1_ := am_ (below_step (bw_ HB.out) hb); have n2_ := am_ (hbox); have n3_ := am_ (gs_ hg (bw_ HB.out)); have n4_ := am_ (gs_ hg (bw_ HB.out)); have n5_ := am_ (nl_ hg (bk_ BK249.out)); have n6_ := am_ (ng_ hg (bk_ BK249.out)); replace BK249 := n0_; replace HB := n1_; have BK250 := n2_; have GW250 := n3_; have GE250 := n4_; have NB249_250 := n5_; have NB250_249 := n6_; clear n0_ n1_ n2_ n3_ n4_ n5_ n6_; clear hb hbox hg; have hnb13 := NB249_250.out; have hnc13 := NB250_249.out; have hcz14_0 := cz_ BK249.out 0; have hcz14_1 := cz_ BK249.out 1; have hfz14_0 := blk_frozen BK249.out 0; have hfz14_1 := blk_frozen BK249.out 1; have hcz15_0 := cz_ BK250.out 0; have hcz15_1 := cz_ BK250.out 1; have hfz15_0 := blk_frozen BK250.out 0; have hfz15_1 := blk_frozen BK250.out 1) | ((with_reducible refine gate_callee (f := 11) rfl ?_); refine goesL_ (some 14) rfl rfl Try.func11 (by kernel_rfl) rfl #[.slice A0_1 l0_1.length c0_1, .slice A1_1 l1_1.length c1_1] rfl (by (try simp only [List.map_toArray, List.map_cons, List.map_nil]); first | done | rfl | (simp only [List.length_drop, List.length_take]; rfl)) ?_; (with_reducible refine (laws_eqIntS.calls k _ _ l0_1 _ _ l1_1 false _ ?side1 ?side2 ?side3 ?side4 A4.out).mono ?_); (case side1 => repeat (first | exact (Kd.C_below HR0_1.out HB.out) | (with_reducible refine Kd.C_alloc ?_ _) | (with_reducible refine Kd.C_drewN ?_ _) | (with_reducible refine Kd.C_drew ?_))); (case side2 => exact HC0_1.out); (case side3 => repeat (first | exact (Kd.C_below HR1_1.out HB.out) | (with_reducible refine Kd.C_alloc ?_ _) | (with_reducible refine Kd.C_drewN ?_ _) | (with_reducible refine Kd.C_drew ?_))); (case side4 => exact HC1_1.out); rintro e w' ⟨rfl, ⟨nd, rfl⟩⟩; refine ⟨_, rfl, ?_⟩))
   go_ret
   exact ⟨by first | rfl | (simp [errW_none, errW_some] <;> rfl) | (simp [*, errW_none, errW_some] <;> rfl), bw_ HB.out⟩
 ·rw [if_neg c3] at H
  have c3b0 : (a0_0.toList == a1_0.toList) = false := beq_eq_false_iff_ne.mpr c3
  have c3b1 : (a0_0.toList != a1_0.toList) = true := bne_iff_ne.mpr c3
  obtain rfl := Option.some.inj H
  go_enter Try.func39, Try.ntmps39
  go_wp2_with (first | ((with_reducible refine gate_dst (N := 2) rfl ?_); refine bx_ 2 #[.string a0_0, .slice A0_1 l0_1.length c0_1] 53 ?_; intro gb249 hg w16 hbox hb; have n0_ := am_ (below_step (bw_ HB.out) hb); have n1_ := am_ (hbox); have n2_ := am_ (gs_ hg (bw_ HB.out)); have n3_ := am_ (gs_ hg (bw_ HB.out)); replace HB := n0_; have BK249 := n1_; have GW249 := n2_; have GE249 := n3_; clear n0_ n1_ n2_ n3_; clear hb hbox hg) | ((with_reducible refine gate_dst (N := 3) rfl ?_); refine bx_ 3 #[.string a1_0, .slice A1_1 l1_1.length c1_1] 53 ?_; intro gb250 hg w17 hbox hb; have n0_ := am_ (blk_below (bk_ BK249.out) hb); have n1_ := am_ (below_step (bw_ HB.out) hb); have n2_ := am_ (hbox); have n3_ := am_ (gs_ hg (bw_ HB.out)); have n4_ := am_ (gs_ hg (bw_ HB.out)); have n5_ := am_ (nl_ hg (bk_ BK249.out)); have n6_ := am_ (ng_ hg (bk_ BK249.out)); replace BK249 := n0_; replace HB := n1_; have BK250 := n2_; have GW250 := n3_; have GE250 := n4_; have NB249_250 := n5_; have NB250_249 := n6_; clear n0_ n1_ n2_ n3_ n4_ n5_ n6_; clear hb hbox hg; have hnb18 := NB249_250.out; have hnc18 := NB250_249.out; have hcz19_0 := cz_ BK249.out 0; have hcz19_1 := cz_ BK249.out 1; have hfz19_0 := blk_frozen BK249.out 0; have hfz19_1 := blk_frozen BK249.out 1; have hcz20_0 := cz_ BK250.out 0; have hcz20_1 := cz_ BK250.out 1; have hfz20_0 := blk_frozen BK250.out 0; have hfz20_1 := blk_frozen BK250.out 1))
  go_ret
  exact ⟨by first | rfl | (simp [errW_none, errW_some] <;> rfl) | (simp [*, errW_none, errW_some] <;> rfl), bw_ HB.out⟩

end Go.Proofs.Ytfgdfnnddoncjaa.XFnExactRebind
