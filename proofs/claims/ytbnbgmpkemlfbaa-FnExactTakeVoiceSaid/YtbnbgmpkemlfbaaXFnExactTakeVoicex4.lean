/- What the Go functions that this law comes to compute, each walked; written by a program of this session. -/
import Derived.Test.YtbnbgmpkemlfbaaXFnExactTakeVoicex0
import Derived.Test.YtbnbgmpkemlfbaaXFnExactTakeVoicex3
namespace Go.Proofs.Ytbnbgmpkemlfbaa.XFnExactTakeVoice
open Go.RowKit Go.Proofs.YtbnbgmpkemlfbaaW.PrintWords Go.Proofs.YtbnbgmpkemlfbaaW.PrintLast Go.Proofs.YtbnbgmpkemlfbaaW.PrintMore
attribute [local go_sem] str_geq max2_int min2_int max_two min_two max_three min_three max_four min_four   -- for this text's walks alone
set_option linter.unusedVariables false
set_option linter.unusedSimpArgs false

/-! ### impl_areVoices: function 26 -/
def impl_areVoices.f (k : Nat) (l0 : List (S32)) : Option (Bool) := if (l0.length : Int) ≤ 8 then ((slices_ContainsFunc_impl_Voice_impl_Voice_at_impl_areVoices_1.f k l0).bind fun t203 => (some (!t203))) else (some false)
theorem impl_areVoices.mono : ∀ a0 k, LeO (impl_areVoices.f k a0) (impl_areVoices.f (k + 1) a0) := by
 intro a0 k
 unfold impl_areVoices.f
 repeat' first
   | (with_reducible exact slices_ContainsFunc_impl_Voice_impl_Voice_at_impl_areVoices_1.mono _ _)
   | (with_reducible exact LeO.refl _)
   | (with_reducible exact LeO.none _)
   | (with_reducible refine LeO.ite ?_ ?_)
   | (with_reducible refine LeO.bind ?_ (fun _ => ?_))
   | exact slices_ContainsFunc_impl_Voice_impl_Voice_at_impl_areVoices_1.mono _ _
   | exact LeO.none _
   | refine LeO.ite ?_ ?_
   | refine LeO.bind ?_ (fun _ => ?_)
set_option maxHeartbeats 8000000 in
set_option maxRecDepth 100000 in
theorem impl_areVoices.calls (k : Nat) (A0 : Option Addr) (c0 : Nat) (l0 : List (S32)) (r : Bool) (w : World) (hr0 : Kd.C k32 w A0 l0.length l0) (hc0 : l0.length ≤ c0) (h : impl_areVoices.f k l0 = some r) :
  Calls Try.prog 26 #[.slice A0 l0.length c0] w fun e w' => e = .returned (.bool r) ∧ Below w.heap.size w w' := by
 have HR0 := Aside0.mk hr0
 have HC0 := Aside0.mk hc0
 clear hr0 hc0
 have HB := Aside0.mk (Below.refl w.heap.size w)
 have H : (if (l0.length : Int) ≤ 8 then ((slices_ContainsFunc_impl_Voice_impl_Voice_at_impl_areVoices_1.f k l0).bind fun t203 => (some (!t203))) else (some false)) = some r := h
 clear h
 by_cases c2 : (l0.length : Int) ≤ 8
 ·rw [if_pos c2] at H
  have c2b0 : decide ((l0.length : Int) ≤ 8) = true := decide_eq_true c2
  have c2b1 : decide (l0.length ≤ 8) = true := decide_eq_true (by omega)
  clear c2
  obtain ⟨t203, A30, H⟩ := bE_ H
  have A3 := Aside0.mk A30
  clear A30
  obtain rfl := Option.some.inj H
  go_enter Try.func26, Try.ntmps26
  go_wp2_with (first | (go_at_call 39; (with_reducible refine (slices_ContainsFunc_impl_Voice_impl_Voice_at_impl_areVoices_1.calls k _ _ l0  t203 _ ?side1 ?side2 A3.out).mono ?_); (case side1 => repeat (first | exact HR0.out | (with_reducible refine Kd.C_alloc ?_ _) | (with_reducible refine Kd.C_drewN ?_ _) | (with_reducible refine Kd.C_drew ?_))); (case side2 => exact HC0.out); rintro e w4 ⟨rfl, hb⟩; have n0_ := Aside0.mk (below_step (bw_ HB.out) hb); clear HB; have HB := n0_; clear n0_; (try clear hb); (try clear hb2); (try clear hk); (try clear hi)))
  go_ret
  exact ⟨by first | rfl | (simp [errW_none, errW_some] <;> rfl) | (simp [*, errW_none, errW_some] <;> rfl), bw_ HB.out⟩
 ·rw [if_neg c2] at H
  have c2b0 : decide ((l0.length : Int) ≤ 8) = false := decide_eq_false c2
  have c2b1 : decide (l0.length ≤ 8) = false := decide_eq_false (by omega)
  clear c2
  obtain rfl := Option.some.inj H
  go_enter Try.func26, Try.ntmps26
  go_wp2
  go_ret
  exact ⟨by first | rfl | (simp [errW_none, errW_some] <;> rfl) | (simp [*, errW_none, errW_some] <;> rfl), bw_ HB.out⟩

/-! ### slices_Clone_int_int: function 29 -/
def slices_Clone_int_int.f (l0 : List Int) : Option (List Int) := (some (([] : List Int) : List Int)).bind fun y204 => (if y204.length + l0.length < 17592186044416 then (some (y204 ++ l0)) else (none))
theorem eqlNil23 (w : World) (A : Option Addr) (n c m k : Nat) : (binOp .eql 23 (.slice A n c) (.slice none m k)).run Try.prog w = .ok (.bool A.isNone) w := eqlNil_of Try.underlying23 w A n c m k
attribute [local go_sem high] eqlNil23
set_option maxHeartbeats 8000000 in
set_option maxRecDepth 100000 in
theorem slices_Clone_int_int.calls (A0 : Option Addr) (c0 : Nat) (l0 : List Int) (r : List Int) (w : World) (hr0 : Kd.C (Kd.int .i64) w A0 l0.length l0) (hc0 : l0.length ≤ c0) (h : slices_Clone_int_int.f l0 = some r) :
  Calls Try.prog 29 #[.slice A0 l0.length c0] w fun e w' => ∃ v0_ : Value, e = .returned (v0_) ∧ Kd.R (Kd.int .i64) 3 w' w.heap.size (fun _ => True) v0_ r ∧ Below w.heap.size w w' := by
 have HR0 := Aside0.mk hr0
 have HC0 := Aside0.mk hc0
 clear hr0 hc0
 have HB := Aside0.mk (Below.refl w.heap.size w)
 have H : ((some (([] : List Int) : List Int)).bind fun y204 => (if y204.length + l0.length < 17592186044416 then (some (y204 ++ l0)) else (none))) = some r := h
 clear h
 rcases A0 with _ | ad0_
 ·have e0_ : l0 = [] := List.eq_nil_of_length_eq_zero (Nat.eq_zero_of_not_pos fun hp_ => by obtain ⟨ad_, ha_, _⟩ := HR0.out.2.2 hp_; cases ha_)
  subst e0_
  have e1_ : r = [] := by simpa using H.symm
  subst e1_
  go_enter Try.func29, Try.ntmps29
  go_wp2
  go_ret
  exact ⟨_, by first | rfl | (simp; done), Kd.R_nil _ _ _ _ _, bw_ HB.out⟩
 obtain ⟨y204, hy204⟩ : ∃ y_ : List Int, y_ = (([] : List Int)) := ⟨_, rfl⟩
 replace H : (if y204.length + l0.length < 17592186044416 then (some (y204 ++ l0)) else (none)) = some r := by first | (rw [hy204]; with_reducible exact H) | (have H2_ := (Option.bind_some _ _).symm.trans H; rw [hy204]; with_reducible exact H2_) | (have H2_ := (Option.bind_some _ _).symm.trans H; with_reducible exact H2_) | with_reducible exact H | (rw [hy204]; exact H) | exact H
 have Ny204 := Aside0.mk hy204
 clear hy204
 by_cases c2 : y204.length + l0.length < 17592186044416
 ·rw [if_pos c2] at H
  have LMc2 := Aside0.mk c2
  clear c2
  obtain ⟨y207, hy207⟩ : ∃ y_ : List Int, y_ = (y204 ++ l0) := ⟨_, rfl⟩
  replace H : (some y207) = some r := by first | (rw [hy207]; with_reducible exact H) | (have H2_ := (Option.bind_some _ _).symm.trans H; rw [hy207]; with_reducible exact H2_) | (have H2_ := (Option.bind_some _ _).symm.trans H; with_reducible exact H2_) | with_reducible exact H | (rw [hy207]; exact H) | exact H
  have Ny207 := Aside0.mk hy207
  clear hy207
  obtain rfl := Option.some.inj H
  go_enter Try.func29, Try.ntmps29
  go_wp2_with (first | ((with_reducible refine gate_dst (N := 5) rfl ?_); refine Kd.R_lit (Kd.int .i64) _ 3 ?hg (N := 5) ?hd (xs := ([] : List Int)) (inner := []) (ok := fun _ => True) (okp := fun _ => True) ?hr ?hp (fun _ hk => hk) trivial (Below.refl _ _) (Nat.le_refl _) (by simp) ?_; (case hd => rfl); (case hg => rfl); (case hr => first | (go_simp; done) | (go_simp; rfl)); (case hp => exact (Reps.none _ _)); intro v205 w3 ho4 hb hg_ hnew_; clear hg_ hnew_; (first | rw [← Ny204.out] at ho4 | (simp only [Int.reduceToNat] at ho4; rw [← Ny204.out] at ho4)); have n0_ := Aside0.mk (Kd.R_lower ho4 (below_size (bw_ HB.out))); have n1_ := Aside0.mk (below_step (bw_ HB.out) hb); clear HB; have HO206 := n0_; have HB := n1_; clear n0_ n1_; clear hb ho4) | ((with_reducible refine gate_builtin (b := .append) (xs := #[.tmp 5, .tmp 6]) rfl ?_); at_builtin; refine Kd.R_append_rows (Kd.int .i64) (w0 := w) w.heap.size rfl (.tmp 5) (.tmp 6) 23 3 (.int .i64 0) 8 rfl Try.underlying23 info3 rfl (by decide) (by omega) v205 y204 l0 _ _ _ (fun _ => True) (fun _ => False) rfl rfl ?aO ?aR (fun _ _ h => h) (fun _ h => h.elim) ?aF ?aB ?aS ?aL ?_; (case aR => repeat (first | exact (Kd.C_below HR0.out HB.out) | (with_reducible refine Kd.C_alloc ?_ _) | (with_reducible refine Kd.C_drewN ?_ _) | (with_reducible refine Kd.C_drew ?_))); (case aB => exact (bw_ HB.out)); (case aF => exact (fun _ _ => trivial)); (case aO => exact (by (with_reducible repeat (first | apply Kd.R_alloc | apply Kd.R_drewN | apply Kd.R_drew)); exact HO206.out)); (case aS => exact (below_size (bw_ HB.out))); (case aL => have := LMc2.out; omega); intro v208 w5 ho hb hg hat; rw [← Ny207.out] at ho; have n0_ := Aside0.mk (hb); have n1_ := Aside0.mk (ho); clear HB; clear HO206; have HB := n0_; have HO209 := n1_; clear n0_ n1_; clear ho hb hg hat))
  go_ret
  exact ⟨_, by first | rfl | (simp [errW_none, errW_some] <;> rfl) | (simp [*, errW_none, errW_some] <;> rfl), by (with_reducible repeat (first | apply Kd.R_alloc | apply Kd.R_drewN | apply Kd.R_drew)); exact HO209.out, bw_ HB.out⟩
 ·rw [if_neg c2] at H
  exact absurd H (by simp)

/-! ### impl_copyVoices: function 28 -/
def impl_copyVoices.l0 : Nat → List (S32) → List (S32) → Int → Int → Option ((List (S32)))
 | 0, _, _, _, _ => none
 | k + 1, x3, x7, x8, x9 => if x9 < x8 then (if 0 ≤ x9 then (if x9 < (x7.length : Int) then ((slices_Clone_int_int.f ((rd_T32 x7 x9).f0)).bind fun t215 => (if x3.length < 2199023255552 then (impl_copyVoices.l0 k (x3 ++ [(⟨t215, (rd_T32 x7 x9).f1, (rd_T32 x7 x9).f2, (rd_T32 x7 x9).f3, (rd_T32 x7 x9).f4, (rd_T32 x7 x9).f5⟩ : S32)]) x7 x8 (wrap64 (x9 + 1))) else (none))) else (none)) else (none)) else (some x3)
def impl_copyVoices.f (k : Nat) (l0 : List (S32)) : Option ((List (S32))) := impl_copyVoices.l0 k (([] : List (S32))) l0 (l0.length : Int) 0
theorem impl_copyVoices.mono_l : ∀ k, (∀ y0 y1 y2 y3, LeO (impl_copyVoices.l0 k y0 y1 y2 y3) (impl_copyVoices.l0 (k + 1) y0 y1 y2 y3))
 | 0 => fun _ _ _ _ r h => by simp [impl_copyVoices.l0] at h
 | k + 1 => by
  have ih0 := impl_copyVoices.mono_l k
  ·intro y0 y1 y2 y3
   unfold impl_copyVoices.l0
   repeat' first
   | (with_reducible exact ih0 _ _ _ _)
   | (with_reducible exact LeO.refl _)
   | (with_reducible exact LeO.none _)
   | (with_reducible refine LeO.ite ?_ ?_)
   | (with_reducible refine LeO.bind ?_ (fun _ => ?_))
   | exact ih0 _ _ _ _
   | exact LeO.none _
   | refine LeO.ite ?_ ?_
   | refine LeO.bind ?_ (fun _ => ?_)
theorem impl_copyVoices.mono : ∀ a0 k, LeO (impl_copyVoices.f k a0) (impl_copyVoices.f (k + 1) a0) := by
 intro a0 k
 have ih0 := impl_copyVoices.mono_l k
 unfold impl_copyVoices.f
 repeat' first
   | (with_reducible exact ih0 _ _ _ _)
   | (with_reducible exact LeO.refl _)
   | (with_reducible exact LeO.none _)
   | (with_reducible refine LeO.ite ?_ ?_)
   | (with_reducible refine LeO.bind ?_ (fun _ => ?_))
   | exact ih0 _ _ _ _
   | exact LeO.none _
   | refine LeO.ite ?_ ?_
   | refine LeO.bind ?_ (fun _ => ?_)
set_option maxHeartbeats 8000000 in
set_option maxRecDepth 100000 in
theorem impl_copyVoices.calls (k : Nat) (A0 : Option Addr) (c0 : Nat) (l0 : List (S32)) (r : List (S32)) (w : World) (hr0 : Kd.C k32 w A0 l0.length l0) (hc0 : l0.length ≤ c0) (h : impl_copyVoices.f k l0 = some r) :
  Calls Try.prog 28 #[.slice A0 l0.length c0] w fun e w' => ∃ v0_ : Value, e = .returned (v0_) ∧ Kd.S k32 32 w' w.heap.size (fun _ => True) v0_ r ∧ Below w.heap.size w w' := by
 have hu32 := Try.underlying32
 have HR0 := Aside0.mk hr0
 have HC0 := Aside0.mk hc0
 clear hr0 hc0
 have HB := Aside0.mk (Below.refl w.heap.size w)
 have H : (impl_copyVoices.l0 k (([] : List (S32))) l0 (l0.length : Int) 0) = some r := h
 clear h
 obtain ⟨y210, hy210⟩ : ∃ y_ : List (S32), y_ = (([] : List (S32))) := ⟨_, rfl⟩
 replace H : (impl_copyVoices.l0 k y210 l0 (l0.length : Int) 0) = some r := by first | (rw [hy210]; with_reducible exact H) | (have H2_ := (Option.bind_some _ _).symm.trans H; rw [hy210]; with_reducible exact H2_) | (have H2_ := (Option.bind_some _ _).symm.trans H; with_reducible exact H2_) | with_reducible exact H | (rw [hy210]; exact H) | exact H
 have Ny210 := Aside0.mk hy210
 clear hy210
 have H' := Aside0.mk H
 clear H
 go_enter Try.func28, Try.ntmps28
 go_wp2_with (first | ((with_reducible refine gate_dst (N := 6) rfl ?_); refine Kd.S_lit k32 _ 32 ?hg (N := 6) ?hd (xs := ([] : List (S32))) (inner := []) (ok := fun _ => True) (okp := fun _ => True) ?hr ?hp (fun _ hk => hk) trivial (Below.refl _ _) (Nat.le_refl _) (by simp) ?_; (case hd => rfl); (case hg => rfl); (case hr => first | (go_simp; done) | (go_simp; rfl)); (case hp => exact (Reps.none _ _)); intro v211 w2 ho3 hb hg_ hnew_; clear hg_ hnew_; (first | rw [← Ny210.out] at ho3 | (simp only [Int.reduceToNat] at ho3; rw [← Ny210.out] at ho3)); have n0_ := Aside0.mk (Kd.S_lower ho3 (below_size (bw_ HB.out))); have n1_ := Aside0.mk (below_step (bw_ HB.out) hb); clear HB; have HO212 := n0_; have HB := n1_; clear n0_ n1_; clear hb ho3))
 go_loopg [3, 9] k (fun kq v3 v9 w' => ∃ (x3_1 : List (S32)) (x9_1 : Int), v9 = .int .i64 x9_1 ∧ Aside0 (impl_copyVoices.l0 kq x3_1 l0 (l0.length : Int) x9_1 = some r) ∧ Aside0 (kq ≤ k) ∧ Aside0 (Kd.S k32 32 w' w.heap.size (fun _ => True) v3 x3_1) ∧ Aside0 (Below w.heap.size w w'))
 case atStart => exact ⟨(y210), (0), (by first | rfl | (simp; done) | (simp [*]; done) | (simp [wrap64]; done)), H', ⟨Nat.le_refl _⟩, ⟨by (with_reducible repeat (first | apply Kd.S_alloc | apply Kd.S_drewN | apply Kd.S_drew)); exact HO212.out⟩, ⟨bw_ HB.out⟩⟩
 case round =>
  clear H'
  try clear c2
  try clear p2
  obtain ⟨x3_1, x9_1, rfl, HA, HK1, HO_3, HB⟩ := hrel
  cases gk with
  | zero => exact absurd HA.out (by simp [impl_copyVoices.l0])
  | succ k1 =>
   have H := HA.out
   clear HA
   simp only [impl_copyVoices.l0] at H
   by_cases c4 : x9_1 < (l0.length : Int)
   ·rw [if_pos c4] at H
    have c4b0 : decide (x9_1 < (l0.length : Int)) = true := decide_eq_true c4
    clear c4
    by_cases c5 : 0 ≤ x9_1
    ·rw [if_pos c5] at H
     have c5b0 : decide (0 ≤ x9_1) = true := decide_eq_true c5
     clear c5
     by_cases c6 : x9_1 < (l0.length : Int)
     ·rw [if_pos c6] at H
      have c6b0 : decide (x9_1 < (l0.length : Int)) = true := decide_eq_true c6
      clear c6
      obtain ⟨t215, A70, H⟩ := bE_ H
      have A7 := Aside0.mk A70
      clear A70
      by_cases c8 : x3_1.length < 2199023255552
      ·rw [if_pos c8] at H
       have LMc8 := Aside0.mk c8
       clear c8
       obtain ⟨y218, hy218⟩ : ∃ y_ : List (S32), y_ = (x3_1 ++ [(⟨t215, (rd_T32 l0 x9_1).f1, (rd_T32 l0 x9_1).f2, (rd_T32 l0 x9_1).f3, (rd_T32 l0 x9_1).f4, (rd_T32 l0 x9_1).f5⟩ : S32)]) := ⟨_, rfl⟩
       replace H : (impl_copyVoices.l0 k1 y218 l0 (l0.length : Int) (wrap64 (x9_1 + 1))) = some r := by first | (rw [hy218]; with_reducible exact H) | (have H2_ := (Option.bind_some _ _).symm.trans H; rw [hy218]; with_reducible exact H2_) | (have H2_ := (Option.bind_some _ _).symm.trans H; with_reducible exact H2_) | with_reducible exact H | (rw [hy218]; exact H) | exact H
       have Ny218 := Aside0.mk hy218
       clear hy218
       have H' := Aside0.mk H
       clear H
       have p213 : 0 ≤ (x9_1 : Int) := of_decide_eq_true (by first | (with_reducible assumption) | assumption)
       have q213 : x9_1 < (l0.length : Int) := of_decide_eq_true (by first | (with_reducible assumption) | assumption)
       obtain ⟨ad213, A213_0, c213_0, e213, hx213_0, hx213_1, hx213_2, hx213_3, hx213_4, hx213_5, hl213_0, hi213_0⟩ := at_T32 HR0.out x9_1 p213 q213
       cases e213
       (try replace hx213_0 := (HB.out.cell (World.block_lt_of_cell? w _ hx213_0)).trans hx213_0)
       (try replace hx213_1 := (HB.out.cell (World.block_lt_of_cell? w _ hx213_1)).trans hx213_1)
       (try replace hx213_2 := (HB.out.cell (World.block_lt_of_cell? w _ hx213_2)).trans hx213_2)
       (try replace hx213_3 := (HB.out.cell (World.block_lt_of_cell? w _ hx213_3)).trans hx213_3)
       (try replace hx213_4 := (HB.out.cell (World.block_lt_of_cell? w _ hx213_4)).trans hx213_4)
       (try replace hx213_5 := (HB.out.cell (World.block_lt_of_cell? w _ hx213_5)).trans hx213_5)
       have HR213_0 := Aside0.mk hi213_0
       have HC213_0 := Aside0.mk hl213_0
       clear hi213_0 hl213_0
       replace p213 := eq_true p213
       replace q213 := eq_true q213
       go_wp2_with (first | ((with_reducible refine gate_dst (N := 5) rfl ?_); refine bx_ 5 #[.slice none 0 0, .int .i64 0, .bool false, .int .i64 0, .int .i64 0, .int .i64 0] 32 ?_; intro gb214 hg w9 hbox hb; have n0_ := Aside0.mk (Kd.S_below (Kd.S_elderB (by (with_reducible repeat (first | apply Kd.S_alloc | apply Kd.S_drewN | apply Kd.S_drew)); exact HO_3.out) gb214 (Nat.le_of_eq hg.symm)) hb); have n1_ := Aside0.mk (below_step (bw_ HB.out) hb); have n2_ := Aside0.mk (hbox); have n3_ := Aside0.mk (gs_ hg (bw_ HB.out)); have n4_ := Aside0.mk (gs_ hg (bw_ HB.out)); clear HO_3; clear HB; have HO_3 := n0_; have HB := n1_; have BK214 := n2_; have GW214 := n3_; have GE214 := n4_; clear n0_ n1_ n2_ n3_ n4_; clear hb hbox hg; have hcz10_0 := cz_ BK214.out 0; have hcz10_1 := cz_ BK214.out 1; have hcz10_2 := cz_ BK214.out 2; have hcz10_3 := cz_ BK214.out 3; have hcz10_4 := cz_ BK214.out 4; have hcz10_5 := cz_ BK214.out 5; have hfz10_0 := blk_frozen BK214.out 0; have hfz10_1 := blk_frozen BK214.out 1; have hfz10_2 := blk_frozen BK214.out 2; have hfz10_3 := blk_frozen BK214.out 3; have hfz10_4 := blk_frozen BK214.out 4; have hfz10_5 := blk_frozen BK214.out 5) | ((with_reducible refine gate_callee (f := 29) rfl ?_); refine goesL_ (some 15) rfl rfl Try.func29 (by kernel_rfl) rfl #[.slice A213_0 ((rd_T32 l0 x9_1).f0).length c213_0] rfl (by (try simp only [List.map_toArray, List.map_cons, List.map_nil]); first | done | rfl | (simp only [List.length_drop, List.length_take]; rfl)) ?_; (with_reducible refine (slices_Clone_int_int.calls _ _ ((rd_T32 l0 x9_1).f0) t215 _ ?side1 ?side2 A7.out).mono ?_); (case side1 => exact Kd.C_below HR213_0.out (bw_ HB.out)); (case side2 => exact HC213_0.out); rintro e w11 ⟨v216, rfl, ho0, hb⟩; refine ⟨_, rfl, ?_⟩; have n0_ := Aside0.mk (Kd.S_elder' (by (with_reducible repeat (first | apply Kd.S_alloc | apply Kd.S_drewN | apply Kd.S_drew)); exact (Kd.S_mono (Kd.S_far (p := ⟨gb214, 5, none⟩) (Kd.S_far (p := ⟨gb214, 4, none⟩) (Kd.S_far (p := ⟨gb214, 3, none⟩) (Kd.S_far (p := ⟨gb214, 2, none⟩) (Kd.S_far (p := ⟨gb214, 1, none⟩) (Kd.S_far (p := ⟨gb214, 0, none⟩) (Kd.S_mono HO_3.out (fun k_ hk => (⟨hk, hk.2⟩ : _ ∧ k_ ≠ gb214))) (fun _ hk => hk.2) (.slice A213_0 ((rd_T32 l0 x9_1).f0).length c213_0)) (fun _ hk => hk.2) (.int .i64 ((rd_T32 l0 x9_1).f1))) (fun _ hk => hk.2) (.bool ((rd_T32 l0 x9_1).f2))) (fun _ hk => hk.2) (.int .i64 ((rd_T32 l0 x9_1).f3))) (fun _ hk => hk.2) (.int .i64 ((rd_T32 l0 x9_1).f4))) (fun _ hk => hk.2) (.int .i64 ((rd_T32 l0 x9_1).f5))) (fun _ h_ => h_.1))) (Kd.R_base ho0) hb); have n1_ := Aside0.mk (Kd.R_lower ho0 (below_size (bw_ HB.out))); have n2_ := Aside0.mk (blk_below (g := gb214) (o := .cells #[.slice A213_0 ((rd_T32 l0 x9_1).f0).length c213_0, .int .i64 ((rd_T32 l0 x9_1).f1), .bool ((rd_T32 l0 x9_1).f2), .int .i64 ((rd_T32 l0 x9_1).f3), .int .i64 ((rd_T32 l0 x9_1).f4), .int .i64 ((rd_T32 l0 x9_1).f5)] 32 (0, 0)) (by (with_reducible repeat (first | refine blk_drewN ?_ _ | refine blk_drew ?_ | refine blk_alloc ?_ _)); refine blk_put (cs := #[.slice A213_0 ((rd_T32 l0 x9_1).f0).length c213_0, .int .i64 ((rd_T32 l0 x9_1).f1), .bool ((rd_T32 l0 x9_1).f2), .int .i64 ((rd_T32 l0 x9_1).f3), .int .i64 ((rd_T32 l0 x9_1).f4), .int .i64 0]) ?_ 5 _ rfl; (with_reducible repeat (first | refine blk_drewN ?_ _ | refine blk_drew ?_ | refine blk_alloc ?_ _)); refine blk_put (cs := #[.slice A213_0 ((rd_T32 l0 x9_1).f0).length c213_0, .int .i64 ((rd_T32 l0 x9_1).f1), .bool ((rd_T32 l0 x9_1).f2), .int .i64 ((rd_T32 l0 x9_1).f3), .int .i64 0, .int .i64 0]) ?_ 4 _ rfl; (with_reducible repeat (first | refine blk_drewN ?_ _ | refine blk_drew ?_ | refine blk_alloc ?_ _)); refine blk_put (cs := #[.slice A213_0 ((rd_T32 l0 x9_1).f0).length c213_0, .int .i64 ((rd_T32 l0 x9_1).f1), .bool ((rd_T32 l0 x9_1).f2), .int .i64 0, .int .i64 0, .int .i64 0]) ?_ 3 _ rfl; (with_reducible repeat (first | refine blk_drewN ?_ _ | refine blk_drew ?_ | refine blk_alloc ?_ _)); refine blk_put (cs := #[.slice A213_0 ((rd_T32 l0 x9_1).f0).length c213_0, .int .i64 ((rd_T32 l0 x9_1).f1), .bool false, .int .i64 0, .int .i64 0, .int .i64 0]) ?_ 2 _ rfl; (with_reducible repeat (first | refine blk_drewN ?_ _ | refine blk_drew ?_ | refine blk_alloc ?_ _)); refine blk_put (cs := #[.slice A213_0 ((rd_T32 l0 x9_1).f0).length c213_0, .int .i64 0, .bool false, .int .i64 0, .int .i64 0, .int .i64 0]) ?_ 1 _ rfl; (with_reducible repeat (first | refine blk_drewN ?_ _ | refine blk_drew ?_ | refine blk_alloc ?_ _)); refine blk_put (cs := #[.slice none 0 0, .int .i64 0, .bool false, .int .i64 0, .int .i64 0, .int .i64 0]) ?_ 0 _ rfl; (with_reducible repeat (first | refine blk_drewN ?_ _ | refine blk_drew ?_ | refine blk_alloc ?_ _)); exact BK214.out) hb); have n3_ := Aside0.mk (below_step (bw_ HB.out) hb); clear HO_3; clear BK214; clear HB; have HO_3 := n0_; have HO217 := n1_; have BK214 := n2_; have HB := n3_; clear n0_ n1_ n2_ n3_; (try clear hb); (try clear hb2); (try clear hk); (try clear hi); (try clear ho0); obtain ⟨Ao12, co12, eo12⟩ := Kd.R_slice HO217.out; subst eo12; have hcz13_0 := cz_ BK214.out 0; have hcz13_1 := cz_ BK214.out 1; have hcz13_2 := cz_ BK214.out 2; have hcz13_3 := cz_ BK214.out 3; have hcz13_4 := cz_ BK214.out 4; have hcz13_5 := cz_ BK214.out 5; have hfz13_0 := blk_frozen BK214.out 0; have hfz13_1 := blk_frozen BK214.out 1; have hfz13_2 := blk_frozen BK214.out 2; have hfz13_3 := blk_frozen BK214.out 3; have hfz13_4 := blk_frozen BK214.out 4; have hfz13_5 := blk_frozen BK214.out 5) | ((with_reducible refine gate_store (t := 23) (p := 16) rfl ?_); refine se_ 23 16 (w11.setCell ⟨gb214, 0, none⟩ (.slice Ao12 t215.length co12)) ?_; intro w14 hw; have n0_ : Aside0 (Kd.S k32 32 w14 w.heap.size (fun k_ => some k_ ≠ (.slice Ao12 t215.length co12 : Value).ownBlock ∧ k_ ≠ gb214) u3 x3_1) := ⟨(by rw [hw]; exact (by (with_reducible repeat (first | apply Kd.S_alloc | apply Kd.S_drewN | apply Kd.S_drew)); exact Kd.S_mono (Kd.S_far (p := ⟨gb214, 0, none⟩) (Kd.S_mono HO_3.out (fun k_ hk => (⟨hk, hk.1.2⟩ : _ ∧ k_ ≠ gb214))) (fun _ hk => hk.2) (.slice Ao12 t215.length co12)) (fun _ hk => ⟨hk.1.2, hk.1.1.2⟩)))⟩; have n1_ : Aside0 (Kd.R (Kd.int .i64) 3 w14 w.heap.size (fun _ => True) (.slice Ao12 t215.length co12) t215) := ⟨(by rw [hw]; exact (by (with_reducible repeat (first | apply Kd.R_alloc | apply Kd.R_drewN | apply Kd.R_drew)); exact Kd.R_mono (Kd.R_far (p := ⟨gb214, 0, none⟩) (Kd.R_types HO217.out BK214.out (by decide)) (fun _ hk => hk.2) (.slice Ao12 t215.length co12)) (fun _ hk => trivial)))⟩; have n2_ : Aside0 (w14.heap[gb214]? = some (.cells #[.slice Ao12 t215.length co12, .int .i64 ((rd_T32 l0 x9_1).f1), .bool ((rd_T32 l0 x9_1).f2), .int .i64 ((rd_T32 l0 x9_1).f3), .int .i64 ((rd_T32 l0 x9_1).f4), .int .i64 ((rd_T32 l0 x9_1).f5)] 32 (0, 0))) := ⟨(by rw [hw]; exact (by (with_reducible repeat (first | refine blk_drewN ?_ _ | refine blk_drew ?_ | refine blk_alloc ?_ _)); refine blk_put (cs := #[.slice A213_0 ((rd_T32 l0 x9_1).f0).length c213_0, .int .i64 ((rd_T32 l0 x9_1).f1), .bool ((rd_T32 l0 x9_1).f2), .int .i64 ((rd_T32 l0 x9_1).f3), .int .i64 ((rd_T32 l0 x9_1).f4), .int .i64 ((rd_T32 l0 x9_1).f5)]) ?_ 0 _ rfl; (with_reducible repeat (first | refine blk_drewN ?_ _ | refine blk_drew ?_ | refine blk_alloc ?_ _)); exact BK214.out))⟩; have n3_ : Aside0 (Below w.heap.size w w14) := ⟨(by rw [hw]; exact (bw_ HB.out))⟩; clear hw; clear HO_3; clear HO217; clear BK214; clear HB; have HO_3 := n0_; have HO217 := n1_; have BK214 := n2_; have HB := n3_; clear n0_ n1_ n2_ n3_; have hcz15_0 := cz_ BK214.out 0; have hcz15_1 := cz_ BK214.out 1; have hcz15_2 := cz_ BK214.out 2; have hcz15_3 := cz_ BK214.out 3; have hcz15_4 := cz_ BK214.out 4; have hcz15_5 := cz_ BK214.out 5; have hfz15_0 := blk_frozen BK214.out 0; have hfz15_1 := blk_frozen BK214.out 1; have hfz15_2 := blk_frozen BK214.out 2; have hfz15_3 := blk_frozen BK214.out 3; have hfz15_4 := blk_frozen BK214.out 4; have hfz15_5 := blk_frozen BK214.out 5) | ((with_reducible refine gate_builtin (b := .append) (xs := #[.tmp 17, .tmp 19]) rfl ?_); at_builtin; refine Kd.S_append k32 (w0 := w) w.heap.size rfl (.tmp 17) (.tmp 19) 28 32 (.agg #[(.slice none 0 0), (.int .i64 0), (.bool false), (.int .i64 0), (.int .i64 0), (.int .i64 0)]) 64 rfl Try.underlying28 info32 rfl (by decide) (by omega) u3 x3_1 (⟨t215, (rd_T32 l0 x9_1).f1, (rd_T32 l0 x9_1).f2, (rd_T32 l0 x9_1).f3, (rd_T32 l0 x9_1).f4, (rd_T32 l0 x9_1).f5⟩ : S32) [.slice Ao12 t215.length co12, .int .i64 ((rd_T32 l0 x9_1).f1), .bool ((rd_T32 l0 x9_1).f2), .int .i64 ((rd_T32 l0 x9_1).f3), .int .i64 ((rd_T32 l0 x9_1).f4), .int .i64 ((rd_T32 l0 x9_1).f5)] (fun k_ => k_ ≠ gb214) (fun k_ => some k_ = (.slice Ao12 t215.length co12 : Value).ownBlock) rfl rfl ?aP (fun k_ hk_ => ((Kd.R_mono (ok' := fun k_ => ((fun k_ => k_ ≠ gb214)) k_ ∧ some k_ ≠ (u3 : Value).ownBlock) (Kd.R_types (Kd.R_apart' (HO217.out) (Kd.S_typed HO_3.out) (by decide)) BK214.out (by decide)) (fun k_ hk => ⟨hk.2, hk.1.2⟩))).1 k_ hk_.symm) ?aF ?aO ?aB ?aS ?aL ?_; (case aP => exact k32_mkM _ _ _ (⟨t215, (rd_T32 l0 x9_1).f1, (rd_T32 l0 x9_1).f2, (rd_T32 l0 x9_1).f3, (rd_T32 l0 x9_1).f4, (rd_T32 l0 x9_1).f5⟩ : S32) (Kd.R_mono (Kd.R_tight rfl (Kd.R_mono (ok' := fun k_ => ((fun k_ => k_ ≠ gb214)) k_ ∧ some k_ ≠ (u3 : Value).ownBlock) (Kd.R_types (Kd.R_apart' (HO217.out) (Kd.S_typed HO_3.out) (by decide)) BK214.out (by decide)) (fun k_ hk => ⟨hk.2, hk.1.2⟩))) (fun _ h_ => h_))); (case aB => exact (bw_ HB.out)); (case aF => exact (fun k_ hk => Kd.freshB (bk_ BK214.out) k_ hk)); (case aO => exact (by (with_reducible repeat (first | apply Kd.S_alloc | apply Kd.S_drewN | apply Kd.S_drew)); exact Kd.S_mono HO_3.out (fun k_ hk => ⟨hk.2, fun e_ => hk.1 e_⟩))); (case aS => exact (below_size (bw_ HB.out))); (case aL => have := LMc8.out; omega); intro v219 w16 ho hb hg hat; rw [← Ny218.out] at ho; have n0_ := Aside0.mk (blk_grown (bk_ BK214.out) hg (Kd.S_away HO_3.out (fun _ hk => hk.2))); have n1_ := Aside0.mk (hb); have n2_ := Aside0.mk (ho); clear BK214; clear HB; clear HO_3; clear HO217; have BK214 := n0_; have HB := n1_; have HO220 := n2_; clear n0_ n1_ n2_; clear ho hb hg hat))
       go_roundg k1
       case measure => have := HK1.out; omega
       case rel => exact ⟨(y218), (wrap64 (x9_1 + 1)), (by first | rfl | (simp; done) | (simp [*]; done) | (simp [wrap64]; done)), H', ⟨by have := HK1.out; omega⟩, ⟨by (with_reducible repeat (first | apply Kd.S_alloc | apply Kd.S_drewN | apply Kd.S_drew)); exact Kd.S_mono HO220.out (fun _ hk => trivial)⟩, ⟨bw_ HB.out⟩⟩
      ·rw [if_neg c8] at H
       exact absurd H (by simp)
     ·rw [if_neg c6] at H
      exact absurd H (by simp)
    ·rw [if_neg c5] at H
     exact absurd H (by simp)
   ·rw [if_neg c4] at H
    have c4b0 : decide (x9_1 < (l0.length : Int)) = false := decide_eq_false c4
    clear c4
    obtain rfl := Option.some.inj H
    go_wp2
    go_ret
    exact ⟨_, by first | rfl | (simp [errW_none, errW_some] <;> rfl) | (simp [*, errW_none, errW_some] <;> rfl), by (with_reducible repeat (first | apply Kd.S_alloc | apply Kd.S_drewN | apply Kd.S_drew)); exact HO_3.out, bw_ HB.out⟩

/-! ### impl_TakeVoice: function 10 -/
mutual
def impl_TakeVoice.j0 : Nat → List (S32) → Bool → List Int → Int → Bool → Int → Int → Int → Option ((List (S32)) × Int × Bool)
 | 0, _, _, _, _, _, _, _, _ => none
 | k + 1, x0, x17, x222000, x222001, x222002, x222003, x222004, x222005 => if x17 = true then (some (([] : List (S32)), 0, false)) else ((impl_copyVoices.f k x0).bind fun t224 => ((slices_Clone_int_int.f x222000).bind fun t227 => (if (t224.length : Int) < 8 then (if t224.length < 2199023255552 then (some ((t224 ++ [(⟨t227, x222001, x222002, x222003, x222004, x222005⟩ : S32)]), (-1), true)) else (none)) else (impl_TakeVoice.l0 k t224 0 (t224.length : Int) 0 t227 x222001 x222002 x222003 x222004 x222005))))
def impl_TakeVoice.l0 : Nat → List (S32) → Int → Int → Int → List Int → Int → Bool → Int → Int → Int → Option ((List (S32)) × Int × Bool)
 | 0, _, _, _, _, _, _, _, _, _, _ => none
 | k + 1, x7, x8, x32, x33, x222000, x222001, x222002, x222003, x222004, x222005 => if x33 < x32 then (if 0 ≤ x33 then (if x33 < (x7.length : Int) then (if 0 ≤ x8 then (if x8 < (x7.length : Int) then (if ((rd_T32 x7 x33).f5) < ((rd_T32 x7 x8).f5) then (impl_TakeVoice.l0 k x7 x33 x32 (wrap64 (x33 + 1)) x222000 x222001 x222002 x222003 x222004 x222005) else (impl_TakeVoice.l0 k x7 x8 x32 (wrap64 (x33 + 1)) x222000 x222001 x222002 x222003 x222004 x222005)) else (none)) else (none)) else (none)) else (none)) else (if 0 ≤ x8 then (if x8 < (x7.length : Int) then (if ((rd_T32 x7 x8).f5) > x222005 then (some (x7, (-2), true)) else (some ((x7.set (x8 : Int).toNat (⟨x222000, x222001, x222002, x222003, x222004, x222005⟩ : S32)), x8, true))) else (none)) else (none))
end
def impl_TakeVoice.f (k : Nat) (l0 : List (S32)) (l1_0 : List Int) (a1_1 : Int) (a1_2 : Bool) (a1_3 : Int) (a1_4 : Int) (a1_5 : Int) : Option ((List (S32)) × Int × Bool) := (impl_areVoices.f k l0).bind fun t222 => (if t222 = true then ((impl_GoodVoice.f k l1_0 a1_1 a1_2 a1_3 a1_4 a1_5).bind fun t223 => (impl_TakeVoice.j0 k l0 (!t223) l1_0 a1_1 a1_2 a1_3 a1_4 a1_5)) else (impl_TakeVoice.j0 k l0 true l1_0 a1_1 a1_2 a1_3 a1_4 a1_5))
theorem impl_TakeVoice.mono_l : ∀ k, (∀ y0 y1 y2 y3 y4 y5 y6 y7, LeO (impl_TakeVoice.j0 k y0 y1 y2 y3 y4 y5 y6 y7) (impl_TakeVoice.j0 (k + 1) y0 y1 y2 y3 y4 y5 y6 y7)) ∧ (∀ y0 y1 y2 y3 y4 y5 y6 y7 y8 y9, LeO (impl_TakeVoice.l0 k y0 y1 y2 y3 y4 y5 y6 y7 y8 y9) (impl_TakeVoice.l0 (k + 1) y0 y1 y2 y3 y4 y5 y6 y7 y8 y9))
 | 0 => ⟨fun _ _ _ _ _ _ _ _ r h => by simp [impl_TakeVoice.j0] at h, fun _ _ _ _ _ _ _ _ _ _ r h => by simp [impl_TakeVoice.l0] at h⟩
 | k + 1 => by
  obtain ⟨ih0, ih1⟩ := impl_TakeVoice.mono_l k
  refine ⟨?_, ?_⟩
  ·intro y0 y1 y2 y3 y4 y5 y6 y7
   unfold impl_TakeVoice.j0
   repeat' first
   | (with_reducible exact ih0 _ _ _ _ _ _ _ _)
   | (with_reducible exact ih1 _ _ _ _ _ _ _ _ _ _)
   | (with_reducible exact impl_GoodVoice.mono _ _ _ _ _ _ _)
   | (with_reducible exact impl_areVoices.mono _ _)
   | (with_reducible exact impl_copyVoices.mono _ _)
   | (with_reducible exact LeO.refl _)
   | (with_reducible exact LeO.none _)
   | (with_reducible refine LeO.ite ?_ ?_)
   | (with_reducible refine LeO.bind ?_ (fun _ => ?_))
   | exact ih0 _ _ _ _ _ _ _ _
   | exact ih1 _ _ _ _ _ _ _ _ _ _
   | exact impl_GoodVoice.mono _ _ _ _ _ _ _
   | exact impl_areVoices.mono _ _
   | exact impl_copyVoices.mono _ _
   | exact LeO.none _
   | refine LeO.ite ?_ ?_
   | refine LeO.bind ?_ (fun _ => ?_)
  ·intro y0 y1 y2 y3 y4 y5 y6 y7 y8 y9
   unfold impl_TakeVoice.l0
   repeat' first
   | (with_reducible exact ih0 _ _ _ _ _ _ _ _)
   | (with_reducible exact ih1 _ _ _ _ _ _ _ _ _ _)
   | (with_reducible exact impl_GoodVoice.mono _ _ _ _ _ _ _)
   | (with_reducible exact impl_areVoices.mono _ _)
   | (with_reducible exact impl_copyVoices.mono _ _)
   | (with_reducible exact LeO.refl _)
   | (with_reducible exact LeO.none _)
   | (with_reducible refine LeO.ite ?_ ?_)
   | (with_reducible refine LeO.bind ?_ (fun _ => ?_))
   | exact ih0 _ _ _ _ _ _ _ _
   | exact ih1 _ _ _ _ _ _ _ _ _ _
   | exact impl_GoodVoice.mono _ _ _ _ _ _ _
   | exact impl_areVoices.mono _ _
   | exact impl_copyVoices.mono _ _
   | exact LeO.none _
   | refine LeO.ite ?_ ?_
   | refine LeO.bind ?_ (fun _ => ?_)
theorem impl_TakeVoice.mono : ∀ a0 a1 a2 a3 a4 a5 a6 k, LeO (impl_TakeVoice.f k a0 a1 a2 a3 a4 a5 a6) (impl_TakeVoice.f (k + 1) a0 a1 a2 a3 a4 a5 a6) := by
 intro a0 a1 a2 a3 a4 a5 a6 k
 obtain ⟨ih0, ih1⟩ := impl_TakeVoice.mono_l k
 unfold impl_TakeVoice.f
 repeat' first
   | (with_reducible exact ih0 _ _ _ _ _ _ _ _)
   | (with_reducible exact ih1 _ _ _ _ _ _ _ _ _ _)
   | (with_reducible exact impl_GoodVoice.mono _ _ _ _ _ _ _)
   | (with_reducible exact impl_areVoices.mono _ _)
   | (with_reducible exact impl_copyVoices.mono _ _)
   | (with_reducible exact LeO.refl _)
   | (with_reducible exact LeO.none _)
   | (with_reducible refine LeO.ite ?_ ?_)
   | (with_reducible refine LeO.bind ?_ (fun _ => ?_))
   | exact ih0 _ _ _ _ _ _ _ _
   | exact ih1 _ _ _ _ _ _ _ _ _ _
   | exact impl_GoodVoice.mono _ _ _ _ _ _ _
   | exact impl_areVoices.mono _ _
   | exact impl_copyVoices.mono _ _
   | exact LeO.none _
   | refine LeO.ite ?_ ?_
   | refine LeO.bind ?_ (fun _ => ?_)
set_option maxHeartbeats 8000000 in
set_option maxRecDepth 100000 in
theorem impl_TakeVoice.calls (k : Nat) (A0 : Option Addr) (c0 : Nat) (l0 : List (S32)) (A1_0 : Option Addr) (c1_0 : Nat) (l1_0 : List Int) (a1_1 : Int) (a1_2 : Bool) (a1_3 : Int) (a1_4 : Int) (a1_5 : Int) (r1 : List (S32)) (r2 : Int) (r3 : Bool) (w : World) (hr0 : Kd.C k32 w A0 l0.length l0) (hc0 : l0.length ≤ c0) (hr1_0 : Kd.C (Kd.int .i64) w A1_0 l1_0.length l1_0) (hc1_0 : l1_0.length ≤ c1_0) (h : impl_TakeVoice.f k l0 l1_0 a1_1 a1_2 a1_3 a1_4 a1_5 = some (r1, r2, r3)) :
  Calls Try.prog 10 #[.slice A0 l0.length c0, .agg #[.slice A1_0 l1_0.length c1_0, .int .i64 a1_1, .bool a1_2, .int .i64 a1_3, .int .i64 a1_4, .int .i64 a1_5]] w fun e w' => ∃ v0_ : Value, e = .returned (.tuple #[v0_, .int .i64 r2, .bool r3]) ∧ Kd.S k32 32 w' w.heap.size (fun _ => True) v0_ r1 ∧ Below w.heap.size w w' := by
 have hu32 := Try.underlying32
 have HR0 := Aside0.mk hr0
 have HC0 := Aside0.mk hc0
 clear hr0 hc0
 have HR1_0 := Aside0.mk hr1_0
 have HC1_0 := Aside0.mk hc1_0
 clear hr1_0 hc1_0
 have HB := Aside0.mk (Below.refl w.heap.size w)
 have H : ((impl_areVoices.f k l0).bind fun t222 => (if t222 = true then ((impl_GoodVoice.f k l1_0 a1_1 a1_2 a1_3 a1_4 a1_5).bind fun t223 => (impl_TakeVoice.j0 k l0 (!t223) l1_0 a1_1 a1_2 a1_3 a1_4 a1_5)) else (impl_TakeVoice.j0 k l0 true l1_0 a1_1 a1_2 a1_3 a1_4 a1_5))) = some (r1, r2, r3) := h
 clear h
 have HC3 := Aside0.mk H
 clear H
 go_enter Try.func10, Try.ntmps10
 go_upto_region 1 with (first | ((with_reducible refine gate_dst (N := 3) rfl ?_); refine bx_ 3 #[.slice A1_0 l1_0.length c1_0, .int .i64 a1_1, .bool a1_2, .int .i64 a1_3, .int .i64 a1_4, .int .i64 a1_5] 32 ?_; intro gb221 hg w4 hbox hb; have n0_ := Aside0.mk (below_step (bw_ HB.out) hb); have n1_ := Aside0.mk (hbox); have n2_ := Aside0.mk (gs_ hg (bw_ HB.out)); have n3_ := Aside0.mk (gs_ hg (bw_ HB.out)); clear HB; have HB := n0_; have BK221 := n1_; have GW221 := n2_; have GE221 := n3_; clear n0_ n1_ n2_ n3_; clear hb hbox hg))
 repeat (go_quiet (first | ((with_reducible refine gate_dst (N := 3) rfl ?_); refine bx_ 3 #[.slice A1_0 l1_0.length c1_0, .int .i64 a1_1, .bool a1_2, .int .i64 a1_3, .int .i64 a1_4, .int .i64 a1_5] 32 ?_; intro gb221 hg w4 hbox hb; have n0_ := Aside0.mk (below_step (bw_ HB.out) hb); have n1_ := Aside0.mk (hbox); have n2_ := Aside0.mk (gs_ hg (bw_ HB.out)); have n3_ := Aside0.mk (gs_ hg (bw_ HB.out)); clear HB; have HB := n0_; have BK221 := n1_; have GW221 := n2_; have GE221 := n3_; clear n0_ n1_ n2_ n3_; clear hb hbox hg)); go_upto_region 1 with (first | ((with_reducible refine gate_dst (N := 3) rfl ?_); refine bx_ 3 #[.slice A1_0 l1_0.length c1_0, .int .i64 a1_1, .bool a1_2, .int .i64 a1_3, .int .i64 a1_4, .int .i64 a1_5] 32 ?_; intro gb221 hg w4 hbox hb; have n0_ := Aside0.mk (below_step (bw_ HB.out) hb); have n1_ := Aside0.mk (hbox); have n2_ := Aside0.mk (gs_ hg (bw_ HB.out)); have n3_ := Aside0.mk (gs_ hg (bw_ HB.out)); clear HB; have HB := n0_; have BK221 := n1_; have GW221 := n2_; have GE221 := n3_; clear n0_ n1_ n2_ n3_; clear hb hbox hg)))
 (try simp only [Act.put, List.setIfInBounds_toArray, List.set_cons_zero, List.set_cons_succ])
 go_cut [17] (fun v17 wc => ∃ (kq : Nat) (x17_2 : Bool), v17 = .bool x17_2 ∧ Aside0 (impl_TakeVoice.j0 kq l0 x17_2 l1_0 a1_1 a1_2 a1_3 a1_4 a1_5 = some (r1, r2, r3)) ∧ Aside0 (kq ≤ k) ∧ Aside0 (wc.heap[gb221]? = some (.cells #[(.slice A1_0 l1_0.length c1_0), .int .i64 a1_1, .bool a1_2, .int .i64 a1_3, .int .i64 a1_4, .int .i64 a1_5] 32 (0, 0))) ∧ Aside0 (Below w.heap.size w wc))
 case first =>
  have H := HC3.out
  clear HC3
  obtain ⟨t222, A50, H⟩ := bE_ H
  have A5 := Aside0.mk A50
  clear A50
  by_cases c6 : t222 = true
  ·subst c6
   replace H := it_ H rfl
   obtain ⟨t223, A70, H⟩ := bE_ H
   have A7 := Aside0.mk A70
   clear A70
   have H' := Aside0.mk H
   clear H
   go_wp2_with (first | (go_at_call 26; (with_reducible refine (impl_areVoices.calls k _ _ l0 true _ ?side1 ?side2 A5.out).mono ?_); (case side1 => repeat (first | exact (Kd.C_below HR0.out HB.out) | (with_reducible refine Kd.C_alloc ?_ _) | (with_reducible refine Kd.C_drewN ?_ _) | (with_reducible refine Kd.C_drew ?_))); (case side2 => exact HC0.out); rintro e w8 ⟨rfl, hb⟩; have n0_ := Aside0.mk (blk_below (bk_ BK221.out) hb); have n1_ := Aside0.mk (below_step (bw_ HB.out) hb); clear BK221; clear HB; have BK221 := n0_; have HB := n1_; clear n0_ n1_; (try clear hb); (try clear hb2); (try clear hk); (try clear hi); have hcz9_0 := cz_ BK221.out 0; have hcz9_1 := cz_ BK221.out 1; have hcz9_2 := cz_ BK221.out 2; have hcz9_3 := cz_ BK221.out 3; have hcz9_4 := cz_ BK221.out 4; have hcz9_5 := cz_ BK221.out 5; have hfz9_0 := blk_frozen BK221.out 0; have hfz9_1 := blk_frozen BK221.out 1; have hfz9_2 := blk_frozen BK221.out 2; have hfz9_3 := blk_frozen BK221.out 3; have hfz9_4 := blk_frozen BK221.out 4; have hfz9_5 := blk_frozen BK221.out 5) | (go_at_call 27; (with_reducible refine (impl_GoodVoice.calls k _ _ l1_0 a1_1 a1_2 a1_3 a1_4 a1_5 t223 _ ?side1 ?side2 A7.out).mono ?_); (case side1 => repeat (first | exact (Kd.C_below HR1_0.out HB.out) | (with_reducible refine Kd.C_alloc ?_ _) | (with_reducible refine Kd.C_drewN ?_ _) | (with_reducible refine Kd.C_drew ?_))); (case side2 => exact HC1_0.out); rintro e w10 ⟨rfl, hb⟩; have n0_ := Aside0.mk (blk_below (bk_ BK221.out) hb); have n1_ := Aside0.mk (below_step (bw_ HB.out) hb); clear BK221; clear HB; have BK221 := n0_; have HB := n1_; clear n0_ n1_; (try clear hb); (try clear hb2); (try clear hk); (try clear hi)))
   repeat (go_quiet (first | (go_at_call 26; (with_reducible refine (impl_areVoices.calls k _ _ l0 true _ ?side1 ?side2 A5.out).mono ?_); (case side1 => repeat (first | exact (Kd.C_below HR0.out HB.out) | (with_reducible refine Kd.C_alloc ?_ _) | (with_reducible refine Kd.C_drewN ?_ _) | (with_reducible refine Kd.C_drew ?_))); (case side2 => exact HC0.out); rintro e w8 ⟨rfl, hb⟩; have n0_ := Aside0.mk (blk_below (bk_ BK221.out) hb); have n1_ := Aside0.mk (below_step (bw_ HB.out) hb); clear BK221; clear HB; have BK221 := n0_; have HB := n1_; clear n0_ n1_; (try clear hb); (try clear hb2); (try clear hk); (try clear hi); have hcz9_0 := cz_ BK221.out 0; have hcz9_1 := cz_ BK221.out 1; have hcz9_2 := cz_ BK221.out 2; have hcz9_3 := cz_ BK221.out 3; have hcz9_4 := cz_ BK221.out 4; have hcz9_5 := cz_ BK221.out 5; have hfz9_0 := blk_frozen BK221.out 0; have hfz9_1 := blk_frozen BK221.out 1; have hfz9_2 := blk_frozen BK221.out 2; have hfz9_3 := blk_frozen BK221.out 3; have hfz9_4 := blk_frozen BK221.out 4; have hfz9_5 := blk_frozen BK221.out 5) | (go_at_call 27; (with_reducible refine (impl_GoodVoice.calls k _ _ l1_0 a1_1 a1_2 a1_3 a1_4 a1_5 t223 _ ?side1 ?side2 A7.out).mono ?_); (case side1 => repeat (first | exact (Kd.C_below HR1_0.out HB.out) | (with_reducible refine Kd.C_alloc ?_ _) | (with_reducible refine Kd.C_drewN ?_ _) | (with_reducible refine Kd.C_drew ?_))); (case side2 => exact HC1_0.out); rintro e w10 ⟨rfl, hb⟩; have n0_ := Aside0.mk (blk_below (bk_ BK221.out) hb); have n1_ := Aside0.mk (below_step (bw_ HB.out) hb); clear BK221; clear HB; have BK221 := n0_; have HB := n1_; clear n0_ n1_; (try clear hb); (try clear hb2); (try clear hk); (try clear hi))); try go_wp2_with (first | (go_at_call 26; (with_reducible refine (impl_areVoices.calls k _ _ l0 true _ ?side1 ?side2 A5.out).mono ?_); (case side1 => repeat (first | exact (Kd.C_below HR0.out HB.out) | (with_reducible refine Kd.C_alloc ?_ _) | (with_reducible refine Kd.C_drewN ?_ _) | (with_reducible refine Kd.C_drew ?_))); (case side2 => exact HC0.out); rintro e w8 ⟨rfl, hb⟩; have n0_ := Aside0.mk (blk_below (bk_ BK221.out) hb); have n1_ := Aside0.mk (below_step (bw_ HB.out) hb); clear BK221; clear HB; have BK221 := n0_; have HB := n1_; clear n0_ n1_; (try clear hb); (try clear hb2); (try clear hk); (try clear hi); have hcz9_0 := cz_ BK221.out 0; have hcz9_1 := cz_ BK221.out 1; have hcz9_2 := cz_ BK221.out 2; have hcz9_3 := cz_ BK221.out 3; have hcz9_4 := cz_ BK221.out 4; have hcz9_5 := cz_ BK221.out 5; have hfz9_0 := blk_frozen BK221.out 0; have hfz9_1 := blk_frozen BK221.out 1; have hfz9_2 := blk_frozen BK221.out 2; have hfz9_3 := blk_frozen BK221.out 3; have hfz9_4 := blk_frozen BK221.out 4; have hfz9_5 := blk_frozen BK221.out 5) | (go_at_call 27; (with_reducible refine (impl_GoodVoice.calls k _ _ l1_0 a1_1 a1_2 a1_3 a1_4 a1_5 t223 _ ?side1 ?side2 A7.out).mono ?_); (case side1 => repeat (first | exact (Kd.C_below HR1_0.out HB.out) | (with_reducible refine Kd.C_alloc ?_ _) | (with_reducible refine Kd.C_drewN ?_ _) | (with_reducible refine Kd.C_drew ?_))); (case side2 => exact HC1_0.out); rintro e w10 ⟨rfl, hb⟩; have n0_ := Aside0.mk (blk_below (bk_ BK221.out) hb); have n1_ := Aside0.mk (below_step (bw_ HB.out) hb); clear BK221; clear HB; have BK221 := n0_; have HB := n1_; clear n0_ n1_; (try clear hb); (try clear hb2); (try clear hk); (try clear hi))))
   go_meet
   case rel => exact ⟨_, (!t223), (by first | rfl | (simp; done) | (simp [*]; done) | (simp [wrap64]; done)), H', ⟨by first | omega | exact Nat.le_refl _⟩, ⟨by (with_reducible repeat (first | refine blk_drewN ?_ _ | refine blk_drew ?_ | refine blk_alloc ?_ _)); exact BK221.out⟩, ⟨bw_ HB.out⟩⟩
  ·replace c6 := Bool.eq_false_iff.mpr c6
   subst c6
   replace H := if_ H Bool.false_ne_true
   have H' := Aside0.mk H
   clear H
   go_wp2_with (first | (go_at_call 26; (with_reducible refine (impl_areVoices.calls k _ _ l0 false _ ?side1 ?side2 A5.out).mono ?_); (case side1 => repeat (first | exact (Kd.C_below HR0.out HB.out) | (with_reducible refine Kd.C_alloc ?_ _) | (with_reducible refine Kd.C_drewN ?_ _) | (with_reducible refine Kd.C_drew ?_))); (case side2 => exact HC0.out); rintro e w11 ⟨rfl, hb⟩; have n0_ := Aside0.mk (blk_below (bk_ BK221.out) hb); have n1_ := Aside0.mk (below_step (bw_ HB.out) hb); clear BK221; clear HB; have BK221 := n0_; have HB := n1_; clear n0_ n1_; (try clear hb); (try clear hb2); (try clear hk); (try clear hi)))
   repeat (go_quiet (first | (go_at_call 26; (with_reducible refine (impl_areVoices.calls k _ _ l0 false _ ?side1 ?side2 A5.out).mono ?_); (case side1 => repeat (first | exact (Kd.C_below HR0.out HB.out) | (with_reducible refine Kd.C_alloc ?_ _) | (with_reducible refine Kd.C_drewN ?_ _) | (with_reducible refine Kd.C_drew ?_))); (case side2 => exact HC0.out); rintro e w11 ⟨rfl, hb⟩; have n0_ := Aside0.mk (blk_below (bk_ BK221.out) hb); have n1_ := Aside0.mk (below_step (bw_ HB.out) hb); clear BK221; clear HB; have BK221 := n0_; have HB := n1_; clear n0_ n1_; (try clear hb); (try clear hb2); (try clear hk); (try clear hi))); try go_wp2_with (first | (go_at_call 26; (with_reducible refine (impl_areVoices.calls k _ _ l0 false _ ?side1 ?side2 A5.out).mono ?_); (case side1 => repeat (first | exact (Kd.C_below HR0.out HB.out) | (with_reducible refine Kd.C_alloc ?_ _) | (with_reducible refine Kd.C_drewN ?_ _) | (with_reducible refine Kd.C_drew ?_))); (case side2 => exact HC0.out); rintro e w11 ⟨rfl, hb⟩; have n0_ := Aside0.mk (blk_below (bk_ BK221.out) hb); have n1_ := Aside0.mk (below_step (bw_ HB.out) hb); clear BK221; clear HB; have BK221 := n0_; have HB := n1_; clear n0_ n1_; (try clear hb); (try clear hb2); (try clear hk); (try clear hi))))
   go_meet
   case rel => exact ⟨_, (true), (by first | rfl | (simp; done) | (simp [*]; done) | (simp [wrap64]; done)), H', ⟨by first | omega | exact Nat.le_refl _⟩, ⟨by (with_reducible repeat (first | refine blk_drewN ?_ _ | refine blk_drew ?_ | refine blk_alloc ?_ _)); exact BK221.out⟩, ⟨bw_ HB.out⟩⟩
 case rest =>
  clear HC3
  try clear c1
  try clear p2
  try clear c6
  try clear c10
  try clear hcz9_0
  try clear hcz9_1
  try clear hcz9_2
  try clear hcz9_3
  try clear hcz9_4
  try clear hcz9_5
  try clear hfz9_0
  try clear hfz9_1
  try clear hfz9_2
  try clear hfz9_3
  try clear hfz9_4
  try clear hfz9_5
  obtain ⟨kq, x17_2, rfl, HA, HJ2, BK221, HB⟩ := hcut
  cases kq with
  | zero => exact absurd HA.out (by simp [impl_TakeVoice.j0])
  | succ kj2 =>
   have H := HA.out
   clear HA
   simp only [impl_TakeVoice.j0] at H
   by_cases c12 : x17_2 = true
   ·subst c12
    replace H := it_ H rfl
    simp only [Option.some.injEq, Prod.mk.injEq] at H
    obtain ⟨rfl, rfl, rfl⟩ := H
    go_wp2
    repeat (go_quiet (fail); try go_wp2)
    go_ret3
    exact ⟨_, by first | rfl | (simp [errW_none, errW_some] <;> rfl) | (simp [*, errW_none, errW_some] <;> rfl), by first | exact Kd.S_nil _ _ _ _ _ | exact Kd.N_nil _ _ _ _ _ | exact Kd.V_nil _ _ _ _ _ | exact Kd.Q_nil _ _ _ _ _ | exact Kd.R_nil _ _ _ _ _, bw_ HB.out⟩
   ·replace c12 := Bool.eq_false_iff.mpr c12
    subst c12
    replace H := if_ H Bool.false_ne_true
    obtain ⟨t224, A130, H⟩ := bE_ H
    have A13 := Aside0.mk A130
    clear A130
    obtain ⟨t227, A140, H⟩ := bE_ H
    have A14 := Aside0.mk A140
    clear A140
    by_cases c15 : (t224.length : Int) < 8
    ·rw [if_pos c15] at H
     have c15b0 : decide ((t224.length : Int) < 8) = true := decide_eq_true c15
     have c15b1 : decide (t224.length < 8) = true := decide_eq_true (by omega)
     clear c15
     by_cases c16 : t224.length < 2199023255552
     ·rw [if_pos c16] at H
      have LMc16 := Aside0.mk c16
      clear c16
      obtain ⟨y230, hy230⟩ : ∃ y_ : List (S32), y_ = (t224 ++ [(⟨t227, a1_1, a1_2, a1_3, a1_4, a1_5⟩ : S32)]) := ⟨_, rfl⟩
      replace H : (some (y230, (-1), true)) = some (r1, r2, r3) := by first | (rw [hy230]; with_reducible exact H) | (have H2_ := (Option.bind_some _ _).symm.trans H; rw [hy230]; with_reducible exact H2_) | (have H2_ := (Option.bind_some _ _).symm.trans H; with_reducible exact H2_) | with_reducible exact H | (rw [hy230]; exact H) | exact H
      have Ny230 := Aside0.mk hy230
      clear hy230
      simp only [Option.some.injEq, Prod.mk.injEq] at H
      obtain ⟨rfl, rfl, rfl⟩ := H
      go_wp2_with (first | (go_at_call 28; (with_reducible refine (impl_copyVoices.calls kj2 _ _ l0 t224 _ ?side1 ?side2 A13.out).mono ?_); (case side1 => repeat (first | exact (Kd.C_below HR0.out HB.out) | (with_reducible refine Kd.C_alloc ?_ _) | (with_reducible refine Kd.C_drewN ?_ _) | (with_reducible refine Kd.C_drew ?_))); (case side2 => exact HC0.out); rintro e w17 ⟨v225, rfl, ho0, hb⟩; have n0_ := Aside0.mk (Kd.S_lower (Kd.S_newB ho0 (bk_ BK221.out)) (below_size (bw_ HB.out))); have n1_ := Aside0.mk (blk_below (bk_ BK221.out) hb); have n2_ := Aside0.mk (below_step (bw_ HB.out) hb); clear BK221; clear HB; have HO226 := n0_; have BK221 := n1_; have HB := n2_; clear n0_ n1_ n2_; (try clear hb); (try clear hb2); (try clear hk); (try clear hi); (try clear ho0); have hcz18_0 := cz_ BK221.out 0; have hcz18_1 := cz_ BK221.out 1; have hcz18_2 := cz_ BK221.out 2; have hcz18_3 := cz_ BK221.out 3; have hcz18_4 := cz_ BK221.out 4; have hcz18_5 := cz_ BK221.out 5; have hfz18_0 := blk_frozen BK221.out 0; have hfz18_1 := blk_frozen BK221.out 1; have hfz18_2 := blk_frozen BK221.out 2; have hfz18_3 := blk_frozen BK221.out 3; have hfz18_4 := blk_frozen BK221.out 4; have hfz18_5 := blk_frozen BK221.out 5) | (go_at_call 29; (with_reducible refine (slices_Clone_int_int.calls _ _ l1_0 t227 _ ?side1 ?side2 A14.out).mono ?_); (case side1 => repeat (first | exact (Kd.C_below HR1_0.out HB.out) | (with_reducible refine Kd.C_alloc ?_ _) | (with_reducible refine Kd.C_drewN ?_ _) | (with_reducible refine Kd.C_drew ?_))); (case side2 => exact HC1_0.out); rintro e w19 ⟨v228, rfl, ho0, hb⟩; have n0_ := Aside0.mk (Kd.S_elder' (by (with_reducible repeat (first | apply Kd.S_alloc | apply Kd.S_drewN | apply Kd.S_drew)); exact HO226.out) (Kd.R_base ho0) hb); have n1_ := Aside0.mk (Kd.R_lower ho0 (below_size (bw_ HB.out))); have n2_ := Aside0.mk (blk_below (bk_ BK221.out) hb); have n3_ := Aside0.mk (below_step (bw_ HB.out) hb); clear HO226; clear BK221; clear HB; have HO226 := n0_; have HO229 := n1_; have BK221 := n2_; have HB := n3_; clear n0_ n1_ n2_ n3_; (try clear hb); (try clear hb2); (try clear hk); (try clear hi); (try clear ho0); obtain ⟨Ao20, co20, eo20⟩ := Kd.R_slice HO229.out; subst eo20; have hcz21_0 := cz_ BK221.out 0; have hcz21_1 := cz_ BK221.out 1; have hcz21_2 := cz_ BK221.out 2; have hcz21_3 := cz_ BK221.out 3; have hcz21_4 := cz_ BK221.out 4; have hcz21_5 := cz_ BK221.out 5; have hfz21_0 := blk_frozen BK221.out 0; have hfz21_1 := blk_frozen BK221.out 1; have hfz21_2 := blk_frozen BK221.out 2; have hfz21_3 := blk_frozen BK221.out 3; have hfz21_4 := blk_frozen BK221.out 4; have hfz21_5 := blk_frozen BK221.out 5) | ((with_reducible refine gate_store (t := 23) (p := 23) rfl ?_); (try (rw [drewN_self w19]; generalize hq_ : World.drewN w19 _ = w19; have n0_ := Aside0.mk (Kd.S_at hq_ HO226.out); have n1_ := Aside0.mk (Kd.R_at hq_ HO229.out); have n2_ := Aside0.mk (blk_at hq_ BK221.out); have n3_ := Aside0.mk (below_at hq_ HB.out); clear hq_ HO226 HO229 BK221 HB; have HO226 := n0_; have HO229 := n1_; have BK221 := n2_; have HB := n3_; clear n0_ n1_ n2_ n3_)); refine se_ 23 23 (w19.setCell ⟨gb221, 0, none⟩ (.slice Ao20 t227.length co20)) ?_; intro w22 hw; have n0_ : Aside0 (Kd.S k32 32 w22 w.heap.size (fun k_ => some k_ ≠ (.slice Ao20 t227.length co20 : Value).ownBlock ∧ k_ ≠ gb221) v225 t224) := ⟨(by rw [hw]; exact (by (with_reducible repeat (first | apply Kd.S_alloc | apply Kd.S_drewN | apply Kd.S_drew)); exact Kd.S_mono (Kd.S_far (p := ⟨gb221, 0, none⟩) (Kd.S_mono HO226.out (fun k_ hk => (⟨hk, hk.1.2⟩ : _ ∧ k_ ≠ gb221))) (fun _ hk => hk.2) (.slice Ao20 t227.length co20)) (fun _ hk => ⟨hk.1.2, hk.1.1.2⟩)))⟩; have n1_ : Aside0 (Kd.R (Kd.int .i64) 3 w22 w.heap.size (fun _ => True) (.slice Ao20 t227.length co20) t227) := ⟨(by rw [hw]; exact (by (with_reducible repeat (first | apply Kd.R_alloc | apply Kd.R_drewN | apply Kd.R_drew)); exact Kd.R_mono (Kd.R_far (p := ⟨gb221, 0, none⟩) (Kd.R_types HO229.out BK221.out (by decide)) (fun _ hk => hk.2) (.slice Ao20 t227.length co20)) (fun _ hk => trivial)))⟩; have n2_ : Aside0 (w22.heap[gb221]? = some (.cells #[.slice Ao20 t227.length co20, .int .i64 a1_1, .bool a1_2, .int .i64 a1_3, .int .i64 a1_4, .int .i64 a1_5] 32 (0, 0))) := ⟨(by rw [hw]; exact (by (with_reducible repeat (first | refine blk_drewN ?_ _ | refine blk_drew ?_ | refine blk_alloc ?_ _)); refine blk_put (cs := #[.slice A1_0 l1_0.length c1_0, .int .i64 a1_1, .bool a1_2, .int .i64 a1_3, .int .i64 a1_4, .int .i64 a1_5]) ?_ 0 _ rfl; (with_reducible repeat (first | refine blk_drewN ?_ _ | refine blk_drew ?_ | refine blk_alloc ?_ _)); exact BK221.out))⟩; have n3_ : Aside0 (Below w.heap.size w w22) := ⟨(by rw [hw]; exact (bw_ HB.out))⟩; clear hw; clear HO226; clear HO229; clear BK221; clear HB; have HO226 := n0_; have HO229 := n1_; have BK221 := n2_; have HB := n3_; clear n0_ n1_ n2_ n3_; obtain ⟨Ao23, co23, eo23⟩ := Kd.S_slice HO226.out; subst eo23; have hcz24_0 := cz_ BK221.out 0; have hcz24_1 := cz_ BK221.out 1; have hcz24_2 := cz_ BK221.out 2; have hcz24_3 := cz_ BK221.out 3; have hcz24_4 := cz_ BK221.out 4; have hcz24_5 := cz_ BK221.out 5; have hfz24_0 := blk_frozen BK221.out 0; have hfz24_1 := blk_frozen BK221.out 1; have hfz24_2 := blk_frozen BK221.out 2; have hfz24_3 := blk_frozen BK221.out 3; have hfz24_4 := blk_frozen BK221.out 4; have hfz24_5 := blk_frozen BK221.out 5) | ((with_reducible refine gate_builtin (b := .append) (xs := #[.tmp 27, .tmp 29]) rfl ?_); at_builtin; refine Kd.S_append k32 (w0 := w) w.heap.size rfl (.tmp 27) (.tmp 29) 28 32 (.agg #[(.slice none 0 0), (.int .i64 0), (.bool false), (.int .i64 0), (.int .i64 0), (.int .i64 0)]) 64 rfl Try.underlying28 info32 rfl (by decide) (by omega) (.slice Ao23 t224.length co23) t224 (⟨t227, a1_1, a1_2, a1_3, a1_4, a1_5⟩ : S32) [.slice Ao20 t227.length co20, .int .i64 a1_1, .bool a1_2, .int .i64 a1_3, .int .i64 a1_4, .int .i64 a1_5] (fun k_ => k_ ≠ gb221) (fun k_ => some k_ = (.slice Ao20 t227.length co20 : Value).ownBlock) rfl rfl ?aP (fun k_ hk_ => ((Kd.R_mono (ok' := fun k_ => ((fun k_ => k_ ≠ gb221)) k_ ∧ some k_ ≠ (.slice Ao23 t224.length co23 : Value).ownBlock) (Kd.R_types (Kd.R_apart' (HO229.out) (Kd.S_typed HO226.out) (by decide)) BK221.out (by decide)) (fun k_ hk => ⟨hk.2, hk.1.2⟩))).1 k_ hk_.symm) ?aF ?aO ?aB ?aS ?aL ?_; (case aP => exact k32_mkM _ _ _ (⟨t227, a1_1, a1_2, a1_3, a1_4, a1_5⟩ : S32) (Kd.R_mono (Kd.R_tight rfl (Kd.R_mono (ok' := fun k_ => ((fun k_ => k_ ≠ gb221)) k_ ∧ some k_ ≠ (.slice Ao23 t224.length co23 : Value).ownBlock) (Kd.R_types (Kd.R_apart' (HO229.out) (Kd.S_typed HO226.out) (by decide)) BK221.out (by decide)) (fun k_ hk => ⟨hk.2, hk.1.2⟩))) (fun _ h_ => h_))); (case aB => exact (bw_ HB.out)); (case aF => exact (fun k_ hk => Kd.freshB (bk_ BK221.out) k_ hk)); (case aO => exact (by (with_reducible repeat (first | apply Kd.S_alloc | apply Kd.S_drewN | apply Kd.S_drew)); exact Kd.S_mono HO226.out (fun k_ hk => ⟨hk.2, fun e_ => hk.1 e_⟩))); (case aS => exact (below_size (bw_ HB.out))); (case aL => have := LMc16.out; omega); intro v231 w25 ho hb hg hat; rw [← Ny230.out] at ho; have n0_ := Aside0.mk (blk_grown (bk_ BK221.out) hg (Kd.S_away HO226.out (fun _ hk => hk.2))); have n1_ := Aside0.mk (hb); have n2_ := Aside0.mk (ho); clear BK221; clear HB; clear HO226; clear HO229; have BK221 := n0_; have HB := n1_; have HO232 := n2_; clear n0_ n1_ n2_; clear ho hb hg hat))
      repeat (go_quiet (first | (go_at_call 28; (with_reducible refine (impl_copyVoices.calls kj2 _ _ l0 t224 _ ?side1 ?side2 A13.out).mono ?_); (case side1 => repeat (first | exact (Kd.C_below HR0.out HB.out) | (with_reducible refine Kd.C_alloc ?_ _) | (with_reducible refine Kd.C_drewN ?_ _) | (with_reducible refine Kd.C_drew ?_))); (case side2 => exact HC0.out); rintro e w17 ⟨v225, rfl, ho0, hb⟩; have n0_ := Aside0.mk (Kd.S_lower (Kd.S_newB ho0 (bk_ BK221.out)) (below_size (bw_ HB.out))); have n1_ := Aside0.mk (blk_below (bk_ BK221.out) hb); have n2_ := Aside0.mk (below_step (bw_ HB.out) hb); clear BK221; clear HB; have HO226 := n0_; have BK221 := n1_; have HB := n2_; clear n0_ n1_ n2_; (try clear hb); (try clear hb2); (try clear hk); (try clear hi); (try clear ho0); have hcz18_0 := cz_ BK221.out 0; have hcz18_1 := cz_ BK221.out 1; have hcz18_2 := cz_ BK221.out 2; have hcz18_3 := cz_ BK221.out 3; have hcz18_4 := cz_ BK221.out 4; have hcz18_5 := cz_ BK221.out 5; have hfz18_0 := blk_frozen BK221.out 0; have hfz18_1 := blk_frozen BK221.out 1; have hfz18_2 := blk_frozen BK221.out 2; have hfz18_3 := blk_frozen BK221.out 3; have hfz18_4 := blk_frozen BK221.out 4; have hfz18_5 := blk_frozen BK221.out 5) | (go_at_call 29; (with_reducible refine (slices_Clone_int_int.calls _ _ l1_0 t227 _ ?side1 ?side2 A14.out).mono ?_); (case side1 => repeat (first | exact (Kd.C_below HR1_0.out HB.out) | (with_reducible refine Kd.C_alloc ?_ _) | (with_reducible refine Kd.C_drewN ?_ _) | (with_reducible refine Kd.C_drew ?_))); (case side2 => exact HC1_0.out); rintro e w19 ⟨v228, rfl, ho0, hb⟩; have n0_ := Aside0.mk (Kd.S_elder' (by (with_reducible repeat (first | apply Kd.S_alloc | apply Kd.S_drewN | apply Kd.S_drew)); exact HO226.out) (Kd.R_base ho0) hb); have n1_ := Aside0.mk (Kd.R_lower ho0 (below_size (bw_ HB.out))); have n2_ := Aside0.mk (blk_below (bk_ BK221.out) hb); have n3_ := Aside0.mk (below_step (bw_ HB.out) hb); clear HO226; clear BK221; clear HB; have HO226 := n0_; have HO229 := n1_; have BK221 := n2_; have HB := n3_; clear n0_ n1_ n2_ n3_; (try clear hb); (try clear hb2); (try clear hk); (try clear hi); (try clear ho0); obtain ⟨Ao20, co20, eo20⟩ := Kd.R_slice HO229.out; subst eo20; have hcz21_0 := cz_ BK221.out 0; have hcz21_1 := cz_ BK221.out 1; have hcz21_2 := cz_ BK221.out 2; have hcz21_3 := cz_ BK221.out 3; have hcz21_4 := cz_ BK221.out 4; have hcz21_5 := cz_ BK221.out 5; have hfz21_0 := blk_frozen BK221.out 0; have hfz21_1 := blk_frozen BK221.out 1; have hfz21_2 := blk_frozen BK221.out 2; have hfz21_3 := blk_frozen BK221.out 3; have hfz21_4 := blk_frozen BK221.out 4; have hfz21_5 := blk_frozen BK221.out 5) | ((with_reducible refine gate_store (t := 23) (p := 23) rfl ?_); (try (rw [drewN_self w19]; generalize hq_ : World.drewN w19 _ = w19; have n0_ := Aside0.mk (Kd.S_at hq_ HO226.out); have n1_ := Aside0.mk (Kd.R_at hq_ HO229.out); have n2_ := Aside0.mk (blk_at hq_ BK221.out); have n3_ := Aside0.mk (below_at hq_ HB.out); clear hq_ HO226 HO229 BK221 HB; have HO226 := n0_; have HO229 := n1_; have BK221 := n2_; have HB := n3_; clear n0_ n1_ n2_ n3_)); refine se_ 23 23 (w19.setCell ⟨gb221, 0, none⟩ (.slice Ao20 t227.length co20)) ?_; intro w22 hw; have n0_ : Aside0 (Kd.S k32 32 w22 w.heap.size (fun k_ => some k_ ≠ (.slice Ao20 t227.length co20 : Value).ownBlock ∧ k_ ≠ gb221) v225 t224) := ⟨(by rw [hw]; exact (by (with_reducible repeat (first | apply Kd.S_alloc | apply Kd.S_drewN | apply Kd.S_drew)); exact Kd.S_mono (Kd.S_far (p := ⟨gb221, 0, none⟩) (Kd.S_mono HO226.out (fun k_ hk => (⟨hk, hk.1.2⟩ : _ ∧ k_ ≠ gb221))) (fun _ hk => hk.2) (.slice Ao20 t227.length co20)) (fun _ hk => ⟨hk.1.2, hk.1.1.2⟩)))⟩; have n1_ : Aside0 (Kd.R (Kd.int .i64) 3 w22 w.heap.size (fun _ => True) (.slice Ao20 t227.length co20) t227) := ⟨(by rw [hw]; exact (by (with_reducible repeat (first | apply Kd.R_alloc | apply Kd.R_drewN | apply Kd.R_drew)); exact Kd.R_mono (Kd.R_far (p := ⟨gb221, 0, none⟩) (Kd.R_types HO229.out BK221.out (by decide)) (fun _ hk => hk.2) (.slice Ao20 t227.length co20)) (fun _ hk => trivial)))⟩; have n2_ : Aside0 (w22.heap[gb221]? = some (.cells #[.slice Ao20 t227.length co20, .int .i64 a1_1, .bool a1_2, .int .i64 a1_3, .int .i64 a1_4, .int .i64 a1_5] 32 (0, 0))) := ⟨(by rw [hw]; exact (by (with_reducible repeat (first | refine blk_drewN ?_ _ | refine blk_drew ?_ | refine blk_alloc ?_ _)); refine blk_put (cs := #[.slice A1_0 l1_0.length c1_0, .int .i64 a1_1, .bool a1_2, .int .i64 a1_3, .int .i64 a1_4, .int .i64 a1_5]) ?_ 0 _ rfl; (with_reducible repeat (first | refine blk_drewN ?_ _ | refine blk_drew ?_ | refine blk_alloc ?_ _)); exact BK221.out))⟩; have n3_ : Aside0 (Below w.heap.size w w22) := ⟨(by rw [hw]; exact (bw_ HB.out))⟩; clear hw; clear HO226; clear HO229; clear BK221; clear HB; have HO226 := n0_; have HO229 := n1_; have BK221 := n2_; have HB := n3_; clear n0_ n1_ n2_ n3_; obtain ⟨Ao23, co23, eo23⟩ := Kd.S_slice HO226.out; subst eo23; have hcz24_0 := cz_ BK221.out 0; have hcz24_1 := cz_ BK221.out 1; have hcz24_2 := cz_ BK221.out 2; have hcz24_3 := cz_ BK221.out 3; have hcz24_4 := cz_ BK221.out 4; have hcz24_5 := cz_ BK221.out 5; have hfz24_0 := blk_frozen BK221.out 0; have hfz24_1 := blk_frozen BK221.out 1; have hfz24_2 := blk_frozen BK221.out 2; have hfz24_3 := blk_frozen BK221.out 3; have hfz24_4 := blk_frozen BK221.out 4; have hfz24_5 := blk_frozen BK221.out 5) | ((with_reducible refine gate_builtin (b := .append) (xs := #[.tmp 27, .tmp 29]) rfl ?_); at_builtin; refine Kd.S_append k32 (w0 := w) w.heap.size rfl (.tmp 27) (.tmp 29) 28 32 (.agg #[(.slice none 0 0), (.int .i64 0), (.bool false), (.int .i64 0), (.int .i64 0), (.int .i64 0)]) 64 rfl Try.underlying28 info32 rfl (by decide) (by omega) (.slice Ao23 t224.length co23) t224 (⟨t227, a1_1, a1_2, a1_3, a1_4, a1_5⟩ : S32) [.slice Ao20 t227.length co20, .int .i64 a1_1, .bool a1_2, .int .i64 a1_3, .int .i64 a1_4, .int .i64 a1_5] (fun k_ => k_ ≠ gb221) (fun k_ => some k_ = (.slice Ao20 t227.length co20 : Value).ownBlock) rfl rfl ?aP (fun k_ hk_ => ((Kd.R_mono (ok' := fun k_ => ((fun k_ => k_ ≠ gb221)) k_ ∧ some k_ ≠ (.slice Ao23 t224.length co23 : Value).ownBlock) (Kd.R_types (Kd.R_apart' (HO229.out) (Kd.S_typed HO226.out) (by decide)) BK221.out (by decide)) (fun k_ hk => ⟨hk.2, hk.1.2⟩))).1 k_ hk_.symm) ?aF ?aO ?aB ?aS ?aL ?_; (case aP => exact k32_mkM _ _ _ (⟨t227, a1_1, a1_2, a1_3, a1_4, a1_5⟩ : S32) (Kd.R_mono (Kd.R_tight rfl (Kd.R_mono (ok' := fun k_ => ((fun k_ => k_ ≠ gb221)) k_ ∧ some k_ ≠ (.slice Ao23 t224.length co23 : Value).ownBlock) (Kd.R_types (Kd.R_apart' (HO229.out) (Kd.S_typed HO226.out) (by decide)) BK221.out (by decide)) (fun k_ hk => ⟨hk.2, hk.1.2⟩))) (fun _ h_ => h_))); (case aB => exact (bw_ HB.out)); (case aF => exact (fun k_ hk => Kd.freshB (bk_ BK221.out) k_ hk)); (case aO => exact (by (with_reducible repeat (first | apply Kd.S_alloc | apply Kd.S_drewN | apply Kd.S_drew)); exact Kd.S_mono HO226.out (fun k_ hk => ⟨hk.2, fun e_ => hk.1 e_⟩))); (case aS => exact (below_size (bw_ HB.out))); (case aL => have := LMc16.out; omega); intro v231 w25 ho hb hg hat; rw [← Ny230.out] at ho; have n0_ := Aside0.mk (blk_grown (bk_ BK221.out) hg (Kd.S_away HO226.out (fun _ hk => hk.2))); have n1_ := Aside0.mk (hb); have n2_ := Aside0.mk (ho); clear BK221; clear HB; clear HO226; clear HO229; have BK221 := n0_; have HB := n1_; have HO232 := n2_; clear n0_ n1_ n2_; clear ho hb hg hat)); try go_wp2_with (first | (go_at_call 28; (with_reducible refine (impl_copyVoices.calls kj2 _ _ l0 t224 _ ?side1 ?side2 A13.out).mono ?_); (case side1 => repeat (first | exact (Kd.C_below HR0.out HB.out) | (with_reducible refine Kd.C_alloc ?_ _) | (with_reducible refine Kd.C_drewN ?_ _) | (with_reducible refine Kd.C_drew ?_))); (case side2 => exact HC0.out); rintro e w17 ⟨v225, rfl, ho0, hb⟩; have n0_ := Aside0.mk (Kd.S_lower (Kd.S_newB ho0 (bk_ BK221.out)) (below_size (bw_ HB.out))); have n1_ := Aside0.mk (blk_below (bk_ BK221.out) hb); have n2_ := Aside0.mk (below_step (bw_ HB.out) hb); clear BK221; clear HB; have HO226 := n0_; have BK221 := n1_; have HB := n2_; clear n0_ n1_ n2_; (try clear hb); (try clear hb2); (try clear hk); (try clear hi); (try clear ho0); have hcz18_0 := cz_ BK221.out 0; have hcz18_1 := cz_ BK221.out 1; have hcz18_2 := cz_ BK221.out 2; have hcz18_3 := cz_ BK221.out 3; have hcz18_4 := cz_ BK221.out 4; have hcz18_5 := cz_ BK221.out 5; have hfz18_0 := blk_frozen BK221.out 0; have hfz18_1 := blk_frozen BK221.out 1; have hfz18_2 := blk_frozen BK221.out 2; have hfz18_3 := blk_frozen BK221.out 3; have hfz18_4 := blk_frozen BK221.out 4; have hfz18_5 := blk_frozen BK221.out 5) | (go_at_call 29; (with_reducible refine (slices_Clone_int_int.calls _ _ l1_0 t227 _ ?side1 ?side2 A14.out).mono ?_); (case side1 => repeat (first | exact (Kd.C_below HR1_0.out HB.out) | (with_reducible refine Kd.C_alloc ?_ _) | (with_reducible refine Kd.C_drewN ?_ _) | (with_reducible refine Kd.C_drew ?_))); (case side2 => exact HC1_0.out); rintro e w19 ⟨v228, rfl, ho0, hb⟩; have n0_ := Aside0.mk (Kd.S_elder' (by (with_reducible repeat (first | apply Kd.S_alloc | apply Kd.S_drewN | apply Kd.S_drew)); exact HO226.out) (Kd.R_base ho0) hb); have n1_ := Aside0.mk (Kd.R_lower ho0 (below_size (bw_ HB.out))); have n2_ := Aside0.mk (blk_below (bk_ BK221.out) hb); have n3_ := Aside0.mk (below_step (bw_ HB.out) hb); clear HO226; clear BK221; clear HB; have HO226 := n0_; have HO229 := n1_; have BK221 := n2_; have HB := n3_; clear n0_ n1_ n2_ n3_; (try clear hb); (try clear hb2); (try clear hk); (try clear hi); (try clear ho0); obtain ⟨Ao20, co20, eo20⟩ := Kd.R_slice HO229.out; subst eo20; have hcz21_0 := cz_ BK221.out 0; have hcz21_1 := cz_ BK221.out 1; have hcz21_2 := cz_ BK221.out 2; have hcz21_3 := cz_ BK221.out 3; have hcz21_4 := cz_ BK221.out 4; have hcz21_5 := cz_ BK221.out 5; have hfz21_0 := blk_frozen BK221.out 0; have hfz21_1 := blk_frozen BK221.out 1; have hfz21_2 := blk_frozen BK221.out 2; have hfz21_3 := blk_frozen BK221.out 3; have hfz21_4 := blk_frozen BK221.out 4; have hfz21_5 := blk_frozen BK221.out 5) | ((with_reducible refine gate_store (t := 23) (p := 23) rfl ?_); (try (rw [drewN_self w19]; generalize hq_ : World.drewN w19 _ = w19; have n0_ := Aside0.mk (Kd.S_at hq_ HO226.out); have n1_ := Aside0.mk (Kd.R_at hq_ HO229.out); have n2_ := Aside0.mk (blk_at hq_ BK221.out); have n3_ := Aside0.mk (below_at hq_ HB.out); clear hq_ HO226 HO229 BK221 HB; have HO226 := n0_; have HO229 := n1_; have BK221 := n2_; have HB := n3_; clear n0_ n1_ n2_ n3_)); refine se_ 23 23 (w19.setCell ⟨gb221, 0, none⟩ (.slice Ao20 t227.length co20)) ?_; intro w22 hw; have n0_ : Aside0 (Kd.S k32 32 w22 w.heap.size (fun k_ => some k_ ≠ (.slice Ao20 t227.length co20 : Value).ownBlock ∧ k_ ≠ gb221) v225 t224) := ⟨(by rw [hw]; exact (by (with_reducible repeat (first | apply Kd.S_alloc | apply Kd.S_drewN | apply Kd.S_drew)); exact Kd.S_mono (Kd.S_far (p := ⟨gb221, 0, none⟩) (Kd.S_mono HO226.out (fun k_ hk => (⟨hk, hk.1.2⟩ : _ ∧ k_ ≠ gb221))) (fun _ hk => hk.2) (.slice Ao20 t227.length co20)) (fun _ hk => ⟨hk.1.2, hk.1.1.2⟩)))⟩; have n1_ : Aside0 (Kd.R (Kd.int .i64) 3 w22 w.heap.size (fun _ => True) (.slice Ao20 t227.length co20) t227) := ⟨(by rw [hw]; exact (by (with_reducible repeat (first | apply Kd.R_alloc | apply Kd.R_drewN | apply Kd.R_drew)); exact Kd.R_mono (Kd.R_far (p := ⟨gb221, 0, none⟩) (Kd.R_types HO229.out BK221.out (by decide)) (fun _ hk => hk.2) (.slice Ao20 t227.length co20)) (fun _ hk => trivial)))⟩; have n2_ : Aside0 (w22.heap[gb221]? = some (.cells #[.slice Ao20 t227.length co20, .int .i64 a1_1, .bool a1_2, .int .i64 a1_3, .int .i64 a1_4, .int .i64 a1_5] 32 (0, 0))) := ⟨(by rw [hw]; exact (by (with_reducible repeat (first | refine blk_drewN ?_ _ | refine blk_drew ?_ | refine blk_alloc ?_ _)); refine blk_put (cs := #[.slice A1_0 l1_0.length c1_0, .int .i64 a1_1, .bool a1_2, .int .i64 a1_3, .int .i64 a1_4, .int .i64 a1_5]) ?_ 0 _ rfl; (with_reducible repeat (first | refine blk_drewN ?_ _ | refine blk_drew ?_ | refine blk_alloc ?_ _)); exact BK221.out))⟩; have n3_ : Aside0 (Below w.heap.size w w22) := ⟨(by rw [hw]; exact (bw_ HB.out))⟩; clear hw; clear HO226; clear HO229; clear BK221; clear HB; have HO226 := n0_; have HO229 := n1_; have BK221 := n2_; have HB := n3_; clear n0_ n1_ n2_ n3_; obtain ⟨Ao23, co23, eo23⟩ := Kd.S_slice HO226.out; subst eo23; have hcz24_0 := cz_ BK221.out 0; have hcz24_1 := cz_ BK221.out 1; have hcz24_2 := cz_ BK221.out 2; have hcz24_3 := cz_ BK221.out 3; have hcz24_4 := cz_ BK221.out 4; have hcz24_5 := cz_ BK221.out 5; have hfz24_0 := blk_frozen BK221.out 0; have hfz24_1 := blk_frozen BK221.out 1; have hfz24_2 := blk_frozen BK221.out 2; have hfz24_3 := blk_frozen BK221.out 3; have hfz24_4 := blk_frozen BK221.out 4; have hfz24_5 := blk_frozen BK221.out 5) | ((with_reducible refine gate_builtin (b := .append) (xs := #[.tmp 27, .tmp 29]) rfl ?_); at_builtin; refine Kd.S_append k32 (w0 := w) w.heap.size rfl (.tmp 27) (.tmp 29) 28 32 (.agg #[(.slice none 0 0), (.int .i64 0), (.bool false), (.int .i64 0), (.int .i64 0), (.int .i64 0)]) 64 rfl Try.underlying28 info32 rfl (by decide) (by omega) (.slice Ao23 t224.length co23) t224 (⟨t227, a1_1, a1_2, a1_3, a1_4, a1_5⟩ : S32) [.slice Ao20 t227.length co20, .int .i64 a1_1, .bool a1_2, .int .i64 a1_3, .int .i64 a1_4, .int .i64 a1_5] (fun k_ => k_ ≠ gb221) (fun k_ => some k_ = (.slice Ao20 t227.length co20 : Value).ownBlock) rfl rfl ?aP (fun k_ hk_ => ((Kd.R_mono (ok' := fun k_ => ((fun k_ => k_ ≠ gb221)) k_ ∧ some k_ ≠ (.slice Ao23 t224.length co23 : Value).ownBlock) (Kd.R_types (Kd.R_apart' (HO229.out) (Kd.S_typed HO226.out) (by decide)) BK221.out (by decide)) (fun k_ hk => ⟨hk.2, hk.1.2⟩))).1 k_ hk_.symm) ?aF ?aO ?aB ?aS ?aL ?_; (case aP => exact k32_mkM _ _ _ (⟨t227, a1_1, a1_2, a1_3, a1_4, a1_5⟩ : S32) (Kd.R_mono (Kd.R_tight rfl (Kd.R_mono (ok' := fun k_ => ((fun k_ => k_ ≠ gb221)) k_ ∧ some k_ ≠ (.slice Ao23 t224.length co23 : Value).ownBlock) (Kd.R_types (Kd.R_apart' (HO229.out) (Kd.S_typed HO226.out) (by decide)) BK221.out (by decide)) (fun k_ hk => ⟨hk.2, hk.1.2⟩))) (fun _ h_ => h_))); (case aB => exact (bw_ HB.out)); (case aF => exact (fun k_ hk => Kd.freshB (bk_ BK221.out) k_ hk)); (case aO => exact (by (with_reducible repeat (first | apply Kd.S_alloc | apply Kd.S_drewN | apply Kd.S_drew)); exact Kd.S_mono HO226.out (fun k_ hk => ⟨hk.2, fun e_ => hk.1 e_⟩))); (case aS => exact (below_size (bw_ HB.out))); (case aL => have := LMc16.out; omega); intro v231 w25 ho hb hg hat; rw [← Ny230.out] at ho; have n0_ := Aside0.mk (blk_grown (bk_ BK221.out) hg (Kd.S_away HO226.out (fun _ hk => hk.2))); have n1_ := Aside0.mk (hb); have n2_ := Aside0.mk (ho); clear BK221; clear HB; clear HO226; clear HO229; have BK221 := n0_; have HB := n1_; have HO232 := n2_; clear n0_ n1_ n2_; clear ho hb hg hat)))
      go_ret3
      exact ⟨_, by first | rfl | (simp [errW_none, errW_some] <;> rfl) | (simp [*, errW_none, errW_some] <;> rfl), by (with_reducible repeat (first | apply Kd.S_alloc | apply Kd.S_drewN | apply Kd.S_drew)); exact Kd.S_mono HO232.out (fun _ hk => trivial), bw_ HB.out⟩
     ·rw [if_neg c16] at H
      exact absurd H (by simp)
    ·rw [if_neg c15] at H
     have c15b0 : decide ((t224.length : Int) < 8) = false := decide_eq_false c15
     have c15b1 : decide (t224.length < 8) = false := decide_eq_false (by omega)
     clear c15
     have H' := Aside0.mk H
     clear H
     go_wp2_with (first | (go_at_call 28; (with_reducible refine (impl_copyVoices.calls kj2 _ _ l0 t224 _ ?side1 ?side2 A13.out).mono ?_); (case side1 => repeat (first | exact (Kd.C_below HR0.out HB.out) | (with_reducible refine Kd.C_alloc ?_ _) | (with_reducible refine Kd.C_drewN ?_ _) | (with_reducible refine Kd.C_drew ?_))); (case side2 => exact HC0.out); rintro e w26 ⟨v225, rfl, ho0, hb⟩; have n0_ := Aside0.mk (Kd.S_lower (Kd.S_newB ho0 (bk_ BK221.out)) (below_size (bw_ HB.out))); have n1_ := Aside0.mk (blk_below (bk_ BK221.out) hb); have n2_ := Aside0.mk (below_step (bw_ HB.out) hb); clear BK221; clear HB; have HO226 := n0_; have BK221 := n1_; have HB := n2_; clear n0_ n1_ n2_; (try clear hb); (try clear hb2); (try clear hk); (try clear hi); (try clear ho0); have hcz27_0 := cz_ BK221.out 0; have hcz27_1 := cz_ BK221.out 1; have hcz27_2 := cz_ BK221.out 2; have hcz27_3 := cz_ BK221.out 3; have hcz27_4 := cz_ BK221.out 4; have hcz27_5 := cz_ BK221.out 5; have hfz27_0 := blk_frozen BK221.out 0; have hfz27_1 := blk_frozen BK221.out 1; have hfz27_2 := blk_frozen BK221.out 2; have hfz27_3 := blk_frozen BK221.out 3; have hfz27_4 := blk_frozen BK221.out 4; have hfz27_5 := blk_frozen BK221.out 5) | (go_at_call 29; (with_reducible refine (slices_Clone_int_int.calls _ _ l1_0 t227 _ ?side1 ?side2 A14.out).mono ?_); (case side1 => repeat (first | exact (Kd.C_below HR1_0.out HB.out) | (with_reducible refine Kd.C_alloc ?_ _) | (with_reducible refine Kd.C_drewN ?_ _) | (with_reducible refine Kd.C_drew ?_))); (case side2 => exact HC1_0.out); rintro e w28 ⟨v228, rfl, ho0, hb⟩; have n0_ := Aside0.mk (Kd.S_elder' (by (with_reducible repeat (first | apply Kd.S_alloc | apply Kd.S_drewN | apply Kd.S_drew)); exact HO226.out) (Kd.R_base ho0) hb); have n1_ := Aside0.mk (Kd.R_lower ho0 (below_size (bw_ HB.out))); have n2_ := Aside0.mk (blk_below (bk_ BK221.out) hb); have n3_ := Aside0.mk (below_step (bw_ HB.out) hb); clear HO226; clear BK221; clear HB; have HO226 := n0_; have HO229 := n1_; have BK221 := n2_; have HB := n3_; clear n0_ n1_ n2_ n3_; (try clear hb); (try clear hb2); (try clear hk); (try clear hi); (try clear ho0); obtain ⟨Ao29, co29, eo29⟩ := Kd.R_slice HO229.out; subst eo29; have hcz30_0 := cz_ BK221.out 0; have hcz30_1 := cz_ BK221.out 1; have hcz30_2 := cz_ BK221.out 2; have hcz30_3 := cz_ BK221.out 3; have hcz30_4 := cz_ BK221.out 4; have hcz30_5 := cz_ BK221.out 5; have hfz30_0 := blk_frozen BK221.out 0; have hfz30_1 := blk_frozen BK221.out 1; have hfz30_2 := blk_frozen BK221.out 2; have hfz30_3 := blk_frozen BK221.out 3; have hfz30_4 := blk_frozen BK221.out 4; have hfz30_5 := blk_frozen BK221.out 5; obtain ⟨Ao31, co31, eo31⟩ := Kd.S_slice HO226.out; subst eo31))
     repeat (go_quiet (first | (go_at_call 28; (with_reducible refine (impl_copyVoices.calls kj2 _ _ l0 t224 _ ?side1 ?side2 A13.out).mono ?_); (case side1 => repeat (first | exact (Kd.C_below HR0.out HB.out) | (with_reducible refine Kd.C_alloc ?_ _) | (with_reducible refine Kd.C_drewN ?_ _) | (with_reducible refine Kd.C_drew ?_))); (case side2 => exact HC0.out); rintro e w26 ⟨v225, rfl, ho0, hb⟩; have n0_ := Aside0.mk (Kd.S_lower (Kd.S_newB ho0 (bk_ BK221.out)) (below_size (bw_ HB.out))); have n1_ := Aside0.mk (blk_below (bk_ BK221.out) hb); have n2_ := Aside0.mk (below_step (bw_ HB.out) hb); clear BK221; clear HB; have HO226 := n0_; have BK221 := n1_; have HB := n2_; clear n0_ n1_ n2_; (try clear hb); (try clear hb2); (try clear hk); (try clear hi); (try clear ho0); have hcz27_0 := cz_ BK221.out 0; have hcz27_1 := cz_ BK221.out 1; have hcz27_2 := cz_ BK221.out 2; have hcz27_3 := cz_ BK221.out 3; have hcz27_4 := cz_ BK221.out 4; have hcz27_5 := cz_ BK221.out 5; have hfz27_0 := blk_frozen BK221.out 0; have hfz27_1 := blk_frozen BK221.out 1; have hfz27_2 := blk_frozen BK221.out 2; have hfz27_3 := blk_frozen BK221.out 3; have hfz27_4 := blk_frozen BK221.out 4; have hfz27_5 := blk_frozen BK221.out 5) | (go_at_call 29; (with_reducible refine (slices_Clone_int_int.calls _ _ l1_0 t227 _ ?side1 ?side2 A14.out).mono ?_); (case side1 => repeat (first | exact (Kd.C_below HR1_0.out HB.out) | (with_reducible refine Kd.C_alloc ?_ _) | (with_reducible refine Kd.C_drewN ?_ _) | (with_reducible refine Kd.C_drew ?_))); (case side2 => exact HC1_0.out); rintro e w28 ⟨v228, rfl, ho0, hb⟩; have n0_ := Aside0.mk (Kd.S_elder' (by (with_reducible repeat (first | apply Kd.S_alloc | apply Kd.S_drewN | apply Kd.S_drew)); exact HO226.out) (Kd.R_base ho0) hb); have n1_ := Aside0.mk (Kd.R_lower ho0 (below_size (bw_ HB.out))); have n2_ := Aside0.mk (blk_below (bk_ BK221.out) hb); have n3_ := Aside0.mk (below_step (bw_ HB.out) hb); clear HO226; clear BK221; clear HB; have HO226 := n0_; have HO229 := n1_; have BK221 := n2_; have HB := n3_; clear n0_ n1_ n2_ n3_; (try clear hb); (try clear hb2); (try clear hk); (try clear hi); (try clear ho0); obtain ⟨Ao29, co29, eo29⟩ := Kd.R_slice HO229.out; subst eo29; have hcz30_0 := cz_ BK221.out 0; have hcz30_1 := cz_ BK221.out 1; have hcz30_2 := cz_ BK221.out 2; have hcz30_3 := cz_ BK221.out 3; have hcz30_4 := cz_ BK221.out 4; have hcz30_5 := cz_ BK221.out 5; have hfz30_0 := blk_frozen BK221.out 0; have hfz30_1 := blk_frozen BK221.out 1; have hfz30_2 := blk_frozen BK221.out 2; have hfz30_3 := blk_frozen BK221.out 3; have hfz30_4 := blk_frozen BK221.out 4; have hfz30_5 := blk_frozen BK221.out 5; obtain ⟨Ao31, co31, eo31⟩ := Kd.S_slice HO226.out; subst eo31)); try go_wp2_with (first | (go_at_call 28; (with_reducible refine (impl_copyVoices.calls kj2 _ _ l0 t224 _ ?side1 ?side2 A13.out).mono ?_); (case side1 => repeat (first | exact (Kd.C_below HR0.out HB.out) | (with_reducible refine Kd.C_alloc ?_ _) | (with_reducible refine Kd.C_drewN ?_ _) | (with_reducible refine Kd.C_drew ?_))); (case side2 => exact HC0.out); rintro e w26 ⟨v225, rfl, ho0, hb⟩; have n0_ := Aside0.mk (Kd.S_lower (Kd.S_newB ho0 (bk_ BK221.out)) (below_size (bw_ HB.out))); have n1_ := Aside0.mk (blk_below (bk_ BK221.out) hb); have n2_ := Aside0.mk (below_step (bw_ HB.out) hb); clear BK221; clear HB; have HO226 := n0_; have BK221 := n1_; have HB := n2_; clear n0_ n1_ n2_; (try clear hb); (try clear hb2); (try clear hk); (try clear hi); (try clear ho0); have hcz27_0 := cz_ BK221.out 0; have hcz27_1 := cz_ BK221.out 1; have hcz27_2 := cz_ BK221.out 2; have hcz27_3 := cz_ BK221.out 3; have hcz27_4 := cz_ BK221.out 4; have hcz27_5 := cz_ BK221.out 5; have hfz27_0 := blk_frozen BK221.out 0; have hfz27_1 := blk_frozen BK221.out 1; have hfz27_2 := blk_frozen BK221.out 2; have hfz27_3 := blk_frozen BK221.out 3; have hfz27_4 := blk_frozen BK221.out 4; have hfz27_5 := blk_frozen BK221.out 5) | (go_at_call 29; (with_reducible refine (slices_Clone_int_int.calls _ _ l1_0 t227 _ ?side1 ?side2 A14.out).mono ?_); (case side1 => repeat (first | exact (Kd.C_below HR1_0.out HB.out) | (with_reducible refine Kd.C_alloc ?_ _) | (with_reducible refine Kd.C_drewN ?_ _) | (with_reducible refine Kd.C_drew ?_))); (case side2 => exact HC1_0.out); rintro e w28 ⟨v228, rfl, ho0, hb⟩; have n0_ := Aside0.mk (Kd.S_elder' (by (with_reducible repeat (first | apply Kd.S_alloc | apply Kd.S_drewN | apply Kd.S_drew)); exact HO226.out) (Kd.R_base ho0) hb); have n1_ := Aside0.mk (Kd.R_lower ho0 (below_size (bw_ HB.out))); have n2_ := Aside0.mk (blk_below (bk_ BK221.out) hb); have n3_ := Aside0.mk (below_step (bw_ HB.out) hb); clear HO226; clear BK221; clear HB; have HO226 := n0_; have HO229 := n1_; have BK221 := n2_; have HB := n3_; clear n0_ n1_ n2_ n3_; (try clear hb); (try clear hb2); (try clear hk); (try clear hi); (try clear ho0); obtain ⟨Ao29, co29, eo29⟩ := Kd.R_slice HO229.out; subst eo29; have hcz30_0 := cz_ BK221.out 0; have hcz30_1 := cz_ BK221.out 1; have hcz30_2 := cz_ BK221.out 2; have hcz30_3 := cz_ BK221.out 3; have hcz30_4 := cz_ BK221.out 4; have hcz30_5 := cz_ BK221.out 5; have hfz30_0 := blk_frozen BK221.out 0; have hfz30_1 := blk_frozen BK221.out 1; have hfz30_2 := blk_frozen BK221.out 2; have hfz30_3 := blk_frozen BK221.out 3; have hfz30_4 := blk_frozen BK221.out 4; have hfz30_5 := blk_frozen BK221.out 5; obtain ⟨Ao31, co31, eo31⟩ := Kd.S_slice HO226.out; subst eo31)))
     go_loopg [8, 33] kj2 (fun kq v8 v33 w' => ∃ (x8_2 : Int) (x33_2 : Int), v8 = .int .i64 x8_2 ∧ v33 = .int .i64 x33_2 ∧ Aside0 (impl_TakeVoice.l0 kq t224 x8_2 (t224.length : Int) x33_2 t227 a1_1 a1_2 a1_3 a1_4 a1_5 = some (r1, r2, r3)) ∧ Aside0 (kq ≤ kj2) ∧ Aside0 (Kd.S k32 32 w' w.heap.size (fun k_ => some k_ ≠ ((.slice Ao29 t227.length co29) : Value).ownBlock ∧ k_ ≠ gb221) (.slice Ao31 t224.length co31) t224) ∧ Aside0 (Kd.R (Kd.int .i64) 3 w' w.heap.size (fun _ => True) (.slice Ao29 t227.length co29) t227) ∧ Aside0 (w'.heap[gb221]? = some (.cells #[(.slice Ao29 t227.length co29), .int .i64 a1_1, .bool a1_2, .int .i64 a1_3, .int .i64 a1_4, .int .i64 a1_5] 32 (0, 0))) ∧ Aside0 (Below w.heap.size w w'))
     case atStart => exact ⟨(0), (0), (by first | rfl | (simp; done) | (simp [*]; done) | (simp [wrap64]; done)), (by first | rfl | (simp; done) | (simp [*]; done) | (simp [wrap64]; done)), H', ⟨Nat.le_refl _⟩, ⟨by (with_reducible repeat (first | apply Kd.S_alloc | apply Kd.S_drewN | apply Kd.S_drew)); exact Kd.S_mono (Kd.S_far (p := ⟨gb221, 0, none⟩) (Kd.S_mono HO226.out (fun k_ hk => (⟨hk, hk.1.2⟩ : _ ∧ k_ ≠ gb221))) (fun _ hk => hk.2) (.slice Ao29 t227.length co29)) (fun _ hk => ⟨hk.1.2, hk.1.1.2⟩)⟩, ⟨by (with_reducible repeat (first | apply Kd.R_alloc | apply Kd.R_drewN | apply Kd.R_drew)); exact Kd.R_mono (Kd.R_far (p := ⟨gb221, 0, none⟩) (Kd.R_types HO229.out BK221.out (by decide)) (fun _ hk => hk.2) (.slice Ao29 t227.length co29)) (fun _ hk => trivial)⟩, ⟨by (with_reducible repeat (first | refine blk_drewN ?_ _ | refine blk_drew ?_ | refine blk_alloc ?_ _)); refine blk_put (cs := #[.slice A1_0 l1_0.length c1_0, .int .i64 a1_1, .bool a1_2, .int .i64 a1_3, .int .i64 a1_4, .int .i64 a1_5]) ?_ 0 _ rfl; (with_reducible repeat (first | refine blk_drewN ?_ _ | refine blk_drew ?_ | refine blk_alloc ?_ _)); exact BK221.out⟩, ⟨bw_ HB.out⟩⟩
     case round =>
      clear H'
      try clear c1
      try clear p2
      try clear c6
      try clear c10
      try clear c12
      try clear c15
      try clear c15b0
      try clear c15b1
      try clear c16
      try clear hcz18_0
      try clear hcz18_1
      try clear hcz18_2
      try clear hcz18_3
      try clear hcz18_4
      try clear hcz18_5
      try clear hcz21_0
      try clear hcz21_1
      try clear hcz21_2
      try clear hcz21_3
      try clear hcz21_4
      try clear hcz21_5
      try clear hcz24_0
      try clear hcz24_1
      try clear hcz24_2
      try clear hcz24_3
      try clear hcz24_4
      try clear hcz24_5
      try clear hcz27_0
      try clear hcz27_1
      try clear hcz27_2
      try clear hcz27_3
      try clear hcz27_4
      try clear hcz27_5
      try clear hcz30_0
      try clear hcz30_1
      try clear hcz30_2
      try clear hcz30_3
      try clear hcz30_4
      try clear hcz30_5
      try clear hcz9_0
      try clear hcz9_1
      try clear hcz9_2
      try clear hcz9_3
      try clear hcz9_4
      try clear hcz9_5
      try clear hfz18_0
      try clear hfz18_1
      try clear hfz18_2
      try clear hfz18_3
      try clear hfz18_4
      try clear hfz18_5
      try clear hfz21_0
      try clear hfz21_1
      try clear hfz21_2
      try clear hfz21_3
      try clear hfz21_4
      try clear hfz21_5
      try clear hfz24_0
      try clear hfz24_1
      try clear hfz24_2
      try clear hfz24_3
      try clear hfz24_4
      try clear hfz24_5
      try clear hfz27_0
      try clear hfz27_1
      try clear hfz27_2
      try clear hfz27_3
      try clear hfz27_4
      try clear hfz27_5
      try clear hfz30_0
      try clear hfz30_1
      try clear hfz30_2
      try clear hfz30_3
      try clear hfz30_4
      try clear hfz30_5
      try clear hfz9_0
      try clear hfz9_1
      try clear hfz9_2
      try clear hfz9_3
      try clear hfz9_4
      try clear hfz9_5
      try clear p2
      obtain ⟨x8_2, x33_2, rfl, rfl, HA, HK2, HO_7, HO_222000, BK221, HB⟩ := hrel
      cases gk with
      | zero => exact absurd HA.out (by simp [impl_TakeVoice.l0])
      | succ k2 =>
       have H := HA.out
       clear HA
       simp only [impl_TakeVoice.l0] at H
       by_cases c32 : x33_2 < (t224.length : Int)
       ·rw [if_pos c32] at H
        have c32b0 : decide (x33_2 < (t224.length : Int)) = true := decide_eq_true c32
        clear c32
        by_cases c33 : 0 ≤ x33_2
        ·rw [if_pos c33] at H
         have c33b0 : decide (0 ≤ x33_2) = true := decide_eq_true c33
         clear c33
         by_cases c34 : x33_2 < (t224.length : Int)
         ·rw [if_pos c34] at H
          have c34b0 : decide (x33_2 < (t224.length : Int)) = true := decide_eq_true c34
          clear c34
          by_cases c35 : 0 ≤ x8_2
          ·rw [if_pos c35] at H
           have c35b0 : decide (0 ≤ x8_2) = true := decide_eq_true c35
           clear c35
           by_cases c36 : x8_2 < (t224.length : Int)
           ·rw [if_pos c36] at H
            have c36b0 : decide (x8_2 < (t224.length : Int)) = true := decide_eq_true c36
            clear c36
            by_cases c37 : ((rd_T32 t224 x33_2).f5) < ((rd_T32 t224 x8_2).f5)
            ·rw [if_pos c37] at H
             have c37b0 : decide (((rd_T32 t224 x33_2).f5) < ((rd_T32 t224 x8_2).f5)) = true := decide_eq_true c37
             clear c37
             have H' := Aside0.mk H
             clear H
             have p233 : 0 ≤ (x33_2 : Int) := of_decide_eq_true (by first | (with_reducible assumption) | assumption)
             have q233 : x33_2 < (t224.length : Int) := of_decide_eq_true (by first | (with_reducible assumption) | assumption)
             obtain ⟨ad233, A233_0, c233_0, e233, hx233_0, hx233_1, hx233_2, hx233_3, hx233_4, hx233_5, hl233_0, hi233_0⟩ := at_T32 (Kd.S_reads' HO_7.out).2.2 x33_2 p233 q233
             cases e233
             obtain ⟨ce233, hce233, hMe233, hcc233⟩ := Kd.S_get HO_7.out z32 x33_2 p233 (by first | exact q233 | exact of_decide_eq_true (by first | (with_reducible assumption) | assumption) | (have e_ := (Kd.S_reads' HO_7.out).1; omega))
             obtain ⟨ve233_0, rfl, ge233_0⟩ := k32_openM hMe233
             have hv233_0 := hcc233 0 _ rfl
             rw [Nat.add_zero] at hv233_0
             replace hv233_0 := Option.some.inj (hv233_0.symm.trans hx233_0)
             rw [hv233_0] at ge233_0
             have HL233_0 := Aside0.mk (show Kd.R (Kd.int .i64) 3 _ _ _ _ ((rd_T32 t224 x33_2).f0) from ge233_0)
             clear hv233_0 ge233_0
             clear hcc233 hce233
             have HR233_0 := Aside0.mk hi233_0
             have HC233_0 := Aside0.mk hl233_0
             clear hi233_0 hl233_0
             replace p233 := eq_true p233
             replace q233 := eq_true q233
             have p234 : 0 ≤ (x8_2 : Int) := of_decide_eq_true (by first | (with_reducible assumption) | assumption)
             have q234 : x8_2 < (t224.length : Int) := of_decide_eq_true (by first | (with_reducible assumption) | assumption)
             obtain ⟨ad234, A234_0, c234_0, e234, hx234_0, hx234_1, hx234_2, hx234_3, hx234_4, hx234_5, hl234_0, hi234_0⟩ := at_T32 (Kd.S_reads' HO_7.out).2.2 x8_2 p234 q234
             obtain rfl : ad233 = ad234 := (by injection e234)
             obtain ⟨ce234, hce234, hMe234, hcc234⟩ := Kd.S_get HO_7.out z32 x8_2 p234 (by first | exact q234 | exact of_decide_eq_true (by first | (with_reducible assumption) | assumption) | (have e_ := (Kd.S_reads' HO_7.out).1; omega))
             obtain ⟨ve234_0, rfl, ge234_0⟩ := k32_openM hMe234
             have hv234_0 := hcc234 0 _ rfl
             rw [Nat.add_zero] at hv234_0
             replace hv234_0 := Option.some.inj (hv234_0.symm.trans hx234_0)
             rw [hv234_0] at ge234_0
             have HL234_0 := Aside0.mk (show Kd.R (Kd.int .i64) 3 _ _ _ _ ((rd_T32 t224 x8_2).f0) from ge234_0)
             clear hv234_0 ge234_0
             clear hcc234 hce234
             have HR234_0 := Aside0.mk hi234_0
             have HC234_0 := Aside0.mk hl234_0
             clear hi234_0 hl234_0
             replace p234 := eq_true p234
             replace q234 := eq_true q234
             go_wp2
             repeat (go_quiet (fail); try go_wp2)
             go_roundg k2
             case measure => have := HJ2.out; have := HK2.out; omega
             case rel => exact ⟨(x33_2), (wrap64 (x33_2 + 1)), (by first | rfl | (simp; done) | (simp [*]; done) | (simp [wrap64]; done)), (by first | rfl | (simp; done) | (simp [*]; done) | (simp [wrap64]; done)), H', ⟨by have := HJ2.out; have := HK2.out; omega⟩, ⟨by (with_reducible repeat (first | apply Kd.S_alloc | apply Kd.S_drewN | apply Kd.S_drew)); exact HO_7.out⟩, ⟨by (with_reducible repeat (first | apply Kd.R_alloc | apply Kd.R_drewN | apply Kd.R_drew)); exact HO_222000.out⟩, ⟨by (with_reducible repeat (first | refine blk_drewN ?_ _ | refine blk_drew ?_ | refine blk_alloc ?_ _)); exact BK221.out⟩, ⟨bw_ HB.out⟩⟩
            ·rw [if_neg c37] at H
             have c37b0 : decide (((rd_T32 t224 x33_2).f5) < ((rd_T32 t224 x8_2).f5)) = false := decide_eq_false c37
             clear c37
             have H' := Aside0.mk H
             clear H
             have p233 : 0 ≤ (x33_2 : Int) := of_decide_eq_true (by first | (with_reducible assumption) | assumption)
             have q233 : x33_2 < (t224.length : Int) := of_decide_eq_true (by first | (with_reducible assumption) | assumption)
             obtain ⟨ad233, A233_0, c233_0, e233, hx233_0, hx233_1, hx233_2, hx233_3, hx233_4, hx233_5, hl233_0, hi233_0⟩ := at_T32 (Kd.S_reads' HO_7.out).2.2 x33_2 p233 q233
             cases e233
             obtain ⟨ce233, hce233, hMe233, hcc233⟩ := Kd.S_get HO_7.out z32 x33_2 p233 (by first | exact q233 | exact of_decide_eq_true (by first | (with_reducible assumption) | assumption) | (have e_ := (Kd.S_reads' HO_7.out).1; omega))
             obtain ⟨ve233_0, rfl, ge233_0⟩ := k32_openM hMe233
             have hv233_0 := hcc233 0 _ rfl
             rw [Nat.add_zero] at hv233_0
             replace hv233_0 := Option.some.inj (hv233_0.symm.trans hx233_0)
             rw [hv233_0] at ge233_0
             have HL233_0 := Aside0.mk (show Kd.R (Kd.int .i64) 3 _ _ _ _ ((rd_T32 t224 x33_2).f0) from ge233_0)
             clear hv233_0 ge233_0
             clear hcc233 hce233
             have HR233_0 := Aside0.mk hi233_0
             have HC233_0 := Aside0.mk hl233_0
             clear hi233_0 hl233_0
             replace p233 := eq_true p233
             replace q233 := eq_true q233
             have p234 : 0 ≤ (x8_2 : Int) := of_decide_eq_true (by first | (with_reducible assumption) | assumption)
             have q234 : x8_2 < (t224.length : Int) := of_decide_eq_true (by first | (with_reducible assumption) | assumption)
             obtain ⟨ad234, A234_0, c234_0, e234, hx234_0, hx234_1, hx234_2, hx234_3, hx234_4, hx234_5, hl234_0, hi234_0⟩ := at_T32 (Kd.S_reads' HO_7.out).2.2 x8_2 p234 q234
             obtain rfl : ad233 = ad234 := (by injection e234)
             obtain ⟨ce234, hce234, hMe234, hcc234⟩ := Kd.S_get HO_7.out z32 x8_2 p234 (by first | exact q234 | exact of_decide_eq_true (by first | (with_reducible assumption) | assumption) | (have e_ := (Kd.S_reads' HO_7.out).1; omega))
             obtain ⟨ve234_0, rfl, ge234_0⟩ := k32_openM hMe234
             have hv234_0 := hcc234 0 _ rfl
             rw [Nat.add_zero] at hv234_0
             replace hv234_0 := Option.some.inj (hv234_0.symm.trans hx234_0)
             rw [hv234_0] at ge234_0
             have HL234_0 := Aside0.mk (show Kd.R (Kd.int .i64) 3 _ _ _ _ ((rd_T32 t224 x8_2).f0) from ge234_0)
             clear hv234_0 ge234_0
             clear hcc234 hce234
             have HR234_0 := Aside0.mk hi234_0
             have HC234_0 := Aside0.mk hl234_0
             clear hi234_0 hl234_0
             replace p234 := eq_true p234
             replace q234 := eq_true q234
             go_wp2
             repeat (go_quiet (fail); try go_wp2)
             go_roundg k2
             case measure => have := HJ2.out; have := HK2.out; omega
             case rel => exact ⟨(x8_2), (wrap64 (x33_2 + 1)), (by first | rfl | (simp; done) | (simp [*]; done) | (simp [wrap64]; done)), (by first | rfl | (simp; done) | (simp [*]; done) | (simp [wrap64]; done)), H', ⟨by have := HJ2.out; have := HK2.out; omega⟩, ⟨by (with_reducible repeat (first | apply Kd.S_alloc | apply Kd.S_drewN | apply Kd.S_drew)); exact HO_7.out⟩, ⟨by (with_reducible repeat (first | apply Kd.R_alloc | apply Kd.R_drewN | apply Kd.R_drew)); exact HO_222000.out⟩, ⟨by (with_reducible repeat (first | refine blk_drewN ?_ _ | refine blk_drew ?_ | refine blk_alloc ?_ _)); exact BK221.out⟩, ⟨bw_ HB.out⟩⟩
           ·rw [if_neg c36] at H
            exact absurd H (by simp)
          ·rw [if_neg c35] at H
           exact absurd H (by simp)
         ·rw [if_neg c34] at H
          exact absurd H (by simp)
        ·rw [if_neg c33] at H
         exact absurd H (by simp)
       ·rw [if_neg c32] at H
        have c32b0 : decide (x33_2 < (t224.length : Int)) = false := decide_eq_false c32
        clear c32
        by_cases c38 : 0 ≤ x8_2
        ·rw [if_pos c38] at H
         have c38b0 : decide (0 ≤ x8_2) = true := decide_eq_true c38
         clear c38
         by_cases c39 : x8_2 < (t224.length : Int)
         ·rw [if_pos c39] at H
          have c39b0 : decide (x8_2 < (t224.length : Int)) = true := decide_eq_true c39
          clear c39
          by_cases c40 : ((rd_T32 t224 x8_2).f5) > a1_5
          ·rw [if_pos c40] at H
           have c40b0 : decide (a1_5 < ((rd_T32 t224 x8_2).f5)) = true := decide_eq_true c40
           clear c40
           simp only [Option.some.injEq, Prod.mk.injEq] at H
           obtain ⟨rfl, rfl, rfl⟩ := H
           have p235 : 0 ≤ (x8_2 : Int) := of_decide_eq_true (by first | (with_reducible assumption) | assumption)
           have q235 : x8_2 < (t224.length : Int) := of_decide_eq_true (by first | (with_reducible assumption) | assumption)
           obtain ⟨ad235, A235_0, c235_0, e235, hx235_0, hx235_1, hx235_2, hx235_3, hx235_4, hx235_5, hl235_0, hi235_0⟩ := at_T32 (Kd.S_reads' HO_7.out).2.2 x8_2 p235 q235
           cases e235
           obtain ⟨ce235, hce235, hMe235, hcc235⟩ := Kd.S_get HO_7.out z32 x8_2 p235 (by first | exact q235 | exact of_decide_eq_true (by first | (with_reducible assumption) | assumption) | (have e_ := (Kd.S_reads' HO_7.out).1; omega))
           obtain ⟨ve235_0, rfl, ge235_0⟩ := k32_openM hMe235
           have hv235_0 := hcc235 0 _ rfl
           rw [Nat.add_zero] at hv235_0
           replace hv235_0 := Option.some.inj (hv235_0.symm.trans hx235_0)
           rw [hv235_0] at ge235_0
           have HL235_0 := Aside0.mk (show Kd.R (Kd.int .i64) 3 _ _ _ _ ((rd_T32 t224 x8_2).f0) from ge235_0)
           clear hv235_0 ge235_0
           clear hcc235 hce235
           have HR235_0 := Aside0.mk hi235_0
           have HC235_0 := Aside0.mk hl235_0
           clear hi235_0 hl235_0
           replace p235 := eq_true p235
           replace q235 := eq_true q235
           have hcz41_0 := cz_ BK221.out 0
           have hcz41_1 := cz_ BK221.out 1
           have hcz41_2 := cz_ BK221.out 2
           have hcz41_3 := cz_ BK221.out 3
           have hcz41_4 := cz_ BK221.out 4
           have hcz41_5 := cz_ BK221.out 5
           have hfz41_0 := blk_frozen BK221.out 0
           have hfz41_1 := blk_frozen BK221.out 1
           have hfz41_2 := blk_frozen BK221.out 2
           have hfz41_3 := blk_frozen BK221.out 3
           have hfz41_4 := blk_frozen BK221.out 4
           have hfz41_5 := blk_frozen BK221.out 5
           go_wp2
           repeat (go_quiet (fail); try go_wp2)
           go_ret3
           exact ⟨_, by first | rfl | (simp [errW_none, errW_some] <;> rfl) | (simp [*, errW_none, errW_some] <;> rfl), by (with_reducible repeat (first | apply Kd.S_alloc | apply Kd.S_drewN | apply Kd.S_drew)); exact Kd.S_mono HO_7.out (fun _ hk => trivial), bw_ HB.out⟩
          ·rw [if_neg c40] at H
           have c40b0 : decide (a1_5 < ((rd_T32 t224 x8_2).f5)) = false := decide_eq_false c40
           clear c40
           obtain ⟨y236, hy236⟩ : ∃ y_ : List (S32), y_ = (t224.set (x8_2 : Int).toNat (⟨t227, a1_1, a1_2, a1_3, a1_4, a1_5⟩ : S32)) := ⟨_, rfl⟩
           replace H : (some (y236, x8_2, true)) = some (r1, r2, r3) := by first | (rw [hy236]; with_reducible exact H) | (have H2_ := (Option.bind_some _ _).symm.trans H; rw [hy236]; with_reducible exact H2_) | (have H2_ := (Option.bind_some _ _).symm.trans H; with_reducible exact H2_) | with_reducible exact H | (rw [hy236]; exact H) | exact H
           have Ny236 := Aside0.mk hy236
           clear hy236
           simp only [Option.some.injEq, Prod.mk.injEq] at H
           obtain ⟨rfl, rfl, rfl⟩ := H
           have p235 : 0 ≤ (x8_2 : Int) := of_decide_eq_true (by first | (with_reducible assumption) | assumption)
           have q235 : x8_2 < (t224.length : Int) := of_decide_eq_true (by first | (with_reducible assumption) | assumption)
           obtain ⟨ad235, A235_0, c235_0, e235, hx235_0, hx235_1, hx235_2, hx235_3, hx235_4, hx235_5, hl235_0, hi235_0⟩ := at_T32 (Kd.S_reads' HO_7.out).2.2 x8_2 p235 q235
           cases e235
           obtain ⟨ce235, hce235, hMe235, hcc235⟩ := Kd.S_get HO_7.out z32 x8_2 p235 (by first | exact q235 | exact of_decide_eq_true (by first | (with_reducible assumption) | assumption) | (have e_ := (Kd.S_reads' HO_7.out).1; omega))
           obtain ⟨ve235_0, rfl, ge235_0⟩ := k32_openM hMe235
           have hv235_0 := hcc235 0 _ rfl
           rw [Nat.add_zero] at hv235_0
           replace hv235_0 := Option.some.inj (hv235_0.symm.trans hx235_0)
           rw [hv235_0] at ge235_0
           have HL235_0 := Aside0.mk (show Kd.R (Kd.int .i64) 3 _ _ _ _ ((rd_T32 t224 x8_2).f0) from ge235_0)
           clear hv235_0 ge235_0
           clear hcc235 hce235
           have HR235_0 := Aside0.mk hi235_0
           have HC235_0 := Aside0.mk hl235_0
           clear hi235_0 hl235_0
           replace p235 := eq_true p235
           replace q235 := eq_true q235
           have hcz43_0 := cz_ BK221.out 0
           have hcz43_1 := cz_ BK221.out 1
           have hcz43_2 := cz_ BK221.out 2
           have hcz43_3 := cz_ BK221.out 3
           have hcz43_4 := cz_ BK221.out 4
           have hcz43_5 := cz_ BK221.out 5
           have hfz43_0 := blk_frozen BK221.out 0
           have hfz43_1 := blk_frozen BK221.out 1
           have hfz43_2 := blk_frozen BK221.out 2
           have hfz43_3 := blk_frozen BK221.out 3
           have hfz43_4 := blk_frozen BK221.out 4
           have hfz43_5 := blk_frozen BK221.out 5
           have p42 : 0 ≤ (x8_2 : Int) := of_decide_eq_true (by first | (with_reducible assumption) | assumption)
           have q42 : (x8_2 : Int) < ((t224.length : Int) : Int) := of_decide_eq_true (by first | (with_reducible assumption) | assumption)
           obtain ⟨go42, co42, eo42, gb42, gl42, cl42, HG42⟩ := Kd.S_form HO_7.out (by omega)
           (first | cases eo42 | (injection eo42 with ea_ en_ ec_; (first | subst ea_ | (injection ea_ with ea_; subst ea_)); subst ec_; clear en_))
           have GB42 := Aside0.mk gb42
           have GG42 := Aside0.mk HG42
           clear gb42 gl42 HG42
           (first | simp only [add_plain] at hx235_0 | skip)
           (first | simp only [add_plain] at hx235_1 | skip)
           (first | simp only [add_plain] at hx235_2 | skip)
           (first | simp only [add_plain] at hx235_3 | skip)
           (first | simp only [add_plain] at hx235_4 | skip)
           (first | simp only [add_plain] at hx235_5 | skip)
           obtain ⟨_, ce42, hcl42, hM42, hcc42, hfr42, _, _⟩ := Kd.S_elem HO_7.out z32 (x8_2 : Int) p42 q42
           obtain ⟨ve42_0, rfl, ge42_0⟩ := k32_openM hM42
           have hx42_0 : wr.cell? ⟨go42, (x8_2 : Int).toNat * 6, none⟩ = some (ve42_0) := hcc42 0 _ rfl
           have hx42_1 : wr.cell? ⟨go42, (x8_2 : Int).toNat * 6 + 1, none⟩ = some (.int .i64 ((rd_T32 t224 x8_2).f1)) := hcc42 1 _ rfl
           have hx42_2 : wr.cell? ⟨go42, (x8_2 : Int).toNat * 6 + 2, none⟩ = some (.bool ((rd_T32 t224 x8_2).f2)) := hcc42 2 _ rfl
           have hx42_3 : wr.cell? ⟨go42, (x8_2 : Int).toNat * 6 + 3, none⟩ = some (.int .i64 ((rd_T32 t224 x8_2).f3)) := hcc42 3 _ rfl
           have hx42_4 : wr.cell? ⟨go42, (x8_2 : Int).toNat * 6 + 4, none⟩ = some (.int .i64 ((rd_T32 t224 x8_2).f4)) := hcc42 4 _ rfl
           have hx42_5 : wr.cell? ⟨go42, (x8_2 : Int).toNat * 6 + 5, none⟩ = some (.int .i64 ((rd_T32 t224 x8_2).f5)) := hcc42 5 _ rfl
           have hf42_0 : wr.frozen? ⟨go42, (x8_2 : Int).toNat * 6, none⟩ = false := hfr42 0
           have hf42_1 : wr.frozen? ⟨go42, (x8_2 : Int).toNat * 6 + 1, none⟩ = false := hfr42 1
           have hf42_2 : wr.frozen? ⟨go42, (x8_2 : Int).toNat * 6 + 2, none⟩ = false := hfr42 2
           have hf42_3 : wr.frozen? ⟨go42, (x8_2 : Int).toNat * 6 + 3, none⟩ = false := hfr42 3
           have hf42_4 : wr.frozen? ⟨go42, (x8_2 : Int).toNat * 6 + 4, none⟩ = false := hfr42 4
           have hf42_5 : wr.frozen? ⟨go42, (x8_2 : Int).toNat * 6 + 5, none⟩ = false := hfr42 5
           clear hcl42 hcc42 hfr42; (try clear hM42)
           replace p42 := eq_true p42
           replace q42 := eq_true q42
           have HX44 := Aside0.mk (show Kd.S k32 32 wr w.heap.size (fun k_ => ((fun k_ => k_ ≠ gb221)) k_ ∧ ¬ ((fun k_ => some k_ = (.slice Ao29 t227.length co29 : Value).ownBlock)) k_) (.slice (some ⟨go42, 0, none⟩) t224.length co31) t224 from (by (with_reducible repeat (first | apply Kd.S_alloc | apply Kd.S_drewN | apply Kd.S_drew)); exact Kd.S_mono HO_7.out (fun k_ hk => ⟨hk.2, fun e_ => hk.1 e_⟩)))
           obtain ⟨oki44, ce44, hcl44, hM44, hcc44, hfr44, hoki44, hH44⟩ := Kd.S_elem HX44.out z32 (x8_2 : Int) (of_decide_eq_true (by first | (with_reducible assumption) | assumption)) (by have h_ : (x8_2 : Int) < ((t224.length : Int) : Int) := of_decide_eq_true (by first | (with_reducible assumption) | assumption); first | exact h_ | (have e_ := (Kd.S_reads' HO_7.out).1; omega) | simpa using h_)
           obtain ⟨ve44_0, rfl, ge44_0⟩ := k32_openM hM44
           have HP44 := Kd.S_seg hH44 (of_decide_eq_true (by first | (with_reducible assumption) | assumption)) (by have h_ : (x8_2 : Int) < ((t224.length : Int) : Int) := of_decide_eq_true (by first | (with_reducible assumption) | assumption); first | exact h_ | (have e_ := (Kd.S_reads' HO_7.out).1; omega) | simpa using h_) (seg := [.slice Ao29 t227.length co29, .int .i64 a1_1, .bool a1_2, .int .i64 a1_3, .int .i64 a1_4, .int .i64 a1_5]) (j := 0) (show 6 ≤ 6 from by decide) (x' := (⟨t227, a1_1, a1_2, a1_3, a1_4, a1_5⟩ : S32)) (k32_mkM _ _ _ (⟨t227, a1_1, a1_2, a1_3, a1_4, a1_5⟩ : S32) (Kd.R_mono (Kd.R_tight rfl (Kd.R_mono (ok' := fun k_ => ((fun k_ => k_ ≠ gb221)) k_ ∧ k_ ≠ go42) (Kd.R_types (Kd.R_apart' (HO_222000.out) (Kd.S_typed HO_7.out) (by decide)) BK221.out (by decide)) (fun k_ hk => ⟨hk.2, fun e_ => (hk.1.2) (by rw [e_]; rfl)⟩))) (fun _ h_ => Or.inr (h_)))) (fun _ hk => hk) (fun k_ hk_ => ((Kd.R_mono (ok' := fun k_ => ((fun k_ => k_ ≠ gb221)) k_ ∧ k_ ≠ go42) (Kd.R_types (Kd.R_apart' (HO_222000.out) (Kd.S_typed HO_7.out) (by decide)) BK221.out (by decide)) (fun k_ hk => ⟨hk.2, fun e_ => (hk.1.2) (by rw [e_]; rfl)⟩))).1 k_ hk_.symm)
           have hx44_0 := hcc44 0 _ rfl
           (try simp only [show (k32).sz = 6 from rfl, Nat.mul_one, Nat.add_zero] at hx44_0)
           have hf44_0 := hfr44 0
           (try simp only [show (k32).sz = 6 from rfl, Nat.mul_one, Nat.add_zero] at hf44_0)
           have hx44_1 := hcc44 1 _ rfl
           (try simp only [show (k32).sz = 6 from rfl, Nat.mul_one, Nat.add_zero] at hx44_1)
           have hf44_1 := hfr44 1
           (try simp only [show (k32).sz = 6 from rfl, Nat.mul_one, Nat.add_zero] at hf44_1)
           have hx44_2 := hcc44 2 _ rfl
           (try simp only [show (k32).sz = 6 from rfl, Nat.mul_one, Nat.add_zero] at hx44_2)
           have hf44_2 := hfr44 2
           (try simp only [show (k32).sz = 6 from rfl, Nat.mul_one, Nat.add_zero] at hf44_2)
           have hx44_3 := hcc44 3 _ rfl
           (try simp only [show (k32).sz = 6 from rfl, Nat.mul_one, Nat.add_zero] at hx44_3)
           have hf44_3 := hfr44 3
           (try simp only [show (k32).sz = 6 from rfl, Nat.mul_one, Nat.add_zero] at hf44_3)
           have hx44_4 := hcc44 4 _ rfl
           (try simp only [show (k32).sz = 6 from rfl, Nat.mul_one, Nat.add_zero] at hx44_4)
           have hf44_4 := hfr44 4
           (try simp only [show (k32).sz = 6 from rfl, Nat.mul_one, Nat.add_zero] at hf44_4)
           have hx44_5 := hcc44 5 _ rfl
           (try simp only [show (k32).sz = 6 from rfl, Nat.mul_one, Nat.add_zero] at hx44_5)
           have hf44_5 := hfr44 5
           (try simp only [show (k32).sz = 6 from rfl, Nat.mul_one, Nat.add_zero] at hf44_5)
           clear hcl44 hcc44 hfr44 hoki44 hH44; (try clear hM44)
           go_wp2_with (first | ((with_reducible refine gate_store (t := 32) (p := 61) rfl ?_); (try (rw [drewN_self wr]; generalize hq_ : World.drewN wr _ = wr; (try (have m_ := Aside0.mk (Kd.R_at hq_ HO_222000.out); clear HO_222000; have HO_222000 := m_; clear m_)); have n0_ := Aside0.mk (Kd.S_at hq_ HO_7.out); have n1_ := Aside0.mk (Kd.R_at hq_ HL235_0.out); have n2_ := Aside0.mk (blk_at hq_ BK221.out); have n3_ := Aside0.mk (below_at hq_ HB.out); clear hq_ HO_7 HL235_0 BK221 HB; have HO_7 := n0_; have HL235_0 := n1_; have BK221 := n2_; have HB := n3_; clear n0_ n1_ n2_ n3_; (try (have HX44 := Aside0.mk (show Kd.S k32 32 wr w.heap.size (fun k_ => ((fun k_ => k_ ≠ gb221)) k_ ∧ ¬ ((fun k_ => some k_ = (.slice Ao29 t227.length co29 : Value).ownBlock)) k_) (.slice (some ⟨go42, 0, none⟩) t224.length co31) t224 from (by (with_reducible repeat (first | apply Kd.S_alloc | apply Kd.S_drewN | apply Kd.S_drew)); exact Kd.S_mono HO_7.out (fun k_ hk => ⟨hk.2, fun e_ => hk.1 e_⟩))))); (try (obtain ⟨oki44, ce44, hcl44, hM44, hcc44, hfr44, hoki44, hH44⟩ := Kd.S_elem HX44.out z32 (x8_2 : Int) (of_decide_eq_true (by first | (with_reducible assumption) | assumption)) (by have h_ : (x8_2 : Int) < ((t224.length : Int) : Int) := of_decide_eq_true (by first | (with_reducible assumption) | assumption); first | exact h_ | (have e_ := (Kd.S_reads' HO_7.out).1; omega) | simpa using h_))); (try (obtain ⟨ve44_0, rfl, ge44_0⟩ := k32_openM hM44)); (try (have HP44 := Kd.S_seg hH44 (of_decide_eq_true (by first | (with_reducible assumption) | assumption)) (by have h_ : (x8_2 : Int) < ((t224.length : Int) : Int) := of_decide_eq_true (by first | (with_reducible assumption) | assumption); first | exact h_ | (have e_ := (Kd.S_reads' HO_7.out).1; omega) | simpa using h_) (seg := [.slice Ao29 t227.length co29, .int .i64 a1_1, .bool a1_2, .int .i64 a1_3, .int .i64 a1_4, .int .i64 a1_5]) (j := 0) (show 6 ≤ 6 from by decide) (x' := (⟨t227, a1_1, a1_2, a1_3, a1_4, a1_5⟩ : S32)) (k32_mkM _ _ _ (⟨t227, a1_1, a1_2, a1_3, a1_4, a1_5⟩ : S32) (Kd.R_mono (Kd.R_tight rfl (Kd.R_mono (ok' := fun k_ => ((fun k_ => k_ ≠ gb221)) k_ ∧ k_ ≠ go42) (Kd.R_types (Kd.R_apart' (HO_222000.out) (Kd.S_typed HO_7.out) (by decide)) BK221.out (by decide)) (fun k_ hk => ⟨hk.2, fun e_ => (hk.1.2) (by rw [e_]; rfl)⟩))) (fun _ h_ => Or.inr (h_)))) (fun _ hk => hk) (fun k_ hk_ => ((Kd.R_mono (ok' := fun k_ => ((fun k_ => k_ ≠ gb221)) k_ ∧ k_ ≠ go42) (Kd.R_types (Kd.R_apart' (HO_222000.out) (Kd.S_typed HO_7.out) (by decide)) BK221.out (by decide)) (fun k_ hk => ⟨hk.2, fun e_ => (hk.1.2) (by rw [e_]; rfl)⟩))).1 k_ hk_.symm))); (try (have hx44_0 := hcc44 0 _ rfl)); (try (try simp only [show (k32).sz = 6 from rfl, Nat.mul_one, Nat.add_zero] at hx44_0)); (try (have hf44_0 := hfr44 0)); (try (try simp only [show (k32).sz = 6 from rfl, Nat.mul_one, Nat.add_zero] at hf44_0)); (try (have hx44_1 := hcc44 1 _ rfl)); (try (try simp only [show (k32).sz = 6 from rfl, Nat.mul_one, Nat.add_zero] at hx44_1)); (try (have hf44_1 := hfr44 1)); (try (try simp only [show (k32).sz = 6 from rfl, Nat.mul_one, Nat.add_zero] at hf44_1)); (try (have hx44_2 := hcc44 2 _ rfl)); (try (try simp only [show (k32).sz = 6 from rfl, Nat.mul_one, Nat.add_zero] at hx44_2)); (try (have hf44_2 := hfr44 2)); (try (try simp only [show (k32).sz = 6 from rfl, Nat.mul_one, Nat.add_zero] at hf44_2)); (try (have hx44_3 := hcc44 3 _ rfl)); (try (try simp only [show (k32).sz = 6 from rfl, Nat.mul_one, Nat.add_zero] at hx44_3)); (try (have hf44_3 := hfr44 3)); (try (try simp only [show (k32).sz = 6 from rfl, Nat.mul_one, Nat.add_zero] at hf44_3)); (try (have hx44_4 := hcc44 4 _ rfl)); (try (try simp only [show (k32).sz = 6 from rfl, Nat.mul_one, Nat.add_zero] at hx44_4)); (try (have hf44_4 := hfr44 4)); (try (try simp only [show (k32).sz = 6 from rfl, Nat.mul_one, Nat.add_zero] at hf44_4)); (try (have hx44_5 := hcc44 5 _ rfl)); (try (try simp only [show (k32).sz = 6 from rfl, Nat.mul_one, Nat.add_zero] at hx44_5)); (try (have hf44_5 := hfr44 5)); (try (try simp only [show (k32).sz = 6 from rfl, Nat.mul_one, Nat.add_zero] at hf44_5)); (try (clear hcl44 hcc44 hfr44 hoki44 hH44; (try clear hM44))))); refine se_ 32 61 ((((((wr.setCell ⟨go42, (x8_2 : Int).toNat * 6, none⟩ (.slice Ao29 t227.length co29)).setCell ⟨go42, (x8_2 : Int).toNat * 6 + 1, none⟩ (.int .i64 a1_1)).setCell ⟨go42, (x8_2 : Int).toNat * 6 + 2, none⟩ (.bool a1_2)).setCell ⟨go42, (x8_2 : Int).toNat * 6 + 3, none⟩ (.int .i64 a1_3)).setCell ⟨go42, (x8_2 : Int).toNat * 6 + 4, none⟩ (.int .i64 a1_4)).setCell ⟨go42, (x8_2 : Int).toNat * 6 + 5, none⟩ (.int .i64 a1_5)) ?_; intro w45 hw; have hg : wr.grownBy w45 (some go42) := (by rw [hw]; exact HP44.2); have hp_ : Kd.S k32 32 w45 w.heap.size (fun k_ => k_ ≠ gb221) (.slice (some ⟨go42, 0, none⟩) t224.length co31) y236 := (by rw [hw, Ny236.out]; exact HP44.1); clear HP44; have n0_ := Aside0.mk (hp_); have n1_ := Aside0.mk (blk_grown (bk_ BK221.out) hg (Kd.S_away HO_7.out (fun _ hk => hk.2))); have n2_ := Aside0.mk (Kd.R_after (v := (.slice (some ⟨go42, 0, none⟩) t224.length co31)) (v1 := (.slice (some ⟨go42, 0, none⟩) t224.length co31)) (ok := (fun k_ => some k_ ≠ (.slice Ao29 t227.length co29 : Value).ownBlock ∧ k_ ≠ gb221)) (by (with_reducible repeat (first | apply Kd.R_alloc | apply Kd.R_drewN | apply Kd.R_drew)); exact HL235_0.out) hg (.inl rfl)); have n3_ := Aside0.mk ((by rw [hw]; exact below_set (below_set (below_set (below_set (below_set (below_set (HB.out) GB42.out) GB42.out) GB42.out) GB42.out) GB42.out) GB42.out : Below w.heap.size w w45)); clear HO_7; clear BK221; clear HL235_0; clear HB; clear HO_222000; have HO_7 := n0_; have BK221 := n1_; have HL235_0 := n2_; have HB := n3_; clear n0_ n1_ n2_ n3_; clear hg hw hp_))
           repeat (go_quiet (first | ((with_reducible refine gate_store (t := 32) (p := 61) rfl ?_); (try (rw [drewN_self wr]; generalize hq_ : World.drewN wr _ = wr; (try (have m_ := Aside0.mk (Kd.R_at hq_ HO_222000.out); clear HO_222000; have HO_222000 := m_; clear m_)); have n0_ := Aside0.mk (Kd.S_at hq_ HO_7.out); have n1_ := Aside0.mk (Kd.R_at hq_ HL235_0.out); have n2_ := Aside0.mk (blk_at hq_ BK221.out); have n3_ := Aside0.mk (below_at hq_ HB.out); clear hq_ HO_7 HL235_0 BK221 HB; have HO_7 := n0_; have HL235_0 := n1_; have BK221 := n2_; have HB := n3_; clear n0_ n1_ n2_ n3_; (try (have HX44 := Aside0.mk (show Kd.S k32 32 wr w.heap.size (fun k_ => ((fun k_ => k_ ≠ gb221)) k_ ∧ ¬ ((fun k_ => some k_ = (.slice Ao29 t227.length co29 : Value).ownBlock)) k_) (.slice (some ⟨go42, 0, none⟩) t224.length co31) t224 from (by (with_reducible repeat (first | apply Kd.S_alloc | apply Kd.S_drewN | apply Kd.S_drew)); exact Kd.S_mono HO_7.out (fun k_ hk => ⟨hk.2, fun e_ => hk.1 e_⟩))))); (try (obtain ⟨oki44, ce44, hcl44, hM44, hcc44, hfr44, hoki44, hH44⟩ := Kd.S_elem HX44.out z32 (x8_2 : Int) (of_decide_eq_true (by first | (with_reducible assumption) | assumption)) (by have h_ : (x8_2 : Int) < ((t224.length : Int) : Int) := of_decide_eq_true (by first | (with_reducible assumption) | assumption); first | exact h_ | (have e_ := (Kd.S_reads' HO_7.out).1; omega) | simpa using h_))); (try (obtain ⟨ve44_0, rfl, ge44_0⟩ := k32_openM hM44)); (try (have HP44 := Kd.S_seg hH44 (of_decide_eq_true (by first | (with_reducible assumption) | assumption)) (by have h_ : (x8_2 : Int) < ((t224.length : Int) : Int) := of_decide_eq_true (by first | (with_reducible assumption) | assumption); first | exact h_ | (have e_ := (Kd.S_reads' HO_7.out).1; omega) | simpa using h_) (seg := [.slice Ao29 t227.length co29, .int .i64 a1_1, .bool a1_2, .int .i64 a1_3, .int .i64 a1_4, .int .i64 a1_5]) (j := 0) (show 6 ≤ 6 from by decide) (x' := (⟨t227, a1_1, a1_2, a1_3, a1_4, a1_5⟩ : S32)) (k32_mkM _ _ _ (⟨t227, a1_1, a1_2, a1_3, a1_4, a1_5⟩ : S32) (Kd.R_mono (Kd.R_tight rfl (Kd.R_mono (ok' := fun k_ => ((fun k_ => k_ ≠ gb221)) k_ ∧ k_ ≠ go42) (Kd.R_types (Kd.R_apart' (HO_222000.out) (Kd.S_typed HO_7.out) (by decide)) BK221.out (by decide)) (fun k_ hk => ⟨hk.2, fun e_ => (hk.1.2) (by rw [e_]; rfl)⟩))) (fun _ h_ => Or.inr (h_)))) (fun _ hk => hk) (fun k_ hk_ => ((Kd.R_mono (ok' := fun k_ => ((fun k_ => k_ ≠ gb221)) k_ ∧ k_ ≠ go42) (Kd.R_types (Kd.R_apart' (HO_222000.out) (Kd.S_typed HO_7.out) (by decide)) BK221.out (by decide)) (fun k_ hk => ⟨hk.2, fun e_ => (hk.1.2) (by rw [e_]; rfl)⟩))).1 k_ hk_.symm))); (try (have hx44_0 := hcc44 0 _ rfl)); (try (try simp only [show (k32).sz = 6 from rfl, Nat.mul_one, Nat.add_zero] at hx44_0)); (try (have hf44_0 := hfr44 0)); (try (try simp only [show (k32).sz = 6 from rfl, Nat.mul_one, Nat.add_zero] at hf44_0)); (try (have hx44_1 := hcc44 1 _ rfl)); (try (try simp only [show (k32).sz = 6 from rfl, Nat.mul_one, Nat.add_zero] at hx44_1)); (try (have hf44_1 := hfr44 1)); (try (try simp only [show (k32).sz = 6 from rfl, Nat.mul_one, Nat.add_zero] at hf44_1)); (try (have hx44_2 := hcc44 2 _ rfl)); (try (try simp only [show (k32).sz = 6 from rfl, Nat.mul_one, Nat.add_zero] at hx44_2)); (try (have hf44_2 := hfr44 2)); (try (try simp only [show (k32).sz = 6 from rfl, Nat.mul_one, Nat.add_zero] at hf44_2)); (try (have hx44_3 := hcc44 3 _ rfl)); (try (try simp only [show (k32).sz = 6 from rfl, Nat.mul_one, Nat.add_zero] at hx44_3)); (try (have hf44_3 := hfr44 3)); (try (try simp only [show (k32).sz = 6 from rfl, Nat.mul_one, Nat.add_zero] at hf44_3)); (try (have hx44_4 := hcc44 4 _ rfl)); (try (try simp only [show (k32).sz = 6 from rfl, Nat.mul_one, Nat.add_zero] at hx44_4)); (try (have hf44_4 := hfr44 4)); (try (try simp only [show (k32).sz = 6 from rfl, Nat.mul_one, Nat.add_zero] at hf44_4)); (try (have hx44_5 := hcc44 5 _ rfl)); (try (try simp only [show (k32).sz = 6 from rfl, Nat.mul_one, Nat.add_zero] at hx44_5)); (try (have hf44_5 := hfr44 5)); (try (try simp only [show (k32).sz = 6 from rfl, Nat.mul_one, Nat.add_zero] at hf44_5)); (try (clear hcl44 hcc44 hfr44 hoki44 hH44; (try clear hM44))))); refine se_ 32 61 ((((((wr.setCell ⟨go42, (x8_2 : Int).toNat * 6, none⟩ (.slice Ao29 t227.length co29)).setCell ⟨go42, (x8_2 : Int).toNat * 6 + 1, none⟩ (.int .i64 a1_1)).setCell ⟨go42, (x8_2 : Int).toNat * 6 + 2, none⟩ (.bool a1_2)).setCell ⟨go42, (x8_2 : Int).toNat * 6 + 3, none⟩ (.int .i64 a1_3)).setCell ⟨go42, (x8_2 : Int).toNat * 6 + 4, none⟩ (.int .i64 a1_4)).setCell ⟨go42, (x8_2 : Int).toNat * 6 + 5, none⟩ (.int .i64 a1_5)) ?_; intro w45 hw; have hg : wr.grownBy w45 (some go42) := (by rw [hw]; exact HP44.2); have hp_ : Kd.S k32 32 w45 w.heap.size (fun k_ => k_ ≠ gb221) (.slice (some ⟨go42, 0, none⟩) t224.length co31) y236 := (by rw [hw, Ny236.out]; exact HP44.1); clear HP44; have n0_ := Aside0.mk (hp_); have n1_ := Aside0.mk (blk_grown (bk_ BK221.out) hg (Kd.S_away HO_7.out (fun _ hk => hk.2))); have n2_ := Aside0.mk (Kd.R_after (v := (.slice (some ⟨go42, 0, none⟩) t224.length co31)) (v1 := (.slice (some ⟨go42, 0, none⟩) t224.length co31)) (ok := (fun k_ => some k_ ≠ (.slice Ao29 t227.length co29 : Value).ownBlock ∧ k_ ≠ gb221)) (by (with_reducible repeat (first | apply Kd.R_alloc | apply Kd.R_drewN | apply Kd.R_drew)); exact HL235_0.out) hg (.inl rfl)); have n3_ := Aside0.mk ((by rw [hw]; exact below_set (below_set (below_set (below_set (below_set (below_set (HB.out) GB42.out) GB42.out) GB42.out) GB42.out) GB42.out) GB42.out : Below w.heap.size w w45)); clear HO_7; clear BK221; clear HL235_0; clear HB; clear HO_222000; have HO_7 := n0_; have BK221 := n1_; have HL235_0 := n2_; have HB := n3_; clear n0_ n1_ n2_ n3_; clear hg hw hp_)); try go_wp2_with (first | ((with_reducible refine gate_store (t := 32) (p := 61) rfl ?_); (try (rw [drewN_self wr]; generalize hq_ : World.drewN wr _ = wr; (try (have m_ := Aside0.mk (Kd.R_at hq_ HO_222000.out); clear HO_222000; have HO_222000 := m_; clear m_)); have n0_ := Aside0.mk (Kd.S_at hq_ HO_7.out); have n1_ := Aside0.mk (Kd.R_at hq_ HL235_0.out); have n2_ := Aside0.mk (blk_at hq_ BK221.out); have n3_ := Aside0.mk (below_at hq_ HB.out); clear hq_ HO_7 HL235_0 BK221 HB; have HO_7 := n0_; have HL235_0 := n1_; have BK221 := n2_; have HB := n3_; clear n0_ n1_ n2_ n3_; (try (have HX44 := Aside0.mk (show Kd.S k32 32 wr w.heap.size (fun k_ => ((fun k_ => k_ ≠ gb221)) k_ ∧ ¬ ((fun k_ => some k_ = (.slice Ao29 t227.length co29 : Value).ownBlock)) k_) (.slice (some ⟨go42, 0, none⟩) t224.length co31) t224 from (by (with_reducible repeat (first | apply Kd.S_alloc | apply Kd.S_drewN | apply Kd.S_drew)); exact Kd.S_mono HO_7.out (fun k_ hk => ⟨hk.2, fun e_ => hk.1 e_⟩))))); (try (obtain ⟨oki44, ce44, hcl44, hM44, hcc44, hfr44, hoki44, hH44⟩ := Kd.S_elem HX44.out z32 (x8_2 : Int) (of_decide_eq_true (by first | (with_reducible assumption) | assumption)) (by have h_ : (x8_2 : Int) < ((t224.length : Int) : Int) := of_decide_eq_true (by first | (with_reducible assumption) | assumption); first | exact h_ | (have e_ := (Kd.S_reads' HO_7.out).1; omega) | simpa using h_))); (try (obtain ⟨ve44_0, rfl, ge44_0⟩ := k32_openM hM44)); (try (have HP44 := Kd.S_seg hH44 (of_decide_eq_true (by first | (with_reducible assumption) | assumption)) (by have h_ : (x8_2 : Int) < ((t224.length : Int) : Int) := of_decide_eq_true (by first | (with_reducible assumption) | assumption); first | exact h_ | (have e_ := (Kd.S_reads' HO_7.out).1; omega) | simpa using h_) (seg := [.slice Ao29 t227.length co29, .int .i64 a1_1, .bool a1_2, .int .i64 a1_3, .int .i64 a1_4, .int .i64 a1_5]) (j := 0) (show 6 ≤ 6 from by decide) (x' := (⟨t227, a1_1, a1_2, a1_3, a1_4, a1_5⟩ : S32)) (k32_mkM _ _ _ (⟨t227, a1_1, a1_2, a1_3, a1_4, a1_5⟩ : S32) (Kd.R_mono (Kd.R_tight rfl (Kd.R_mono (ok' := fun k_ => ((fun k_ => k_ ≠ gb221)) k_ ∧ k_ ≠ go42) (Kd.R_types (Kd.R_apart' (HO_222000.out) (Kd.S_typed HO_7.out) (by decide)) BK221.out (by decide)) (fun k_ hk => ⟨hk.2, fun e_ => (hk.1.2) (by rw [e_]; rfl)⟩))) (fun _ h_ => Or.inr (h_)))) (fun _ hk => hk) (fun k_ hk_ => ((Kd.R_mono (ok' := fun k_ => ((fun k_ => k_ ≠ gb221)) k_ ∧ k_ ≠ go42) (Kd.R_types (Kd.R_apart' (HO_222000.out) (Kd.S_typed HO_7.out) (by decide)) BK221.out (by decide)) (fun k_ hk => ⟨hk.2, fun e_ => (hk.1.2) (by rw [e_]; rfl)⟩))).1 k_ hk_.symm))); (try (have hx44_0 := hcc44 0 _ rfl)); (try (try simp only [show (k32).sz = 6 from rfl, Nat.mul_one, Nat.add_zero] at hx44_0)); (try (have hf44_0 := hfr44 0)); (try (try simp only [show (k32).sz = 6 from rfl, Nat.mul_one, Nat.add_zero] at hf44_0)); (try (have hx44_1 := hcc44 1 _ rfl)); (try (try simp only [show (k32).sz = 6 from rfl, Nat.mul_one, Nat.add_zero] at hx44_1)); (try (have hf44_1 := hfr44 1)); (try (try simp only [show (k32).sz = 6 from rfl, Nat.mul_one, Nat.add_zero] at hf44_1)); (try (have hx44_2 := hcc44 2 _ rfl)); (try (try simp only [show (k32).sz = 6 from rfl, Nat.mul_one, Nat.add_zero] at hx44_2)); (try (have hf44_2 := hfr44 2)); (try (try simp only [show (k32).sz = 6 from rfl, Nat.mul_one, Nat.add_zero] at hf44_2)); (try (have hx44_3 := hcc44 3 _ rfl)); (try (try simp only [show (k32).sz = 6 from rfl, Nat.mul_one, Nat.add_zero] at hx44_3)); (try (have hf44_3 := hfr44 3)); (try (try simp only [show (k32).sz = 6 from rfl, Nat.mul_one, Nat.add_zero] at hf44_3)); (try (have hx44_4 := hcc44 4 _ rfl)); (try (try simp only [show (k32).sz = 6 from rfl, Nat.mul_one, Nat.add_zero] at hx44_4)); (try (have hf44_4 := hfr44 4)); (try (try simp only [show (k32).sz = 6 from rfl, Nat.mul_one, Nat.add_zero] at hf44_4)); (try (have hx44_5 := hcc44 5 _ rfl)); (try (try simp only [show (k32).sz = 6 from rfl, Nat.mul_one, Nat.add_zero] at hx44_5)); (try (have hf44_5 := hfr44 5)); (try (try simp only [show (k32).sz = 6 from rfl, Nat.mul_one, Nat.add_zero] at hf44_5)); (try (clear hcl44 hcc44 hfr44 hoki44 hH44; (try clear hM44))))); refine se_ 32 61 ((((((wr.setCell ⟨go42, (x8_2 : Int).toNat * 6, none⟩ (.slice Ao29 t227.length co29)).setCell ⟨go42, (x8_2 : Int).toNat * 6 + 1, none⟩ (.int .i64 a1_1)).setCell ⟨go42, (x8_2 : Int).toNat * 6 + 2, none⟩ (.bool a1_2)).setCell ⟨go42, (x8_2 : Int).toNat * 6 + 3, none⟩ (.int .i64 a1_3)).setCell ⟨go42, (x8_2 : Int).toNat * 6 + 4, none⟩ (.int .i64 a1_4)).setCell ⟨go42, (x8_2 : Int).toNat * 6 + 5, none⟩ (.int .i64 a1_5)) ?_; intro w45 hw; have hg : wr.grownBy w45 (some go42) := (by rw [hw]; exact HP44.2); have hp_ : Kd.S k32 32 w45 w.heap.size (fun k_ => k_ ≠ gb221) (.slice (some ⟨go42, 0, none⟩) t224.length co31) y236 := (by rw [hw, Ny236.out]; exact HP44.1); clear HP44; have n0_ := Aside0.mk (hp_); have n1_ := Aside0.mk (blk_grown (bk_ BK221.out) hg (Kd.S_away HO_7.out (fun _ hk => hk.2))); have n2_ := Aside0.mk (Kd.R_after (v := (.slice (some ⟨go42, 0, none⟩) t224.length co31)) (v1 := (.slice (some ⟨go42, 0, none⟩) t224.length co31)) (ok := (fun k_ => some k_ ≠ (.slice Ao29 t227.length co29 : Value).ownBlock ∧ k_ ≠ gb221)) (by (with_reducible repeat (first | apply Kd.R_alloc | apply Kd.R_drewN | apply Kd.R_drew)); exact HL235_0.out) hg (.inl rfl)); have n3_ := Aside0.mk ((by rw [hw]; exact below_set (below_set (below_set (below_set (below_set (below_set (HB.out) GB42.out) GB42.out) GB42.out) GB42.out) GB42.out) GB42.out : Below w.heap.size w w45)); clear HO_7; clear BK221; clear HL235_0; clear HB; clear HO_222000; have HO_7 := n0_; have BK221 := n1_; have HL235_0 := n2_; have HB := n3_; clear n0_ n1_ n2_ n3_; clear hg hw hp_)))
           go_ret3
           exact ⟨_, by first | rfl | (simp [errW_none, errW_some] <;> rfl) | (simp [*, errW_none, errW_some] <;> rfl), by (with_reducible repeat (first | apply Kd.S_alloc | apply Kd.S_drewN | apply Kd.S_drew)); exact Kd.S_mono HO_7.out (fun _ hk => trivial), bw_ HB.out⟩
         ·rw [if_neg c39] at H
          exact absurd H (by simp)
        ·rw [if_neg c38] at H
         exact absurd H (by simp)

end Go.Proofs.Ytbnbgmpkemlfbaa.XFnExactTakeVoice
