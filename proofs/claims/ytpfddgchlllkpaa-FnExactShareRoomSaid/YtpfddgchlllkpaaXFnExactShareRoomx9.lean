/- What the Go functions that this law comes to compute, each walked; written by a program of this session. -/
import Derived.Test.YtpfddgchlllkpaaXMark
import Derived.Test.YtpfddgchlllkpaaXFnExactShareRoomx0
import Derived.Test.YtpfddgchlllkpaaXFnExactShareRoomx1
import Derived.Test.YtpfddgchlllkpaaXFnExactShareRoomx3
import Derived.Test.YtpfddgchlllkpaaXFnExactShareRoomx8
namespace Go.Proofs.Ytpfddgchlllkpaa.XFnExactShareRoom
open Go.RowKit Go.Proofs.YtpfddgchlllkpaaW.PrintWords Go.Proofs.YtpfddgchlllkpaaW.PrintLast Go.Proofs.YtpfddgchlllkpaaW.PrintMore
attribute [local go_sem] str_geq max2_int min2_int max_two min_two max_three min_three max_four min_four   -- for this text's walks alone
set_option linter.unusedVariables false
set_option linter.unusedSimpArgs false

/-! ### impl_ShareRoom: function 34 -/
mutual
def impl_ShareRoom.j0 : Nat → Int → List Int → List Int → Bool → Option (List Int × Bool)
 | 0, _, _, _, _ => none
 | k + 1, x0, x1, x2, x23 => if x23 = true then (some (([] : List Int), false)) else (impl_ShareRoom.l0 k x0 x1 x2 (x1.length : Int) 0)
def impl_ShareRoom.l0 : Nat → Int → List Int → List Int → Int → Int → Option (List Int × Bool)
 | 0, _, _, _, _, _ => none
 | k + 1, x0, x1, x2, x25, x26 => if x26 < x25 then (if 0 ≤ x26 then (if x26 < (x1.length : Int) then ((impl_inRange.f (rd x1 x26) 0 10000).bind fun t219 => (if t219 = true then (if x26 < (x2.length : Int) then ((impl_inRange.f (rd x2 x26) 0 1000).bind fun t221 => (if t221 = true then (impl_ShareRoom.l0 k x0 x1 x2 x25 (wrap64 (x26 + 1))) else (some (([] : List Int), false)))) else (none)) else (some (([] : List Int), false)))) else (none)) else (none)) else ((impl_share.f k x0 x1 x2).bind fun t215 => (some (t215, true)))
end
def impl_ShareRoom.f (k : Nat) (a0 : Int) (l1 : List Int) (l2 : List Int) : Option (List Int × Bool) := (impl_inRange.f a0 0 10000).bind fun t214 => (if t214 = true then (if (l1.length : Int) > 40 then (impl_ShareRoom.j0 k a0 l1 l2 true) else (impl_ShareRoom.j0 k a0 l1 l2 ((l2.length : Int) != (l1.length : Int)))) else (impl_ShareRoom.j0 k a0 l1 l2 true))
theorem impl_ShareRoom.mono_l : ∀ k, (∀ y0 y1 y2 y3, LeO (impl_ShareRoom.j0 k y0 y1 y2 y3) (impl_ShareRoom.j0 (k + 1) y0 y1 y2 y3)) ∧ (∀ y0 y1 y2 y3 y4, LeO (impl_ShareRoom.l0 k y0 y1 y2 y3 y4) (impl_ShareRoom.l0 (k + 1) y0 y1 y2 y3 y4))
 | 0 => ⟨fun _ _ _ _ r h => by simp [impl_ShareRoom.j0] at h, fun _ _ _ _ _ r h => by simp [impl_ShareRoom.l0] at h⟩
 | k + 1 => by
  obtain ⟨ih0, ih1⟩ := impl_ShareRoom.mono_l k
  refine ⟨?_, ?_⟩
  ·intro y0 y1 y2 y3
   unfold impl_ShareRoom.j0
   repeat' first
   | (with_reducible exact ih0 _ _ _ _)
   | (with_reducible exact ih1 _ _ _ _ _)
   | (with_reducible exact impl_share.mono _ _ _ _)
   | (with_reducible exact LeO.refl _)
   | (with_reducible exact LeO.none _)
   | (with_reducible refine LeO.ite ?_ ?_)
   | (with_reducible refine LeO.bind ?_ (fun _ => ?_))
   | exact ih0 _ _ _ _
   | exact ih1 _ _ _ _ _
   | exact impl_share.mono _ _ _ _
   | exact LeO.none _
   | refine LeO.ite ?_ ?_
   | refine LeO.bind ?_ (fun _ => ?_)
  ·intro y0 y1 y2 y3 y4
   unfold impl_ShareRoom.l0
   repeat' first
   | (with_reducible exact ih0 _ _ _ _)
   | (with_reducible exact ih1 _ _ _ _ _)
   | (with_reducible exact impl_share.mono _ _ _ _)
   | (with_reducible exact LeO.refl _)
   | (with_reducible exact LeO.none _)
   | (with_reducible refine LeO.ite ?_ ?_)
   | (with_reducible refine LeO.bind ?_ (fun _ => ?_))
   | exact ih0 _ _ _ _
   | exact ih1 _ _ _ _ _
   | exact impl_share.mono _ _ _ _
   | exact LeO.none _
   | refine LeO.ite ?_ ?_
   | refine LeO.bind ?_ (fun _ => ?_)
theorem impl_ShareRoom.mono : ∀ a0 a1 a2 k, LeO (impl_ShareRoom.f k a0 a1 a2) (impl_ShareRoom.f (k + 1) a0 a1 a2) := by
 intro a0 a1 a2 k
 obtain ⟨ih0, ih1⟩ := impl_ShareRoom.mono_l k
 unfold impl_ShareRoom.f
 repeat' first
   | (with_reducible exact ih0 _ _ _ _)
   | (with_reducible exact ih1 _ _ _ _ _)
   | (with_reducible exact impl_share.mono _ _ _ _)
   | (with_reducible exact LeO.refl _)
   | (with_reducible exact LeO.none _)
   | (with_reducible refine LeO.ite ?_ ?_)
   | (with_reducible refine LeO.bind ?_ (fun _ => ?_))
   | exact ih0 _ _ _ _
   | exact ih1 _ _ _ _ _
   | exact impl_share.mono _ _ _ _
   | exact LeO.none _
   | refine LeO.ite ?_ ?_
   | refine LeO.bind ?_ (fun _ => ?_)
set_option maxHeartbeats 8000000 in
set_option maxRecDepth 100000 in
theorem impl_ShareRoom.calls (k : Nat) (a0 : Int) (A1 : Option Addr) (c1 : Nat) (l1 : List Int) (A2 : Option Addr) (c2 : Nat) (l2 : List Int) (r1 : List Int) (r2 : Bool) (w : World) (hr1 : Kd.C (Kd.int .i64) w A1 l1.length l1) (hc1 : l1.length ≤ c1) (hr2 : Kd.C (Kd.int .i64) w A2 l2.length l2) (hc2 : l2.length ≤ c2) (h : impl_ShareRoom.f k a0 l1 l2 = some (r1, r2)) :
  Calls Try.prog 34 #[.int .i64 a0, .slice A1 l1.length c1, .slice A2 l2.length c2] w fun e w' => ∃ v0_ : Value, e = .returned (.tuple #[v0_, .bool r2]) ∧ Kd.R (Kd.int .i64) 3 w' w.heap.size (fun _ => True) v0_ r1 ∧ Below w.heap.size w w' := by
 have HR1 := Aside0.mk hr1
 have HC1 := Aside0.mk hc1
 clear hr1 hc1
 have HR2 := Aside0.mk hr2
 have HC2 := Aside0.mk hc2
 clear hr2 hc2
 have HB := Aside0.mk (Below.refl w.heap.size w)
 have H : ((impl_inRange.f a0 0 10000).bind fun t214 => (if t214 = true then (if (l1.length : Int) > 40 then (impl_ShareRoom.j0 k a0 l1 l2 true) else (impl_ShareRoom.j0 k a0 l1 l2 ((l2.length : Int) != (l1.length : Int)))) else (impl_ShareRoom.j0 k a0 l1 l2 true))) = some (r1, r2) := h
 clear h
 have HC4 := Aside0.mk H
 clear H
 go_enter Try.func34, Try.ntmps34
 go_upto_region 1 with (fail)
 go_cut [23] (fun v23 wc => ∃ (kq : Nat) (x23_3 : Bool), v23 = .bool x23_3 ∧ Aside0 (impl_ShareRoom.j0 kq a0 l1 l2 x23_3 = some (r1, r2)) ∧ Aside0 (kq ≤ k) ∧ Aside0 (Below w.heap.size w wc))
 case first =>
  have H := HC4.out
  clear HC4
  obtain ⟨t214, A50, H⟩ := bE_ H
  have A5 := Aside0.mk A50
  clear A50
  by_cases c6 : t214 = true
  ·subst c6
   replace H := it_ H rfl
   by_cases c7 : (l1.length : Int) > 40
   ·rw [if_pos c7] at H
    have c7b0 : decide (40 < (l1.length : Int)) = true := decide_eq_true c7
    have c7b1 : decide (40 < l1.length) = true := decide_eq_true (by omega)
    clear c7
    (first | rw [c7b0] | (simp only [i64_w, i32_w]; rw [c7b0]) | skip)
    have H' := Aside0.mk H
    clear H
    go_wp2_with (first | ((with_reducible refine gate_callee (f := 51) rfl ?_); refine goesL_ (some 10) rfl rfl Try.func51 (by kernel_rfl) rfl #[.int .i64 a0, .int .i64 0, .int .i64 10000] rfl (by (try simp only [List.map_toArray, List.map_cons, List.map_nil]); first | done | rfl | (simp only [List.length_drop, List.length_take]; rfl)) ?_; (with_reducible refine (impl_inRange.calls a0 0 10000 true _ A5.out).mono ?_); rintro e w' ⟨rfl, ⟨nd, rfl⟩⟩; refine ⟨_, rfl, ?_⟩))
    go_meet
    case rel => exact ⟨_, (true), (by first | rfl | (simp; done) | (simp [*]; done) | (simp [wrap64]; done)), H', ⟨by first | omega | exact Nat.le_refl _⟩, ⟨bw_ HB.out⟩⟩
   ·rw [if_neg c7] at H
    have c7b0 : decide (40 < (l1.length : Int)) = false := decide_eq_false c7
    have c7b1 : decide (40 < l1.length) = false := decide_eq_false (by omega)
    clear c7
    (first | rw [c7b0] | (simp only [i64_w, i32_w]; rw [c7b0]) | skip)
    have H' := Aside0.mk H
    clear H
    go_wp2_with (first | ((with_reducible refine gate_callee (f := 51) rfl ?_); refine goesL_ (some 10) rfl rfl Try.func51 (by kernel_rfl) rfl #[.int .i64 a0, .int .i64 0, .int .i64 10000] rfl (by (try simp only [List.map_toArray, List.map_cons, List.map_nil]); first | done | rfl | (simp only [List.length_drop, List.length_take]; rfl)) ?_; (with_reducible refine (impl_inRange.calls a0 0 10000 true _ A5.out).mono ?_); rintro e w' ⟨rfl, ⟨nd, rfl⟩⟩; refine ⟨_, rfl, ?_⟩))
    go_meet
    case rel => exact ⟨_, (((l2.length : Int) != (l1.length : Int))), (by first | rfl | (simp; done) | (simp [*]; done) | (simp [wrap64]; done)), H', ⟨by first | omega | exact Nat.le_refl _⟩, ⟨bw_ HB.out⟩⟩
  ·replace c6 := Bool.eq_false_iff.mpr c6
   subst c6
   replace H := if_ H Bool.false_ne_true
   have H' := Aside0.mk H
   clear H
   go_wp2_with (first | ((with_reducible refine gate_callee (f := 51) rfl ?_); refine goesL_ (some 10) rfl rfl Try.func51 (by kernel_rfl) rfl #[.int .i64 a0, .int .i64 0, .int .i64 10000] rfl (by (try simp only [List.map_toArray, List.map_cons, List.map_nil]); first | done | rfl | (simp only [List.length_drop, List.length_take]; rfl)) ?_; (with_reducible refine (impl_inRange.calls a0 0 10000 false _ A5.out).mono ?_); rintro e w' ⟨rfl, ⟨nd, rfl⟩⟩; refine ⟨_, rfl, ?_⟩))
   go_meet
   case rel => exact ⟨_, (true), (by first | rfl | (simp; done) | (simp [*]; done) | (simp [wrap64]; done)), H', ⟨by first | omega | exact Nat.le_refl _⟩, ⟨bw_ HB.out⟩⟩
 case rest =>
  clear HC4
  try clear c1
  try clear c2
  try clear p2
  try clear c3
  try clear c5
  try clear c6
  try clear c7
  try clear c7b0
  try clear c7b1
  obtain ⟨kq, x23_3, rfl, HA, HJ3, HB⟩ := hcut
  cases kq with
  | zero => exact absurd HA.out (by simp [impl_ShareRoom.j0])
  | succ kj3 =>
   have H := HA.out
   clear HA
   simp only [impl_ShareRoom.j0] at H
   by_cases c8 : x23_3 = true
   ·subst c8
    replace H := it_ H rfl
    simp only [Option.some.injEq, Prod.mk.injEq] at H
    obtain ⟨rfl, rfl⟩ := H
    go_wp2
    go_ret2
    exact ⟨_, by first | rfl | (simp [errW_none, errW_some] <;> rfl) | (simp [*, errW_none, errW_some] <;> rfl), by first | exact Kd.R_nil _ _ _ _ _ | exact Kd.N_nil _ _ _ _ _ | exact Kd.V_nil _ _ _ _ _ | exact Kd.Q_nil _ _ _ _ _ | exact Kd.S_nil _ _ _ _ _, bw_ HB.out⟩
   ·replace c8 := Bool.eq_false_iff.mpr c8
    subst c8
    replace H := if_ H Bool.false_ne_true
    have H' := Aside0.mk H
    clear H
    go_wp2
    go_loopg [26] kj3 (fun kq v26 w' => ∃ (x26_2 : Int), v26 = .int .i64 x26_2 ∧ Aside0 (impl_ShareRoom.l0 kq a0 l1 l2 (l1.length : Int) x26_2 = some (r1, r2)) ∧ Aside0 (kq ≤ kj3) ∧ Aside0 (Below w.heap.size w w'))
    case atStart => exact ⟨(0), (by first | rfl | (simp; done) | (simp [*]; done) | (simp [wrap64]; done)), H', ⟨Nat.le_refl _⟩, ⟨bw_ HB.out⟩⟩
    case round =>
     clear H'
     try clear c1
     try clear c2
     try clear p2
     try clear c3
     try clear c5
     try clear c6
     try clear c7
     try clear c7b0
     try clear c7b1
     try clear c8
     try clear p2
     obtain ⟨x26_2, rfl, HA, HK2, HB⟩ := hrel
     cases gk with
     | zero => exact absurd HA.out (by simp [impl_ShareRoom.l0])
     | succ k2 =>
      have H := HA.out
      clear HA
      simp only [impl_ShareRoom.l0] at H
      by_cases c9 : x26_2 < (l1.length : Int)
      ·rw [if_pos c9] at H
       have c9b0 : decide (x26_2 < (l1.length : Int)) = true := decide_eq_true c9
       clear c9
       by_cases c10 : 0 ≤ x26_2
       ·rw [if_pos c10] at H
        have c10b0 : decide (0 ≤ x26_2) = true := decide_eq_true c10
        clear c10
        by_cases c11 : x26_2 < (l1.length : Int)
        ·rw [if_pos c11] at H
         have c11b0 : decide (x26_2 < (l1.length : Int)) = true := decide_eq_true c11
         clear c11
         obtain ⟨t219, A120, H⟩ := bE_ H
         have A12 := Aside0.mk A120
         clear A120
         by_cases c13 : t219 = true
         ·subst c13
          replace H := it_ H rfl
          by_cases c14 : x26_2 < (l2.length : Int)
          ·rw [if_pos c14] at H
           have c14b0 : decide (x26_2 < (l2.length : Int)) = true := decide_eq_true c14
           clear c14
           obtain ⟨t221, A150, H⟩ := bE_ H
           have A15 := Aside0.mk A150
           clear A150
           by_cases c16 : t221 = true
           ·subst c16
            replace H := it_ H rfl
            have H' := Aside0.mk H
            clear H
            have p218 : 0 ≤ (x26_2 : Int) := of_decide_eq_true (by first | (with_reducible assumption) | assumption)
            have q218 : x26_2 < (l1.length : Int) := of_decide_eq_true (by first | (with_reducible assumption) | assumption)
            obtain ⟨ad218, e218, hx218_0⟩ := Kd.at_int HR1.out x26_2 p218 q218
            cases e218
            (try replace hx218_0 := (HB.out.cell (World.block_lt_of_cell? w _ hx218_0)).trans hx218_0)
            replace p218 := eq_true p218
            replace q218 := eq_true q218
            go_wp2_with (first | ((with_reducible refine gate_callee (f := 51) rfl ?_); refine goesL_ (some 33) rfl rfl Try.func51 (by kernel_rfl) rfl #[.int .i64 (rd l1 x26_2), .int .i64 0, .int .i64 10000] rfl (by (try simp only [List.map_toArray, List.map_cons, List.map_nil]); first | done | rfl | (simp only [List.length_drop, List.length_take]; rfl)) ?_; (with_reducible refine (impl_inRange.calls (rd l1 x26_2) 0 10000 true _ A12.out).mono ?_); rintro e w' ⟨rfl, ⟨nd, rfl⟩⟩; refine ⟨_, rfl, ?_⟩; have p220 : 0 ≤ (x26_2 : Int) := of_decide_eq_true (by first | (with_reducible assumption) | assumption); have q220 : x26_2 < (l2.length : Int) := of_decide_eq_true (by first | (with_reducible assumption) | assumption); obtain ⟨ad220, e220, hx220_0⟩ := Kd.at_int HR2.out x26_2 p220 q220; cases e220; (try replace hx220_0 := (HB.out.cell (World.block_lt_of_cell? w _ hx220_0)).trans hx220_0); replace p220 := eq_true p220; replace q220 := eq_true q220) | (go_at_call 51; (with_reducible refine (impl_inRange.calls (rd l2 x26_2) 0 1000 true _ A15.out).mono ?_); rintro e w' ⟨rfl, ⟨nd, rfl⟩⟩))
            go_roundg k2
            case measure => have := HJ3.out; have := HK2.out; omega
            case rel => exact ⟨(wrap64 (x26_2 + 1)), (by first | rfl | (simp; done) | (simp [*]; done) | (simp [wrap64]; done)), H', ⟨by have := HJ3.out; have := HK2.out; omega⟩, ⟨bw_ HB.out⟩⟩
           ·replace c16 := Bool.eq_false_iff.mpr c16
            subst c16
            replace H := if_ H Bool.false_ne_true
            simp only [Option.some.injEq, Prod.mk.injEq] at H
            obtain ⟨rfl, rfl⟩ := H
            have p218 : 0 ≤ (x26_2 : Int) := of_decide_eq_true (by first | (with_reducible assumption) | assumption)
            have q218 : x26_2 < (l1.length : Int) := of_decide_eq_true (by first | (with_reducible assumption) | assumption)
            obtain ⟨ad218, e218, hx218_0⟩ := Kd.at_int HR1.out x26_2 p218 q218
            cases e218
            (try replace hx218_0 := (HB.out.cell (World.block_lt_of_cell? w _ hx218_0)).trans hx218_0)
            replace p218 := eq_true p218
            replace q218 := eq_true q218
            go_wp2_with (first | ((with_reducible refine gate_callee (f := 51) rfl ?_); refine goesL_ (some 33) rfl rfl Try.func51 (by kernel_rfl) rfl #[.int .i64 (rd l1 x26_2), .int .i64 0, .int .i64 10000] rfl (by (try simp only [List.map_toArray, List.map_cons, List.map_nil]); first | done | rfl | (simp only [List.length_drop, List.length_take]; rfl)) ?_; (with_reducible refine (impl_inRange.calls (rd l1 x26_2) 0 10000 true _ A12.out).mono ?_); rintro e w' ⟨rfl, ⟨nd, rfl⟩⟩; refine ⟨_, rfl, ?_⟩; have p220 : 0 ≤ (x26_2 : Int) := of_decide_eq_true (by first | (with_reducible assumption) | assumption); have q220 : x26_2 < (l2.length : Int) := of_decide_eq_true (by first | (with_reducible assumption) | assumption); obtain ⟨ad220, e220, hx220_0⟩ := Kd.at_int HR2.out x26_2 p220 q220; cases e220; (try replace hx220_0 := (HB.out.cell (World.block_lt_of_cell? w _ hx220_0)).trans hx220_0); replace p220 := eq_true p220; replace q220 := eq_true q220) | (go_at_call 51; (with_reducible refine (impl_inRange.calls (rd l2 x26_2) 0 1000 false _ A15.out).mono ?_); rintro e w' ⟨rfl, ⟨nd, rfl⟩⟩))
            go_ret2
            exact ⟨_, by first | rfl | (simp [errW_none, errW_some] <;> rfl) | (simp [*, errW_none, errW_some] <;> rfl), by first | exact Kd.R_nil _ _ _ _ _ | exact Kd.N_nil _ _ _ _ _ | exact Kd.V_nil _ _ _ _ _ | exact Kd.Q_nil _ _ _ _ _ | exact Kd.S_nil _ _ _ _ _, bw_ HB.out⟩
          ·rw [if_neg c14] at H
           exact absurd H (by simp)
         ·replace c13 := Bool.eq_false_iff.mpr c13
          subst c13
          replace H := if_ H Bool.false_ne_true
          simp only [Option.some.injEq, Prod.mk.injEq] at H
          obtain ⟨rfl, rfl⟩ := H
          have p218 : 0 ≤ (x26_2 : Int) := of_decide_eq_true (by first | (with_reducible assumption) | assumption)
          have q218 : x26_2 < (l1.length : Int) := of_decide_eq_true (by first | (with_reducible assumption) | assumption)
          obtain ⟨ad218, e218, hx218_0⟩ := Kd.at_int HR1.out x26_2 p218 q218
          cases e218
          (try replace hx218_0 := (HB.out.cell (World.block_lt_of_cell? w _ hx218_0)).trans hx218_0)
          replace p218 := eq_true p218
          replace q218 := eq_true q218
          go_wp2_with (first | ((with_reducible refine gate_callee (f := 51) rfl ?_); refine goesL_ (some 33) rfl rfl Try.func51 (by kernel_rfl) rfl #[.int .i64 (rd l1 x26_2), .int .i64 0, .int .i64 10000] rfl (by (try simp only [List.map_toArray, List.map_cons, List.map_nil]); first | done | rfl | (simp only [List.length_drop, List.length_take]; rfl)) ?_; (with_reducible refine (impl_inRange.calls (rd l1 x26_2) 0 10000 false _ A12.out).mono ?_); rintro e w' ⟨rfl, ⟨nd, rfl⟩⟩; refine ⟨_, rfl, ?_⟩))
          go_ret2
          exact ⟨_, by first | rfl | (simp [errW_none, errW_some] <;> rfl) | (simp [*, errW_none, errW_some] <;> rfl), by first | exact Kd.R_nil _ _ _ _ _ | exact Kd.N_nil _ _ _ _ _ | exact Kd.V_nil _ _ _ _ _ | exact Kd.Q_nil _ _ _ _ _ | exact Kd.S_nil _ _ _ _ _, bw_ HB.out⟩
        ·rw [if_neg c11] at H
         exact absurd H (by simp)
       ·rw [if_neg c10] at H
        exact absurd H (by simp)
      ·rw [if_neg c9] at H
       have c9b0 : decide (x26_2 < (l1.length : Int)) = false := decide_eq_false c9
       clear c9
       obtain ⟨t215, A170, H⟩ := bE_ H
       have A17 := Aside0.mk A170
       clear A170
       simp only [Option.some.injEq, Prod.mk.injEq] at H
       obtain ⟨rfl, rfl⟩ := H
       go_wp2_with (first | ((with_reducible refine gate_callee (f := 69) rfl ?_); refine goesL_ (some 47) rfl rfl Try.func69 (by kernel_rfl) rfl #[.int .i64 a0, .slice A1 l1.length c1, .slice A2 l2.length c2] rfl (by (try simp only [List.map_toArray, List.map_cons, List.map_nil]); first | done | rfl | (simp only [List.length_drop, List.length_take]; rfl)) ?_; (with_reducible refine (impl_share.calls k2 a0 _ _ l1 _ _ l2 t215 _ ?side1 ?side2 ?side3 ?side4 A17.out).mono ?_); (case side1 => repeat (first | exact (Kd.C_below HR1.out HB.out) | (with_reducible refine Kd.C_alloc ?_ _) | (with_reducible refine Kd.C_drewN ?_ _) | (with_reducible refine Kd.C_drew ?_))); (case side2 => exact HC1.out); (case side3 => repeat (first | exact (Kd.C_below HR2.out HB.out) | (with_reducible refine Kd.C_alloc ?_ _) | (with_reducible refine Kd.C_drewN ?_ _) | (with_reducible refine Kd.C_drew ?_))); (case side4 => exact HC2.out); rintro e w18 ⟨v216, rfl, ho0, hb⟩; refine ⟨_, rfl, ?_⟩; have n0_ := Aside0.mk (Kd.R_lower ho0 (below_size (bw_ HB.out))); have n1_ := Aside0.mk (below_step (bw_ HB.out) hb); clear HB; have HO217 := n0_; have HB := n1_; clear n0_ n1_; (try clear hb); (try clear hb2); (try clear hk); (try clear hi); (try clear ho0)))
       go_ret2
       exact ⟨_, by first | rfl | (simp [errW_none, errW_some] <;> rfl) | (simp [*, errW_none, errW_some] <;> rfl), by (with_reducible repeat (first | apply Kd.R_alloc | apply Kd.R_drewN | apply Kd.R_drew)); exact HO217.out, bw_ HB.out⟩

/-! ### laws_FnExactShareRoom: function 8 -/
def laws_FnExactShareRoom.f (k : Nat) (a0 : Int) (l1 : List Int) (l2 : List Int) : Option (Bool) := if (l1.length : Int) > 1048576 then some true else (if (l2.length : Int) > 1048576 then some true else ((laws_toIntS.f k l1).bind fun t1 => (laws_toIntS.f k l2).bind fun t3 => (spec_ShareRoom.f k a0 t1 t3).bind fun t5 => (laws_toIntS.f k l1).bind fun t7 => (laws_toIntS.f k l2).bind fun t9 => (impl_ShareRoom.f k a0 t7 t9).bind fun t11 => (laws_eqIntS.f k t11.1 t5.1).bind fun t13 => if t13 = true then (if t11.2 = t5.2 then ((laws_toIntS.f k l1).bind fun t14 => (laws_eqIntS.f k t7 t14).bind fun t16 => if t16 = true then ((laws_toIntS.f k l2).bind fun t17 => (laws_eqIntS.f k t9 t17).bind fun t19 => if t19 = true then ((laws_markIntS.f k t7 1).bind fun t20 => (laws_markIntS.f k t9 t20.1).bind fun t21 => if ¬ (t21.1 < 0) then ((laws_eqIntS.f k t11.1 t5.1).bind fun t22 => if t22 = true then (if t11.2 = t5.2 then ((laws_markIntS.f k t11.1 1).bind fun t23 => (laws_heldIntS.f k t23.2 1).bind fun t24 => if ¬ (t24 < 0) then (if t24 = t23.1 then ((laws_toIntS.f k l1).bind fun t25 => (laws_toIntS.f k l2).bind fun t27 => (impl_ShareRoom.f k a0 t25 t27).bind fun t29 => (laws_eqIntS.f k t29.1 t5.1).bind fun t31 => if t31 = true then (if t29.2 = t5.2 then ((laws_heldIntS.f k t23.2 1).bind fun t32 => if ¬ (t32 < 0) then (if t32 = t23.1 then (some true) else none) else none) else none) else none) else none) else none) else none) else none) else none) else none) else none) else none) else none))
theorem laws_FnExactShareRoom.mono : ∀ a0 a1 a2 k, LeO (laws_FnExactShareRoom.f k a0 a1 a2) (laws_FnExactShareRoom.f (k + 1) a0 a1 a2) := by
  intro a0 a1 a2 k
  unfold laws_FnExactShareRoom.f
  repeat' first
  | (with_reducible exact laws_eqIntS.mono _ _ _)
  | (with_reducible exact laws_markIntS.mono _ _ _)
  | (with_reducible exact laws_heldIntS.mono _ _ _)
  | (with_reducible exact spec_ShareRoom.mono _ _ _ _)
  | (with_reducible exact laws_toIntS.mono _ _)
  | (with_reducible exact impl_ShareRoom.mono _ _ _ _)
  | (with_reducible exact LeO.refl _)
  | (with_reducible exact LeO.none _)
  | (with_reducible refine LeO.ite ?_ ?_)
  | refine LeO.bind ?_ (fun _ => ?_)
  | exact LeO.none _
set_option maxHeartbeats 8000000 in
set_option maxRecDepth 100000 in
theorem laws_FnExactShareRoom.calls (k : Nat) (a0 : Int) (A1 : Option Addr) (c1 : Nat) (l1 : List Int) (A2 : Option Addr) (c2 : Nat) (l2 : List Int) (r : Bool) (w : World) (hr1 : Kd.C (Kd.int .i64) w A1 l1.length l1) (hc1 : l1.length ≤ c1) (hr2 : Kd.C (Kd.int .i64) w A2 l2.length l2) (hc2 : l2.length ≤ c2) (h : laws_FnExactShareRoom.f k a0 l1 l2 = some r) :
    Calls Try.prog 8 #[.int .i64 a0, .slice A1 l1.length c1, .slice A2 l2.length c2] w fun e w' => e = .returned (.bool r) ∧ Below w.heap.size w w' := by
  have HR1 := Aside0.mk hr1
  have HC1 := Aside0.mk hc1
  clear hr1 hc1
  have HR2 := Aside0.mk hr2
  have HC2 := Aside0.mk hc2
  clear hr2 hc2
  have HB := Aside0.mk (Below.refl w.heap.size w)
  unfold laws_FnExactShareRoom.f at h
  have H := h
  clear h
  by_cases c_ : (l1.length : Int) > 1048576
  · rw [if_pos c_] at H
    have fb33 : decide ((l1.length : Int) > 1048576) = true := decide_eq_true c_
    have fb34 : decide (1048576 < (l1.length : Int)) = true := decide_eq_true (by omega)
    have fb35 : decide (l1.length > 1048576) = true := decide_eq_true (by omega)
    have fb36 : decide (1048576 < l1.length) = true := decide_eq_true (by omega)
    clear c_
    obtain rfl := Option.some.inj H
    go_enter Try.func8, Try.ntmps8
    go_wp2
    go_ret
    exact ⟨rfl, HB.out⟩
  rw [if_neg c_] at H
  have fb37 : decide ((l1.length : Int) > 1048576) = false := decide_eq_false c_
  have fb38 : decide (1048576 < (l1.length : Int)) = false := decide_eq_false (by omega)
  have fb39 : decide (l1.length > 1048576) = false := decide_eq_false (by omega)
  have fb40 : decide (1048576 < l1.length) = false := decide_eq_false (by omega)
  clear c_
  by_cases c_ : (l2.length : Int) > 1048576
  · rw [if_pos c_] at H
    have fb41 : decide ((l2.length : Int) > 1048576) = true := decide_eq_true c_
    have fb42 : decide (1048576 < (l2.length : Int)) = true := decide_eq_true (by omega)
    have fb43 : decide (l2.length > 1048576) = true := decide_eq_true (by omega)
    have fb44 : decide (1048576 < l2.length) = true := decide_eq_true (by omega)
    clear c_
    obtain rfl := Option.some.inj H
    go_enter Try.func8, Try.ntmps8
    go_wp2
    go_ret
    exact ⟨rfl, HB.out⟩
  rw [if_neg c_] at H
  have fb45 : decide ((l2.length : Int) > 1048576) = false := decide_eq_false c_
  have fb46 : decide (1048576 < (l2.length : Int)) = false := decide_eq_false (by omega)
  have fb47 : decide (l2.length > 1048576) = false := decide_eq_false (by omega)
  have fb48 : decide (1048576 < l2.length) = false := decide_eq_false (by omega)
  clear c_
  replace H := bE_ H
  obtain ⟨t1, hA1, H⟩ := H
  have A1 := Aside0.mk hA1
  clear hA1
  replace H := bE_ H
  obtain ⟨t3, hA3, H⟩ := H
  have A3 := Aside0.mk hA3
  clear hA3
  replace H := bE_ H
  obtain ⟨⟨t5_0, t5_1⟩, hA5, H⟩ := H
  try dsimp only at H
  have A5 := Aside0.mk hA5
  clear hA5
  replace H := bE_ H
  obtain ⟨t7, hA7, H⟩ := H
  have A7 := Aside0.mk hA7
  clear hA7
  replace H := bE_ H
  obtain ⟨t9, hA9, H⟩ := H
  have A9 := Aside0.mk hA9
  clear hA9
  replace H := bE_ H
  obtain ⟨⟨t11_0, t11_1⟩, hA11, H⟩ := H
  try dsimp only at H
  have A11 := Aside0.mk hA11
  clear hA11
  replace H := bE_ H
  obtain ⟨t13, hA13, H⟩ := H
  have A13 := Aside0.mk hA13
  clear hA13
  replace H := nd_ H
  obtain ⟨c_, H⟩ := H
  subst c_
  replace H := nd_ H
  obtain ⟨c_, H⟩ := H
  subst c_
  first | have fb49 : (t11_1 == t11_1) = true := beq_self_eq_true _ | have fb49 : (t11_1.toList == t11_1.toList) = true := beq_self_eq_true _
  first | have fb50 : (t11_1 != t11_1) = false := by simp | have fb50 : (t11_1.toList != t11_1.toList) = false := by simp
  replace H := bE_ H
  obtain ⟨t14, hA14, H⟩ := H
  have A14 := Aside0.mk hA14
  clear hA14
  replace H := bE_ H
  obtain ⟨t16, hA16, H⟩ := H
  have A16 := Aside0.mk hA16
  clear hA16
  replace H := nd_ H
  obtain ⟨c_, H⟩ := H
  subst c_
  replace H := bE_ H
  obtain ⟨t17, hA17, H⟩ := H
  have A17 := Aside0.mk hA17
  clear hA17
  replace H := bE_ H
  obtain ⟨t19, hA19, H⟩ := H
  have A19 := Aside0.mk hA19
  clear hA19
  replace H := nd_ H
  obtain ⟨c_, H⟩ := H
  subst c_
  replace H := bE_ H
  obtain ⟨⟨t20_0, t20_1⟩, hA20, H⟩ := H
  try dsimp only at H
  have A20 := Aside0.mk hA20
  clear hA20
  replace H := bE_ H
  obtain ⟨⟨t21_0, t21_1⟩, hA21, H⟩ := H
  try dsimp only at H
  have A21 := Aside0.mk hA21
  clear hA21
  replace H := nd_ H
  obtain ⟨c_, H⟩ := H
  have fb51 : decide (t21_0 < 0) = false := decide_eq_false c_
  clear c_
  replace H := bE_ H
  obtain ⟨t22, hA22, H⟩ := H
  have A22 := Aside0.mk hA22
  clear hA22
  replace H := nd_ H
  obtain ⟨c_, H⟩ := H
  subst c_
  replace H := nd_ H
  obtain ⟨c_, H⟩ := H
  clear c_
  replace H := bE_ H
  obtain ⟨⟨t23_0, t23_1⟩, hA23, H⟩ := H
  try dsimp only at H
  have A23 := Aside0.mk hA23
  clear hA23
  replace H := bE_ H
  obtain ⟨t24, hA24, H⟩ := H
  have A24 := Aside0.mk hA24
  clear hA24
  replace H := nd_ H
  obtain ⟨c_, H⟩ := H
  have fb52 : decide (t24 < 0) = false := decide_eq_false c_
  clear c_
  replace H := nd_ H
  obtain ⟨c_, H⟩ := H
  subst c_
  first | have fb53 : (t24 == t24) = true := beq_self_eq_true _ | have fb53 : (t24.toList == t24.toList) = true := beq_self_eq_true _
  first | have fb54 : (t24 != t24) = false := by simp | have fb54 : (t24.toList != t24.toList) = false := by simp
  replace H := bE_ H
  obtain ⟨t25, hA25, H⟩ := H
  have A25 := Aside0.mk hA25
  clear hA25
  replace H := bE_ H
  obtain ⟨t27, hA27, H⟩ := H
  have A27 := Aside0.mk hA27
  clear hA27
  replace H := bE_ H
  obtain ⟨⟨t29_0, t29_1⟩, hA29, H⟩ := H
  try dsimp only at H
  have A29 := Aside0.mk hA29
  clear hA29
  replace H := bE_ H
  obtain ⟨t31, hA31, H⟩ := H
  have A31 := Aside0.mk hA31
  clear hA31
  replace H := nd_ H
  obtain ⟨c_, H⟩ := H
  subst c_
  replace H := nd_ H
  obtain ⟨c_, H⟩ := H
  subst c_
  first | have fb55 : (t29_1 == t29_1) = true := beq_self_eq_true _ | have fb55 : (t29_1.toList == t29_1.toList) = true := beq_self_eq_true _
  first | have fb56 : (t29_1 != t29_1) = false := by simp | have fb56 : (t29_1.toList != t29_1.toList) = false := by simp
  replace H := bE_ H
  obtain ⟨t32, hA32, H⟩ := H
  have A32 := Aside0.mk hA32
  clear hA32
  replace H := nd_ H
  obtain ⟨c_, H⟩ := H
  have fb57 : decide (t32 < 0) = false := decide_eq_false c_
  clear c_
  replace H := nd_ H
  obtain ⟨c_, H⟩ := H
  subst c_
  first | have fb58 : (t32 == t32) = true := beq_self_eq_true _ | have fb58 : (t32.toList == t32.toList) = true := beq_self_eq_true _
  first | have fb59 : (t32 != t32) = false := by simp | have fb59 : (t32.toList != t32.toList) = false := by simp
  obtain rfl := Option.some.inj H
  go_enter Try.func8, Try.ntmps8
  go_wp2_with (first | (go_at_call 33; (with_reducible refine (laws_toIntS.calls k _ _ l1 t1 _ ?sd1_1 ?sd1_2 A1.out).mono ?_); (case sd1_1 => exact Kd.C_below HR1.out HB.out); (case sd1_2 => exact HC1.out); rintro e w1001 ⟨v_2, rfl, ho0, hb⟩; have hs_ := below_size HB.out; have n0_ := Aside0.mk (below_step HB.out hb); have SZ1 := Aside0.mk (show w.heap.size ≤ w1001.heap.size from (hb).size); clear HB; have HB := n0_; clear n0_; have HO2 := Aside0.mk (R_zone ho0 hs_); clear ho0; obtain ⟨A_2, c_2, e_2⟩ := Kd.R_slice HO2.out; subst e_2; clear hb hs_) | (go_at_call 33; (with_reducible refine (laws_toIntS.calls k _ _ l2 t3 _ ?sd3_1 ?sd3_2 A3.out).mono ?_); (case sd3_1 => exact Kd.C_below HR2.out HB.out); (case sd3_2 => exact HC2.out); rintro e w1003 ⟨v_4, rfl, ho0, hb⟩; have hs_ := below_size HB.out; have n0_ := Aside0.mk (below_step HB.out hb); have n1_ := Aside0.mk (Kd.R_below HO2.out hb); have SZ2 := Aside0.mk (show w1001.heap.size ≤ w1003.heap.size from (hb).size); clear HB HO2; have HB := n0_; have HO2 := n1_; clear n0_ n1_; have HO4 := Aside0.mk (R_zone ho0 hs_); clear ho0; obtain ⟨A_4, c_4, e_4⟩ := Kd.R_slice HO4.out; subst e_4; clear hb hs_) | (go_at_call 32; (with_reducible refine (spec_ShareRoom.calls k a0 _ _ t1 _ _ t3 t5_0 t29_1 _ ?sd5_1 ?sd5_2 ?sd5_3 ?sd5_4 A5.out).mono ?_); (case sd5_1 => exact (Kd.R_reads' HO2.out).2.2); (case sd5_2 => exact (Kd.R_reads' HO2.out).2.1); (case sd5_3 => exact (Kd.R_reads' HO4.out).2.2); (case sd5_4 => exact (Kd.R_reads' HO4.out).2.1); rintro e w1005 ⟨v_6, rfl, ho0, hb⟩; have hs_ := below_size HB.out; have n0_ := Aside0.mk (below_step HB.out hb); have n1_ := Aside0.mk (Kd.R_below HO2.out hb); have n2_ := Aside0.mk (Kd.R_below HO4.out hb); have SZ3 := Aside0.mk (show w1003.heap.size ≤ w1005.heap.size from (hb).size); clear HB HO2 HO4; have HB := n0_; have HO2 := n1_; have HO4 := n2_; clear n0_ n1_ n2_; have HO6 := Aside0.mk (R_zone ho0 hs_); clear ho0; obtain ⟨A_6, c_6, e_6⟩ := Kd.R_slice HO6.out; subst e_6; clear hb hs_) | (go_at_call 33; (with_reducible refine (laws_toIntS.calls k _ _ l1 t7 _ ?sd7_1 ?sd7_2 A7.out).mono ?_); (case sd7_1 => exact Kd.C_below HR1.out HB.out); (case sd7_2 => exact HC1.out); rintro e w1007 ⟨v_8, rfl, ho0, hb⟩; have hs_ := below_size HB.out; have n0_ := Aside0.mk (below_step HB.out hb); have n1_ := Aside0.mk (Kd.R_below HO2.out hb); have n2_ := Aside0.mk (Kd.R_below HO4.out hb); have n3_ := Aside0.mk (Kd.R_below HO6.out hb); have SZ4 := Aside0.mk (show w1005.heap.size ≤ w1007.heap.size from (hb).size); clear HB HO2 HO4 HO6; have HB := n0_; have HO2 := n1_; have HO4 := n2_; have HO6 := n3_; clear n0_ n1_ n2_ n3_; have HO8 := Aside0.mk (R_zone ho0 hs_); clear ho0; obtain ⟨A_8, c_8, e_8⟩ := Kd.R_slice HO8.out; subst e_8; clear hb hs_) | (go_at_call 33; (with_reducible refine (laws_toIntS.calls k _ _ l2 t9 _ ?sd9_1 ?sd9_2 A9.out).mono ?_); (case sd9_1 => exact Kd.C_below HR2.out HB.out); (case sd9_2 => exact HC2.out); rintro e w1009 ⟨v_10, rfl, ho0, hb⟩; have hs_ := below_size HB.out; have n0_ := Aside0.mk (below_step HB.out hb); have n1_ := Aside0.mk (Kd.R_below HO2.out hb); have n2_ := Aside0.mk (Kd.R_below HO4.out hb); have n3_ := Aside0.mk (Kd.R_below HO6.out hb); have n4_ := Aside0.mk (Kd.R_below HO8.out hb); have SZ5 := Aside0.mk (show w1007.heap.size ≤ w1009.heap.size from (hb).size); clear HB HO2 HO4 HO6 HO8; have HB := n0_; have HO2 := n1_; have HO4 := n2_; have HO6 := n3_; have HO8 := n4_; clear n0_ n1_ n2_ n3_ n4_; have HO10 := Aside0.mk (R_zone ho0 hs_); clear ho0; obtain ⟨A_10, c_10, e_10⟩ := Kd.R_slice HO10.out; subst e_10; clear hb hs_) | (go_at_call 34; (with_reducible refine (impl_ShareRoom.calls k a0 _ _ t7 _ _ t9 t11_0 t29_1 _ ?sd11_1 ?sd11_2 ?sd11_3 ?sd11_4 A11.out).mono ?_); (case sd11_1 => exact (Kd.R_reads' HO8.out).2.2); (case sd11_2 => exact (Kd.R_reads' HO8.out).2.1); (case sd11_3 => exact (Kd.R_reads' HO10.out).2.2); (case sd11_4 => exact (Kd.R_reads' HO10.out).2.1); rintro e w1011 ⟨v_12, rfl, ho0, hb⟩; have hs_ := below_size HB.out; have n0_ := Aside0.mk (below_step HB.out hb); have n1_ := Aside0.mk (Kd.R_below HO2.out hb); have n2_ := Aside0.mk (Kd.R_below HO4.out hb); have n3_ := Aside0.mk (Kd.R_below HO6.out hb); have n4_ := Aside0.mk (Kd.R_below HO8.out hb); have n5_ := Aside0.mk (Kd.R_below HO10.out hb); have SZ6 := Aside0.mk (show w1009.heap.size ≤ w1011.heap.size from (hb).size); clear HB HO2 HO4 HO6 HO8 HO10; have HB := n0_; have HO2 := n1_; have HO4 := n2_; have HO6 := n3_; have HO8 := n4_; have HO10 := n5_; clear n0_ n1_ n2_ n3_ n4_ n5_; have HO12 := Aside0.mk (R_zone ho0 hs_); clear ho0; obtain ⟨A_12, c_12, e_12⟩ := Kd.R_slice HO12.out; subst e_12; clear hb hs_) | (go_at_call 25; (with_reducible refine (laws_eqIntS.calls k _ _ t11_0 _ _ t5_0 true _ ?sd13_1 ?sd13_2 ?sd13_3 ?sd13_4 A13.out).mono ?_); (case sd13_1 => exact (Kd.R_reads' HO12.out).2.2); (case sd13_2 => exact (Kd.R_reads' HO12.out).2.1); (case sd13_3 => exact (Kd.R_reads' HO6.out).2.2); (case sd13_4 => exact (Kd.R_reads' HO6.out).2.1); rintro e w1013 ⟨rfl, hd⟩; have hb := hd.below; clear hd; have hs_ := below_size HB.out; have n0_ := Aside0.mk (below_step HB.out hb); have n1_ := Aside0.mk (Kd.R_below HO2.out hb); have n2_ := Aside0.mk (Kd.R_below HO4.out hb); have n3_ := Aside0.mk (Kd.R_below HO6.out hb); have n4_ := Aside0.mk (Kd.R_below HO8.out hb); have n5_ := Aside0.mk (Kd.R_below HO10.out hb); have n6_ := Aside0.mk (Kd.R_below HO12.out hb); have SZ7 := Aside0.mk (show w1011.heap.size ≤ w1013.heap.size from (hb).size); clear HB HO2 HO4 HO6 HO8 HO10 HO12; have HB := n0_; have HO2 := n1_; have HO4 := n2_; have HO6 := n3_; have HO8 := n4_; have HO10 := n5_; have HO12 := n6_; clear n0_ n1_ n2_ n3_ n4_ n5_ n6_; clear hb hs_) | (go_at_call 33; (with_reducible refine (laws_toIntS.calls k _ _ l1 t14 _ ?sd14_1 ?sd14_2 A14.out).mono ?_); (case sd14_1 => exact Kd.C_below HR1.out HB.out); (case sd14_2 => exact HC1.out); rintro e w1014 ⟨v_15, rfl, ho0, hb⟩; have hs_ := below_size HB.out; have n0_ := Aside0.mk (below_step HB.out hb); have n1_ := Aside0.mk (Kd.R_below HO2.out hb); have n2_ := Aside0.mk (Kd.R_below HO4.out hb); have n3_ := Aside0.mk (Kd.R_below HO6.out hb); have n4_ := Aside0.mk (Kd.R_below HO8.out hb); have n5_ := Aside0.mk (Kd.R_below HO10.out hb); have n6_ := Aside0.mk (Kd.R_below HO12.out hb); have SZ8 := Aside0.mk (show w1013.heap.size ≤ w1014.heap.size from (hb).size); clear HB HO2 HO4 HO6 HO8 HO10 HO12; have HB := n0_; have HO2 := n1_; have HO4 := n2_; have HO6 := n3_; have HO8 := n4_; have HO10 := n5_; have HO12 := n6_; clear n0_ n1_ n2_ n3_ n4_ n5_ n6_; have HO15 := Aside0.mk (R_zone ho0 hs_); clear ho0; obtain ⟨A_15, c_15, e_15⟩ := Kd.R_slice HO15.out; subst e_15; clear hb hs_) | (go_at_call 25; (with_reducible refine (laws_eqIntS.calls k _ _ t7 _ _ t14 true _ ?sd16_1 ?sd16_2 ?sd16_3 ?sd16_4 A16.out).mono ?_); (case sd16_1 => exact (Kd.R_reads' HO8.out).2.2); (case sd16_2 => exact (Kd.R_reads' HO8.out).2.1); (case sd16_3 => exact (Kd.R_reads' HO15.out).2.2); (case sd16_4 => exact (Kd.R_reads' HO15.out).2.1); rintro e w1016 ⟨rfl, hd⟩; have hb := hd.below; clear hd; have hs_ := below_size HB.out; have n0_ := Aside0.mk (below_step HB.out hb); have n1_ := Aside0.mk (Kd.R_below HO2.out hb); have n2_ := Aside0.mk (Kd.R_below HO4.out hb); have n3_ := Aside0.mk (Kd.R_below HO6.out hb); have n4_ := Aside0.mk (Kd.R_below HO8.out hb); have n5_ := Aside0.mk (Kd.R_below HO10.out hb); have n6_ := Aside0.mk (Kd.R_below HO12.out hb); have n7_ := Aside0.mk (Kd.R_below HO15.out hb); have SZ9 := Aside0.mk (show w1014.heap.size ≤ w1016.heap.size from (hb).size); clear HB HO2 HO4 HO6 HO8 HO10 HO12 HO15; have HB := n0_; have HO2 := n1_; have HO4 := n2_; have HO6 := n3_; have HO8 := n4_; have HO10 := n5_; have HO12 := n6_; have HO15 := n7_; clear n0_ n1_ n2_ n3_ n4_ n5_ n6_ n7_; clear hb hs_) | (go_at_call 33; (with_reducible refine (laws_toIntS.calls k _ _ l2 t17 _ ?sd17_1 ?sd17_2 A17.out).mono ?_); (case sd17_1 => exact Kd.C_below HR2.out HB.out); (case sd17_2 => exact HC2.out); rintro e w1017 ⟨v_18, rfl, ho0, hb⟩; have hs_ := below_size HB.out; have n0_ := Aside0.mk (below_step HB.out hb); have n1_ := Aside0.mk (Kd.R_below HO2.out hb); have n2_ := Aside0.mk (Kd.R_below HO4.out hb); have n3_ := Aside0.mk (Kd.R_below HO6.out hb); have n4_ := Aside0.mk (Kd.R_below HO8.out hb); have n5_ := Aside0.mk (Kd.R_below HO10.out hb); have n6_ := Aside0.mk (Kd.R_below HO12.out hb); have n7_ := Aside0.mk (Kd.R_below HO15.out hb); have SZ10 := Aside0.mk (show w1016.heap.size ≤ w1017.heap.size from (hb).size); clear HB HO2 HO4 HO6 HO8 HO10 HO12 HO15; have HB := n0_; have HO2 := n1_; have HO4 := n2_; have HO6 := n3_; have HO8 := n4_; have HO10 := n5_; have HO12 := n6_; have HO15 := n7_; clear n0_ n1_ n2_ n3_ n4_ n5_ n6_ n7_; have HO18 := Aside0.mk (R_zone ho0 hs_); clear ho0; obtain ⟨A_18, c_18, e_18⟩ := Kd.R_slice HO18.out; subst e_18; clear hb hs_) | (go_at_call 25; (with_reducible refine (laws_eqIntS.calls k _ _ t9 _ _ t17 true _ ?sd19_1 ?sd19_2 ?sd19_3 ?sd19_4 A19.out).mono ?_); (case sd19_1 => exact (Kd.R_reads' HO10.out).2.2); (case sd19_2 => exact (Kd.R_reads' HO10.out).2.1); (case sd19_3 => exact (Kd.R_reads' HO18.out).2.2); (case sd19_4 => exact (Kd.R_reads' HO18.out).2.1); rintro e w1019 ⟨rfl, hd⟩; have hb := hd.below; clear hd; have hs_ := below_size HB.out; have n0_ := Aside0.mk (below_step HB.out hb); have n1_ := Aside0.mk (Kd.R_below HO2.out hb); have n2_ := Aside0.mk (Kd.R_below HO4.out hb); have n3_ := Aside0.mk (Kd.R_below HO6.out hb); have n4_ := Aside0.mk (Kd.R_below HO8.out hb); have n5_ := Aside0.mk (Kd.R_below HO10.out hb); have n6_ := Aside0.mk (Kd.R_below HO12.out hb); have n7_ := Aside0.mk (Kd.R_below HO15.out hb); have n8_ := Aside0.mk (Kd.R_below HO18.out hb); have SZ11 := Aside0.mk (show w1017.heap.size ≤ w1019.heap.size from (hb).size); clear HB HO2 HO4 HO6 HO8 HO10 HO12 HO15 HO18; have HB := n0_; have HO2 := n1_; have HO4 := n2_; have HO6 := n3_; have HO8 := n4_; have HO10 := n5_; have HO12 := n6_; have HO15 := n7_; have HO18 := n8_; clear n0_ n1_ n2_ n3_ n4_ n5_ n6_ n7_ n8_; clear hb hs_) | (go_at_call 26; (with_reducible refine (laws_markIntS.calls k (Zone w1005 w1007 (3 :: ((Kd.int .i64)).E)) (.slice A_8 t7.length c_8) t7 1 t20_0 t20_1 w _ ?sd20_1 ?sd20_2 A20.out).mono ?_); (case sd20_1 => exact HB.out); (case sd20_2 => exact HO8.out); rintro e w1020 ⟨rfl, hy0, hb, hkp⟩; have n0_ := Aside0.mk (hb); have n1_ := Aside0.mk (Kd.R_step HO2.out (fun k_ h_ hlt_ => hkp.2 k_ hlt_ (fun e_ => (show False from Zone.apart h_ e_ (by have := SZ2.out; have := SZ3.out; first | exact .inl (by omega) | exact .inr (by omega))).elim))); have n2_ := Aside0.mk (Kd.R_step HO4.out (fun k_ h_ hlt_ => hkp.2 k_ hlt_ (fun e_ => (show False from Zone.apart h_ e_ (by have := SZ3.out; first | exact .inl (by omega) | exact .inr (by omega))).elim))); have n3_ := Aside0.mk (Kd.R_step HO6.out (fun k_ h_ hlt_ => hkp.2 k_ hlt_ (fun e_ => (show False from Zone.apart h_ e_ (by first | exact .inl (by omega) | exact .inr (by omega))).elim))); have n4_ := Aside0.mk (Kd.R_reok rfl hy0 HO8.out.1); have n5_ := Aside0.mk (Kd.R_step HO10.out (fun k_ h_ hlt_ => hkp.2 k_ hlt_ (fun e_ => (show False from Zone.apart h_ e_ (by first | exact .inl (by omega) | exact .inr (by omega))).elim))); have n6_ := Aside0.mk (Kd.R_step HO12.out (fun k_ h_ hlt_ => hkp.2 k_ hlt_ (fun e_ => (show False from Zone.apart h_ e_ (by have := SZ5.out; first | exact .inl (by omega) | exact .inr (by omega))).elim))); have n7_ := Aside0.mk (Kd.R_step HO15.out (fun k_ h_ hlt_ => hkp.2 k_ hlt_ (fun e_ => (show False from Zone.apart h_ e_ (by have := SZ5.out; have := SZ6.out; have := SZ7.out; first | exact .inl (by omega) | exact .inr (by omega))).elim))); have n8_ := Aside0.mk (Kd.R_step HO18.out (fun k_ h_ hlt_ => hkp.2 k_ hlt_ (fun e_ => (show False from Zone.apart h_ e_ (by have := SZ5.out; have := SZ6.out; have := SZ7.out; have := SZ8.out; have := SZ9.out; first | exact .inl (by omega) | exact .inr (by omega))).elim))); have SZ12 := Aside0.mk (show w1019.heap.size ≤ w1020.heap.size from hkp.1); clear HB HO2 HO4 HO6 HO8 HO10 HO12 HO15 HO18; have HB := n0_; have HO2 := n1_; have HO4 := n2_; have HO6 := n3_; have HO8 := n4_; have HO10 := n5_; have HO12 := n6_; have HO15 := n7_; have HO18 := n8_; clear n0_ n1_ n2_ n3_ n4_ n5_ n6_ n7_ n8_; clear hb hkp hy0) | (go_at_call 26; (with_reducible refine (laws_markIntS.calls k (Zone w1007 w1009 (3 :: ((Kd.int .i64)).E)) (.slice A_10 t9.length c_10) t9 t20_0 t21_0 t21_1 w _ ?sd21_1 ?sd21_2 A21.out).mono ?_); (case sd21_1 => exact HB.out); (case sd21_2 => exact HO10.out); rintro e w1021 ⟨rfl, hy0, hb, hkp⟩; have n0_ := Aside0.mk (hb); have n1_ := Aside0.mk (Kd.R_step HO2.out (fun k_ h_ hlt_ => hkp.2 k_ hlt_ (fun e_ => (show False from Zone.apart h_ e_ (by have := SZ2.out; have := SZ3.out; have := SZ4.out; first | exact .inl (by omega) | exact .inr (by omega))).elim))); have n2_ := Aside0.mk (Kd.R_step HO4.out (fun k_ h_ hlt_ => hkp.2 k_ hlt_ (fun e_ => (show False from Zone.apart h_ e_ (by have := SZ3.out; have := SZ4.out; first | exact .inl (by omega) | exact .inr (by omega))).elim))); have n3_ := Aside0.mk (Kd.R_step HO6.out (fun k_ h_ hlt_ => hkp.2 k_ hlt_ (fun e_ => (show False from Zone.apart h_ e_ (by have := SZ4.out; first | exact .inl (by omega) | exact .inr (by omega))).elim))); have n4_ := Aside0.mk (Kd.R_step HO8.out (fun k_ h_ hlt_ => hkp.2 k_ hlt_ (fun e_ => (show False from Zone.apart h_ e_ (by first | exact .inl (by omega) | exact .inr (by omega))).elim))); have n5_ := Aside0.mk (Kd.R_reok rfl hy0 HO10.out.1); have n6_ := Aside0.mk (Kd.R_step HO12.out (fun k_ h_ hlt_ => hkp.2 k_ hlt_ (fun e_ => (show False from Zone.apart h_ e_ (by first | exact .inl (by omega) | exact .inr (by omega))).elim))); have n7_ := Aside0.mk (Kd.R_step HO15.out (fun k_ h_ hlt_ => hkp.2 k_ hlt_ (fun e_ => (show False from Zone.apart h_ e_ (by have := SZ6.out; have := SZ7.out; first | exact .inl (by omega) | exact .inr (by omega))).elim))); have n8_ := Aside0.mk (Kd.R_step HO18.out (fun k_ h_ hlt_ => hkp.2 k_ hlt_ (fun e_ => (show False from Zone.apart h_ e_ (by have := SZ6.out; have := SZ7.out; have := SZ8.out; have := SZ9.out; first | exact .inl (by omega) | exact .inr (by omega))).elim))); have SZ13 := Aside0.mk (show w1020.heap.size ≤ w1021.heap.size from hkp.1); clear HB HO2 HO4 HO6 HO8 HO10 HO12 HO15 HO18; have HB := n0_; have HO2 := n1_; have HO4 := n2_; have HO6 := n3_; have HO8 := n4_; have HO10 := n5_; have HO12 := n6_; have HO15 := n7_; have HO18 := n8_; clear n0_ n1_ n2_ n3_ n4_ n5_ n6_ n7_ n8_; clear hb hkp hy0) | (go_at_call 25; (with_reducible refine (laws_eqIntS.calls k _ _ t11_0 _ _ t5_0 true _ ?sd22_1 ?sd22_2 ?sd22_3 ?sd22_4 A22.out).mono ?_); (case sd22_1 => exact (Kd.R_reads' HO12.out).2.2); (case sd22_2 => exact (Kd.R_reads' HO12.out).2.1); (case sd22_3 => exact (Kd.R_reads' HO6.out).2.2); (case sd22_4 => exact (Kd.R_reads' HO6.out).2.1); rintro e w1022 ⟨rfl, hd⟩; have hb := hd.below; clear hd; have hs_ := below_size HB.out; have n0_ := Aside0.mk (below_step HB.out hb); have n1_ := Aside0.mk (Kd.R_below HO2.out hb); have n2_ := Aside0.mk (Kd.R_below HO4.out hb); have n3_ := Aside0.mk (Kd.R_below HO6.out hb); have n4_ := Aside0.mk (Kd.R_below HO8.out hb); have n5_ := Aside0.mk (Kd.R_below HO10.out hb); have n6_ := Aside0.mk (Kd.R_below HO12.out hb); have n7_ := Aside0.mk (Kd.R_below HO15.out hb); have n8_ := Aside0.mk (Kd.R_below HO18.out hb); have SZ14 := Aside0.mk (show w1021.heap.size ≤ w1022.heap.size from (hb).size); clear HB HO2 HO4 HO6 HO8 HO10 HO12 HO15 HO18; have HB := n0_; have HO2 := n1_; have HO4 := n2_; have HO6 := n3_; have HO8 := n4_; have HO10 := n5_; have HO12 := n6_; have HO15 := n7_; have HO18 := n8_; clear n0_ n1_ n2_ n3_ n4_ n5_ n6_ n7_ n8_; clear hb hs_) | (go_at_call 26; (with_reducible refine (laws_markIntS.calls k (Zone w1009 w1011 (3 :: ((Kd.int .i64)).E)) (.slice A_12 t11_0.length c_12) t11_0 1 t32 t23_1 w _ ?sd23_1 ?sd23_2 A23.out).mono ?_); (case sd23_1 => exact HB.out); (case sd23_2 => exact HO12.out); rintro e w1023 ⟨rfl, hy0, hb, hkp⟩; have n0_ := Aside0.mk (hb); have n1_ := Aside0.mk (Kd.R_step HO2.out (fun k_ h_ hlt_ => hkp.2 k_ hlt_ (fun e_ => (show False from Zone.apart h_ e_ (by have := SZ2.out; have := SZ3.out; have := SZ4.out; have := SZ5.out; first | exact .inl (by omega) | exact .inr (by omega))).elim))); have n2_ := Aside0.mk (Kd.R_step HO4.out (fun k_ h_ hlt_ => hkp.2 k_ hlt_ (fun e_ => (show False from Zone.apart h_ e_ (by have := SZ3.out; have := SZ4.out; have := SZ5.out; first | exact .inl (by omega) | exact .inr (by omega))).elim))); have n3_ := Aside0.mk (Kd.R_step HO6.out (fun k_ h_ hlt_ => hkp.2 k_ hlt_ (fun e_ => (show False from Zone.apart h_ e_ (by have := SZ4.out; have := SZ5.out; first | exact .inl (by omega) | exact .inr (by omega))).elim))); have n4_ := Aside0.mk (Kd.R_step HO8.out (fun k_ h_ hlt_ => hkp.2 k_ hlt_ (fun e_ => (show False from Zone.apart h_ e_ (by have := SZ5.out; first | exact .inl (by omega) | exact .inr (by omega))).elim))); have n5_ := Aside0.mk (Kd.R_step HO10.out (fun k_ h_ hlt_ => hkp.2 k_ hlt_ (fun e_ => (show False from Zone.apart h_ e_ (by first | exact .inl (by omega) | exact .inr (by omega))).elim))); have n6_ := Aside0.mk (Kd.R_reok rfl hy0 HO12.out.1); have n7_ := Aside0.mk (Kd.R_step HO15.out (fun k_ h_ hlt_ => hkp.2 k_ hlt_ (fun e_ => (show False from Zone.apart h_ e_ (by have := SZ7.out; first | exact .inl (by omega) | exact .inr (by omega))).elim))); have n8_ := Aside0.mk (Kd.R_step HO18.out (fun k_ h_ hlt_ => hkp.2 k_ hlt_ (fun e_ => (show False from Zone.apart h_ e_ (by have := SZ7.out; have := SZ8.out; have := SZ9.out; first | exact .inl (by omega) | exact .inr (by omega))).elim))); have SZ15 := Aside0.mk (show w1022.heap.size ≤ w1023.heap.size from hkp.1); clear HB HO2 HO4 HO6 HO8 HO10 HO12 HO15 HO18; have HB := n0_; have HO2 := n1_; have HO4 := n2_; have HO6 := n3_; have HO8 := n4_; have HO10 := n5_; have HO12 := n6_; have HO15 := n7_; have HO18 := n8_; clear n0_ n1_ n2_ n3_ n4_ n5_ n6_ n7_ n8_; clear hb hkp hy0) | (go_at_call 27; refine calls_of_args (args' := #[.slice A_12 t23_1.length c_12, .int .i64 1]) (by first | (rw [show t23_1.length = t11_0.length from (Kd.R_reads' HO12.out).1.symm] <;> rfl) | rfl) ?_; (with_reducible refine (laws_heldIntS.calls k _ _ t23_1 1 t32 _ ?sd24_1 ?sd24_2 A24.out).mono ?_); (case sd24_1 => exact (Kd.R_reads' HO12.out).2.2); (case sd24_2 => exact (by rw [show t23_1.length = t11_0.length from (Kd.R_reads' HO12.out).1.symm]; exact (Kd.R_reads' HO12.out).2.1)); rintro e w1024 ⟨rfl, hd⟩; have hb := hd.below; clear hd; have hs_ := below_size HB.out; have n0_ := Aside0.mk (below_step HB.out hb); have n1_ := Aside0.mk (Kd.R_below HO2.out hb); have n2_ := Aside0.mk (Kd.R_below HO4.out hb); have n3_ := Aside0.mk (Kd.R_below HO6.out hb); have n4_ := Aside0.mk (Kd.R_below HO8.out hb); have n5_ := Aside0.mk (Kd.R_below HO10.out hb); have n6_ := Aside0.mk (Kd.R_below HO12.out hb); have n7_ := Aside0.mk (Kd.R_below HO15.out hb); have n8_ := Aside0.mk (Kd.R_below HO18.out hb); have SZ16 := Aside0.mk (show w1023.heap.size ≤ w1024.heap.size from (hb).size); clear HB HO2 HO4 HO6 HO8 HO10 HO12 HO15 HO18; have HB := n0_; have HO2 := n1_; have HO4 := n2_; have HO6 := n3_; have HO8 := n4_; have HO10 := n5_; have HO12 := n6_; have HO15 := n7_; have HO18 := n8_; clear n0_ n1_ n2_ n3_ n4_ n5_ n6_ n7_ n8_; clear hb hs_) | (go_at_call 33; (with_reducible refine (laws_toIntS.calls k _ _ l1 t25 _ ?sd25_1 ?sd25_2 A25.out).mono ?_); (case sd25_1 => exact Kd.C_below HR1.out HB.out); (case sd25_2 => exact HC1.out); rintro e w1025 ⟨v_26, rfl, ho0, hb⟩; have hs_ := below_size HB.out; have n0_ := Aside0.mk (below_step HB.out hb); have n1_ := Aside0.mk (Kd.R_below HO2.out hb); have n2_ := Aside0.mk (Kd.R_below HO4.out hb); have n3_ := Aside0.mk (Kd.R_below HO6.out hb); have n4_ := Aside0.mk (Kd.R_below HO8.out hb); have n5_ := Aside0.mk (Kd.R_below HO10.out hb); have n6_ := Aside0.mk (Kd.R_below HO12.out hb); have n7_ := Aside0.mk (Kd.R_below HO15.out hb); have n8_ := Aside0.mk (Kd.R_below HO18.out hb); have SZ17 := Aside0.mk (show w1024.heap.size ≤ w1025.heap.size from (hb).size); clear HB HO2 HO4 HO6 HO8 HO10 HO12 HO15 HO18; have HB := n0_; have HO2 := n1_; have HO4 := n2_; have HO6 := n3_; have HO8 := n4_; have HO10 := n5_; have HO12 := n6_; have HO15 := n7_; have HO18 := n8_; clear n0_ n1_ n2_ n3_ n4_ n5_ n6_ n7_ n8_; have HO26 := Aside0.mk (R_zone ho0 hs_); clear ho0; obtain ⟨A_26, c_26, e_26⟩ := Kd.R_slice HO26.out; subst e_26; clear hb hs_) | (go_at_call 33; (with_reducible refine (laws_toIntS.calls k _ _ l2 t27 _ ?sd27_1 ?sd27_2 A27.out).mono ?_); (case sd27_1 => exact Kd.C_below HR2.out HB.out); (case sd27_2 => exact HC2.out); rintro e w1027 ⟨v_28, rfl, ho0, hb⟩; have hs_ := below_size HB.out; have n0_ := Aside0.mk (below_step HB.out hb); have n1_ := Aside0.mk (Kd.R_below HO2.out hb); have n2_ := Aside0.mk (Kd.R_below HO4.out hb); have n3_ := Aside0.mk (Kd.R_below HO6.out hb); have n4_ := Aside0.mk (Kd.R_below HO8.out hb); have n5_ := Aside0.mk (Kd.R_below HO10.out hb); have n6_ := Aside0.mk (Kd.R_below HO12.out hb); have n7_ := Aside0.mk (Kd.R_below HO15.out hb); have n8_ := Aside0.mk (Kd.R_below HO18.out hb); have n9_ := Aside0.mk (Kd.R_below HO26.out hb); have SZ18 := Aside0.mk (show w1025.heap.size ≤ w1027.heap.size from (hb).size); clear HB HO2 HO4 HO6 HO8 HO10 HO12 HO15 HO18 HO26; have HB := n0_; have HO2 := n1_; have HO4 := n2_; have HO6 := n3_; have HO8 := n4_; have HO10 := n5_; have HO12 := n6_; have HO15 := n7_; have HO18 := n8_; have HO26 := n9_; clear n0_ n1_ n2_ n3_ n4_ n5_ n6_ n7_ n8_ n9_; have HO28 := Aside0.mk (R_zone ho0 hs_); clear ho0; obtain ⟨A_28, c_28, e_28⟩ := Kd.R_slice HO28.out; subst e_28; clear hb hs_) | (go_at_call 34; (with_reducible refine (impl_ShareRoom.calls k a0 _ _ t25 _ _ t27 t29_0 t29_1 _ ?sd29_1 ?sd29_2 ?sd29_3 ?sd29_4 A29.out).mono ?_); (case sd29_1 => exact (Kd.R_reads' HO26.out).2.2); (case sd29_2 => exact (Kd.R_reads' HO26.out).2.1); (case sd29_3 => exact (Kd.R_reads' HO28.out).2.2); (case sd29_4 => exact (Kd.R_reads' HO28.out).2.1); rintro e w1029 ⟨v_30, rfl, ho0, hb⟩; have hs_ := below_size HB.out; have n0_ := Aside0.mk (below_step HB.out hb); have n1_ := Aside0.mk (Kd.R_below HO2.out hb); have n2_ := Aside0.mk (Kd.R_below HO4.out hb); have n3_ := Aside0.mk (Kd.R_below HO6.out hb); have n4_ := Aside0.mk (Kd.R_below HO8.out hb); have n5_ := Aside0.mk (Kd.R_below HO10.out hb); have n6_ := Aside0.mk (Kd.R_below HO12.out hb); have n7_ := Aside0.mk (Kd.R_below HO15.out hb); have n8_ := Aside0.mk (Kd.R_below HO18.out hb); have n9_ := Aside0.mk (Kd.R_below HO26.out hb); have n10_ := Aside0.mk (Kd.R_below HO28.out hb); have SZ19 := Aside0.mk (show w1027.heap.size ≤ w1029.heap.size from (hb).size); clear HB HO2 HO4 HO6 HO8 HO10 HO12 HO15 HO18 HO26 HO28; have HB := n0_; have HO2 := n1_; have HO4 := n2_; have HO6 := n3_; have HO8 := n4_; have HO10 := n5_; have HO12 := n6_; have HO15 := n7_; have HO18 := n8_; have HO26 := n9_; have HO28 := n10_; clear n0_ n1_ n2_ n3_ n4_ n5_ n6_ n7_ n8_ n9_ n10_; have HO30 := Aside0.mk (R_zone ho0 hs_); clear ho0; obtain ⟨A_30, c_30, e_30⟩ := Kd.R_slice HO30.out; subst e_30; clear hb hs_) | (go_at_call 25; (with_reducible refine (laws_eqIntS.calls k _ _ t29_0 _ _ t5_0 true _ ?sd31_1 ?sd31_2 ?sd31_3 ?sd31_4 A31.out).mono ?_); (case sd31_1 => exact (Kd.R_reads' HO30.out).2.2); (case sd31_2 => exact (Kd.R_reads' HO30.out).2.1); (case sd31_3 => exact (Kd.R_reads' HO6.out).2.2); (case sd31_4 => exact (Kd.R_reads' HO6.out).2.1); rintro e w1031 ⟨rfl, hd⟩; have hb := hd.below; clear hd; have hs_ := below_size HB.out; have n0_ := Aside0.mk (below_step HB.out hb); have n1_ := Aside0.mk (Kd.R_below HO2.out hb); have n2_ := Aside0.mk (Kd.R_below HO4.out hb); have n3_ := Aside0.mk (Kd.R_below HO6.out hb); have n4_ := Aside0.mk (Kd.R_below HO8.out hb); have n5_ := Aside0.mk (Kd.R_below HO10.out hb); have n6_ := Aside0.mk (Kd.R_below HO12.out hb); have n7_ := Aside0.mk (Kd.R_below HO15.out hb); have n8_ := Aside0.mk (Kd.R_below HO18.out hb); have n9_ := Aside0.mk (Kd.R_below HO26.out hb); have n10_ := Aside0.mk (Kd.R_below HO28.out hb); have n11_ := Aside0.mk (Kd.R_below HO30.out hb); have SZ20 := Aside0.mk (show w1029.heap.size ≤ w1031.heap.size from (hb).size); clear HB HO2 HO4 HO6 HO8 HO10 HO12 HO15 HO18 HO26 HO28 HO30; have HB := n0_; have HO2 := n1_; have HO4 := n2_; have HO6 := n3_; have HO8 := n4_; have HO10 := n5_; have HO12 := n6_; have HO15 := n7_; have HO18 := n8_; have HO26 := n9_; have HO28 := n10_; have HO30 := n11_; clear n0_ n1_ n2_ n3_ n4_ n5_ n6_ n7_ n8_ n9_ n10_ n11_; clear hb hs_) | (go_at_call 27; refine calls_of_args (args' := #[.slice A_12 t23_1.length c_12, .int .i64 1]) (by first | (rw [show t23_1.length = t11_0.length from (Kd.R_reads' HO12.out).1.symm] <;> rfl) | rfl) ?_; (with_reducible refine (laws_heldIntS.calls k _ _ t23_1 1 t32 _ ?sd32_1 ?sd32_2 A32.out).mono ?_); (case sd32_1 => exact (Kd.R_reads' HO12.out).2.2); (case sd32_2 => exact (by rw [show t23_1.length = t11_0.length from (Kd.R_reads' HO12.out).1.symm]; exact (Kd.R_reads' HO12.out).2.1)); rintro e w1032 ⟨rfl, hd⟩; have hb := hd.below; clear hd; have hs_ := below_size HB.out; have n0_ := Aside0.mk (below_step HB.out hb); have n1_ := Aside0.mk (Kd.R_below HO2.out hb); have n2_ := Aside0.mk (Kd.R_below HO4.out hb); have n3_ := Aside0.mk (Kd.R_below HO6.out hb); have n4_ := Aside0.mk (Kd.R_below HO8.out hb); have n5_ := Aside0.mk (Kd.R_below HO10.out hb); have n6_ := Aside0.mk (Kd.R_below HO12.out hb); have n7_ := Aside0.mk (Kd.R_below HO15.out hb); have n8_ := Aside0.mk (Kd.R_below HO18.out hb); have n9_ := Aside0.mk (Kd.R_below HO26.out hb); have n10_ := Aside0.mk (Kd.R_below HO28.out hb); have n11_ := Aside0.mk (Kd.R_below HO30.out hb); have SZ21 := Aside0.mk (show w1031.heap.size ≤ w1032.heap.size from (hb).size); clear HB HO2 HO4 HO6 HO8 HO10 HO12 HO15 HO18 HO26 HO28 HO30; have HB := n0_; have HO2 := n1_; have HO4 := n2_; have HO6 := n3_; have HO8 := n4_; have HO10 := n5_; have HO12 := n6_; have HO15 := n7_; have HO18 := n8_; have HO26 := n9_; have HO28 := n10_; have HO30 := n11_; clear n0_ n1_ n2_ n3_ n4_ n5_ n6_ n7_ n8_ n9_ n10_ n11_; clear hb hs_))
  go_ret
  exact ⟨rfl, HB.out⟩

/-! the law's reading -/
/-- THE ONE PURE STATEMENT of laws_FnExactShareRoom. -/
def laws_FnExactShareRoom.Pure : Prop := ∀ (a0 : Int) (l1 : List Int) (l2 : List Int), ((Lit.int .i64 a0).wf = true) → (l1.length ≤ maxLen ∧ ∀ z223 ∈ l1, (Lit.int .i64 z223).wf = true) → (l2.length ≤ maxLen ∧ ∀ z224 ∈ l2, (Lit.int .i64 z224).wf = true) → ∃ k, laws_FnExactShareRoom.f k a0 l1 l2 = some true


end Go.Proofs.Ytpfddgchlllkpaa.XFnExactShareRoom
