/- What the Go functions that this law comes to compute, each walked; written by a program of this session. -/
import Derived.Test.YtikoiodbmnekfaaXFnExactMarksCrossedx0
import Derived.Test.YtikoiodbmnekfaaXFnExactMarksCrossedx1
import Derived.Test.YtikoiodbmnekfaaXFnExactMarksCrossedx2
import Derived.Test.YtikoiodbmnekfaaXFnExactMarksCrossedx4
import Derived.Test.YtikoiodbmnekfaaXFnExactMarksCrossedx7
import Derived.Test.YtikoiodbmnekfaaXFnExactMarksCrossedx10
namespace Go.Proofs.Ytikoiodbmnekfaa.XFnExactMarksCrossed
open Go.RowKit Go.Proofs.YtikoiodbmnekfaaW.PrintWords Go.Proofs.YtikoiodbmnekfaaW.PrintLast Go.Proofs.YtikoiodbmnekfaaW.PrintMore
attribute [local go_sem] str_geq max2_int min2_int max_two min_two max_three min_three max_four min_four   -- for this text's walks alone
set_option linter.unusedVariables false
set_option linter.unusedSimpArgs false

/-! ### laws_heldStringS: function 21 -/
def laws_heldStringS.l0 : Nat → List ByteArray → Int → Int → Option (Int)
 | 0, _, _, _ => none
 | k + 1, x0, x1, x5 => if x5 < (x0.length : Int) then (if 0 ≤ x5 then ((laws_markText.f k x1).bind fun t259 => (if (rdOf ByteArray.empty x0 x5).toList = t259.toList then (laws_heldStringS.l0 k x0 (wrap64 (x1 + 1)) (wrap64 (x5 + 1))) else (some (-1)))) else (none)) else (some x1)
def laws_heldStringS.f (k : Nat) (l0 : List ByteArray) (a1 : Int) : Option (Int) := laws_heldStringS.l0 k l0 a1 0
theorem laws_heldStringS.mono_l : ∀ k, (∀ y0 y1 y2, LeO (laws_heldStringS.l0 k y0 y1 y2) (laws_heldStringS.l0 (k + 1) y0 y1 y2))
 | 0 => fun _ _ _ r h => by simp [laws_heldStringS.l0] at h
 | k + 1 => by
  have ih0 := laws_heldStringS.mono_l k
  ·intro y0 y1 y2
   unfold laws_heldStringS.l0
   repeat' first
   | (with_reducible exact ih0 _ _ _)
   | (with_reducible exact laws_markText.mono _ _)
   | (with_reducible exact LeO.refl _)
   | (with_reducible exact LeO.none _)
   | (with_reducible refine LeO.ite ?_ ?_)
   | (with_reducible refine LeO.bind ?_ (fun _ => ?_))
   | exact ih0 _ _ _
   | exact laws_markText.mono _ _
   | exact LeO.none _
   | refine LeO.ite ?_ ?_
   | refine LeO.bind ?_ (fun _ => ?_)
theorem laws_heldStringS.mono : ∀ a0 a1 k, LeO (laws_heldStringS.f k a0 a1) (laws_heldStringS.f (k + 1) a0 a1) := by
 intro a0 a1 k
 have ih0 := laws_heldStringS.mono_l k
 unfold laws_heldStringS.f
 repeat' first
   | (with_reducible exact ih0 _ _ _)
   | (with_reducible exact laws_markText.mono _ _)
   | (with_reducible exact LeO.refl _)
   | (with_reducible exact LeO.none _)
   | (with_reducible refine LeO.ite ?_ ?_)
   | (with_reducible refine LeO.bind ?_ (fun _ => ?_))
   | exact ih0 _ _ _
   | exact laws_markText.mono _ _
   | exact LeO.none _
   | refine LeO.ite ?_ ?_
   | refine LeO.bind ?_ (fun _ => ?_)
set_option maxHeartbeats 8000000 in
set_option maxRecDepth 100000 in
theorem laws_heldStringS.calls (k : Nat) (A0 : Option Addr) (c0 : Nat) (l0 : List ByteArray) (a1 : Int) (r : Int) (w : World) (hr0 : Kd.C Kd.string w A0 l0.length l0) (hc0 : l0.length ≤ c0) (h : laws_heldStringS.f k l0 a1 = some r) :
  Calls Try.prog 21 #[.slice A0 l0.length c0, .int .i64 a1] w fun e w' => e = .returned (.int .i64 r) ∧ Below w.heap.size w w' := by
 have HR0 := Aside0.mk hr0
 have HC0 := Aside0.mk hc0
 clear hr0 hc0
 have HB := Aside0.mk (Below.refl w.heap.size w)
 have H : (laws_heldStringS.l0 k l0 a1 0) = some r := h
 clear h
 have H' := Aside0.mk H
 clear H
 go_enter Try.func21, Try.ntmps21
 go_wp2
 go_loopg [1, 5] k (fun kq v1 v5 w' => ∃ (x1_1 : Int) (x5_1 : Int), v1 = .int .i64 x1_1 ∧ v5 = .int .i64 x5_1 ∧ Aside0 (laws_heldStringS.l0 kq l0 x1_1 x5_1 = some r) ∧ Aside0 (kq ≤ k) ∧ Aside0 (Below w.heap.size w w'))
 case atStart => exact ⟨(a1), (0), (by first | rfl | (simp; done) | (simp [*]; done) | (simp [wrap64]; done)), (by first | rfl | (simp; done) | (simp [*]; done) | (simp [wrap64]; done)), H', ⟨Nat.le_refl _⟩, ⟨bw_ HB.out⟩⟩
 case round =>
  clear H'
  try clear c2
  try clear p2
  obtain ⟨x1_1, x5_1, rfl, rfl, HA, HK1, HB⟩ := hrel
  cases gk with
  | zero => exact absurd HA.out (by simp [laws_heldStringS.l0])
  | succ k1 =>
   have H := HA.out
   clear HA
   simp only [laws_heldStringS.l0] at H
   by_cases c3 : x5_1 < (l0.length : Int)
   ·rw [if_pos c3] at H
    have c3b0 : decide (x5_1 < (l0.length : Int)) = true := decide_eq_true c3
    clear c3
    by_cases c4 : 0 ≤ x5_1
    ·rw [if_pos c4] at H
     have c4b0 : decide (0 ≤ x5_1) = true := decide_eq_true c4
     clear c4
     obtain ⟨t259, A50, H⟩ := bE_ H
     have A5 := Aside0.mk A50
     clear A50
     by_cases c6 : (rdOf ByteArray.empty l0 x5_1).toList = t259.toList
     ·rw [if_pos c6] at H
      have c6b0 : ((rdOf ByteArray.empty l0 x5_1).toList == t259.toList) = true := beq_iff_eq.mpr c6
      have c6b1 : ((rdOf ByteArray.empty l0 x5_1).toList != t259.toList) = false := bne_eq_false_iff_eq.mpr c6
      clear c6
      have H' := Aside0.mk H
      clear H
      try go_wp2
      have n0_ := Aside0.mk (below_drew1 HB.out)
      clear HB
      have HB := n0_
      clear n0_
      have p258 : 0 ≤ (x5_1 : Int) := of_decide_eq_true (by first | (with_reducible assumption) | assumption)
      have q258 : x5_1 < (l0.length : Int) := of_decide_eq_true (by first | (with_reducible assumption) | assumption)
      obtain ⟨ad258, e258, hx258_0⟩ := Kd.at_string HR0.out x5_1 p258 q258
      have hw258_0 := hx258_0
      cases e258
      (try replace hx258_0 := (HB.out.cell (World.block_lt_of_cell? w _ hx258_0)).trans hx258_0)
      replace p258 := eq_true p258
      replace q258 := eq_true q258
      refine start_ (n := 7) (S := fun w' => w'.cell? (ad258.add (x5_1).toNat) = some (.string (rdOf ByteArray.empty l0 x5_1))) (ds := []) (Array.replicate 7 false) (by kernel_rfl) rfl rfl (((HB.out.cell (World.block_lt_of_cell? w _ hw258_0)).trans hw258_0)) (fun hHeld => ?_)
      generalize wr.drew = w7 at HB hx258_0 hHeld ⊢
      refine pure_ (i := 0) (N := some 12) (v := ?_) (a' := ?_) #[true, false, false, false, false, false, false] rfl rfl (by kernel_rfl) (fun _ _ _ h => h) (Or.inl ⟨by rfl, ?_⟩) ?_ ?_
      rotate_left
      ·intro w'
       go_simp
       with_reducible rfl
      rotate_left
      ·simp only [Act.put, List.setIfInBounds_toArray, List.set_cons_zero, List.set_cons_succ, i64_w, i32_w]
       rfl
      refine pure_ (i := 1) (N := some 13) (v := ?_) (a' := ?_) #[true, true, false, false, false, false, false] rfl rfl (by kernel_rfl) (fun _ _ _ h => h) (Or.inl ⟨by rfl, ?_⟩) ?_ ?_
      rotate_left
      ·intro w'
       go_simp
       with_reducible rfl
      rotate_left
      ·simp only [Act.put, List.setIfInBounds_toArray, List.set_cons_zero, List.set_cons_succ, i64_w, i32_w]
       rfl
      refine pure_ (i := 2) (N := some 14) (v := ?_) (a' := ?_) #[true, true, true, false, false, false, false] rfl rfl (by kernel_rfl) (fun _ _ _ h => h) (Or.inl ⟨by rfl, ?_⟩) ?_ ?_
      rotate_left
      ·intro w'
       go_simp
       with_reducible rfl
      rotate_left
      ·simp only [Act.put, List.setIfInBounds_toArray, List.set_cons_zero, List.set_cons_succ, i64_w, i32_w]
       rfl
      refine pure_ (i := 4) (N := some 16) (v := ?_) (a' := ?_) #[true, true, true, false, true, false, false] rfl rfl (by kernel_rfl) (fun _ _ _ h => h) (Or.inl ⟨by rfl, ?_⟩) ?_ ?_
      rotate_left
      ·intro w'
       go_simp
       with_reducible rfl
      rotate_left
      ·simp only [Act.put, List.setIfInBounds_toArray, List.set_cons_zero, List.set_cons_succ, i64_w, i32_w]
       rfl
      refine take_ (i := 3) (N := some 15) (v := ?_) (a' := ?_) #[true, true, true, true, true, false, false] rfl rfl (by kernel_rfl) (fun _ _ _ h => h) (Or.inl ⟨by rfl, ?_⟩) hHeld ?_ ?_
      rotate_left
      ·intro w' s0
       go_simp
       with_reducible rfl
      rotate_left
      ·simp only [Act.put, List.setIfInBounds_toArray, List.set_cons_zero, List.set_cons_succ, i64_w, i32_w]
       rfl
      refine one_ (i := 5) (N := some 17) #[true, true, true, true, true, true, false] rfl rfl (by kernel_rfl) (by decide) (fun K hK => ?_)
      refine goes_ Try.func39 (by kernel_rfl) rfl #[.int .i64 x1_1] (by rfl) rfl rfl (by (try simp only [List.map_toArray, List.map_cons, List.map_nil]); first | done | rfl | (simp only [List.length_drop, List.length_take]; rfl)) ?_
      with_reducible refine (laws_markText.calls k1 x1_1 t259 _ A5.out).mono ?_
      rintro e w8 ⟨rfl, hb⟩
      refine ⟨_, rfl, ?_⟩
      have n0_ := Aside0.mk (below_step (bw_ HB.out) hb)
      clear HB
      have HB := n0_
      clear n0_
      (try clear hb)
      (try clear hb2)
      (try clear hk)
      (try clear hi)
      refine hK.out _ _ (((HB.out.cell (World.block_lt_of_cell? w _ hw258_0)).trans hw258_0)) (fun hHeld => ?_)
      clear hK K
      refine nS_ ?_
      refine pure_ (i := 6) (N := some 18) (v := ?_) (a' := ?_) #[true, true, true, true, true, true, true] rfl rfl (by kernel_rfl) (fun _ _ _ h => h) (Or.inl ⟨by rfl, ?_⟩) ?_ ?_
      rotate_left
      ·intro w'
       go_simp
       with_reducible rfl
      rotate_left
      ·simp only [Act.put, List.setIfInBounds_toArray, List.set_cons_zero, List.set_cons_succ, i64_w, i32_w]
       rfl
      refine done_ (by kernel_rfl) ?_
      try go_wp2
      go_roundg k1
      case measure => have := HK1.out; omega
      case rel => exact ⟨(wrap64 (x1_1 + 1)), (wrap64 (x5_1 + 1)), (by first | rfl | (simp; done) | (simp [*]; done) | (simp [wrap64]; done)), (by first | rfl | (simp; done) | (simp [*]; done) | (simp [wrap64]; done)), H', ⟨by have := HK1.out; omega⟩, ⟨bw_ HB.out⟩⟩
     ·rw [if_neg c6] at H
      have c6b0 : ((rdOf ByteArray.empty l0 x5_1).toList == t259.toList) = false := beq_eq_false_iff_ne.mpr c6
      have c6b1 : ((rdOf ByteArray.empty l0 x5_1).toList != t259.toList) = true := bne_iff_ne.mpr c6
      obtain rfl := Option.some.inj H
      try go_wp2
      have n0_ := Aside0.mk (below_drew1 HB.out)
      clear HB
      have HB := n0_
      clear n0_
      have p258 : 0 ≤ (x5_1 : Int) := of_decide_eq_true (by first | (with_reducible assumption) | assumption)
      have q258 : x5_1 < (l0.length : Int) := of_decide_eq_true (by first | (with_reducible assumption) | assumption)
      obtain ⟨ad258, e258, hx258_0⟩ := Kd.at_string HR0.out x5_1 p258 q258
      have hw258_0 := hx258_0
      cases e258
      (try replace hx258_0 := (HB.out.cell (World.block_lt_of_cell? w _ hx258_0)).trans hx258_0)
      replace p258 := eq_true p258
      replace q258 := eq_true q258
      refine start_ (n := 7) (S := fun w' => w'.cell? (ad258.add (x5_1).toNat) = some (.string (rdOf ByteArray.empty l0 x5_1))) (ds := []) (Array.replicate 7 false) (by kernel_rfl) rfl rfl (((HB.out.cell (World.block_lt_of_cell? w _ hw258_0)).trans hw258_0)) (fun hHeld => ?_)
      generalize wr.drew = w9 at HB hx258_0 hHeld ⊢
      refine pure_ (i := 0) (N := some 12) (v := ?_) (a' := ?_) #[true, false, false, false, false, false, false] rfl rfl (by kernel_rfl) (fun _ _ _ h => h) (Or.inl ⟨by rfl, ?_⟩) ?_ ?_
      rotate_left
      ·intro w'
       go_simp
       with_reducible rfl
      rotate_left
      ·simp only [Act.put, List.setIfInBounds_toArray, List.set_cons_zero, List.set_cons_succ, i64_w, i32_w]
       rfl
      refine pure_ (i := 1) (N := some 13) (v := ?_) (a' := ?_) #[true, true, false, false, false, false, false] rfl rfl (by kernel_rfl) (fun _ _ _ h => h) (Or.inl ⟨by rfl, ?_⟩) ?_ ?_
      rotate_left
      ·intro w'
       go_simp
       with_reducible rfl
      rotate_left
      ·simp only [Act.put, List.setIfInBounds_toArray, List.set_cons_zero, List.set_cons_succ, i64_w, i32_w]
       rfl
      refine pure_ (i := 2) (N := some 14) (v := ?_) (a' := ?_) #[true, true, true, false, false, false, false] rfl rfl (by kernel_rfl) (fun _ _ _ h => h) (Or.inl ⟨by rfl, ?_⟩) ?_ ?_
      rotate_left
      ·intro w'
       go_simp
       with_reducible rfl
      rotate_left
      ·simp only [Act.put, List.setIfInBounds_toArray, List.set_cons_zero, List.set_cons_succ, i64_w, i32_w]
       rfl
      refine pure_ (i := 4) (N := some 16) (v := ?_) (a' := ?_) #[true, true, true, false, true, false, false] rfl rfl (by kernel_rfl) (fun _ _ _ h => h) (Or.inl ⟨by rfl, ?_⟩) ?_ ?_
      rotate_left
      ·intro w'
       go_simp
       with_reducible rfl
      rotate_left
      ·simp only [Act.put, List.setIfInBounds_toArray, List.set_cons_zero, List.set_cons_succ, i64_w, i32_w]
       rfl
      refine take_ (i := 3) (N := some 15) (v := ?_) (a' := ?_) #[true, true, true, true, true, false, false] rfl rfl (by kernel_rfl) (fun _ _ _ h => h) (Or.inl ⟨by rfl, ?_⟩) hHeld ?_ ?_
      rotate_left
      ·intro w' s0
       go_simp
       with_reducible rfl
      rotate_left
      ·simp only [Act.put, List.setIfInBounds_toArray, List.set_cons_zero, List.set_cons_succ, i64_w, i32_w]
       rfl
      refine one_ (i := 5) (N := some 17) #[true, true, true, true, true, true, false] rfl rfl (by kernel_rfl) (by decide) (fun K hK => ?_)
      refine goes_ Try.func39 (by kernel_rfl) rfl #[.int .i64 x1_1] (by rfl) rfl rfl (by (try simp only [List.map_toArray, List.map_cons, List.map_nil]); first | done | rfl | (simp only [List.length_drop, List.length_take]; rfl)) ?_
      with_reducible refine (laws_markText.calls k1 x1_1 t259 _ A5.out).mono ?_
      rintro e w10 ⟨rfl, hb⟩
      refine ⟨_, rfl, ?_⟩
      have n0_ := Aside0.mk (below_step (bw_ HB.out) hb)
      clear HB
      have HB := n0_
      clear n0_
      (try clear hb)
      (try clear hb2)
      (try clear hk)
      (try clear hi)
      refine hK.out _ _ (((HB.out.cell (World.block_lt_of_cell? w _ hw258_0)).trans hw258_0)) (fun hHeld => ?_)
      clear hK K
      refine nS_ ?_
      refine pure_ (i := 6) (N := some 18) (v := ?_) (a' := ?_) #[true, true, true, true, true, true, true] rfl rfl (by kernel_rfl) (fun _ _ _ h => h) (Or.inl ⟨by rfl, ?_⟩) ?_ ?_
      rotate_left
      ·intro w'
       go_simp
       with_reducible rfl
      rotate_left
      ·simp only [Act.put, List.setIfInBounds_toArray, List.set_cons_zero, List.set_cons_succ, i64_w, i32_w]
       rfl
      refine done_ (by kernel_rfl) ?_
      try go_wp2
      go_ret
      exact ⟨by first | rfl | (simp [errW_none, errW_some] <;> rfl) | (simp [*, errW_none, errW_some] <;> rfl), bw_ HB.out⟩
    ·rw [if_neg c4] at H
     exact absurd H (by simp)
   ·rw [if_neg c3] at H
    have c3b0 : decide (x5_1 < (l0.length : Int)) = false := decide_eq_false c3
    clear c3
    obtain rfl := Option.some.inj H
    go_wp2
    go_ret
    exact ⟨by first | rfl | (simp [errW_none, errW_some] <;> rfl) | (simp [*, errW_none, errW_some] <;> rfl), bw_ HB.out⟩

/-! ### laws_FnExactMarksCrossed: function 5 -/
def laws_FnExactMarksCrossed.f (k : Nat) (a0_0 : Int) (l0_1 : List (S70)) (l0_2 : List (S72)) (a1 : Int) (a2 : Int) : Option (Bool) := (laws_szClip.f k a0_0 l0_1 l0_2 1048576).bind fun t2 => if t2 < 0 then some true else ((laws_toClip.f k a0_0 l0_1 l0_2).bind fun t3 => (spec_MarksCrossed.f k t3.1 t3.2.1 t3.2.2 a1 a2).bind fun t6 => (laws_toClip.f k a0_0 l0_1 l0_2).bind fun t8 => (impl_MarksCrossed.f k t8.1 t8.2.1 t8.2.2 a1 a2).bind fun t12 => (laws_eqStringS.f k t12.1 t6.1).bind fun t14 => if t14 = true then (if t12.2.1 = t6.2.1 then (if t12.2.2 = t6.2.2 then ((laws_toClip.f k a0_0 l0_1 l0_2).bind fun t15 => (laws_eqClip.f k t8.1 t8.2.1 t8.2.2 t15.1 t15.2.1 t15.2.2).bind fun t18 => if t18 = true then ((laws_markClip.f k t8.1 t8.2.1 t8.2.2 1).bind fun t19 => if ¬ (t19.1 < 0) then ((laws_eqStringS.f k t12.1 t6.1).bind fun t20 => if t20 = true then (if t12.2.1 = t6.2.1 then (if t12.2.2 = t6.2.2 then ((laws_markStringS.f k t12.1 1).bind fun t21 => (laws_heldStringS.f k t21.2 1).bind fun t22 => if ¬ (t22 < 0) then (if t22 = t21.1 then ((laws_toClip.f k a0_0 l0_1 l0_2).bind fun t23 => (impl_MarksCrossed.f k t23.1 t23.2.1 t23.2.2 a1 a2).bind fun t26 => (laws_eqStringS.f k t26.1 t6.1).bind fun t28 => if t28 = true then (if t26.2.1 = t6.2.1 then (if t26.2.2 = t6.2.2 then ((laws_heldStringS.f k t21.2 1).bind fun t29 => if ¬ (t29 < 0) then (if t29 = t21.1 then (some true) else none) else none) else none) else none) else none) else none) else none) else none) else none) else none) else none) else none) else none) else none) else none)
theorem laws_FnExactMarksCrossed.mono : ∀ a0 a1 a2 a3 a4 k, LeO (laws_FnExactMarksCrossed.f k a0 a1 a2 a3 a4) (laws_FnExactMarksCrossed.f (k + 1) a0 a1 a2 a3 a4) := by
  intro a0 a1 a2 a3 a4 k
  unfold laws_FnExactMarksCrossed.f
  repeat' first
  | (with_reducible exact laws_szClip.mono _ _ _ _ _)
  | (with_reducible exact laws_toClip.mono _ _ _ _)
  | (with_reducible exact laws_eqClip.mono _ _ _ _ _ _ _)
  | (with_reducible exact laws_markClip.mono _ _ _ _ _)
  | (with_reducible exact spec_MarksCrossed.mono _ _ _ _ _ _)
  | (with_reducible exact impl_MarksCrossed.mono _ _ _ _ _ _)
  | (with_reducible exact laws_eqStringS.mono _ _ _)
  | (with_reducible exact laws_markStringS.mono _ _ _)
  | (with_reducible exact laws_heldStringS.mono _ _ _)
  | (with_reducible exact LeO.refl _)
  | (with_reducible exact LeO.none _)
  | (with_reducible refine LeO.ite ?_ ?_)
  | refine LeO.bind ?_ (fun _ => ?_)
  | exact LeO.none _
def laws_FnExactMarksCrossed.T10 : Bool × List (List Nat × List Nat) := (true, [([], []), ([], []), ([1], [1]), ([0, 2, 2], [0, 2]), ([3], [3])])
def laws_FnExactMarksCrossed.B10 : List Nat := [0, 0, 2, 7, 15]
theorem laws_FnExactMarksCrossed.tab10 : rtab .any (opsOf Try.f5 10) = laws_FnExactMarksCrossed.T10 := by kernel_rfl
theorem laws_FnExactMarksCrossed.bits10 : waitsOk laws_FnExactMarksCrossed.T10.2 laws_FnExactMarksCrossed.B10 = true := by kernel_rfl
set_option maxHeartbeats 8000000 in
set_option maxRecDepth 100000 in
theorem laws_FnExactMarksCrossed.calls (k : Nat) (a0_0 : Int) (A0_1 : Option Addr) (c0_1 : Nat) (l0_1 : List (S70)) (A0_2 : Option Addr) (c0_2 : Nat) (l0_2 : List (S72)) (a1 : Int) (a2 : Int) (r : Bool) (w : World) (hr0_1 : Kd.C k70 w A0_1 l0_1.length l0_1) (hc0_1 : l0_1.length ≤ c0_1) (hr0_2 : Kd.C k72 w A0_2 l0_2.length l0_2) (hc0_2 : l0_2.length ≤ c0_2) (h : laws_FnExactMarksCrossed.f k a0_0 l0_1 l0_2 a1 a2 = some r) :
    Calls Try.prog 5 #[.agg #[.int .i64 a0_0, .slice A0_1 l0_1.length c0_1, .slice A0_2 l0_2.length c0_2], .int .i64 a1, .int .i64 a2] w fun e w' => e = .returned (.bool r) ∧ Below w.heap.size w w' := by
  have HR0_1 := Aside0.mk hr0_1
  have HC0_1 := Aside0.mk hc0_1
  clear hr0_1 hc0_1
  have HR0_2 := Aside0.mk hr0_2
  have HC0_2 := Aside0.mk hc0_2
  clear hr0_2 hc0_2
  have HB := Aside0.mk (Below.refl w.heap.size w)
  unfold laws_FnExactMarksCrossed.f at h
  have H := h
  clear h
  replace H := bE_ H
  obtain ⟨t2, hA2, H⟩ := H
  have A2 := Aside0.mk hA2
  clear hA2
  by_cases c_ : t2 < 0
  · rw [if_pos c_] at H
    have fb30 : decide (t2 < 0) = true := decide_eq_true c_
    clear c_
    obtain rfl := Option.some.inj H
    go_enter Try.func5, Try.ntmps5
    go_wp2_with (first | ((with_reducible refine gate_dst (N := 3) rfl ?_); refine bx_ 3 #[.int .i64 a0_0, .slice A0_1 l0_1.length c0_1, .slice A0_2 l0_2.length c0_2] 25 ?_; intro g1 hg w1001 hbox hb; have n0_ := Aside0.mk (below_step HB.out hb); have SZ1 := Aside0.mk (show w.heap.size ≤ w1001.heap.size from (hb).size); clear HB; have HB := n0_; clear n0_; have BK1 := Aside0.mk hbox; have GL1 := Aside0.mk (show w.heap.size ≤ g1 from Nat.le_of_eq hg.symm); have GU1 := Aside0.mk (blk_lt hbox); clear hbox hg hb; have hx1_0 := cz_ BK1.out 0; have hf1_0 : w1001.frozen? ⟨g1, 0, none⟩ = false := blk_frozen BK1.out 0; have hx1_1 := cz_ BK1.out 1; have hf1_1 : w1001.frozen? ⟨g1, 1, none⟩ = false := blk_frozen BK1.out 1; have hx1_2 := cz_ BK1.out 2; have hf1_2 : w1001.frozen? ⟨g1, 2, none⟩ = false := blk_frozen BK1.out 2) | (go_at_call 6; (with_reducible refine (laws_szClip.calls k a0_0 _ _ l0_1 _ _ l0_2 1048576 t2 _ ?sd2_1 ?sd2_2 ?sd2_3 ?sd2_4 A2.out).mono ?_); (case sd2_1 => exact Kd.C_below HR0_1.out HB.out); (case sd2_2 => exact HC0_1.out); (case sd2_3 => exact Kd.C_below HR0_2.out HB.out); (case sd2_4 => exact HC0_2.out); rintro e w1002 ⟨rfl, hb⟩; have hs_ := below_size HB.out; clear hx1_0 hf1_0 hx1_1 hf1_1 hx1_2 hf1_2; have n0_ := Aside0.mk (below_step HB.out hb); have n1_ := Aside0.mk (blk_below BK1.out hb); have SZ2 := Aside0.mk (show w1001.heap.size ≤ w1002.heap.size from (hb).size); clear HB BK1; have HB := n0_; have BK1 := n1_; clear n0_ n1_; clear hb hs_; have hx1_0 := cz_ BK1.out 0; have hf1_0 : w1002.frozen? ⟨g1, 0, none⟩ = false := blk_frozen BK1.out 0; have hx1_1 := cz_ BK1.out 1; have hf1_1 : w1002.frozen? ⟨g1, 1, none⟩ = false := blk_frozen BK1.out 1; have hx1_2 := cz_ BK1.out 2; have hf1_2 : w1002.frozen? ⟨g1, 2, none⟩ = false := blk_frozen BK1.out 2))
    go_ret
    exact ⟨rfl, HB.out⟩
  rw [if_neg c_] at H
  have fb31 : decide (t2 < 0) = false := decide_eq_false c_
  clear c_
  replace H := bE_ H
  obtain ⟨⟨t3_0, t3_1, t3_2⟩, hA3, H⟩ := H
  try dsimp only at H
  have A3 := Aside0.mk hA3
  clear hA3
  replace H := bE_ H
  obtain ⟨⟨t6_0, t6_1, t6_2⟩, hA6, H⟩ := H
  try dsimp only at H
  have A6 := Aside0.mk hA6
  clear hA6
  replace H := bE_ H
  obtain ⟨⟨t8_0, t8_1, t8_2⟩, hA8, H⟩ := H
  try dsimp only at H
  have A8 := Aside0.mk hA8
  clear hA8
  replace H := bE_ H
  obtain ⟨⟨t12_0, t12_1, t12_2⟩, hA12, H⟩ := H
  try dsimp only at H
  have A12 := Aside0.mk hA12
  clear hA12
  replace H := bE_ H
  obtain ⟨t14, hA14, H⟩ := H
  have A14 := Aside0.mk hA14
  clear hA14
  replace H := nd_ H
  obtain ⟨c_, H⟩ := H
  subst c_
  replace H := nd_ H
  obtain ⟨c_, H⟩ := H
  subst c_
  have fb32 : (t12_1 == t12_1) = true := beq_self_eq_true _
  have fb33 : (t12_1 != t12_1) = false := by simp
  replace H := nd_ H
  obtain ⟨c_, H⟩ := H
  subst c_
  have fb34 : (t12_2 == t12_2) = true := beq_self_eq_true _
  have fb35 : (t12_2 != t12_2) = false := by simp
  replace H := bE_ H
  obtain ⟨⟨t15_0, t15_1, t15_2⟩, hA15, H⟩ := H
  try dsimp only at H
  have A15 := Aside0.mk hA15
  clear hA15
  replace H := bE_ H
  obtain ⟨t18, hA18, H⟩ := H
  have A18 := Aside0.mk hA18
  clear hA18
  replace H := nd_ H
  obtain ⟨c_, H⟩ := H
  subst c_
  replace H := bE_ H
  obtain ⟨⟨t19_0, t19_1, t19_2⟩, hA19, H⟩ := H
  try dsimp only at H
  have A19 := Aside0.mk hA19
  clear hA19
  replace H := nd_ H
  obtain ⟨c_, H⟩ := H
  have fb36 : decide (t19_0 < 0) = false := decide_eq_false c_
  clear c_
  replace H := bE_ H
  obtain ⟨t20, hA20, H⟩ := H
  have A20 := Aside0.mk hA20
  clear hA20
  replace H := nd_ H
  obtain ⟨c_, H⟩ := H
  subst c_
  replace H := nd_ H
  obtain ⟨c_, H⟩ := H
  clear c_
  replace H := nd_ H
  obtain ⟨c_, H⟩ := H
  clear c_
  replace H := bE_ H
  obtain ⟨⟨t21_0, t21_1⟩, hA21, H⟩ := H
  try dsimp only at H
  have A21 := Aside0.mk hA21
  clear hA21
  replace H := bE_ H
  obtain ⟨t22, hA22, H⟩ := H
  have A22 := Aside0.mk hA22
  clear hA22
  replace H := nd_ H
  obtain ⟨c_, H⟩ := H
  have fb37 : decide (t22 < 0) = false := decide_eq_false c_
  clear c_
  replace H := nd_ H
  obtain ⟨c_, H⟩ := H
  subst c_
  have fb38 : (t22 == t22) = true := beq_self_eq_true _
  have fb39 : (t22 != t22) = false := by simp
  replace H := bE_ H
  obtain ⟨⟨t23_0, t23_1, t23_2⟩, hA23, H⟩ := H
  try dsimp only at H
  have A23 := Aside0.mk hA23
  clear hA23
  replace H := bE_ H
  obtain ⟨⟨t26_0, t26_1, t26_2⟩, hA26, H⟩ := H
  try dsimp only at H
  have A26 := Aside0.mk hA26
  clear hA26
  replace H := bE_ H
  obtain ⟨t28, hA28, H⟩ := H
  have A28 := Aside0.mk hA28
  clear hA28
  replace H := nd_ H
  obtain ⟨c_, H⟩ := H
  subst c_
  replace H := nd_ H
  obtain ⟨c_, H⟩ := H
  subst c_
  have fb40 : (t26_1 == t26_1) = true := beq_self_eq_true _
  have fb41 : (t26_1 != t26_1) = false := by simp
  replace H := nd_ H
  obtain ⟨c_, H⟩ := H
  subst c_
  have fb42 : (t26_2 == t26_2) = true := beq_self_eq_true _
  have fb43 : (t26_2 != t26_2) = false := by simp
  replace H := bE_ H
  obtain ⟨t29, hA29, H⟩ := H
  have A29 := Aside0.mk hA29
  clear hA29
  replace H := nd_ H
  obtain ⟨c_, H⟩ := H
  have fb44 : decide (t29 < 0) = false := decide_eq_false c_
  clear c_
  replace H := nd_ H
  obtain ⟨c_, H⟩ := H
  subst c_
  have fb45 : (t29 == t29) = true := beq_self_eq_true _
  have fb46 : (t29 != t29) = false := by simp
  obtain rfl := Option.some.inj H
  go_enter Try.func5, Try.ntmps5
  go_upto_region 10 with (first | ((with_reducible refine gate_dst (N := 3) rfl ?_); refine bx_ 3 #[.int .i64 a0_0, .slice A0_1 l0_1.length c0_1, .slice A0_2 l0_2.length c0_2] 25 ?_; intro g1 hg w1001 hbox hb; have n0_ := Aside0.mk (below_step HB.out hb); have SZ1 := Aside0.mk (show w.heap.size ≤ w1001.heap.size from (hb).size); clear HB; have HB := n0_; clear n0_; have BK1 := Aside0.mk hbox; have GL1 := Aside0.mk (show w.heap.size ≤ g1 from Nat.le_of_eq hg.symm); have GU1 := Aside0.mk (blk_lt hbox); clear hbox hg hb; have hx1_0 := cz_ BK1.out 0; have hf1_0 : w1001.frozen? ⟨g1, 0, none⟩ = false := blk_frozen BK1.out 0; have hx1_1 := cz_ BK1.out 1; have hf1_1 : w1001.frozen? ⟨g1, 1, none⟩ = false := blk_frozen BK1.out 1; have hx1_2 := cz_ BK1.out 2; have hf1_2 : w1001.frozen? ⟨g1, 2, none⟩ = false := blk_frozen BK1.out 2) | (go_at_call 6; (with_reducible refine (laws_szClip.calls k a0_0 _ _ l0_1 _ _ l0_2 1048576 t2 _ ?sd2_1 ?sd2_2 ?sd2_3 ?sd2_4 A2.out).mono ?_); (case sd2_1 => exact Kd.C_below HR0_1.out HB.out); (case sd2_2 => exact HC0_1.out); (case sd2_3 => exact Kd.C_below HR0_2.out HB.out); (case sd2_4 => exact HC0_2.out); rintro e w1002 ⟨rfl, hb⟩; have hs_ := below_size HB.out; clear hx1_0 hf1_0 hx1_1 hf1_1 hx1_2 hf1_2; have n0_ := Aside0.mk (below_step HB.out hb); have n1_ := Aside0.mk (blk_below BK1.out hb); have SZ2 := Aside0.mk (show w1001.heap.size ≤ w1002.heap.size from (hb).size); clear HB BK1; have HB := n0_; have BK1 := n1_; clear n0_ n1_; clear hb hs_; have hx1_0 := cz_ BK1.out 0; have hf1_0 : w1002.frozen? ⟨g1, 0, none⟩ = false := blk_frozen BK1.out 0; have hx1_1 := cz_ BK1.out 1; have hf1_1 : w1002.frozen? ⟨g1, 1, none⟩ = false := blk_frozen BK1.out 1; have hx1_2 := cz_ BK1.out 2; have hf1_2 : w1002.frozen? ⟨g1, 2, none⟩ = false := blk_frozen BK1.out 2) | (go_at_call 8; (with_reducible refine (laws_toClip.calls k a0_0 _ _ l0_1 _ _ l0_2 t3_0 t3_1 t3_2 _ ?sd3_1 ?sd3_2 ?sd3_3 ?sd3_4 A3.out).mono ?_); (case sd3_1 => exact Kd.C_below HR0_1.out HB.out); (case sd3_2 => exact HC0_1.out); (case sd3_3 => exact Kd.C_below HR0_2.out HB.out); (case sd3_4 => exact HC0_2.out); rintro e w1003 ⟨v_4, v_5, rfl, ho0, ho1, hb⟩; have hs_ := below_size HB.out; clear hx1_0 hf1_0 hx1_1 hf1_1 hx1_2 hf1_2; have n0_ := Aside0.mk (below_step HB.out hb); have n1_ := Aside0.mk (blk_below BK1.out hb); have SZ3 := Aside0.mk (show w1002.heap.size ≤ w1003.heap.size from (hb).size); clear HB BK1; have HB := n0_; have BK1 := n1_; clear n0_ n1_; have HO4 := Aside0.mk (S_zone ho0 hs_); clear ho0; obtain ⟨A_4, c_4, e_4⟩ := Kd.S_slice HO4.out; subst e_4; have HO5 := Aside0.mk (R_zone ho1 hs_); clear ho1; obtain ⟨A_5, c_5, e_5⟩ := Kd.R_slice HO5.out; subst e_5; clear hb hs_; have hx1_0 := cz_ BK1.out 0; have hf1_0 : w1003.frozen? ⟨g1, 0, none⟩ = false := blk_frozen BK1.out 0; have hx1_1 := cz_ BK1.out 1; have hf1_1 : w1003.frozen? ⟨g1, 1, none⟩ = false := blk_frozen BK1.out 1; have hx1_2 := cz_ BK1.out 2; have hf1_2 : w1003.frozen? ⟨g1, 2, none⟩ = false := blk_frozen BK1.out 2) | (go_at_call 17; (with_reducible refine (spec_MarksCrossed.calls k t3_0 _ _ t3_1 _ _ t3_2 a1 a2 t6_0 t26_1 t26_2 _ ?sd6_1 ?sd6_2 ?sd6_3 ?sd6_4 A6.out).mono ?_); (case sd6_1 => exact (Kd.S_reads' HO4.out).2.2); (case sd6_2 => exact (Kd.S_reads' HO4.out).2.1); (case sd6_3 => exact (Kd.R_reads' HO5.out).2.2); (case sd6_4 => exact (Kd.R_reads' HO5.out).2.1); rintro e w1006 ⟨v_7, rfl, ho0, hb⟩; have hs_ := below_size HB.out; clear hx1_0 hf1_0 hx1_1 hf1_1 hx1_2 hf1_2; have n0_ := Aside0.mk (below_step HB.out hb); have n1_ := Aside0.mk (Kd.S_below HO4.out hb); have n2_ := Aside0.mk (Kd.R_below HO5.out hb); have n3_ := Aside0.mk (blk_below BK1.out hb); have SZ4 := Aside0.mk (show w1003.heap.size ≤ w1006.heap.size from (hb).size); clear HB HO4 HO5 BK1; have HB := n0_; have HO4 := n1_; have HO5 := n2_; have BK1 := n3_; clear n0_ n1_ n2_ n3_; have HO7 := Aside0.mk (R_zone ho0 hs_); clear ho0; obtain ⟨A_7, c_7, e_7⟩ := Kd.R_slice HO7.out; subst e_7; clear hb hs_; have hx1_0 := cz_ BK1.out 0; have hf1_0 : w1006.frozen? ⟨g1, 0, none⟩ = false := blk_frozen BK1.out 0; have hx1_1 := cz_ BK1.out 1; have hf1_1 : w1006.frozen? ⟨g1, 1, none⟩ = false := blk_frozen BK1.out 1; have hx1_2 := cz_ BK1.out 2; have hf1_2 : w1006.frozen? ⟨g1, 2, none⟩ = false := blk_frozen BK1.out 2) | (go_at_call 8; (with_reducible refine (laws_toClip.calls k a0_0 _ _ l0_1 _ _ l0_2 t8_0 t8_1 t8_2 _ ?sd8_1 ?sd8_2 ?sd8_3 ?sd8_4 A8.out).mono ?_); (case sd8_1 => exact Kd.C_below HR0_1.out HB.out); (case sd8_2 => exact HC0_1.out); (case sd8_3 => exact Kd.C_below HR0_2.out HB.out); (case sd8_4 => exact HC0_2.out); rintro e w1008 ⟨v_9, v_10, rfl, ho0, ho1, hb⟩; have hs_ := below_size HB.out; clear hx1_0 hf1_0 hx1_1 hf1_1 hx1_2 hf1_2; have n0_ := Aside0.mk (below_step HB.out hb); have n1_ := Aside0.mk (Kd.S_below HO4.out hb); have n2_ := Aside0.mk (Kd.R_below HO5.out hb); have n3_ := Aside0.mk (Kd.R_below HO7.out hb); have n4_ := Aside0.mk (blk_below BK1.out hb); have SZ5 := Aside0.mk (show w1006.heap.size ≤ w1008.heap.size from (hb).size); clear HB HO4 HO5 HO7 BK1; have HB := n0_; have HO4 := n1_; have HO5 := n2_; have HO7 := n3_; have BK1 := n4_; clear n0_ n1_ n2_ n3_ n4_; have HO9 := Aside0.mk (S_zone ho0 hs_); clear ho0; obtain ⟨A_9, c_9, e_9⟩ := Kd.S_slice HO9.out; subst e_9; have HO10 := Aside0.mk (R_zone ho1 hs_); clear ho1; obtain ⟨A_10, c_10, e_10⟩ := Kd.R_slice HO10.out; subst e_10; clear hb hs_; have hx1_0 := cz_ BK1.out 0; have hf1_0 : w1008.frozen? ⟨g1, 0, none⟩ = false := blk_frozen BK1.out 0; have hx1_1 := cz_ BK1.out 1; have hf1_1 : w1008.frozen? ⟨g1, 1, none⟩ = false := blk_frozen BK1.out 1; have hx1_2 := cz_ BK1.out 2; have hf1_2 : w1008.frozen? ⟨g1, 2, none⟩ = false := blk_frozen BK1.out 2) | ((with_reducible refine gate_dst (N := 11) rfl ?_); refine bx_ 11 #[.int .i64 0, .slice none 0 0, .slice none 0 0] 31 ?_; intro g11 hg w1011 hbox hb; clear hx1_0 hf1_0 hx1_1 hf1_1 hx1_2 hf1_2; have n0_ := Aside0.mk (below_step HB.out hb); have n1_ := Aside0.mk (Kd.S_below HO4.out hb); have n2_ := Aside0.mk (Kd.R_below HO5.out hb); have n3_ := Aside0.mk (Kd.R_below HO7.out hb); have n4_ := Aside0.mk (Kd.S_below HO9.out hb); have n5_ := Aside0.mk (Kd.R_below HO10.out hb); have n6_ := Aside0.mk (blk_below BK1.out hb); have SZ6 := Aside0.mk (show w1008.heap.size ≤ w1011.heap.size from (hb).size); clear HB HO4 HO5 HO7 HO9 HO10 BK1; have HB := n0_; have HO4 := n1_; have HO5 := n2_; have HO7 := n3_; have HO9 := n4_; have HO10 := n5_; have BK1 := n6_; clear n0_ n1_ n2_ n3_ n4_ n5_ n6_; have BK11 := Aside0.mk hbox; have GL11 := Aside0.mk (show w1008.heap.size ≤ g11 from Nat.le_of_eq hg.symm); have GU11 := Aside0.mk (blk_lt hbox); clear hbox hg hb; have hx1_0 := cz_ BK1.out 0; have hf1_0 : w1011.frozen? ⟨g1, 0, none⟩ = false := blk_frozen BK1.out 0; have hx1_1 := cz_ BK1.out 1; have hf1_1 : w1011.frozen? ⟨g1, 1, none⟩ = false := blk_frozen BK1.out 1; have hx1_2 := cz_ BK1.out 2; have hf1_2 : w1011.frozen? ⟨g1, 2, none⟩ = false := blk_frozen BK1.out 2; have hx11_0 := cz_ BK11.out 0; have hf11_0 : w1011.frozen? ⟨g11, 0, none⟩ = false := blk_frozen BK11.out 0; have hx11_1 := cz_ BK11.out 1; have hf11_1 : w1011.frozen? ⟨g11, 1, none⟩ = false := blk_frozen BK11.out 1; have hx11_2 := cz_ BK11.out 2; have hf11_2 : w1011.frozen? ⟨g11, 2, none⟩ = false := blk_frozen BK11.out 2) | ((with_reducible refine gate_store (t := 31) (p := 11) rfl ?_); refine se_ 31 11 (((w1011.setCell ⟨g11, 0, none⟩ (.int .i64 t8_0)).setCell ⟨g11, 1, none⟩ (.slice A_9 t8_1.length c_9)).setCell ⟨g11, 2, none⟩ (.slice A_10 t8_2.length c_10)) ?_; intro w2006 hw; have hge_ : w.heap.size ≤ g11 := (by have := GL11.out; have := SZ1.out; have := SZ2.out; have := SZ3.out; have := SZ4.out; have := SZ5.out; omega); have hb : Below w.heap.size w w2006 := (by rw [hw]; exact below_set (below_set (below_set (HB.out) hge_) hge_) hge_); have hkp : Kept w1011 w2006 (fun k_ => k_ = g11) := (by rw [hw]; exact Kept.setCell (Kept.setCell (Kept.setCell (Kept.refl w1011 (fun k_ => k_ = g11)) (.inl rfl) (.int .i64 t8_0)) (.inl rfl) (.slice A_9 t8_1.length c_9)) (.inl rfl) (.slice A_10 t8_2.length c_10)); have hbk : w2006.heap[g11]? = some (.cells #[.int .i64 t8_0, .slice A_9 t8_1.length c_9, .slice A_10 t8_2.length c_10] 31 (0, 0)) := (by rw [hw]; exact blk_put (cs' := #[.int .i64 t8_0, .slice A_9 t8_1.length c_9, .slice A_10 t8_2.length c_10]) (blk_put (cs' := #[.int .i64 t8_0, .slice A_9 t8_1.length c_9, .slice none 0 0]) (blk_put (cs' := #[.int .i64 t8_0, .slice none 0 0, .slice none 0 0]) (BK11.out) 0 (.int .i64 t8_0) rfl) 1 (.slice A_9 t8_1.length c_9) rfl) 2 (.slice A_10 t8_2.length c_10) rfl); clear hx1_0 hf1_0 hx1_1 hf1_1 hx1_2 hf1_2 hx11_0 hf11_0 hx11_1 hf11_1 hx11_2 hf11_2; have n0_ := Aside0.mk (hb); have n1_ := Aside0.mk (Kd.S_step HO4.out (fun k_ h_ hlt_ => hkp.2 k_ hlt_ (fun e_ => (show False from Zone.notblk h_ e_ (by have := GL11.out; have := GU11.out; have := SZ4.out; have := SZ5.out; first | exact .inl (by omega) | exact .inr (by omega))).elim))); have n2_ := Aside0.mk (Kd.R_step HO5.out (fun k_ h_ hlt_ => hkp.2 k_ hlt_ (fun e_ => (show False from Zone.notblk h_ e_ (by have := GL11.out; have := GU11.out; have := SZ4.out; have := SZ5.out; first | exact .inl (by omega) | exact .inr (by omega))).elim))); have n3_ := Aside0.mk (Kd.R_step HO7.out (fun k_ h_ hlt_ => hkp.2 k_ hlt_ (fun e_ => (show False from Zone.notblk h_ e_ (by have := GL11.out; have := GU11.out; have := SZ5.out; first | exact .inl (by omega) | exact .inr (by omega))).elim))); have n4_ := Aside0.mk (Kd.S_step HO9.out (fun k_ h_ hlt_ => hkp.2 k_ hlt_ (fun e_ => (show False from Zone.notblk h_ e_ (by have := GL11.out; have := GU11.out; first | exact .inl (by omega) | exact .inr (by omega))).elim))); have n5_ := Aside0.mk (Kd.R_step HO10.out (fun k_ h_ hlt_ => hkp.2 k_ hlt_ (fun e_ => (show False from Zone.notblk h_ e_ (by have := GL11.out; have := GU11.out; first | exact .inl (by omega) | exact .inr (by omega))).elim))); have n6_ := Aside0.mk ((hkp.2 g1 (blk_lt BK1.out) (fun e_ => (by have e2_ : g1 = g11 := e_; have := GL1.out; have := GU1.out; have := GL11.out; have := GU11.out; have := SZ2.out; have := SZ3.out; have := SZ4.out; have := SZ5.out; omega))).trans BK1.out); have n7_ := Aside0.mk (hbk); have SZ7 := Aside0.mk (show w1011.heap.size ≤ w2006.heap.size from hkp.1); clear HB HO4 HO5 HO7 HO9 HO10 BK1 BK11; have HB := n0_; have HO4 := n1_; have HO5 := n2_; have HO7 := n3_; have HO9 := n4_; have HO10 := n5_; have BK1 := n6_; have BK11 := n7_; clear n0_ n1_ n2_ n3_ n4_ n5_ n6_ n7_; clear hb hkp hbk hw hge_; have hx1_0 := cz_ BK1.out 0; have hf1_0 : w2006.frozen? ⟨g1, 0, none⟩ = false := blk_frozen BK1.out 0; have hx1_1 := cz_ BK1.out 1; have hf1_1 : w2006.frozen? ⟨g1, 1, none⟩ = false := blk_frozen BK1.out 1; have hx1_2 := cz_ BK1.out 2; have hf1_2 : w2006.frozen? ⟨g1, 2, none⟩ = false := blk_frozen BK1.out 2; have hx11_0 := cz_ BK11.out 0; have hf11_0 : w2006.frozen? ⟨g11, 0, none⟩ = false := blk_frozen BK11.out 0; have hx11_1 := cz_ BK11.out 1; have hf11_1 : w2006.frozen? ⟨g11, 1, none⟩ = false := blk_frozen BK11.out 1; have hx11_2 := cz_ BK11.out 2; have hf11_2 : w2006.frozen? ⟨g11, 2, none⟩ = false := blk_frozen BK11.out 2) | (go_at_call 18; (with_reducible refine (impl_MarksCrossed.calls k t8_0 _ _ t8_1 _ _ t8_2 a1 a2 t12_0 t26_1 t26_2 _ ?sd12_1 ?sd12_2 ?sd12_3 ?sd12_4 A12.out).mono ?_); (case sd12_1 => exact (Kd.S_reads' HO9.out).2.2); (case sd12_2 => exact (Kd.S_reads' HO9.out).2.1); (case sd12_3 => exact (Kd.R_reads' HO10.out).2.2); (case sd12_4 => exact (Kd.R_reads' HO10.out).2.1); rintro e w1012 ⟨v_13, rfl, ho0, hb⟩; have hs_ := below_size HB.out; clear hx1_0 hf1_0 hx1_1 hf1_1 hx1_2 hf1_2 hx11_0 hf11_0 hx11_1 hf11_1 hx11_2 hf11_2; have n0_ := Aside0.mk (below_step HB.out hb); have n1_ := Aside0.mk (Kd.S_below HO4.out hb); have n2_ := Aside0.mk (Kd.R_below HO5.out hb); have n3_ := Aside0.mk (Kd.R_below HO7.out hb); have n4_ := Aside0.mk (Kd.S_below HO9.out hb); have n5_ := Aside0.mk (Kd.R_below HO10.out hb); have n6_ := Aside0.mk (blk_below BK1.out hb); have n7_ := Aside0.mk (blk_below BK11.out hb); have SZ8 := Aside0.mk (show w2006.heap.size ≤ w1012.heap.size from (hb).size); clear HB HO4 HO5 HO7 HO9 HO10 BK1 BK11; have HB := n0_; have HO4 := n1_; have HO5 := n2_; have HO7 := n3_; have HO9 := n4_; have HO10 := n5_; have BK1 := n6_; have BK11 := n7_; clear n0_ n1_ n2_ n3_ n4_ n5_ n6_ n7_; have HO13 := Aside0.mk (R_zone ho0 hs_); clear ho0; obtain ⟨A_13, c_13, e_13⟩ := Kd.R_slice HO13.out; subst e_13; clear hb hs_; have hx1_0 := cz_ BK1.out 0; have hf1_0 : w1012.frozen? ⟨g1, 0, none⟩ = false := blk_frozen BK1.out 0; have hx1_1 := cz_ BK1.out 1; have hf1_1 : w1012.frozen? ⟨g1, 1, none⟩ = false := blk_frozen BK1.out 1; have hx1_2 := cz_ BK1.out 2; have hf1_2 : w1012.frozen? ⟨g1, 2, none⟩ = false := blk_frozen BK1.out 2; have hx11_0 := cz_ BK11.out 0; have hf11_0 : w1012.frozen? ⟨g11, 0, none⟩ = false := blk_frozen BK11.out 0; have hx11_1 := cz_ BK11.out 1; have hf11_1 : w1012.frozen? ⟨g11, 1, none⟩ = false := blk_frozen BK11.out 1; have hx11_2 := cz_ BK11.out 2; have hf11_2 : w1012.frozen? ⟨g11, 2, none⟩ = false := blk_frozen BK11.out 2) | (go_at_call 19; (with_reducible refine (laws_eqStringS.calls k _ _ t12_0 _ _ t6_0 true _ ?sd14_1 ?sd14_2 ?sd14_3 ?sd14_4 A14.out).mono ?_); (case sd14_1 => exact (Kd.R_reads' HO13.out).2.2); (case sd14_2 => exact (Kd.R_reads' HO13.out).2.1); (case sd14_3 => exact (Kd.R_reads' HO7.out).2.2); (case sd14_4 => exact (Kd.R_reads' HO7.out).2.1); rintro e w1014 ⟨rfl, hd⟩; have hb := hd.below; clear hd; have hs_ := below_size HB.out; clear hx1_0 hf1_0 hx1_1 hf1_1 hx1_2 hf1_2 hx11_0 hf11_0 hx11_1 hf11_1 hx11_2 hf11_2; have n0_ := Aside0.mk (below_step HB.out hb); have n1_ := Aside0.mk (Kd.S_below HO4.out hb); have n2_ := Aside0.mk (Kd.R_below HO5.out hb); have n3_ := Aside0.mk (Kd.R_below HO7.out hb); have n4_ := Aside0.mk (Kd.S_below HO9.out hb); have n5_ := Aside0.mk (Kd.R_below HO10.out hb); have n6_ := Aside0.mk (Kd.R_below HO13.out hb); have n7_ := Aside0.mk (blk_below BK1.out hb); have n8_ := Aside0.mk (blk_below BK11.out hb); have SZ9 := Aside0.mk (show w1012.heap.size ≤ w1014.heap.size from (hb).size); clear HB HO4 HO5 HO7 HO9 HO10 HO13 BK1 BK11; have HB := n0_; have HO4 := n1_; have HO5 := n2_; have HO7 := n3_; have HO9 := n4_; have HO10 := n5_; have HO13 := n6_; have BK1 := n7_; have BK11 := n8_; clear n0_ n1_ n2_ n3_ n4_ n5_ n6_ n7_ n8_; clear hb hs_; have hx1_0 := cz_ BK1.out 0; have hf1_0 : w1014.frozen? ⟨g1, 0, none⟩ = false := blk_frozen BK1.out 0; have hx1_1 := cz_ BK1.out 1; have hf1_1 : w1014.frozen? ⟨g1, 1, none⟩ = false := blk_frozen BK1.out 1; have hx1_2 := cz_ BK1.out 2; have hf1_2 : w1014.frozen? ⟨g1, 2, none⟩ = false := blk_frozen BK1.out 2; have hx11_0 := cz_ BK11.out 0; have hf11_0 : w1014.frozen? ⟨g11, 0, none⟩ = false := blk_frozen BK11.out 0; have hx11_1 := cz_ BK11.out 1; have hf11_1 : w1014.frozen? ⟨g11, 1, none⟩ = false := blk_frozen BK11.out 1; have hx11_2 := cz_ BK11.out 2; have hf11_2 : w1014.frozen? ⟨g11, 2, none⟩ = false := blk_frozen BK11.out 2))
  (try simp only [Act.put, List.setIfInBounds_toArray, List.set_cons_zero, List.set_cons_succ])
  clear hx1_0 hf1_0 hx1_1 hf1_1 hx1_2 hf1_2 hx11_0 hf11_0 hx11_1 hf11_1 hx11_2 hf11_2
  have n0_ := Aside0.mk (below_step HB.out (below_drew1 (Below.refl w1014.heap.size w1014)))
  have n1_ := Aside0.mk (Kd.S_below HO4.out (below_drew1 (Below.refl w1014.heap.size w1014)))
  have n2_ := Aside0.mk (Kd.R_below HO5.out (below_drew1 (Below.refl w1014.heap.size w1014)))
  have n3_ := Aside0.mk (Kd.R_below HO7.out (below_drew1 (Below.refl w1014.heap.size w1014)))
  have n4_ := Aside0.mk (Kd.S_below HO9.out (below_drew1 (Below.refl w1014.heap.size w1014)))
  have n5_ := Aside0.mk (Kd.R_below HO10.out (below_drew1 (Below.refl w1014.heap.size w1014)))
  have n6_ := Aside0.mk (Kd.R_below HO13.out (below_drew1 (Below.refl w1014.heap.size w1014)))
  have n7_ := Aside0.mk (blk_below BK1.out (below_drew1 (Below.refl w1014.heap.size w1014)))
  have n8_ := Aside0.mk (blk_below BK11.out (below_drew1 (Below.refl w1014.heap.size w1014)))
  have SZ10 := Aside0.mk (show w1014.heap.size ≤ w1014.drew.heap.size from ((below_drew1 (Below.refl w1014.heap.size w1014))).size)
  clear HB HO4 HO5 HO7 HO9 HO10 HO13 BK1 BK11
  have HB := n0_
  have HO4 := n1_
  have HO5 := n2_
  have HO7 := n3_
  have HO9 := n4_
  have HO10 := n5_
  have HO13 := n6_
  have BK1 := n7_
  have BK11 := n8_
  clear n0_ n1_ n2_ n3_ n4_ n5_ n6_ n7_ n8_
  refine start_ (n := 5) (S := fun w' => w'.cell? ⟨g1, 0, none⟩ = some (.int .i64 a0_0) ∧ w'.cell? ⟨g1, 1, none⟩ = some (.slice A0_1 l0_1.length c0_1) ∧ w'.cell? ⟨g1, 2, none⟩ = some (.slice A0_2 l0_2.length c0_2) ∧ w'.cell? ⟨g11, 0, none⟩ = some (.int .i64 t8_0) ∧ w'.cell? ⟨g11, 1, none⟩ = some (.slice A_9 t8_1.length c_9) ∧ w'.cell? ⟨g11, 2, none⟩ = some (.slice A_10 t8_2.length c_10)) (ds := []) #[false, false, false, false, false] (by kernel_rfl) rfl rfl ⟨cz_ BK1.out 0, cz_ BK1.out 1, cz_ BK1.out 2, cz_ BK11.out 0, cz_ BK11.out 1, cz_ BK11.out 2⟩ (fun hHeld => ?_); refine with_tabW laws_FnExactMarksCrossed.tab10 laws_FnExactMarksCrossed.bits10 (fun HT_ HW_ => ?_)
  generalize w1014.drew = w3009 at HB HO4 HO5 HO7 HO9 HO10 HO13 BK1 BK11 SZ10 hHeld ⊢
  refine take_ (i := 0) (N := some 59) (v := ?_) (a' := ?_) #[true, false, false, false, false] rfl rfl (take_ofW HT_.out HW_.out (by kernel_rfl)) (fun _ _ _ h => h) (Or.inl ⟨by rfl, ?_⟩) hHeld ?_ ?_
  rotate_left
  · rintro w' ⟨s0, s1, s2, s3, s4, s5⟩
    go_simp
    with_reducible rfl
  rotate_left
  · simp only [Act.put, List.setIfInBounds_toArray, List.set_cons_zero, List.set_cons_succ, i64_w, i32_w]
    rfl
  refine take_ (i := 1) (N := some 60) (v := ?_) (a' := ?_) #[true, true, false, false, false] rfl rfl (take_ofW HT_.out HW_.out (by kernel_rfl)) (fun _ _ _ h => h) (Or.inl ⟨by rfl, ?_⟩) hHeld ?_ ?_
  rotate_left
  · rintro w' ⟨s0, s1, s2, s3, s4, s5⟩
    go_simp
    with_reducible rfl
  rotate_left
  · simp only [Act.put, List.setIfInBounds_toArray, List.set_cons_zero, List.set_cons_succ, i64_w, i32_w]
    rfl
  refine oS_ 2 61 HT_ (fun K hK => ?_)
  refine goes_ Try.func8 (by kernel_rfl) rfl #[.agg #[.int .i64 a0_0, .slice A0_1 l0_1.length c0_1, .slice A0_2 l0_2.length c0_2]] (by rfl) rfl rfl (by (try simp only [List.map_toArray, List.map_cons, List.map_nil]); first | done | rfl) ?_
  (with_reducible refine (laws_toClip.calls k a0_0 _ _ l0_1 _ _ l0_2 t15_0 t15_1 t15_2 _ ?sd15_1 ?sd15_2 ?sd15_3 ?sd15_4 A15.out).mono ?_)
  (case sd15_1 => exact Kd.C_below HR0_1.out HB.out)
  (case sd15_2 => exact HC0_1.out)
  (case sd15_3 => exact Kd.C_below HR0_2.out HB.out)
  (case sd15_4 => exact HC0_2.out)
  rintro e w1015 ⟨v_16, v_17, rfl, ho0, ho1, hb⟩
  refine ⟨_, rfl, ?_⟩
  have hs_ := below_size HB.out
  have n0_ := Aside0.mk (below_step HB.out hb)
  have n1_ := Aside0.mk (Kd.S_below HO4.out hb)
  have n2_ := Aside0.mk (Kd.R_below HO5.out hb)
  have n3_ := Aside0.mk (Kd.R_below HO7.out hb)
  have n4_ := Aside0.mk (Kd.S_below HO9.out hb)
  have n5_ := Aside0.mk (Kd.R_below HO10.out hb)
  have n6_ := Aside0.mk (Kd.R_below HO13.out hb)
  have n7_ := Aside0.mk (blk_below BK1.out hb)
  have n8_ := Aside0.mk (blk_below BK11.out hb)
  have SZ11 := Aside0.mk (show w3009.heap.size ≤ w1015.heap.size from (hb).size)
  clear HB HO4 HO5 HO7 HO9 HO10 HO13 BK1 BK11
  have HB := n0_
  have HO4 := n1_
  have HO5 := n2_
  have HO7 := n3_
  have HO9 := n4_
  have HO10 := n5_
  have HO13 := n6_
  have BK1 := n7_
  have BK11 := n8_
  clear n0_ n1_ n2_ n3_ n4_ n5_ n6_ n7_ n8_
  have HO16 := Aside0.mk (S_zone ho0 hs_)
  clear ho0
  obtain ⟨A_16, c_16, e_16⟩ := Kd.S_slice HO16.out
  subst e_16
  have HO17 := Aside0.mk (R_zone ho1 hs_)
  clear ho1
  obtain ⟨A_17, c_17, e_17⟩ := Kd.R_slice HO17.out
  subst e_17
  clear hb hs_
  refine hK.out _ _ ⟨cz_ BK1.out 0, cz_ BK1.out 1, cz_ BK1.out 2, cz_ BK11.out 0, cz_ BK11.out 1, cz_ BK11.out 2⟩ (fun hHeld => ?_)
  clear hK K
  refine norm_ (a' := ?_) ?_ ?_
  rotate_left
  · show Act.put _ (some 61) _ = _
    simp only [Act.put, List.setIfInBounds_toArray, List.set_cons_zero, List.set_cons_succ, i64_w, i32_w]
    rfl
  refine oS_ 3 62 HT_ (fun K hK => ?_)
  refine goes_ Try.func10 (by kernel_rfl) rfl #[.agg #[.int .i64 t8_0, .slice A_9 t8_1.length c_9, .slice A_10 t8_2.length c_10], .agg #[.int .i64 t15_0, .slice A_16 t15_1.length c_16, .slice A_17 t15_2.length c_17]] (by rfl) rfl rfl (by (try simp only [List.map_toArray, List.map_cons, List.map_nil]); first | done | rfl) ?_
  (with_reducible refine (laws_eqClip.calls k t8_0 _ _ t8_1 _ _ t8_2 t15_0 _ _ t15_1 _ _ t15_2 true _ ?sd18_1 ?sd18_2 ?sd18_3 ?sd18_4 ?sd18_5 ?sd18_6 ?sd18_7 ?sd18_8 A18.out).mono ?_)
  (case sd18_1 => exact (Kd.S_reads' HO9.out).2.2)
  (case sd18_2 => exact (Kd.S_reads' HO9.out).2.1)
  (case sd18_3 => exact (Kd.R_reads' HO10.out).2.2)
  (case sd18_4 => exact (Kd.R_reads' HO10.out).2.1)
  (case sd18_5 => exact (Kd.S_reads' HO16.out).2.2)
  (case sd18_6 => exact (Kd.S_reads' HO16.out).2.1)
  (case sd18_7 => exact (Kd.R_reads' HO17.out).2.2)
  (case sd18_8 => exact (Kd.R_reads' HO17.out).2.1)
  rintro e w1018 ⟨rfl, hb⟩
  refine ⟨_, rfl, ?_⟩
  have hs_ := below_size HB.out
  have n0_ := Aside0.mk (below_step HB.out hb)
  have n1_ := Aside0.mk (Kd.S_below HO4.out hb)
  have n2_ := Aside0.mk (Kd.R_below HO5.out hb)
  have n3_ := Aside0.mk (Kd.R_below HO7.out hb)
  have n4_ := Aside0.mk (Kd.S_below HO9.out hb)
  have n5_ := Aside0.mk (Kd.R_below HO10.out hb)
  have n6_ := Aside0.mk (Kd.R_below HO13.out hb)
  have n7_ := Aside0.mk (Kd.S_below HO16.out hb)
  have n8_ := Aside0.mk (Kd.R_below HO17.out hb)
  have n9_ := Aside0.mk (blk_below BK1.out hb)
  have n10_ := Aside0.mk (blk_below BK11.out hb)
  have SZ12 := Aside0.mk (show w1015.heap.size ≤ w1018.heap.size from (hb).size)
  clear HB HO4 HO5 HO7 HO9 HO10 HO13 HO16 HO17 BK1 BK11
  have HB := n0_
  have HO4 := n1_
  have HO5 := n2_
  have HO7 := n3_
  have HO9 := n4_
  have HO10 := n5_
  have HO13 := n6_
  have HO16 := n7_
  have HO17 := n8_
  have BK1 := n9_
  have BK11 := n10_
  clear n0_ n1_ n2_ n3_ n4_ n5_ n6_ n7_ n8_ n9_ n10_
  clear hb hs_
  refine hK.out _ _ ⟨cz_ BK1.out 0, cz_ BK1.out 1, cz_ BK1.out 2, cz_ BK11.out 0, cz_ BK11.out 1, cz_ BK11.out 2⟩ (fun hHeld => ?_)
  clear hK K
  refine norm_ (a' := ?_) ?_ ?_
  rotate_left
  · show Act.put _ (some 62) _ = _
    simp only [Act.put, List.setIfInBounds_toArray, List.set_cons_zero, List.set_cons_succ, i64_w, i32_w]
    rfl
  refine pure_ (i := 4) (N := some 63) (v := ?_) (a' := ?_) #[true, true, true, true, true] rfl rfl (any_of HT_.out (by kernel_rfl)) (fun _ _ _ h => h) (Or.inl ⟨by rfl, ?_⟩) ?_ ?_
  rotate_left
  · intro w'
    go_simp
    with_reducible rfl
  rotate_left
  · simp only [Act.put, List.setIfInBounds_toArray, List.set_cons_zero, List.set_cons_succ, i64_w, i32_w]
    rfl
  refine done_ (done_of HT_.out (by kernel_rfl)) ?_
  clear hHeld
  try clear HT_ HW_
  have hx1_0 := cz_ BK1.out 0
  have hf1_0 : w1018.frozen? ⟨g1, 0, none⟩ = false := blk_frozen BK1.out 0
  have hx1_1 := cz_ BK1.out 1
  have hf1_1 : w1018.frozen? ⟨g1, 1, none⟩ = false := blk_frozen BK1.out 1
  have hx1_2 := cz_ BK1.out 2
  have hf1_2 : w1018.frozen? ⟨g1, 2, none⟩ = false := blk_frozen BK1.out 2
  have hx11_0 := cz_ BK11.out 0
  have hf11_0 : w1018.frozen? ⟨g11, 0, none⟩ = false := blk_frozen BK11.out 0
  have hx11_1 := cz_ BK11.out 1
  have hf11_1 : w1018.frozen? ⟨g11, 1, none⟩ = false := blk_frozen BK11.out 1
  have hx11_2 := cz_ BK11.out 2
  have hf11_2 : w1018.frozen? ⟨g11, 2, none⟩ = false := blk_frozen BK11.out 2
  skip
  go_wp2_with (first | (go_at_call 14; (with_reducible refine (laws_markClip.callsP k t8_0 (Zone w1006 w1008 (53 :: (k53).E)) (.slice A_9 t8_1.length c_9) t8_1 (Zone w1006 w1008 (57 :: (k57).E)) (.slice A_10 t8_2.length c_10) t8_2 1 t19_0 t19_1 t19_2 w _ ?sd19_1 ?sd19_2 ?sd19_3 ?sd19_4 ?sd19_5 A19.out).mono ?_); (case sd19_1 => exact HB.out); (case sd19_2 => exact HO9.out); (case sd19_3 => exact (fun k_ h_ e_ => Zone.apart_type h_ e_ (by decide))); (case sd19_4 => exact HO10.out); (case sd19_5 => exact (fun k_ h_ e_ => Zone.apart_type h_ e_ (by decide))); rintro e w1019 ⟨rfl, hy0, hy1, hb, hkp⟩; clear hx1_0 hf1_0 hx1_1 hf1_1 hx1_2 hf1_2 hx11_0 hf11_0 hx11_1 hf11_1 hx11_2 hf11_2; have n0_ := Aside0.mk (hb); have n1_ := Aside0.mk (Kd.S_step HO4.out (fun k_ h_ hlt_ => hkp.2 k_ hlt_ (fun e_ => Or.elim e_ (fun e1_ => (show False from Zone.apart h_ e1_ (by have := SZ4.out; first | exact .inl (by omega) | exact .inr (by omega))).elim) (fun e_ => (show False from Zone.apart h_ e_ (by have := SZ4.out; first | exact .inl (by omega) | exact .inr (by omega))).elim)))); have n2_ := Aside0.mk (Kd.R_step HO5.out (fun k_ h_ hlt_ => hkp.2 k_ hlt_ (fun e_ => Or.elim e_ (fun e1_ => (show False from Zone.apart h_ e1_ (by have := SZ4.out; first | exact .inl (by omega) | exact .inr (by omega))).elim) (fun e_ => (show False from Zone.apart h_ e_ (by have := SZ4.out; first | exact .inl (by omega) | exact .inr (by omega))).elim)))); have n3_ := Aside0.mk (Kd.R_step HO7.out (fun k_ h_ hlt_ => hkp.2 k_ hlt_ (fun e_ => Or.elim e_ (fun e1_ => (show False from Zone.apart h_ e1_ (by first | exact .inl (by omega) | exact .inr (by omega))).elim) (fun e_ => (show False from Zone.apart h_ e_ (by first | exact .inl (by omega) | exact .inr (by omega))).elim)))); have n4_ := Aside0.mk (hy0); have n5_ := Aside0.mk (hy1); have n6_ := Aside0.mk (Kd.R_step HO13.out (fun k_ h_ hlt_ => hkp.2 k_ hlt_ (fun e_ => Or.elim e_ (fun e1_ => (show False from Zone.apart h_ e1_ (by have := SZ6.out; have := SZ7.out; first | exact .inl (by omega) | exact .inr (by omega))).elim) (fun e_ => (show False from Zone.apart h_ e_ (by have := SZ6.out; have := SZ7.out; first | exact .inl (by omega) | exact .inr (by omega))).elim)))); have n7_ := Aside0.mk (Kd.S_step HO16.out (fun k_ h_ hlt_ => hkp.2 k_ hlt_ (fun e_ => Or.elim e_ (fun e1_ => (show False from Zone.apart h_ e1_ (by have := SZ6.out; have := SZ7.out; have := SZ8.out; have := SZ9.out; have := SZ10.out; first | exact .inl (by omega) | exact .inr (by omega))).elim) (fun e_ => (show False from Zone.apart h_ e_ (by have := SZ6.out; have := SZ7.out; have := SZ8.out; have := SZ9.out; have := SZ10.out; first | exact .inl (by omega) | exact .inr (by omega))).elim)))); have n8_ := Aside0.mk (Kd.R_step HO17.out (fun k_ h_ hlt_ => hkp.2 k_ hlt_ (fun e_ => Or.elim e_ (fun e1_ => (show False from Zone.apart h_ e1_ (by have := SZ6.out; have := SZ7.out; have := SZ8.out; have := SZ9.out; have := SZ10.out; first | exact .inl (by omega) | exact .inr (by omega))).elim) (fun e_ => (show False from Zone.apart h_ e_ (by have := SZ6.out; have := SZ7.out; have := SZ8.out; have := SZ9.out; have := SZ10.out; first | exact .inl (by omega) | exact .inr (by omega))).elim)))); have n9_ := Aside0.mk ((hkp.2 g1 (blk_lt BK1.out) (fun e_ => Or.elim e_ (fun e1_ => (show False from Zone.notblk e1_ rfl (by have := GL1.out; have := GU1.out; have := SZ2.out; have := SZ3.out; have := SZ4.out; first | exact .inl (by omega) | exact .inr (by omega))).elim) (fun e_ => (show False from Zone.notblk e_ rfl (by have := GL1.out; have := GU1.out; have := SZ2.out; have := SZ3.out; have := SZ4.out; first | exact .inl (by omega) | exact .inr (by omega))).elim))).trans BK1.out); have n10_ := Aside0.mk ((hkp.2 g11 (blk_lt BK11.out) (fun e_ => Or.elim e_ (fun e1_ => (show False from Zone.notblk e1_ rfl (by have := GL11.out; have := GU11.out; first | exact .inl (by omega) | exact .inr (by omega))).elim) (fun e_ => (show False from Zone.notblk e_ rfl (by have := GL11.out; have := GU11.out; first | exact .inl (by omega) | exact .inr (by omega))).elim))).trans BK11.out); have SZ13 := Aside0.mk (show w1018.heap.size ≤ w1019.heap.size from hkp.1); clear HB HO4 HO5 HO7 HO9 HO10 HO13 HO16 HO17 BK1 BK11; have HB := n0_; have HO4 := n1_; have HO5 := n2_; have HO7 := n3_; have HO9 := n4_; have HO10 := n5_; have HO13 := n6_; have HO16 := n7_; have HO17 := n8_; have BK1 := n9_; have BK11 := n10_; clear n0_ n1_ n2_ n3_ n4_ n5_ n6_ n7_ n8_ n9_ n10_; clear hb hkp hy0 hy1; have hx1_0 := cz_ BK1.out 0; have hf1_0 : w1019.frozen? ⟨g1, 0, none⟩ = false := blk_frozen BK1.out 0; have hx1_1 := cz_ BK1.out 1; have hf1_1 : w1019.frozen? ⟨g1, 1, none⟩ = false := blk_frozen BK1.out 1; have hx1_2 := cz_ BK1.out 2; have hf1_2 : w1019.frozen? ⟨g1, 2, none⟩ = false := blk_frozen BK1.out 2; have hx11_0 := cz_ BK11.out 0; have hf11_0 : w1019.frozen? ⟨g11, 0, none⟩ = false := blk_frozen BK11.out 0; have hx11_1 := cz_ BK11.out 1; have hf11_1 : w1019.frozen? ⟨g11, 1, none⟩ = false := blk_frozen BK11.out 1; have hx11_2 := cz_ BK11.out 2; have hf11_2 : w1019.frozen? ⟨g11, 2, none⟩ = false := blk_frozen BK11.out 2) | (go_at_call 19; (with_reducible refine (laws_eqStringS.calls k _ _ t12_0 _ _ t6_0 true _ ?sd20_1 ?sd20_2 ?sd20_3 ?sd20_4 A20.out).mono ?_); (case sd20_1 => exact (Kd.R_reads' HO13.out).2.2); (case sd20_2 => exact (Kd.R_reads' HO13.out).2.1); (case sd20_3 => exact (Kd.R_reads' HO7.out).2.2); (case sd20_4 => exact (Kd.R_reads' HO7.out).2.1); rintro e w1020 ⟨rfl, hd⟩; have hb := hd.below; clear hd; have hs_ := below_size HB.out; clear hx1_0 hf1_0 hx1_1 hf1_1 hx1_2 hf1_2 hx11_0 hf11_0 hx11_1 hf11_1 hx11_2 hf11_2; have n0_ := Aside0.mk (below_step HB.out hb); have n1_ := Aside0.mk (Kd.S_below HO4.out hb); have n2_ := Aside0.mk (Kd.R_below HO5.out hb); have n3_ := Aside0.mk (Kd.R_below HO7.out hb); have n4_ := Aside0.mk (Kd.S_below HO9.out hb); have n5_ := Aside0.mk (Kd.R_below HO10.out hb); have n6_ := Aside0.mk (Kd.R_below HO13.out hb); have n7_ := Aside0.mk (Kd.S_below HO16.out hb); have n8_ := Aside0.mk (Kd.R_below HO17.out hb); have n9_ := Aside0.mk (blk_below BK1.out hb); have n10_ := Aside0.mk (blk_below BK11.out hb); have SZ14 := Aside0.mk (show w1019.heap.size ≤ w1020.heap.size from (hb).size); clear HB HO4 HO5 HO7 HO9 HO10 HO13 HO16 HO17 BK1 BK11; have HB := n0_; have HO4 := n1_; have HO5 := n2_; have HO7 := n3_; have HO9 := n4_; have HO10 := n5_; have HO13 := n6_; have HO16 := n7_; have HO17 := n8_; have BK1 := n9_; have BK11 := n10_; clear n0_ n1_ n2_ n3_ n4_ n5_ n6_ n7_ n8_ n9_ n10_; clear hb hs_; have hx1_0 := cz_ BK1.out 0; have hf1_0 : w1020.frozen? ⟨g1, 0, none⟩ = false := blk_frozen BK1.out 0; have hx1_1 := cz_ BK1.out 1; have hf1_1 : w1020.frozen? ⟨g1, 1, none⟩ = false := blk_frozen BK1.out 1; have hx1_2 := cz_ BK1.out 2; have hf1_2 : w1020.frozen? ⟨g1, 2, none⟩ = false := blk_frozen BK1.out 2; have hx11_0 := cz_ BK11.out 0; have hf11_0 : w1020.frozen? ⟨g11, 0, none⟩ = false := blk_frozen BK11.out 0; have hx11_1 := cz_ BK11.out 1; have hf11_1 : w1020.frozen? ⟨g11, 1, none⟩ = false := blk_frozen BK11.out 1; have hx11_2 := cz_ BK11.out 2; have hf11_2 : w1020.frozen? ⟨g11, 2, none⟩ = false := blk_frozen BK11.out 2) | (go_at_call 20; (with_reducible refine (laws_markStringS.calls k (Zone w2006 w1012 (9 :: (Kd.string).E)) (.slice A_13 t12_0.length c_13) t12_0 1 t29 t21_1 w _ ?sd21_1 ?sd21_2 A21.out).mono ?_); (case sd21_1 => exact HB.out); (case sd21_2 => exact HO13.out); rintro e w1021 ⟨rfl, hy0, hb, hkp⟩; clear hx1_0 hf1_0 hx1_1 hf1_1 hx1_2 hf1_2 hx11_0 hf11_0 hx11_1 hf11_1 hx11_2 hf11_2; have n0_ := Aside0.mk (hb); have n1_ := Aside0.mk (Kd.S_step HO4.out (fun k_ h_ hlt_ => hkp.2 k_ hlt_ (fun e_ => (show False from Zone.apart h_ e_ (by have := SZ4.out; have := SZ5.out; have := SZ6.out; have := SZ7.out; first | exact .inl (by omega) | exact .inr (by omega))).elim))); have n2_ := Aside0.mk (Kd.R_step HO5.out (fun k_ h_ hlt_ => hkp.2 k_ hlt_ (fun e_ => (show False from Zone.apart h_ e_ (by have := SZ4.out; have := SZ5.out; have := SZ6.out; have := SZ7.out; first | exact .inl (by omega) | exact .inr (by omega))).elim))); have n3_ := Aside0.mk (Kd.R_step HO7.out (fun k_ h_ hlt_ => hkp.2 k_ hlt_ (fun e_ => (show False from Zone.apart h_ e_ (by have := SZ5.out; have := SZ6.out; have := SZ7.out; first | exact .inl (by omega) | exact .inr (by omega))).elim))); have n4_ := Aside0.mk (Kd.S_step HO9.out (fun k_ h_ hlt_ => hkp.2 k_ hlt_ (fun e_ => (show False from Zone.apart h_ e_ (by have := SZ6.out; have := SZ7.out; first | exact .inl (by omega) | exact .inr (by omega))).elim))); have n5_ := Aside0.mk (Kd.R_step HO10.out (fun k_ h_ hlt_ => hkp.2 k_ hlt_ (fun e_ => (show False from Zone.apart h_ e_ (by have := SZ6.out; have := SZ7.out; first | exact .inl (by omega) | exact .inr (by omega))).elim))); have n6_ := Aside0.mk (Kd.R_reok rfl hy0 HO13.out.1); have n7_ := Aside0.mk (Kd.S_step HO16.out (fun k_ h_ hlt_ => hkp.2 k_ hlt_ (fun e_ => (show False from Zone.apart h_ e_ (by have := SZ9.out; have := SZ10.out; first | exact .inl (by omega) | exact .inr (by omega))).elim))); have n8_ := Aside0.mk (Kd.R_step HO17.out (fun k_ h_ hlt_ => hkp.2 k_ hlt_ (fun e_ => (show False from Zone.apart h_ e_ (by have := SZ9.out; have := SZ10.out; first | exact .inl (by omega) | exact .inr (by omega))).elim))); have n9_ := Aside0.mk ((hkp.2 g1 (blk_lt BK1.out) (fun e_ => (show False from Zone.notblk e_ rfl (by have := GL1.out; have := GU1.out; have := SZ2.out; have := SZ3.out; have := SZ4.out; have := SZ5.out; have := SZ6.out; have := SZ7.out; first | exact .inl (by omega) | exact .inr (by omega))).elim)).trans BK1.out); have n10_ := Aside0.mk ((hkp.2 g11 (blk_lt BK11.out) (fun e_ => (show False from Zone.notblk e_ rfl (by have := GL11.out; have := GU11.out; have := SZ7.out; first | exact .inl (by omega) | exact .inr (by omega))).elim)).trans BK11.out); have SZ15 := Aside0.mk (show w1020.heap.size ≤ w1021.heap.size from hkp.1); clear HB HO4 HO5 HO7 HO9 HO10 HO13 HO16 HO17 BK1 BK11; have HB := n0_; have HO4 := n1_; have HO5 := n2_; have HO7 := n3_; have HO9 := n4_; have HO10 := n5_; have HO13 := n6_; have HO16 := n7_; have HO17 := n8_; have BK1 := n9_; have BK11 := n10_; clear n0_ n1_ n2_ n3_ n4_ n5_ n6_ n7_ n8_ n9_ n10_; clear hb hkp hy0; have hx1_0 := cz_ BK1.out 0; have hf1_0 : w1021.frozen? ⟨g1, 0, none⟩ = false := blk_frozen BK1.out 0; have hx1_1 := cz_ BK1.out 1; have hf1_1 : w1021.frozen? ⟨g1, 1, none⟩ = false := blk_frozen BK1.out 1; have hx1_2 := cz_ BK1.out 2; have hf1_2 : w1021.frozen? ⟨g1, 2, none⟩ = false := blk_frozen BK1.out 2; have hx11_0 := cz_ BK11.out 0; have hf11_0 : w1021.frozen? ⟨g11, 0, none⟩ = false := blk_frozen BK11.out 0; have hx11_1 := cz_ BK11.out 1; have hf11_1 : w1021.frozen? ⟨g11, 1, none⟩ = false := blk_frozen BK11.out 1; have hx11_2 := cz_ BK11.out 2; have hf11_2 : w1021.frozen? ⟨g11, 2, none⟩ = false := blk_frozen BK11.out 2) | (go_at_call 21; refine calls_of_args (args' := #[.slice A_13 t21_1.length c_13, .int .i64 1]) (by first | (rw [show t21_1.length = t12_0.length from (Kd.R_reads' HO13.out).1.symm] <;> rfl) | rfl) ?_; (with_reducible refine (laws_heldStringS.calls k _ _ t21_1 1 t29 _ ?sd22_1 ?sd22_2 A22.out).mono ?_); (case sd22_1 => exact (Kd.R_reads' HO13.out).2.2); (case sd22_2 => exact (by rw [show t21_1.length = t12_0.length from (Kd.R_reads' HO13.out).1.symm]; exact (Kd.R_reads' HO13.out).2.1)); rintro e w1022 ⟨rfl, hb⟩; have hs_ := below_size HB.out; clear hx1_0 hf1_0 hx1_1 hf1_1 hx1_2 hf1_2 hx11_0 hf11_0 hx11_1 hf11_1 hx11_2 hf11_2; have n0_ := Aside0.mk (below_step HB.out hb); have n1_ := Aside0.mk (Kd.S_below HO4.out hb); have n2_ := Aside0.mk (Kd.R_below HO5.out hb); have n3_ := Aside0.mk (Kd.R_below HO7.out hb); have n4_ := Aside0.mk (Kd.S_below HO9.out hb); have n5_ := Aside0.mk (Kd.R_below HO10.out hb); have n6_ := Aside0.mk (Kd.R_below HO13.out hb); have n7_ := Aside0.mk (Kd.S_below HO16.out hb); have n8_ := Aside0.mk (Kd.R_below HO17.out hb); have n9_ := Aside0.mk (blk_below BK1.out hb); have n10_ := Aside0.mk (blk_below BK11.out hb); have SZ16 := Aside0.mk (show w1021.heap.size ≤ w1022.heap.size from (hb).size); clear HB HO4 HO5 HO7 HO9 HO10 HO13 HO16 HO17 BK1 BK11; have HB := n0_; have HO4 := n1_; have HO5 := n2_; have HO7 := n3_; have HO9 := n4_; have HO10 := n5_; have HO13 := n6_; have HO16 := n7_; have HO17 := n8_; have BK1 := n9_; have BK11 := n10_; clear n0_ n1_ n2_ n3_ n4_ n5_ n6_ n7_ n8_ n9_ n10_; clear hb hs_; have hx1_0 := cz_ BK1.out 0; have hf1_0 : w1022.frozen? ⟨g1, 0, none⟩ = false := blk_frozen BK1.out 0; have hx1_1 := cz_ BK1.out 1; have hf1_1 : w1022.frozen? ⟨g1, 1, none⟩ = false := blk_frozen BK1.out 1; have hx1_2 := cz_ BK1.out 2; have hf1_2 : w1022.frozen? ⟨g1, 2, none⟩ = false := blk_frozen BK1.out 2; have hx11_0 := cz_ BK11.out 0; have hf11_0 : w1022.frozen? ⟨g11, 0, none⟩ = false := blk_frozen BK11.out 0; have hx11_1 := cz_ BK11.out 1; have hf11_1 : w1022.frozen? ⟨g11, 1, none⟩ = false := blk_frozen BK11.out 1; have hx11_2 := cz_ BK11.out 2; have hf11_2 : w1022.frozen? ⟨g11, 2, none⟩ = false := blk_frozen BK11.out 2) | (go_at_call 8; (with_reducible refine (laws_toClip.calls k a0_0 _ _ l0_1 _ _ l0_2 t23_0 t23_1 t23_2 _ ?sd23_1 ?sd23_2 ?sd23_3 ?sd23_4 A23.out).mono ?_); (case sd23_1 => exact Kd.C_below HR0_1.out HB.out); (case sd23_2 => exact HC0_1.out); (case sd23_3 => exact Kd.C_below HR0_2.out HB.out); (case sd23_4 => exact HC0_2.out); rintro e w1023 ⟨v_24, v_25, rfl, ho0, ho1, hb⟩; have hs_ := below_size HB.out; clear hx1_0 hf1_0 hx1_1 hf1_1 hx1_2 hf1_2 hx11_0 hf11_0 hx11_1 hf11_1 hx11_2 hf11_2; have n0_ := Aside0.mk (below_step HB.out hb); have n1_ := Aside0.mk (Kd.S_below HO4.out hb); have n2_ := Aside0.mk (Kd.R_below HO5.out hb); have n3_ := Aside0.mk (Kd.R_below HO7.out hb); have n4_ := Aside0.mk (Kd.S_below HO9.out hb); have n5_ := Aside0.mk (Kd.R_below HO10.out hb); have n6_ := Aside0.mk (Kd.R_below HO13.out hb); have n7_ := Aside0.mk (Kd.S_below HO16.out hb); have n8_ := Aside0.mk (Kd.R_below HO17.out hb); have n9_ := Aside0.mk (blk_below BK1.out hb); have n10_ := Aside0.mk (blk_below BK11.out hb); have SZ17 := Aside0.mk (show w1022.heap.size ≤ w1023.heap.size from (hb).size); clear HB HO4 HO5 HO7 HO9 HO10 HO13 HO16 HO17 BK1 BK11; have HB := n0_; have HO4 := n1_; have HO5 := n2_; have HO7 := n3_; have HO9 := n4_; have HO10 := n5_; have HO13 := n6_; have HO16 := n7_; have HO17 := n8_; have BK1 := n9_; have BK11 := n10_; clear n0_ n1_ n2_ n3_ n4_ n5_ n6_ n7_ n8_ n9_ n10_; have HO24 := Aside0.mk (S_zone ho0 hs_); clear ho0; obtain ⟨A_24, c_24, e_24⟩ := Kd.S_slice HO24.out; subst e_24; have HO25 := Aside0.mk (R_zone ho1 hs_); clear ho1; obtain ⟨A_25, c_25, e_25⟩ := Kd.R_slice HO25.out; subst e_25; clear hb hs_; have hx1_0 := cz_ BK1.out 0; have hf1_0 : w1023.frozen? ⟨g1, 0, none⟩ = false := blk_frozen BK1.out 0; have hx1_1 := cz_ BK1.out 1; have hf1_1 : w1023.frozen? ⟨g1, 1, none⟩ = false := blk_frozen BK1.out 1; have hx1_2 := cz_ BK1.out 2; have hf1_2 : w1023.frozen? ⟨g1, 2, none⟩ = false := blk_frozen BK1.out 2; have hx11_0 := cz_ BK11.out 0; have hf11_0 : w1023.frozen? ⟨g11, 0, none⟩ = false := blk_frozen BK11.out 0; have hx11_1 := cz_ BK11.out 1; have hf11_1 : w1023.frozen? ⟨g11, 1, none⟩ = false := blk_frozen BK11.out 1; have hx11_2 := cz_ BK11.out 2; have hf11_2 : w1023.frozen? ⟨g11, 2, none⟩ = false := blk_frozen BK11.out 2) | (go_at_call 18; (with_reducible refine (impl_MarksCrossed.calls k t23_0 _ _ t23_1 _ _ t23_2 a1 a2 t26_0 t26_1 t26_2 _ ?sd26_1 ?sd26_2 ?sd26_3 ?sd26_4 A26.out).mono ?_); (case sd26_1 => exact (Kd.S_reads' HO24.out).2.2); (case sd26_2 => exact (Kd.S_reads' HO24.out).2.1); (case sd26_3 => exact (Kd.R_reads' HO25.out).2.2); (case sd26_4 => exact (Kd.R_reads' HO25.out).2.1); rintro e w1026 ⟨v_27, rfl, ho0, hb⟩; have hs_ := below_size HB.out; clear hx1_0 hf1_0 hx1_1 hf1_1 hx1_2 hf1_2 hx11_0 hf11_0 hx11_1 hf11_1 hx11_2 hf11_2; have n0_ := Aside0.mk (below_step HB.out hb); have n1_ := Aside0.mk (Kd.S_below HO4.out hb); have n2_ := Aside0.mk (Kd.R_below HO5.out hb); have n3_ := Aside0.mk (Kd.R_below HO7.out hb); have n4_ := Aside0.mk (Kd.S_below HO9.out hb); have n5_ := Aside0.mk (Kd.R_below HO10.out hb); have n6_ := Aside0.mk (Kd.R_below HO13.out hb); have n7_ := Aside0.mk (Kd.S_below HO16.out hb); have n8_ := Aside0.mk (Kd.R_below HO17.out hb); have n9_ := Aside0.mk (Kd.S_below HO24.out hb); have n10_ := Aside0.mk (Kd.R_below HO25.out hb); have n11_ := Aside0.mk (blk_below BK1.out hb); have n12_ := Aside0.mk (blk_below BK11.out hb); have SZ18 := Aside0.mk (show w1023.heap.size ≤ w1026.heap.size from (hb).size); clear HB HO4 HO5 HO7 HO9 HO10 HO13 HO16 HO17 HO24 HO25 BK1 BK11; have HB := n0_; have HO4 := n1_; have HO5 := n2_; have HO7 := n3_; have HO9 := n4_; have HO10 := n5_; have HO13 := n6_; have HO16 := n7_; have HO17 := n8_; have HO24 := n9_; have HO25 := n10_; have BK1 := n11_; have BK11 := n12_; clear n0_ n1_ n2_ n3_ n4_ n5_ n6_ n7_ n8_ n9_ n10_ n11_ n12_; have HO27 := Aside0.mk (R_zone ho0 hs_); clear ho0; obtain ⟨A_27, c_27, e_27⟩ := Kd.R_slice HO27.out; subst e_27; clear hb hs_; have hx1_0 := cz_ BK1.out 0; have hf1_0 : w1026.frozen? ⟨g1, 0, none⟩ = false := blk_frozen BK1.out 0; have hx1_1 := cz_ BK1.out 1; have hf1_1 : w1026.frozen? ⟨g1, 1, none⟩ = false := blk_frozen BK1.out 1; have hx1_2 := cz_ BK1.out 2; have hf1_2 : w1026.frozen? ⟨g1, 2, none⟩ = false := blk_frozen BK1.out 2; have hx11_0 := cz_ BK11.out 0; have hf11_0 : w1026.frozen? ⟨g11, 0, none⟩ = false := blk_frozen BK11.out 0; have hx11_1 := cz_ BK11.out 1; have hf11_1 : w1026.frozen? ⟨g11, 1, none⟩ = false := blk_frozen BK11.out 1; have hx11_2 := cz_ BK11.out 2; have hf11_2 : w1026.frozen? ⟨g11, 2, none⟩ = false := blk_frozen BK11.out 2) | (go_at_call 19; (with_reducible refine (laws_eqStringS.calls k _ _ t26_0 _ _ t6_0 true _ ?sd28_1 ?sd28_2 ?sd28_3 ?sd28_4 A28.out).mono ?_); (case sd28_1 => exact (Kd.R_reads' HO27.out).2.2); (case sd28_2 => exact (Kd.R_reads' HO27.out).2.1); (case sd28_3 => exact (Kd.R_reads' HO7.out).2.2); (case sd28_4 => exact (Kd.R_reads' HO7.out).2.1); rintro e w1028 ⟨rfl, hd⟩; have hb := hd.below; clear hd; have hs_ := below_size HB.out; clear hx1_0 hf1_0 hx1_1 hf1_1 hx1_2 hf1_2 hx11_0 hf11_0 hx11_1 hf11_1 hx11_2 hf11_2; have n0_ := Aside0.mk (below_step HB.out hb); have n1_ := Aside0.mk (Kd.S_below HO4.out hb); have n2_ := Aside0.mk (Kd.R_below HO5.out hb); have n3_ := Aside0.mk (Kd.R_below HO7.out hb); have n4_ := Aside0.mk (Kd.S_below HO9.out hb); have n5_ := Aside0.mk (Kd.R_below HO10.out hb); have n6_ := Aside0.mk (Kd.R_below HO13.out hb); have n7_ := Aside0.mk (Kd.S_below HO16.out hb); have n8_ := Aside0.mk (Kd.R_below HO17.out hb); have n9_ := Aside0.mk (Kd.S_below HO24.out hb); have n10_ := Aside0.mk (Kd.R_below HO25.out hb); have n11_ := Aside0.mk (Kd.R_below HO27.out hb); have n12_ := Aside0.mk (blk_below BK1.out hb); have n13_ := Aside0.mk (blk_below BK11.out hb); have SZ19 := Aside0.mk (show w1026.heap.size ≤ w1028.heap.size from (hb).size); clear HB HO4 HO5 HO7 HO9 HO10 HO13 HO16 HO17 HO24 HO25 HO27 BK1 BK11; have HB := n0_; have HO4 := n1_; have HO5 := n2_; have HO7 := n3_; have HO9 := n4_; have HO10 := n5_; have HO13 := n6_; have HO16 := n7_; have HO17 := n8_; have HO24 := n9_; have HO25 := n10_; have HO27 := n11_; have BK1 := n12_; have BK11 := n13_; clear n0_ n1_ n2_ n3_ n4_ n5_ n6_ n7_ n8_ n9_ n10_ n11_ n12_ n13_; clear hb hs_; have hx1_0 := cz_ BK1.out 0; have hf1_0 : w1028.frozen? ⟨g1, 0, none⟩ = false := blk_frozen BK1.out 0; have hx1_1 := cz_ BK1.out 1; have hf1_1 : w1028.frozen? ⟨g1, 1, none⟩ = false := blk_frozen BK1.out 1; have hx1_2 := cz_ BK1.out 2; have hf1_2 : w1028.frozen? ⟨g1, 2, none⟩ = false := blk_frozen BK1.out 2; have hx11_0 := cz_ BK11.out 0; have hf11_0 : w1028.frozen? ⟨g11, 0, none⟩ = false := blk_frozen BK11.out 0; have hx11_1 := cz_ BK11.out 1; have hf11_1 : w1028.frozen? ⟨g11, 1, none⟩ = false := blk_frozen BK11.out 1; have hx11_2 := cz_ BK11.out 2; have hf11_2 : w1028.frozen? ⟨g11, 2, none⟩ = false := blk_frozen BK11.out 2) | (go_at_call 21; refine calls_of_args (args' := #[.slice A_13 t21_1.length c_13, .int .i64 1]) (by first | (rw [show t21_1.length = t12_0.length from (Kd.R_reads' HO13.out).1.symm] <;> rfl) | rfl) ?_; (with_reducible refine (laws_heldStringS.calls k _ _ t21_1 1 t29 _ ?sd29_1 ?sd29_2 A29.out).mono ?_); (case sd29_1 => exact (Kd.R_reads' HO13.out).2.2); (case sd29_2 => exact (by rw [show t21_1.length = t12_0.length from (Kd.R_reads' HO13.out).1.symm]; exact (Kd.R_reads' HO13.out).2.1)); rintro e w1029 ⟨rfl, hb⟩; have hs_ := below_size HB.out; clear hx1_0 hf1_0 hx1_1 hf1_1 hx1_2 hf1_2 hx11_0 hf11_0 hx11_1 hf11_1 hx11_2 hf11_2; have n0_ := Aside0.mk (below_step HB.out hb); have n1_ := Aside0.mk (Kd.S_below HO4.out hb); have n2_ := Aside0.mk (Kd.R_below HO5.out hb); have n3_ := Aside0.mk (Kd.R_below HO7.out hb); have n4_ := Aside0.mk (Kd.S_below HO9.out hb); have n5_ := Aside0.mk (Kd.R_below HO10.out hb); have n6_ := Aside0.mk (Kd.R_below HO13.out hb); have n7_ := Aside0.mk (Kd.S_below HO16.out hb); have n8_ := Aside0.mk (Kd.R_below HO17.out hb); have n9_ := Aside0.mk (Kd.S_below HO24.out hb); have n10_ := Aside0.mk (Kd.R_below HO25.out hb); have n11_ := Aside0.mk (Kd.R_below HO27.out hb); have n12_ := Aside0.mk (blk_below BK1.out hb); have n13_ := Aside0.mk (blk_below BK11.out hb); have SZ20 := Aside0.mk (show w1028.heap.size ≤ w1029.heap.size from (hb).size); clear HB HO4 HO5 HO7 HO9 HO10 HO13 HO16 HO17 HO24 HO25 HO27 BK1 BK11; have HB := n0_; have HO4 := n1_; have HO5 := n2_; have HO7 := n3_; have HO9 := n4_; have HO10 := n5_; have HO13 := n6_; have HO16 := n7_; have HO17 := n8_; have HO24 := n9_; have HO25 := n10_; have HO27 := n11_; have BK1 := n12_; have BK11 := n13_; clear n0_ n1_ n2_ n3_ n4_ n5_ n6_ n7_ n8_ n9_ n10_ n11_ n12_ n13_; clear hb hs_; have hx1_0 := cz_ BK1.out 0; have hf1_0 : w1029.frozen? ⟨g1, 0, none⟩ = false := blk_frozen BK1.out 0; have hx1_1 := cz_ BK1.out 1; have hf1_1 : w1029.frozen? ⟨g1, 1, none⟩ = false := blk_frozen BK1.out 1; have hx1_2 := cz_ BK1.out 2; have hf1_2 : w1029.frozen? ⟨g1, 2, none⟩ = false := blk_frozen BK1.out 2; have hx11_0 := cz_ BK11.out 0; have hf11_0 : w1029.frozen? ⟨g11, 0, none⟩ = false := blk_frozen BK11.out 0; have hx11_1 := cz_ BK11.out 1; have hf11_1 : w1029.frozen? ⟨g11, 1, none⟩ = false := blk_frozen BK11.out 1; have hx11_2 := cz_ BK11.out 2; have hf11_2 : w1029.frozen? ⟨g11, 2, none⟩ = false := blk_frozen BK11.out 2))
  go_ret
  exact ⟨rfl, HB.out⟩

/-! the law's reading -/
def ok88 (z : S88) : Prop := ((Lit.int .i64 z.f0).wf = true) ∧ ((Lit.int .i64 z.f1).wf = true)
def ok70 (z : S70) : Prop := (z.f0.size ≤ maxLen) ∧ (z.f1.length ≤ maxLen ∧ ∀ z260 ∈ z.f1, ok88 z260)
def ok72 (z : S72) : Prop := ((Lit.int .i64 z.f0).wf = true) ∧ (z.f1.size ≤ maxLen)
def ok25 (z : S25) : Prop := ((Lit.int .i64 z.f0).wf = true) ∧ (z.f1.length ≤ maxLen ∧ ∀ z261 ∈ z.f1, ok70 z261) ∧ (z.f2.length ≤ maxLen ∧ ∀ z262 ∈ z.f2, ok72 z262)
/-- THE ONE PURE STATEMENT of laws_FnExactMarksCrossed. -/
def laws_FnExactMarksCrossed.Pure : Prop := ∀ (a0_0 : Int) (l0_1 : List (S70)) (l0_2 : List (S72)) (a1 : Int) (a2 : Int), ((Lit.int .i64 a0_0).wf = true) → (l0_1.length ≤ maxLen ∧ ∀ z266 ∈ l0_1, ok70 z266) → (l0_2.length ≤ maxLen ∧ ∀ z267 ∈ l0_2, ok72 z267) → ((Lit.int .i64 a1).wf = true) → ((Lit.int .i64 a2).wf = true) → ∃ k, laws_FnExactMarksCrossed.f k a0_0 l0_1 l0_2 a1 a2 = some true


end Go.Proofs.Ytikoiodbmnekfaa.XFnExactMarksCrossed
