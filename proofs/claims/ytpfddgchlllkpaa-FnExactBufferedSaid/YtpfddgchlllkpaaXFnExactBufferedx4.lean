/- What the Go functions that this law comes to compute, each walked; written by a program of this session. -/
import Derived.Test.YtpfddgchlllkpaaXMark
import Derived.Test.YtpfddgchlllkpaaXFnExactBufferedx0
import Derived.Test.YtpfddgchlllkpaaXFnExactBufferedx1
import Derived.Test.YtpfddgchlllkpaaXFnExactBufferedx2
import Derived.Test.YtpfddgchlllkpaaXFnExactBufferedx3
namespace Go.Proofs.Ytpfddgchlllkpaa.XFnExactBuffered
open Go.RowKit Go.Proofs.YtpfddgchlllkpaaW.PrintWords Go.Proofs.YtpfddgchlllkpaaW.PrintLast Go.Proofs.YtpfddgchlllkpaaW.PrintMore
attribute [local go_sem] str_geq max2_int min2_int max_two min_two max_three min_three max_four min_four   -- for this text's walks alone
set_option linter.unusedVariables false
set_option linter.unusedSimpArgs false

/-! ### laws_eqMeantS: function 22 -/
def laws_eqMeantS.l0 : Nat → List (S69) → List (S69) → Int → Option (Bool)
 | 0, _, _, _ => none
 | k + 1, x0, x1, x5 => if x5 < (x0.length : Int) then (if 0 ≤ x5 then (if x5 < (x1.length : Int) then ((laws_eqMeant.f ((rd_T69 x0 x5).f0) ((rd_T69 x0 x5).f1) ((rd_T69 x0 x5).f2) ((rd_T69 x1 x5).f0) ((rd_T69 x1 x5).f1) ((rd_T69 x1 x5).f2)).bind fun t143 => (if t143 = true then (laws_eqMeantS.l0 k x0 x1 (wrap64 (x5 + 1))) else (some false))) else (none)) else (none)) else (some true)
def laws_eqMeantS.f (k : Nat) (l0 : List (S69)) (l1 : List (S69)) : Option (Bool) := if (l0.length : Int) = (l1.length : Int) then (laws_eqMeantS.l0 k l0 l1 0) else (some false)
theorem laws_eqMeantS.mono_l : ∀ k, (∀ y0 y1 y2, LeO (laws_eqMeantS.l0 k y0 y1 y2) (laws_eqMeantS.l0 (k + 1) y0 y1 y2))
 | 0 => fun _ _ _ r h => by simp [laws_eqMeantS.l0] at h
 | k + 1 => by
  have ih0 := laws_eqMeantS.mono_l k
  ·intro y0 y1 y2
   unfold laws_eqMeantS.l0
   repeat' first
   | (with_reducible exact ih0 _ _ _)
   | (with_reducible exact LeO.refl _)
   | (with_reducible exact LeO.none _)
   | (with_reducible refine LeO.ite ?_ ?_)
   | (with_reducible refine LeO.bind ?_ (fun _ => ?_))
   | exact ih0 _ _ _
   | exact LeO.none _
   | refine LeO.ite ?_ ?_
   | refine LeO.bind ?_ (fun _ => ?_)
theorem laws_eqMeantS.mono : ∀ a0 a1 k, LeO (laws_eqMeantS.f k a0 a1) (laws_eqMeantS.f (k + 1) a0 a1) := by
 intro a0 a1 k
 have ih0 := laws_eqMeantS.mono_l k
 unfold laws_eqMeantS.f
 repeat' first
   | (with_reducible exact ih0 _ _ _)
   | (with_reducible exact LeO.refl _)
   | (with_reducible exact LeO.none _)
   | (with_reducible refine LeO.ite ?_ ?_)
   | (with_reducible refine LeO.bind ?_ (fun _ => ?_))
   | exact ih0 _ _ _
   | exact LeO.none _
   | refine LeO.ite ?_ ?_
   | refine LeO.bind ?_ (fun _ => ?_)
def laws_eqMeantS.T6 : Bool × List (List Nat × List Nat) := (true, [([], []), ([], []), ([0, 1], [0, 1]), ([2], [2]), ([], []), ([], []), ([4, 5], [4, 5]), ([6], [6]), ([3, 7], [3, 7]), ([8], [8])])
def laws_eqMeantS.B6 : List Nat := [0, 0, 3, 7, 0, 0, 48, 112, 255, 511]
theorem laws_eqMeantS.tab6 : rtab .any (opsOf Try.f22 6) = laws_eqMeantS.T6 := by kernel_rfl
theorem laws_eqMeantS.bits6 : waitsOk laws_eqMeantS.T6.2 laws_eqMeantS.B6 = true := by kernel_rfl
set_option maxHeartbeats 8000000 in
set_option maxRecDepth 100000 in
theorem laws_eqMeantS.calls (k : Nat) (A0 : Option Addr) (c0 : Nat) (l0 : List (S69)) (A1 : Option Addr) (c1 : Nat) (l1 : List (S69)) (r : Bool) (w : World) (hr0 : Kd.C k69 w A0 l0.length l0) (hc0 : l0.length ≤ c0) (hr1 : Kd.C k69 w A1 l1.length l1) (hc1 : l1.length ≤ c1) (h : laws_eqMeantS.f k l0 l1 = some r) :
  Calls Try.prog 22 #[.slice A0 l0.length c0, .slice A1 l1.length c1] w fun e w' => e = .returned (.bool r) ∧ Below w.heap.size w w' := by
 have hu69 := Try.underlying69
 have HR0 := Aside0.mk hr0
 have HC0 := Aside0.mk hc0
 clear hr0 hc0
 have HR1 := Aside0.mk hr1
 have HC1 := Aside0.mk hc1
 clear hr1 hc1
 have HB := Aside0.mk (Below.refl w.heap.size w)
 have H : (if (l0.length : Int) = (l1.length : Int) then (laws_eqMeantS.l0 k l0 l1 0) else (some false)) = some r := h
 clear h
 by_cases c3 : (l0.length : Int) = (l1.length : Int)
 ·rw [if_pos c3] at H
  have c3b0 : ((l0.length : Int) == (l1.length : Int)) = true := beq_iff_eq.mpr c3
  have c3b1 : ((l0.length : Int) != (l1.length : Int)) = false := bne_eq_false_iff_eq.mpr c3
  have c3b2 : (l0.length == l1.length) = true := by first | simpa using c3 | (simp at c3 ⊢; omega)
  clear c3
  have H' := Aside0.mk H
  clear H
  go_enter Try.func22, Try.ntmps22
  go_wp2
  go_loopg [5] k (fun kq v5 w' => ∃ (x5_1 : Int), v5 = .int .i64 x5_1 ∧ Aside0 (laws_eqMeantS.l0 kq l0 l1 x5_1 = some r) ∧ Aside0 (kq ≤ k) ∧ Aside0 (Below w.heap.size w w'))
  case atStart => exact ⟨(0), (by first | rfl | (simp; done) | (simp [*]; done) | (simp [wrap64]; done)), H', ⟨Nat.le_refl _⟩, ⟨bw_ HB.out⟩⟩
  case round =>
   clear H'
   try clear c1
   try clear c2
   try clear p2
   try clear c3
   try clear c3b0
   try clear c3b1
   try clear c3b2
   obtain ⟨x5_1, rfl, HA, HK1, HB⟩ := hrel
   cases gk with
   | zero => exact absurd HA.out (by simp [laws_eqMeantS.l0])
   | succ k1 =>
    have H := HA.out
    clear HA
    simp only [laws_eqMeantS.l0] at H
    by_cases c4 : x5_1 < (l0.length : Int)
    ·rw [if_pos c4] at H
     have c4b0 : decide (x5_1 < (l0.length : Int)) = true := decide_eq_true c4
     clear c4
     by_cases c5 : 0 ≤ x5_1
     ·rw [if_pos c5] at H
      have c5b0 : decide (0 ≤ x5_1) = true := decide_eq_true c5
      clear c5
      by_cases c6 : x5_1 < (l1.length : Int)
      ·rw [if_pos c6] at H
       have c6b0 : decide (x5_1 < (l1.length : Int)) = true := decide_eq_true c6
       clear c6
       obtain ⟨t143, A70, H⟩ := bE_ H
       have A7 := Aside0.mk A70
       clear A70
       by_cases c8 : t143 = true
       ·subst c8
        replace H := it_ H rfl
        have H' := Aside0.mk H
        clear H
        try go_wp2
        have n0_ := Aside0.mk (below_drew1 HB.out)
        clear HB
        have HB := n0_
        clear n0_
        have p141 : 0 ≤ (x5_1 : Int) := of_decide_eq_true (by first | (with_reducible assumption) | assumption)
        have q141 : x5_1 < (l0.length : Int) := of_decide_eq_true (by first | (with_reducible assumption) | assumption)
        obtain ⟨ad141, e141, hx141_0, hx141_1, hx141_2⟩ := at_T69 HR0.out x5_1 p141 q141
        have hw141_2 := hx141_2
        have hw141_1 := hx141_1
        have hw141_0 := hx141_0
        cases e141
        (try replace hx141_0 := (HB.out.cell (World.block_lt_of_cell? w _ hx141_0)).trans hx141_0)
        (try replace hx141_1 := (HB.out.cell (World.block_lt_of_cell? w _ hx141_1)).trans hx141_1)
        (try replace hx141_2 := (HB.out.cell (World.block_lt_of_cell? w _ hx141_2)).trans hx141_2)
        replace p141 := eq_true p141
        replace q141 := eq_true q141
        have p142 : 0 ≤ (x5_1 : Int) := of_decide_eq_true (by first | (with_reducible assumption) | assumption)
        have q142 : x5_1 < (l1.length : Int) := of_decide_eq_true (by first | (with_reducible assumption) | assumption)
        obtain ⟨ad142, e142, hx142_0, hx142_1, hx142_2⟩ := at_T69 HR1.out x5_1 p142 q142
        have hw142_2 := hx142_2
        have hw142_1 := hx142_1
        have hw142_0 := hx142_0
        cases e142
        (try replace hx142_0 := (HB.out.cell (World.block_lt_of_cell? w _ hx142_0)).trans hx142_0)
        (try replace hx142_1 := (HB.out.cell (World.block_lt_of_cell? w _ hx142_1)).trans hx142_1)
        (try replace hx142_2 := (HB.out.cell (World.block_lt_of_cell? w _ hx142_2)).trans hx142_2)
        replace p142 := eq_true p142
        replace q142 := eq_true q142
        refine start_ (n := 10) (S := fun w' => w'.cell? (ad141.add ((x5_1).toNat * 3)) = some (.int .i64 ((rd_T69 l0 x5_1).f0)) ∧ w'.cell? ⟨(ad141.add ((x5_1).toNat * 3)).block, (ad141.add ((x5_1).toNat * 3)).off + 1, none⟩ = some (.string ((rd_T69 l0 x5_1).f1)) ∧ w'.cell? ⟨(ad141.add ((x5_1).toNat * 3)).block, (ad141.add ((x5_1).toNat * 3)).off + 2, none⟩ = some (.bool ((rd_T69 l0 x5_1).f2)) ∧ w'.cell? (ad142.add ((x5_1).toNat * 3)) = some (.int .i64 ((rd_T69 l1 x5_1).f0)) ∧ w'.cell? ⟨(ad142.add ((x5_1).toNat * 3)).block, (ad142.add ((x5_1).toNat * 3)).off + 1, none⟩ = some (.string ((rd_T69 l1 x5_1).f1)) ∧ w'.cell? ⟨(ad142.add ((x5_1).toNat * 3)).block, (ad142.add ((x5_1).toNat * 3)).off + 2, none⟩ = some (.bool ((rd_T69 l1 x5_1).f2))) (ds := []) (Array.replicate 10 false) (by kernel_rfl) rfl rfl ⟨((HB.out.cell (World.block_lt_of_cell? w _ hw141_0)).trans hw141_0), ((HB.out.cell (World.block_lt_of_cell? w _ hw141_1)).trans hw141_1), ((HB.out.cell (World.block_lt_of_cell? w _ hw141_2)).trans hw141_2), ((HB.out.cell (World.block_lt_of_cell? w _ hw142_0)).trans hw142_0), ((HB.out.cell (World.block_lt_of_cell? w _ hw142_1)).trans hw142_1), ((HB.out.cell (World.block_lt_of_cell? w _ hw142_2)).trans hw142_2)⟩ (fun hHeld => ?_); refine with_tabW laws_eqMeantS.tab6 laws_eqMeantS.bits6 (fun HT_ HW_ => ?_)
        generalize wr.drew = w9 at HB hx141_0 hx141_1 hx141_2 hx142_0 hx142_1 hx142_2 hHeld ⊢
        refine pS_ 0 17 HT_ ?_
        refine pS_ 1 18 HT_ ?_
        refine pS_ 2 19 HT_ ?_
        refine pS_ 4 21 HT_ ?_
        refine pS_ 5 22 HT_ ?_
        refine pS_ 6 23 HT_ ?_
        refine tS_ 3 20 HT_ HW_ hHeld ?_
        refine tS_ 7 24 HT_ HW_ hHeld ?_
        refine oS_ 8 25 HT_ (fun K hK => ?_)
        refine goes_ Try.func52 (by kernel_rfl) rfl #[.agg #[.int .i64 ((rd_T69 l0 x5_1).f0), .string ((rd_T69 l0 x5_1).f1), .bool ((rd_T69 l0 x5_1).f2)], .agg #[.int .i64 ((rd_T69 l1 x5_1).f0), .string ((rd_T69 l1 x5_1).f1), .bool ((rd_T69 l1 x5_1).f2)]] (by rfl) rfl rfl (by (try simp only [List.map_toArray, List.map_cons, List.map_nil]); first | done | rfl | (simp only [List.length_drop, List.length_take]; rfl)) ?_
        with_reducible refine (laws_eqMeant.calls ((rd_T69 l0 x5_1).f0) ((rd_T69 l0 x5_1).f1) ((rd_T69 l0 x5_1).f2) ((rd_T69 l1 x5_1).f0) ((rd_T69 l1 x5_1).f1) ((rd_T69 l1 x5_1).f2) true _ A7.out).mono ?_
        rintro e w10 ⟨rfl, hb⟩
        refine ⟨_, rfl, ?_⟩
        have n0_ := Aside0.mk (below_step (bw_ HB.out) hb)
        clear HB
        have HB := n0_
        clear n0_
        (try clear hb)
        (try clear hb2)
        (try clear hk)
        (try clear hi)
        refine hK.out _ _ ⟨((HB.out.cell (World.block_lt_of_cell? w _ hw141_0)).trans hw141_0), ((HB.out.cell (World.block_lt_of_cell? w _ hw141_1)).trans hw141_1), ((HB.out.cell (World.block_lt_of_cell? w _ hw141_2)).trans hw141_2), ((HB.out.cell (World.block_lt_of_cell? w _ hw142_0)).trans hw142_0), ((HB.out.cell (World.block_lt_of_cell? w _ hw142_1)).trans hw142_1), ((HB.out.cell (World.block_lt_of_cell? w _ hw142_2)).trans hw142_2)⟩ (fun hHeld => ?_)
        clear hK K
        refine nS_ ?_
        refine pS_ 9 26 HT_ ?_
        refine done_ (done_of HT_.out (by kernel_rfl)) ?_
        try go_wp2
        go_roundg k1
        case measure => have := HK1.out; omega
        case rel => exact ⟨(wrap64 (x5_1 + 1)), (by first | rfl | (simp; done) | (simp [*]; done) | (simp [wrap64]; done)), H', ⟨by have := HK1.out; omega⟩, ⟨bw_ HB.out⟩⟩
       ·replace c8 := Bool.eq_false_iff.mpr c8
        subst c8
        replace H := if_ H Bool.false_ne_true
        obtain rfl := Option.some.inj H
        try go_wp2
        have n0_ := Aside0.mk (below_drew1 HB.out)
        clear HB
        have HB := n0_
        clear n0_
        have p141 : 0 ≤ (x5_1 : Int) := of_decide_eq_true (by first | (with_reducible assumption) | assumption)
        have q141 : x5_1 < (l0.length : Int) := of_decide_eq_true (by first | (with_reducible assumption) | assumption)
        obtain ⟨ad141, e141, hx141_0, hx141_1, hx141_2⟩ := at_T69 HR0.out x5_1 p141 q141
        have hw141_2 := hx141_2
        have hw141_1 := hx141_1
        have hw141_0 := hx141_0
        cases e141
        (try replace hx141_0 := (HB.out.cell (World.block_lt_of_cell? w _ hx141_0)).trans hx141_0)
        (try replace hx141_1 := (HB.out.cell (World.block_lt_of_cell? w _ hx141_1)).trans hx141_1)
        (try replace hx141_2 := (HB.out.cell (World.block_lt_of_cell? w _ hx141_2)).trans hx141_2)
        replace p141 := eq_true p141
        replace q141 := eq_true q141
        have p142 : 0 ≤ (x5_1 : Int) := of_decide_eq_true (by first | (with_reducible assumption) | assumption)
        have q142 : x5_1 < (l1.length : Int) := of_decide_eq_true (by first | (with_reducible assumption) | assumption)
        obtain ⟨ad142, e142, hx142_0, hx142_1, hx142_2⟩ := at_T69 HR1.out x5_1 p142 q142
        have hw142_2 := hx142_2
        have hw142_1 := hx142_1
        have hw142_0 := hx142_0
        cases e142
        (try replace hx142_0 := (HB.out.cell (World.block_lt_of_cell? w _ hx142_0)).trans hx142_0)
        (try replace hx142_1 := (HB.out.cell (World.block_lt_of_cell? w _ hx142_1)).trans hx142_1)
        (try replace hx142_2 := (HB.out.cell (World.block_lt_of_cell? w _ hx142_2)).trans hx142_2)
        replace p142 := eq_true p142
        replace q142 := eq_true q142
        refine start_ (n := 10) (S := fun w' => w'.cell? (ad141.add ((x5_1).toNat * 3)) = some (.int .i64 ((rd_T69 l0 x5_1).f0)) ∧ w'.cell? ⟨(ad141.add ((x5_1).toNat * 3)).block, (ad141.add ((x5_1).toNat * 3)).off + 1, none⟩ = some (.string ((rd_T69 l0 x5_1).f1)) ∧ w'.cell? ⟨(ad141.add ((x5_1).toNat * 3)).block, (ad141.add ((x5_1).toNat * 3)).off + 2, none⟩ = some (.bool ((rd_T69 l0 x5_1).f2)) ∧ w'.cell? (ad142.add ((x5_1).toNat * 3)) = some (.int .i64 ((rd_T69 l1 x5_1).f0)) ∧ w'.cell? ⟨(ad142.add ((x5_1).toNat * 3)).block, (ad142.add ((x5_1).toNat * 3)).off + 1, none⟩ = some (.string ((rd_T69 l1 x5_1).f1)) ∧ w'.cell? ⟨(ad142.add ((x5_1).toNat * 3)).block, (ad142.add ((x5_1).toNat * 3)).off + 2, none⟩ = some (.bool ((rd_T69 l1 x5_1).f2))) (ds := []) (Array.replicate 10 false) (by kernel_rfl) rfl rfl ⟨((HB.out.cell (World.block_lt_of_cell? w _ hw141_0)).trans hw141_0), ((HB.out.cell (World.block_lt_of_cell? w _ hw141_1)).trans hw141_1), ((HB.out.cell (World.block_lt_of_cell? w _ hw141_2)).trans hw141_2), ((HB.out.cell (World.block_lt_of_cell? w _ hw142_0)).trans hw142_0), ((HB.out.cell (World.block_lt_of_cell? w _ hw142_1)).trans hw142_1), ((HB.out.cell (World.block_lt_of_cell? w _ hw142_2)).trans hw142_2)⟩ (fun hHeld => ?_); refine with_tabW laws_eqMeantS.tab6 laws_eqMeantS.bits6 (fun HT_ HW_ => ?_)
        generalize wr.drew = w11 at HB hx141_0 hx141_1 hx141_2 hx142_0 hx142_1 hx142_2 hHeld ⊢
        refine pS_ 0 17 HT_ ?_
        refine pS_ 1 18 HT_ ?_
        refine pS_ 2 19 HT_ ?_
        refine pS_ 4 21 HT_ ?_
        refine pS_ 5 22 HT_ ?_
        refine pS_ 6 23 HT_ ?_
        refine tS_ 3 20 HT_ HW_ hHeld ?_
        refine tS_ 7 24 HT_ HW_ hHeld ?_
        refine oS_ 8 25 HT_ (fun K hK => ?_)
        refine goes_ Try.func52 (by kernel_rfl) rfl #[.agg #[.int .i64 ((rd_T69 l0 x5_1).f0), .string ((rd_T69 l0 x5_1).f1), .bool ((rd_T69 l0 x5_1).f2)], .agg #[.int .i64 ((rd_T69 l1 x5_1).f0), .string ((rd_T69 l1 x5_1).f1), .bool ((rd_T69 l1 x5_1).f2)]] (by rfl) rfl rfl (by (try simp only [List.map_toArray, List.map_cons, List.map_nil]); first | done | rfl | (simp only [List.length_drop, List.length_take]; rfl)) ?_
        with_reducible refine (laws_eqMeant.calls ((rd_T69 l0 x5_1).f0) ((rd_T69 l0 x5_1).f1) ((rd_T69 l0 x5_1).f2) ((rd_T69 l1 x5_1).f0) ((rd_T69 l1 x5_1).f1) ((rd_T69 l1 x5_1).f2) false _ A7.out).mono ?_
        rintro e w12 ⟨rfl, hb⟩
        refine ⟨_, rfl, ?_⟩
        have n0_ := Aside0.mk (below_step (bw_ HB.out) hb)
        clear HB
        have HB := n0_
        clear n0_
        (try clear hb)
        (try clear hb2)
        (try clear hk)
        (try clear hi)
        refine hK.out _ _ ⟨((HB.out.cell (World.block_lt_of_cell? w _ hw141_0)).trans hw141_0), ((HB.out.cell (World.block_lt_of_cell? w _ hw141_1)).trans hw141_1), ((HB.out.cell (World.block_lt_of_cell? w _ hw141_2)).trans hw141_2), ((HB.out.cell (World.block_lt_of_cell? w _ hw142_0)).trans hw142_0), ((HB.out.cell (World.block_lt_of_cell? w _ hw142_1)).trans hw142_1), ((HB.out.cell (World.block_lt_of_cell? w _ hw142_2)).trans hw142_2)⟩ (fun hHeld => ?_)
        clear hK K
        refine nS_ ?_
        refine pS_ 9 26 HT_ ?_
        refine done_ (done_of HT_.out (by kernel_rfl)) ?_
        try go_wp2
        go_ret
        exact ⟨by first | rfl | (simp [errW_none, errW_some] <;> rfl) | (simp [*, errW_none, errW_some] <;> rfl), bw_ HB.out⟩
      ·rw [if_neg c6] at H
       exact absurd H (by simp)
     ·rw [if_neg c5] at H
      exact absurd H (by simp)
    ·rw [if_neg c4] at H
     have c4b0 : decide (x5_1 < (l0.length : Int)) = false := decide_eq_false c4
     clear c4
     obtain rfl := Option.some.inj H
     go_wp2
     go_ret
     exact ⟨by first | rfl | (simp [errW_none, errW_some] <;> rfl) | (simp [*, errW_none, errW_some] <;> rfl), bw_ HB.out⟩
 ·rw [if_neg c3] at H
  have c3b0 : ((l0.length : Int) == (l1.length : Int)) = false := beq_eq_false_iff_ne.mpr c3
  have c3b1 : ((l0.length : Int) != (l1.length : Int)) = true := bne_iff_ne.mpr c3
  have c3b2 : (l0.length == l1.length) = false := by first | simpa using c3 | (simp at c3 ⊢; omega)
  obtain rfl := Option.some.inj H
  go_enter Try.func22, Try.ntmps22
  go_wp2
  go_ret
  exact ⟨by first | rfl | (simp [errW_none, errW_some] <;> rfl) | (simp [*, errW_none, errW_some] <;> rfl), bw_ HB.out⟩

/-! ### laws_FnExactBuffered: function 4 -/
def laws_FnExactBuffered.f (k : Nat) (l0 : List (S67)) (a1 : ByteArray) (a2 : Int) (a3 : Int) : Option (Bool) := if (a1.size : Int) > 1048576 then some true else ((laws_szMeantS.f k l0 1048576).bind fun t1 => if t1 < 0 then some true else ((laws_toMeantS.f k l0).bind fun t2 => (spec_Buffered.f k t2 a1 a2 a3).bind fun t4 => (laws_toMeantS.f k l0).bind fun t5 => (impl_Buffered.f k t5 a1 a2 a3).bind fun t7 => if t7.1 = t4.1 then (if t7.2 = t4.2 then ((laws_toMeantS.f k l0).bind fun t8 => (laws_eqMeantS.f k t5 t8).bind fun t10 => if t10 = true then (some true) else none) else none) else none))
theorem laws_FnExactBuffered.mono : ∀ a0 a1 a2 a3 k, LeO (laws_FnExactBuffered.f k a0 a1 a2 a3) (laws_FnExactBuffered.f (k + 1) a0 a1 a2 a3) := by
  intro a0 a1 a2 a3 k
  unfold laws_FnExactBuffered.f
  repeat' first
  | (with_reducible exact laws_szMeantS.mono _ _ _)
  | (with_reducible exact spec_Buffered.mono _ _ _ _ _)
  | (with_reducible exact laws_toMeantS.mono _ _)
  | (with_reducible exact impl_Buffered.mono _ _ _ _ _)
  | (with_reducible exact laws_eqMeantS.mono _ _ _)
  | (with_reducible exact LeO.refl _)
  | (with_reducible exact LeO.none _)
  | (with_reducible refine LeO.ite ?_ ?_)
  | refine LeO.bind ?_ (fun _ => ?_)
  | exact LeO.none _
set_option maxHeartbeats 8000000 in
set_option maxRecDepth 100000 in
theorem laws_FnExactBuffered.calls (k : Nat) (A0 : Option Addr) (c0 : Nat) (l0 : List (S67)) (a1 : ByteArray) (a2 : Int) (a3 : Int) (r : Bool) (w : World) (hr0 : Kd.C k67 w A0 l0.length l0) (hc0 : l0.length ≤ c0) (h : laws_FnExactBuffered.f k l0 a1 a2 a3 = some r) :
    Calls Try.prog 4 #[.slice A0 l0.length c0, .string a1, .int .i64 a2, .int .i64 a3] w fun e w' => e = .returned (.bool r) ∧ Below w.heap.size w w' := by
  have HR0 := Aside0.mk hr0
  have HC0 := Aside0.mk hc0
  clear hr0 hc0
  have HB := Aside0.mk (Below.refl w.heap.size w)
  unfold laws_FnExactBuffered.f at h
  have H := h
  clear h
  by_cases c_ : (a1.size : Int) > 1048576
  · rw [if_pos c_] at H
    have fb11 : decide ((a1.size : Int) > 1048576) = true := decide_eq_true c_
    have fb12 : decide (1048576 < (a1.size : Int)) = true := decide_eq_true (by omega)
    have fb13 : decide (a1.size > 1048576) = true := decide_eq_true (by omega)
    have fb14 : decide (1048576 < a1.size) = true := decide_eq_true (by omega)
    clear c_
    obtain rfl := Option.some.inj H
    go_enter Try.func4, Try.ntmps4
    go_wp2
    go_ret
    exact ⟨rfl, HB.out⟩
  rw [if_neg c_] at H
  have fb15 : decide ((a1.size : Int) > 1048576) = false := decide_eq_false c_
  have fb16 : decide (1048576 < (a1.size : Int)) = false := decide_eq_false (by omega)
  have fb17 : decide (a1.size > 1048576) = false := decide_eq_false (by omega)
  have fb18 : decide (1048576 < a1.size) = false := decide_eq_false (by omega)
  clear c_
  replace H := bE_ H
  obtain ⟨t1, hA1, H⟩ := H
  have A1 := Aside0.mk hA1
  clear hA1
  by_cases c_ : t1 < 0
  · rw [if_pos c_] at H
    have fb19 : decide (t1 < 0) = true := decide_eq_true c_
    clear c_
    obtain rfl := Option.some.inj H
    go_enter Try.func4, Try.ntmps4
    go_wp2_with (first | (go_at_call 18; (with_reducible refine (laws_szMeantS.calls k _ _ l0 1048576 t1 _ ?sd1_1 ?sd1_2 A1.out).mono ?_); (case sd1_1 => exact Kd.C_below HR0.out HB.out); (case sd1_2 => exact HC0.out); rintro e w1001 ⟨rfl, hb⟩; have hs_ := below_size HB.out; have n0_ := Aside0.mk (below_step HB.out hb); have SZ1 := Aside0.mk (show w.heap.size ≤ w1001.heap.size from (hb).size); clear HB; have HB := n0_; clear n0_; clear hb hs_))
    go_ret
    exact ⟨rfl, HB.out⟩
  rw [if_neg c_] at H
  have fb20 : decide (t1 < 0) = false := decide_eq_false c_
  clear c_
  replace H := bE_ H
  obtain ⟨t2, hA2, H⟩ := H
  have A2 := Aside0.mk hA2
  clear hA2
  replace H := bE_ H
  obtain ⟨⟨t4_0, t4_1⟩, hA4, H⟩ := H
  try dsimp only at H
  have A4 := Aside0.mk hA4
  clear hA4
  replace H := bE_ H
  obtain ⟨t5, hA5, H⟩ := H
  have A5 := Aside0.mk hA5
  clear hA5
  replace H := bE_ H
  obtain ⟨⟨t7_0, t7_1⟩, hA7, H⟩ := H
  try dsimp only at H
  have A7 := Aside0.mk hA7
  clear hA7
  replace H := nd_ H
  obtain ⟨c_, H⟩ := H
  subst c_
  first | have fb21 : (t7_0 == t7_0) = true := beq_self_eq_true _ | have fb21 : (t7_0.toList == t7_0.toList) = true := beq_self_eq_true _
  first | have fb22 : (t7_0 != t7_0) = false := by simp | have fb22 : (t7_0.toList != t7_0.toList) = false := by simp
  replace H := nd_ H
  obtain ⟨c_, H⟩ := H
  subst c_
  first | have fb23 : (t7_1 == t7_1) = true := beq_self_eq_true _ | have fb23 : (t7_1.toList == t7_1.toList) = true := beq_self_eq_true _
  first | have fb24 : (t7_1 != t7_1) = false := by simp | have fb24 : (t7_1.toList != t7_1.toList) = false := by simp
  replace H := bE_ H
  obtain ⟨t8, hA8, H⟩ := H
  have A8 := Aside0.mk hA8
  clear hA8
  replace H := bE_ H
  obtain ⟨t10, hA10, H⟩ := H
  have A10 := Aside0.mk hA10
  clear hA10
  replace H := nd_ H
  obtain ⟨c_, H⟩ := H
  subst c_
  obtain rfl := Option.some.inj H
  go_enter Try.func4, Try.ntmps4
  go_wp2_with (first | (go_at_call 18; (with_reducible refine (laws_szMeantS.calls k _ _ l0 1048576 t1 _ ?sd1_1 ?sd1_2 A1.out).mono ?_); (case sd1_1 => exact Kd.C_below HR0.out HB.out); (case sd1_2 => exact HC0.out); rintro e w1001 ⟨rfl, hb⟩; have hs_ := below_size HB.out; have n0_ := Aside0.mk (below_step HB.out hb); have SZ1 := Aside0.mk (show w.heap.size ≤ w1001.heap.size from (hb).size); clear HB; have HB := n0_; clear n0_; clear hb hs_) | (go_at_call 20; (with_reducible refine (laws_toMeantS.calls k _ _ l0 t2 _ ?sd2_1 ?sd2_2 A2.out).mono ?_); (case sd2_1 => exact Kd.C_below HR0.out HB.out); (case sd2_2 => exact HC0.out); rintro e w1002 ⟨v_3, rfl, ho0, hb⟩; have hs_ := below_size HB.out; have n0_ := Aside0.mk (below_step HB.out hb); have SZ2 := Aside0.mk (show w1001.heap.size ≤ w1002.heap.size from (hb).size); clear HB; have HB := n0_; clear n0_; have HO3 := Aside0.mk (R_zone ho0 hs_); clear ho0; obtain ⟨A_3, c_3, e_3⟩ := Kd.R_slice HO3.out; subst e_3; clear hb hs_) | (go_at_call 19; (with_reducible refine (spec_Buffered.calls k _ _ t2 a1 a2 a3 t7_0 t7_1 _ ?sd4_1 ?sd4_2 A4.out).mono ?_); (case sd4_1 => exact (Kd.R_reads' HO3.out).2.2); (case sd4_2 => exact (Kd.R_reads' HO3.out).2.1); rintro e w1004 ⟨rfl, hb⟩; have hs_ := below_size HB.out; have n0_ := Aside0.mk (below_step HB.out hb); have n1_ := Aside0.mk (Kd.R_below HO3.out hb); have SZ3 := Aside0.mk (show w1002.heap.size ≤ w1004.heap.size from (hb).size); clear HB HO3; have HB := n0_; have HO3 := n1_; clear n0_ n1_; clear hb hs_) | (go_at_call 20; (with_reducible refine (laws_toMeantS.calls k _ _ l0 t5 _ ?sd5_1 ?sd5_2 A5.out).mono ?_); (case sd5_1 => exact Kd.C_below HR0.out HB.out); (case sd5_2 => exact HC0.out); rintro e w1005 ⟨v_6, rfl, ho0, hb⟩; have hs_ := below_size HB.out; have n0_ := Aside0.mk (below_step HB.out hb); have n1_ := Aside0.mk (Kd.R_below HO3.out hb); have SZ4 := Aside0.mk (show w1004.heap.size ≤ w1005.heap.size from (hb).size); clear HB HO3; have HB := n0_; have HO3 := n1_; clear n0_ n1_; have HO6 := Aside0.mk (R_zone ho0 hs_); clear ho0; obtain ⟨A_6, c_6, e_6⟩ := Kd.R_slice HO6.out; subst e_6; clear hb hs_) | (go_at_call 21; (with_reducible refine (impl_Buffered.calls k _ _ t5 a1 a2 a3 t7_0 t7_1 _ ?sd7_1 ?sd7_2 A7.out).mono ?_); (case sd7_1 => exact (Kd.R_reads' HO6.out).2.2); (case sd7_2 => exact (Kd.R_reads' HO6.out).2.1); rintro e w1007 ⟨rfl, hb⟩; have hs_ := below_size HB.out; have n0_ := Aside0.mk (below_step HB.out hb); have n1_ := Aside0.mk (Kd.R_below HO3.out hb); have n2_ := Aside0.mk (Kd.R_below HO6.out hb); have SZ5 := Aside0.mk (show w1005.heap.size ≤ w1007.heap.size from (hb).size); clear HB HO3 HO6; have HB := n0_; have HO3 := n1_; have HO6 := n2_; clear n0_ n1_ n2_; clear hb hs_) | (go_at_call 20; (with_reducible refine (laws_toMeantS.calls k _ _ l0 t8 _ ?sd8_1 ?sd8_2 A8.out).mono ?_); (case sd8_1 => exact Kd.C_below HR0.out HB.out); (case sd8_2 => exact HC0.out); rintro e w1008 ⟨v_9, rfl, ho0, hb⟩; have hs_ := below_size HB.out; have n0_ := Aside0.mk (below_step HB.out hb); have n1_ := Aside0.mk (Kd.R_below HO3.out hb); have n2_ := Aside0.mk (Kd.R_below HO6.out hb); have SZ6 := Aside0.mk (show w1007.heap.size ≤ w1008.heap.size from (hb).size); clear HB HO3 HO6; have HB := n0_; have HO3 := n1_; have HO6 := n2_; clear n0_ n1_ n2_; have HO9 := Aside0.mk (R_zone ho0 hs_); clear ho0; obtain ⟨A_9, c_9, e_9⟩ := Kd.R_slice HO9.out; subst e_9; clear hb hs_) | (go_at_call 22; (with_reducible refine (laws_eqMeantS.calls k _ _ t5 _ _ t8 true _ ?sd10_1 ?sd10_2 ?sd10_3 ?sd10_4 A10.out).mono ?_); (case sd10_1 => exact (Kd.R_reads' HO6.out).2.2); (case sd10_2 => exact (Kd.R_reads' HO6.out).2.1); (case sd10_3 => exact (Kd.R_reads' HO9.out).2.2); (case sd10_4 => exact (Kd.R_reads' HO9.out).2.1); rintro e w1010 ⟨rfl, hb⟩; have hs_ := below_size HB.out; have n0_ := Aside0.mk (below_step HB.out hb); have n1_ := Aside0.mk (Kd.R_below HO3.out hb); have n2_ := Aside0.mk (Kd.R_below HO6.out hb); have n3_ := Aside0.mk (Kd.R_below HO9.out hb); have SZ7 := Aside0.mk (show w1008.heap.size ≤ w1010.heap.size from (hb).size); clear HB HO3 HO6 HO9; have HB := n0_; have HO3 := n1_; have HO6 := n2_; have HO9 := n3_; clear n0_ n1_ n2_ n3_; clear hb hs_))
  go_ret
  exact ⟨rfl, HB.out⟩

/-! the law's reading -/
def ok67 (z : S67) : Prop := ((Lit.int .i64 z.f0).wf = true) ∧ (z.f1.size ≤ maxLen) ∧ (True)
/-- THE ONE PURE STATEMENT of laws_FnExactBuffered. -/
def laws_FnExactBuffered.Pure : Prop := ∀ (l0 : List (S67)) (a1 : ByteArray) (a2 : Int) (a3 : Int), (l0.length ≤ maxLen ∧ ∀ z145 ∈ l0, ok67 z145) → (a1.size ≤ maxLen) → ((Lit.int .i64 a2).wf = true) → ((Lit.int .i64 a3).wf = true) → ∃ k, laws_FnExactBuffered.f k l0 a1 a2 a3 = some true


end Go.Proofs.Ytpfddgchlllkpaa.XFnExactBuffered
