/- What the Go functions that this law comes to compute, each walked; written by a program of this session. -/
import Derived.Test.YtbjdhmgednhdgaaXFlt
import Derived.Test.YtbjdhmgednhdgaaXMark
import Derived.Test.YtbjdhmgednhdgaaXFnExactSpectrumx0
import Derived.Test.YtbjdhmgednhdgaaXFnExactSpectrumx1
import Derived.Test.YtbjdhmgednhdgaaXFnExactSpectrumx2
import Derived.Test.YtbjdhmgednhdgaaXFnExactSpectrumx3
namespace Go.Proofs.Ytbjdhmgednhdgaa.XFnExactSpectrum
open Go.RowKit Go.Proofs.YtbjdhmgednhdgaaW.PrintWords Go.Proofs.YtbjdhmgednhdgaaW.PrintLast Go.Proofs.YtbjdhmgednhdgaaW.PrintMore
attribute [local go_sem] run_fadd run_fsub run_fmul run_fdiv run_fconv run_fofI run_feq run_fneq run_flss run_fgtr run_fleq run_fgeq run_store_flt str_geq max2_int min2_int max_two min_two max_three min_three max_four min_four   -- for this text's walks alone
set_option linter.unusedVariables false
set_option linter.unusedSimpArgs false

/-! ### laws_eqTurnS: function 25 -/
def laws_eqTurnS.l0 : Nat → List (S33) → List (S33) → Int → Option (Bool)
 | 0, _, _, _ => none
 | k + 1, x0, x1, x5 => if x5 < (x0.length : Int) then (if 0 ≤ x5 then (if x5 < (x1.length : Int) then ((laws_eqTurn.f k ((rd_T33 x0 x5).f0) ((rd_T33 x0 x5).f1) ((rd_T33 x1 x5).f0) ((rd_T33 x1 x5).f1)).bind fun t161 => (if t161 = true then (laws_eqTurnS.l0 k x0 x1 (wrap64 (x5 + 1))) else (some false))) else (none)) else (none)) else (some true)
def laws_eqTurnS.f (k : Nat) (l0 : List (S33)) (l1 : List (S33)) : Option (Bool) := if (l0.length : Int) = (l1.length : Int) then (laws_eqTurnS.l0 k l0 l1 0) else (some false)
theorem laws_eqTurnS.mono_l : ∀ k, (∀ y0 y1 y2, LeO (laws_eqTurnS.l0 k y0 y1 y2) (laws_eqTurnS.l0 (k + 1) y0 y1 y2))
 | 0 => fun _ _ _ r h => by simp [laws_eqTurnS.l0] at h
 | k + 1 => by
  have ih0 := laws_eqTurnS.mono_l k
  ·intro y0 y1 y2
   unfold laws_eqTurnS.l0
   repeat' first
   | (with_reducible exact ih0 _ _ _)
   | (with_reducible exact laws_eqTurn.mono _ _ _ _ _)
   | (with_reducible exact LeO.refl _)
   | (with_reducible exact LeO.none _)
   | (with_reducible refine LeO.ite ?_ ?_)
   | (with_reducible refine LeO.bind ?_ (fun _ => ?_))
   | exact ih0 _ _ _
   | exact laws_eqTurn.mono _ _ _ _ _
   | exact LeO.none _
   | refine LeO.ite ?_ ?_
   | refine LeO.bind ?_ (fun _ => ?_)
theorem laws_eqTurnS.mono : ∀ a0 a1 k, LeO (laws_eqTurnS.f k a0 a1) (laws_eqTurnS.f (k + 1) a0 a1) := by
 intro a0 a1 k
 have ih0 := laws_eqTurnS.mono_l k
 unfold laws_eqTurnS.f
 repeat' first
   | (with_reducible exact ih0 _ _ _)
   | (with_reducible exact laws_eqTurn.mono _ _ _ _ _)
   | (with_reducible exact LeO.refl _)
   | (with_reducible exact LeO.none _)
   | (with_reducible refine LeO.ite ?_ ?_)
   | (with_reducible refine LeO.bind ?_ (fun _ => ?_))
   | exact ih0 _ _ _
   | exact laws_eqTurn.mono _ _ _ _ _
   | exact LeO.none _
   | refine LeO.ite ?_ ?_
   | refine LeO.bind ?_ (fun _ => ?_)
def laws_eqTurnS.T6 : Bool × List (List Nat × List Nat) := (true, [([], []), ([], []), ([0, 1], [0, 1]), ([2], [2]), ([], []), ([], []), ([4, 5], [4, 5]), ([6], [6]), ([3, 7], [3, 7]), ([8], [8])])
def laws_eqTurnS.B6 : List Nat := [0, 0, 3, 7, 0, 0, 48, 112, 255, 511]
theorem laws_eqTurnS.tab6 : rtab .any (opsOf Try.f25 6) = laws_eqTurnS.T6 := by kernel_rfl
theorem laws_eqTurnS.bits6 : waitsOk laws_eqTurnS.T6.2 laws_eqTurnS.B6 = true := by kernel_rfl
set_option maxHeartbeats 8000000 in
set_option maxRecDepth 100000 in
theorem laws_eqTurnS.calls (k : Nat) (A0 : Option Addr) (c0 : Nat) (l0 : List (S33)) (A1 : Option Addr) (c1 : Nat) (l1 : List (S33)) (r : Bool) (w : World) (hr0 : Kd.C k33 w A0 l0.length l0) (hc0 : l0.length ≤ c0) (hr1 : Kd.C k33 w A1 l1.length l1) (hc1 : l1.length ≤ c1) (h : laws_eqTurnS.f k l0 l1 = some r) :
  Calls Try.prog 25 #[.slice A0 l0.length c0, .slice A1 l1.length c1] w fun e w' => e = .returned (.bool r) ∧ Below w.heap.size w w' := by
 have hu33 := Try.underlying33
 have HR0 := Aside0.mk hr0
 have HC0 := Aside0.mk hc0
 clear hr0 hc0
 have HR1 := Aside0.mk hr1
 have HC1 := Aside0.mk hc1
 clear hr1 hc1
 have HB := Aside0.mk (Below.refl w.heap.size w)
 have H : (if (l0.length : Int) = (l1.length : Int) then (laws_eqTurnS.l0 k l0 l1 0) else (some false)) = some r := h
 clear h
 by_cases c3 : (l0.length : Int) = (l1.length : Int)
 ·rw [if_pos c3] at H
  have c3b0 : ((l0.length : Int) == (l1.length : Int)) = true := beq_iff_eq.mpr c3
  have c3b1 : ((l0.length : Int) != (l1.length : Int)) = false := bne_eq_false_iff_eq.mpr c3
  have c3b2 : (l0.length == l1.length) = true := by first | simpa using c3 | (simp at c3 ⊢; omega)
  clear c3
  have H' := Aside0.mk H
  clear H
  go_enter Try.func25, Try.ntmps25
  go_wp2
  go_loopg [5] k (fun kq v5 w' => ∃ (x5_1 : Int), v5 = .int .i64 x5_1 ∧ Aside0 (laws_eqTurnS.l0 kq l0 l1 x5_1 = some r) ∧ Aside0 (kq ≤ k) ∧ Aside0 (Below w.heap.size w w'))
  case atStart => exact ⟨(0), (by first | rfl | (simp; done) | (simp [*]; done) | (simp [wrap64]; done)), H', ⟨Nat.le_refl _⟩, ⟨bw_ HB.out⟩⟩
  case round =>
   clear H'
   try clear c1
   try clear c2
   try clear p2
   try clear c3
   try clear c3b0
   try clear c3b1
   try clear c3b2
   obtain ⟨x5_1, rfl, HA, HK1, HB⟩ := hrel
   cases gk with
   | zero => exact absurd HA.out (by simp [laws_eqTurnS.l0])
   | succ k1 =>
    have H := HA.out
    clear HA
    simp only [laws_eqTurnS.l0] at H
    by_cases c4 : x5_1 < (l0.length : Int)
    ·rw [if_pos c4] at H
     have c4b0 : decide (x5_1 < (l0.length : Int)) = true := decide_eq_true c4
     clear c4
     by_cases c5 : 0 ≤ x5_1
     ·rw [if_pos c5] at H
      have c5b0 : decide (0 ≤ x5_1) = true := decide_eq_true c5
      clear c5
      by_cases c6 : x5_1 < (l1.length : Int)
      ·rw [if_pos c6] at H
       have c6b0 : decide (x5_1 < (l1.length : Int)) = true := decide_eq_true c6
       clear c6
       obtain ⟨t161, A70, H⟩ := bE_ H
       have A7 := Aside0.mk A70
       clear A70
       by_cases c8 : t161 = true
       ·subst c8
        replace H := it_ H rfl
        have H' := Aside0.mk H
        clear H
        try go_wp2
        have n0_ := Aside0.mk (below_drew1 HB.out)
        clear HB
        have HB := n0_
        clear n0_
        have p159 : 0 ≤ (x5_1 : Int) := of_decide_eq_true (by first | (with_reducible assumption) | assumption)
        have q159 : x5_1 < (l0.length : Int) := of_decide_eq_true (by first | (with_reducible assumption) | assumption)
        obtain ⟨ad159, e159, hx159_0, hx159_1⟩ := at_T33 HR0.out x5_1 p159 q159
        have hw159_1 := hx159_1
        have hw159_0 := hx159_0
        cases e159
        (try replace hx159_0 := (HB.out.cell (World.block_lt_of_cell? w _ hx159_0)).trans hx159_0)
        (try replace hx159_1 := (HB.out.cell (World.block_lt_of_cell? w _ hx159_1)).trans hx159_1)
        replace p159 := eq_true p159
        replace q159 := eq_true q159
        have p160 : 0 ≤ (x5_1 : Int) := of_decide_eq_true (by first | (with_reducible assumption) | assumption)
        have q160 : x5_1 < (l1.length : Int) := of_decide_eq_true (by first | (with_reducible assumption) | assumption)
        obtain ⟨ad160, e160, hx160_0, hx160_1⟩ := at_T33 HR1.out x5_1 p160 q160
        have hw160_1 := hx160_1
        have hw160_0 := hx160_0
        cases e160
        (try replace hx160_0 := (HB.out.cell (World.block_lt_of_cell? w _ hx160_0)).trans hx160_0)
        (try replace hx160_1 := (HB.out.cell (World.block_lt_of_cell? w _ hx160_1)).trans hx160_1)
        replace p160 := eq_true p160
        replace q160 := eq_true q160
        refine start_ (n := 10) (S := fun w' => w'.cell? (ad159.add ((x5_1).toNat * 2)) = some (.float .f64 ((rd_T33 l0 x5_1).f0).toNat) ∧ w'.cell? ⟨(ad159.add ((x5_1).toNat * 2)).block, (ad159.add ((x5_1).toNat * 2)).off + 1, none⟩ = some (.float .f64 ((rd_T33 l0 x5_1).f1).toNat) ∧ w'.cell? (ad160.add ((x5_1).toNat * 2)) = some (.float .f64 ((rd_T33 l1 x5_1).f0).toNat) ∧ w'.cell? ⟨(ad160.add ((x5_1).toNat * 2)).block, (ad160.add ((x5_1).toNat * 2)).off + 1, none⟩ = some (.float .f64 ((rd_T33 l1 x5_1).f1).toNat)) (ds := []) (Array.replicate 10 false) (by kernel_rfl) rfl rfl ⟨((HB.out.cell (World.block_lt_of_cell? w _ hw159_0)).trans hw159_0), ((HB.out.cell (World.block_lt_of_cell? w _ hw159_1)).trans hw159_1), ((HB.out.cell (World.block_lt_of_cell? w _ hw160_0)).trans hw160_0), ((HB.out.cell (World.block_lt_of_cell? w _ hw160_1)).trans hw160_1)⟩ (fun hHeld => ?_); refine with_tabW laws_eqTurnS.tab6 laws_eqTurnS.bits6 (fun HT_ HW_ => ?_)
        generalize wr.drew = w9 at HB hx159_0 hx159_1 hx160_0 hx160_1 hHeld ⊢
        refine pS_ 0 17 HT_ ?_
        refine pS_ 1 18 HT_ ?_
        refine pS_ 2 19 HT_ ?_
        refine pS_ 4 21 HT_ ?_
        refine pS_ 5 22 HT_ ?_
        refine pS_ 6 23 HT_ ?_
        refine tS_ 3 20 HT_ HW_ hHeld ?_
        refine tS_ 7 24 HT_ HW_ hHeld ?_
        refine oS_ 8 25 HT_ (fun K hK => ?_)
        refine goes_ Try.func49 (by kernel_rfl) rfl #[.agg #[.float .f64 ((rd_T33 l0 x5_1).f0).toNat, .float .f64 ((rd_T33 l0 x5_1).f1).toNat], .agg #[.float .f64 ((rd_T33 l1 x5_1).f0).toNat, .float .f64 ((rd_T33 l1 x5_1).f1).toNat]] (by rfl) rfl rfl (by (try simp only [List.map_toArray, List.map_cons, List.map_nil]); first | done | rfl | (simp only [List.length_drop, List.length_take]; rfl)) ?_
        with_reducible refine (laws_eqTurn.calls k1 ((rd_T33 l0 x5_1).f0) ((rd_T33 l0 x5_1).f1) ((rd_T33 l1 x5_1).f0) ((rd_T33 l1 x5_1).f1) true _ A7.out).mono ?_
        rintro e w10 ⟨rfl, hb⟩
        refine ⟨_, rfl, ?_⟩
        have n0_ := Aside0.mk (below_step (bw_ HB.out) hb)
        clear HB
        have HB := n0_
        clear n0_
        (try clear hb)
        (try clear hb2)
        (try clear hk)
        (try clear hi)
        refine hK.out _ _ ⟨((HB.out.cell (World.block_lt_of_cell? w _ hw159_0)).trans hw159_0), ((HB.out.cell (World.block_lt_of_cell? w _ hw159_1)).trans hw159_1), ((HB.out.cell (World.block_lt_of_cell? w _ hw160_0)).trans hw160_0), ((HB.out.cell (World.block_lt_of_cell? w _ hw160_1)).trans hw160_1)⟩ (fun hHeld => ?_)
        clear hK K
        refine nS_ ?_
        refine pS_ 9 26 HT_ ?_
        refine done_ (done_of HT_.out (by kernel_rfl)) ?_
        try go_wp2
        go_roundg k1
        case measure => have := HK1.out; omega
        case rel => exact ⟨(wrap64 (x5_1 + 1)), (by first | rfl | (simp; done) | (simp [*]; done) | (simp [wrap64]; done)), H', ⟨by have := HK1.out; omega⟩, ⟨bw_ HB.out⟩⟩
       ·replace c8 := Bool.eq_false_iff.mpr c8
        subst c8
        replace H := if_ H Bool.false_ne_true
        obtain rfl := Option.some.inj H
        try go_wp2
        have n0_ := Aside0.mk (below_drew1 HB.out)
        clear HB
        have HB := n0_
        clear n0_
        have p159 : 0 ≤ (x5_1 : Int) := of_decide_eq_true (by first | (with_reducible assumption) | assumption)
        have q159 : x5_1 < (l0.length : Int) := of_decide_eq_true (by first | (with_reducible assumption) | assumption)
        obtain ⟨ad159, e159, hx159_0, hx159_1⟩ := at_T33 HR0.out x5_1 p159 q159
        have hw159_1 := hx159_1
        have hw159_0 := hx159_0
        cases e159
        (try replace hx159_0 := (HB.out.cell (World.block_lt_of_cell? w _ hx159_0)).trans hx159_0)
        (try replace hx159_1 := (HB.out.cell (World.block_lt_of_cell? w _ hx159_1)).trans hx159_1)
        replace p159 := eq_true p159
        replace q159 := eq_true q159
        have p160 : 0 ≤ (x5_1 : Int) := of_decide_eq_true (by first | (with_reducible assumption) | assumption)
        have q160 : x5_1 < (l1.length : Int) := of_decide_eq_true (by first | (with_reducible assumption) | assumption)
        obtain ⟨ad160, e160, hx160_0, hx160_1⟩ := at_T33 HR1.out x5_1 p160 q160
        have hw160_1 := hx160_1
        have hw160_0 := hx160_0
        cases e160
        (try replace hx160_0 := (HB.out.cell (World.block_lt_of_cell? w _ hx160_0)).trans hx160_0)
        (try replace hx160_1 := (HB.out.cell (World.block_lt_of_cell? w _ hx160_1)).trans hx160_1)
        replace p160 := eq_true p160
        replace q160 := eq_true q160
        refine start_ (n := 10) (S := fun w' => w'.cell? (ad159.add ((x5_1).toNat * 2)) = some (.float .f64 ((rd_T33 l0 x5_1).f0).toNat) ∧ w'.cell? ⟨(ad159.add ((x5_1).toNat * 2)).block, (ad159.add ((x5_1).toNat * 2)).off + 1, none⟩ = some (.float .f64 ((rd_T33 l0 x5_1).f1).toNat) ∧ w'.cell? (ad160.add ((x5_1).toNat * 2)) = some (.float .f64 ((rd_T33 l1 x5_1).f0).toNat) ∧ w'.cell? ⟨(ad160.add ((x5_1).toNat * 2)).block, (ad160.add ((x5_1).toNat * 2)).off + 1, none⟩ = some (.float .f64 ((rd_T33 l1 x5_1).f1).toNat)) (ds := []) (Array.replicate 10 false) (by kernel_rfl) rfl rfl ⟨((HB.out.cell (World.block_lt_of_cell? w _ hw159_0)).trans hw159_0), ((HB.out.cell (World.block_lt_of_cell? w _ hw159_1)).trans hw159_1), ((HB.out.cell (World.block_lt_of_cell? w _ hw160_0)).trans hw160_0), ((HB.out.cell (World.block_lt_of_cell? w _ hw160_1)).trans hw160_1)⟩ (fun hHeld => ?_); refine with_tabW laws_eqTurnS.tab6 laws_eqTurnS.bits6 (fun HT_ HW_ => ?_)
        generalize wr.drew = w11 at HB hx159_0 hx159_1 hx160_0 hx160_1 hHeld ⊢
        refine pS_ 0 17 HT_ ?_
        refine pS_ 1 18 HT_ ?_
        refine pS_ 2 19 HT_ ?_
        refine pS_ 4 21 HT_ ?_
        refine pS_ 5 22 HT_ ?_
        refine pS_ 6 23 HT_ ?_
        refine tS_ 3 20 HT_ HW_ hHeld ?_
        refine tS_ 7 24 HT_ HW_ hHeld ?_
        refine oS_ 8 25 HT_ (fun K hK => ?_)
        refine goes_ Try.func49 (by kernel_rfl) rfl #[.agg #[.float .f64 ((rd_T33 l0 x5_1).f0).toNat, .float .f64 ((rd_T33 l0 x5_1).f1).toNat], .agg #[.float .f64 ((rd_T33 l1 x5_1).f0).toNat, .float .f64 ((rd_T33 l1 x5_1).f1).toNat]] (by rfl) rfl rfl (by (try simp only [List.map_toArray, List.map_cons, List.map_nil]); first | done | rfl | (simp only [List.length_drop, List.length_take]; rfl)) ?_
        with_reducible refine (laws_eqTurn.calls k1 ((rd_T33 l0 x5_1).f0) ((rd_T33 l0 x5_1).f1) ((rd_T33 l1 x5_1).f0) ((rd_T33 l1 x5_1).f1) false _ A7.out).mono ?_
        rintro e w12 ⟨rfl, hb⟩
        refine ⟨_, rfl, ?_⟩
        have n0_ := Aside0.mk (below_step (bw_ HB.out) hb)
        clear HB
        have HB := n0_
        clear n0_
        (try clear hb)
        (try clear hb2)
        (try clear hk)
        (try clear hi)
        refine hK.out _ _ ⟨((HB.out.cell (World.block_lt_of_cell? w _ hw159_0)).trans hw159_0), ((HB.out.cell (World.block_lt_of_cell? w _ hw159_1)).trans hw159_1), ((HB.out.cell (World.block_lt_of_cell? w _ hw160_0)).trans hw160_0), ((HB.out.cell (World.block_lt_of_cell? w _ hw160_1)).trans hw160_1)⟩ (fun hHeld => ?_)
        clear hK K
        refine nS_ ?_
        refine pS_ 9 26 HT_ ?_
        refine done_ (done_of HT_.out (by kernel_rfl)) ?_
        try go_wp2
        go_ret
        exact ⟨by first | rfl | (simp [errW_none, errW_some] <;> rfl) | (simp [*, errW_none, errW_some] <;> rfl), bw_ HB.out⟩
      ·rw [if_neg c6] at H
       exact absurd H (by simp)
     ·rw [if_neg c5] at H
      exact absurd H (by simp)
    ·rw [if_neg c4] at H
     have c4b0 : decide (x5_1 < (l0.length : Int)) = false := decide_eq_false c4
     clear c4
     obtain rfl := Option.some.inj H
     go_wp2
     go_ret
     exact ⟨by first | rfl | (simp [errW_none, errW_some] <;> rfl) | (simp [*, errW_none, errW_some] <;> rfl), bw_ HB.out⟩
 ·rw [if_neg c3] at H
  have c3b0 : ((l0.length : Int) == (l1.length : Int)) = false := beq_eq_false_iff_ne.mpr c3
  have c3b1 : ((l0.length : Int) != (l1.length : Int)) = true := bne_iff_ne.mpr c3
  have c3b2 : (l0.length == l1.length) = false := by first | simpa using c3 | (simp at c3 ⊢; omega)
  obtain rfl := Option.some.inj H
  go_enter Try.func25, Try.ntmps25
  go_wp2
  go_ret
  exact ⟨by first | rfl | (simp [errW_none, errW_some] <;> rfl) | (simp [*, errW_none, errW_some] <;> rfl), bw_ HB.out⟩

/-! ### laws_markTurnS: function 26 -/
def laws_markTurnS.l0 : Nat → List (S33) → Int → Int → Option (Int × (List (S33)))
 | 0, _, _, _ => none
 | k + 1, x0, x1, x5 => if x5 < (x0.length : Int) then (if 0 ≤ x5 then ((some (x0.set (x5 : Int).toNat (⟨fofI x1, (rd_T33 x0 x5).f1⟩ : S33) : List (S33))).bind fun y162 => (laws_markTurnS.l0 k (y162.set (x5 : Int).toNat (⟨(rd_T33 y162 x5).f0, fofI (wrap64 (x1 + 1))⟩ : S33)) (wrap64 ((wrap64 (x1 + 1)) + 1)) (wrap64 (x5 + 1)))) else (none)) else (some (x1, x0))
def laws_markTurnS.f (k : Nat) (l0 : List (S33)) (a1 : Int) : Option (Int × (List (S33))) := laws_markTurnS.l0 k l0 a1 0
theorem laws_markTurnS.mono_l : ∀ k, (∀ y0 y1 y2, LeO (laws_markTurnS.l0 k y0 y1 y2) (laws_markTurnS.l0 (k + 1) y0 y1 y2))
 | 0 => fun _ _ _ r h => by simp [laws_markTurnS.l0] at h
 | k + 1 => by
  have ih0 := laws_markTurnS.mono_l k
  ·intro y0 y1 y2
   unfold laws_markTurnS.l0
   repeat' first
   | (with_reducible exact ih0 _ _ _)
   | (with_reducible exact LeO.refl _)
   | (with_reducible exact LeO.none _)
   | (with_reducible refine LeO.ite ?_ ?_)
   | (with_reducible refine LeO.bind ?_ (fun _ => ?_))
   | exact ih0 _ _ _
   | exact LeO.none _
   | refine LeO.ite ?_ ?_
   | refine LeO.bind ?_ (fun _ => ?_)
theorem laws_markTurnS.mono : ∀ a0 a1 k, LeO (laws_markTurnS.f k a0 a1) (laws_markTurnS.f (k + 1) a0 a1) := by
 intro a0 a1 k
 have ih0 := laws_markTurnS.mono_l k
 unfold laws_markTurnS.f
 repeat' first
   | (with_reducible exact ih0 _ _ _)
   | (with_reducible exact LeO.refl _)
   | (with_reducible exact LeO.none _)
   | (with_reducible refine LeO.ite ?_ ?_)
   | (with_reducible refine LeO.bind ?_ (fun _ => ?_))
   | exact ih0 _ _ _
   | exact LeO.none _
   | refine LeO.ite ?_ ?_
   | refine LeO.bind ?_ (fun _ => ?_)
set_option maxHeartbeats 8000000 in
set_option maxRecDepth 100000 in
theorem laws_markTurnS.calls (k : Nat) (P0_ : Nat → Prop) (u9000_ : Value) (l0 : List (S33)) (a1 : Int) (r1 : Int) (r2 : List (S33)) (w0 w : World) (hB : Below w0.heap.size w0 w) (ho0 : Kd.R k33 33 w w0.heap.size P0_ u9000_ l0) (h : laws_markTurnS.f k l0 a1 = some (r1, r2)) :
  Calls Try.prog 26 #[u9000_, .int .i64 a1] w fun e w' => e = .returned (.int .i64 r1) ∧ Kd.R k33 33 w' w0.heap.size (fun k_ => (P0_ k_ ∨ w.heap.size ≤ k_)) u9000_ r2 ∧ Below w0.heap.size w0 w' ∧ Kept w w' (fun k_ => P0_ k_) := by
 have HO0 := Aside0.mk (show Kd.R k33 33 w w0.heap.size (fun k_ => (P0_ k_ ∨ w.heap.size ≤ k_)) u9000_ l0 from Kd.R_mono ho0 (fun k_ hk => (.inl hk)))
 have HK := Aside0.mk (Kept.refl w (fun k_ => P0_ k_))
 have HW0 := Aside0.mk hB.size
 have HB := Aside0.mk hB
 clear hB
 have H : (laws_markTurnS.l0 k l0 a1 0) = some (r1, r2) := h
 clear h
 have H' := Aside0.mk H
 clear H
 go_enter Try.func26, Try.ntmps26
 go_wp2
 go_loopg [1, 5] k (fun kq v1 v5 w' => ∃ (x0_1 : List (S33)) (x1_1 : Int) (x5_1 : Int), v1 = .int .i64 x1_1 ∧ v5 = .int .i64 x5_1 ∧ Aside0 (laws_markTurnS.l0 kq x0_1 x1_1 x5_1 = some (r1, r2)) ∧ Aside0 (kq ≤ k) ∧ Aside0 (Kd.R k33 33 w' w0.heap.size (fun k_ => (P0_ k_ ∨ w.heap.size ≤ k_)) u9000_ x0_1) ∧ Aside0 (Kept w w' (fun k_ => P0_ k_)) ∧ Aside0 (Below w0.heap.size w0 w'))
 case atStart => exact ⟨(l0), (a1), (0), (by first | rfl | (simp; done) | (simp [*]; done) | (simp [wrap64]; done)), (by first | rfl | (simp; done) | (simp [*]; done) | (simp [wrap64]; done)), H', ⟨Nat.le_refl _⟩, ⟨by (with_reducible repeat (first | apply Kd.R_alloc | apply Kd.R_drewN | apply Kd.R_drew)); exact HO0.out⟩, ⟨by repeat (first | (with_reducible first | exact HK.out | apply Kept.alloc | apply Kept.drewN | apply Kept.drew) | exact HK.out)⟩, ⟨bw_ HB.out⟩⟩
 case round =>
  clear H'
  try clear c2
  try clear p2
  obtain ⟨x0_1, x1_1, x5_1, rfl, rfl, HA, HK1, HO_0, HK, HB⟩ := hrel
  cases gk with
  | zero => exact absurd HA.out (by simp [laws_markTurnS.l0])
  | succ k1 =>
   have H := HA.out
   clear HA
   simp only [laws_markTurnS.l0] at H
   by_cases c3 : x5_1 < (x0_1.length : Int)
   ·rw [if_pos c3] at H
    have c3b0 : decide (x5_1 < (x0_1.length : Int)) = true := decide_eq_true c3
    clear c3
    by_cases c4 : 0 ≤ x5_1
    ·rw [if_pos c4] at H
     have c4b0 : decide (0 ≤ x5_1) = true := decide_eq_true c4
     clear c4
     obtain ⟨y162, hy162⟩ : ∃ y_ : List (S33), y_ = (x0_1.set (x5_1 : Int).toNat (⟨fofI x1_1, (rd_T33 x0_1 x5_1).f1⟩ : S33)) := ⟨_, rfl⟩
     replace H : (laws_markTurnS.l0 k1 (y162.set (x5_1 : Int).toNat (⟨(rd_T33 y162 x5_1).f0, fofI (wrap64 (x1_1 + 1))⟩ : S33)) (wrap64 ((wrap64 (x1_1 + 1)) + 1)) (wrap64 (x5_1 + 1))) = some (r1, r2) := by first | (rw [hy162]; with_reducible exact H) | (have H2_ := (Option.bind_some _ _).symm.trans H; rw [hy162]; with_reducible exact H2_) | (have H2_ := (Option.bind_some _ _).symm.trans H; with_reducible exact H2_) | with_reducible exact H | (rw [hy162]; exact H) | exact H
     have Ny162 := Aside0.mk hy162
     clear hy162
     obtain ⟨y163, hy163⟩ : ∃ y_ : List (S33), y_ = (y162.set (x5_1 : Int).toNat (⟨(rd_T33 y162 x5_1).f0, fofI (wrap64 (x1_1 + 1))⟩ : S33)) := ⟨_, rfl⟩
     replace H : (laws_markTurnS.l0 k1 y163 (wrap64 ((wrap64 (x1_1 + 1)) + 1)) (wrap64 (x5_1 + 1))) = some (r1, r2) := by first | (rw [hy163]; with_reducible exact H) | (have H2_ := (Option.bind_some _ _).symm.trans H; rw [hy163]; with_reducible exact H2_) | (have H2_ := (Option.bind_some _ _).symm.trans H; with_reducible exact H2_) | with_reducible exact H | (rw [hy163]; exact H) | exact H
     have Ny163 := Aside0.mk hy163
     clear hy163
     have H' := Aside0.mk H
     clear H
     obtain ⟨Ao7, co7, eo7⟩ := Kd.R_slice HO_0.out
     subst eo7
     have p5 : 0 ≤ (x5_1 : Int) := of_decide_eq_true (by first | (with_reducible assumption) | assumption)
     have q5 : (x5_1 : Int) < ((x0_1.length : Int) : Int) := of_decide_eq_true (by first | (with_reducible assumption) | assumption)
     obtain ⟨go5, co5, eo5, gb5, gl5, cl5, HG5⟩ := Kd.R_form HO_0.out (by omega)
     (first | cases eo5 | (injection eo5 with ea_ en_ ec_; (first | subst ea_ | (injection ea_ with ea_; subst ea_)); subst ec_; clear en_))
     have GB5 := Aside0.mk gb5
     have GG5 := Aside0.mk HG5
     clear gb5 gl5 HG5
     have HMgo5 := Aside0.mk (show (P0_ go5 ∨ w.heap.size ≤ go5) from (HO_0.out.1 _ rfl))
     obtain ⟨ce5, hcl5, hM5, hcc5, hfr5⟩ := Kd.R_elem HO_0.out z33 (x5_1 : Int) p5 q5
     obtain rfl := k33_openM hM5
     have hx5_0 : wr.cell? ⟨go5, (x5_1 : Int).toNat * 2, none⟩ = some (.float .f64 ((rd_T33 x0_1 x5_1).f0).toNat) := hcc5 0 _ rfl
     have hx5_1 : wr.cell? ⟨go5, (x5_1 : Int).toNat * 2 + 1, none⟩ = some (.float .f64 ((rd_T33 x0_1 x5_1).f1).toNat) := hcc5 1 _ rfl
     have hf5_0 : wr.frozen? ⟨go5, (x5_1 : Int).toNat * 2, none⟩ = false := hfr5 0
     have hf5_1 : wr.frozen? ⟨go5, (x5_1 : Int).toNat * 2 + 1, none⟩ = false := hfr5 1
     clear hcl5 hcc5 hfr5; (try clear hM5)
     replace p5 := eq_true p5
     replace q5 := eq_true q5
     have HX8 := Aside0.mk (show Kd.R k33 33 wr w0.heap.size (fun k_ => (P0_ k_ ∨ w.heap.size ≤ k_)) (.slice (some ⟨go5, 0, none⟩) x0_1.length co7) x0_1 from (by (with_reducible repeat (first | apply Kd.R_alloc | apply Kd.R_drewN | apply Kd.R_drew)); exact HO_0.out))
     obtain ⟨ce8, hcl8, hM8, hcc8, hfr8⟩ := Kd.R_elem HX8.out z33 (x5_1 : Int) (of_decide_eq_true (by first | (with_reducible assumption) | assumption)) (by have h_ : (x5_1 : Int) < ((x0_1.length : Int) : Int) := of_decide_eq_true (by first | (with_reducible assumption) | assumption); first | exact h_ | (have e_ := (Kd.R_reads' HO_0.out).1; omega) | simpa using h_)
     obtain rfl := k33_openM hM8
     have HP8 := Kd.R_seg HX8.out (x5_1 : Int) (of_decide_eq_true (by first | (with_reducible assumption) | assumption)) (by have h_ : (x5_1 : Int) < ((x0_1.length : Int) : Int) := of_decide_eq_true (by first | (with_reducible assumption) | assumption); first | exact h_ | (have e_ := (Kd.R_reads' HO_0.out).1; omega) | simpa using h_) (seg := [.float .f64 (fofI x1_1).toNat]) (j := 0) hcl8 hcc8 (show 1 ≤ 2 from by decide) (x' := (⟨fofI x1_1, (rd_T33 x0_1 x5_1).f1⟩ : S33)) (k33_mkM _ _ _ (⟨fofI x1_1, (rd_T33 x0_1 x5_1).f1⟩ : S33) ) (fun _ hk => hk)
     have hx8_0 := hcc8 0 _ rfl
     (try simp only [show (k33).sz = 2 from rfl, Nat.mul_one, Nat.add_zero] at hx8_0)
     have hf8_0 := hfr8 0
     (try simp only [show (k33).sz = 2 from rfl, Nat.mul_one, Nat.add_zero] at hf8_0)
     clear hcl8 hcc8 hfr8; (try clear hM8)
     go_wp2_with (first | ((with_reducible refine gate_store (t := 22) (p := 17) rfl ?_); refine se_ 22 17 (wr.setCell ⟨go5, (x5_1 : Int).toNat * 2, none⟩ (.float .f64 (fofI x1_1).toNat)) ?_; intro w9 hw; have hg : wr.grownBy w9 (some go5) := (by rw [hw]; exact HP8.2); have hp_ : Kd.R k33 33 w9 w0.heap.size (fun k_ => (P0_ k_ ∨ w.heap.size ≤ k_)) (.slice (some ⟨go5, 0, none⟩) x0_1.length co7) y162 := (by rw [hw, Ny162.out]; exact HP8.1); clear HP8; have n0_ := Aside0.mk (hp_); have n1_ := Aside0.mk ((by rw [hw]; exact below_set (HB.out) GB5.out : Below w0.heap.size w0 w9)); have n2_ := Aside0.mk (Kept.of_grown (S := (fun k_ => P0_ k_)) hg (by repeat (first | (with_reducible first | exact HK.out | apply Kept.alloc | apply Kept.drewN | apply Kept.drew) | exact HK.out)) (fun k_ e_ => (HO_0.out.1 k_ e_))); clear HO_0; clear HB; clear HK; have HO_0 := n0_; have HB := n1_; have HK := n2_; clear n0_ n1_ n2_; clear hg hw hp_; have p6 : 0 ≤ (x5_1 : Int) := of_decide_eq_true (by first | (with_reducible assumption) | assumption); have q6 : (x5_1 : Int) < ((x0_1.length : Int) : Int) := of_decide_eq_true (by first | (with_reducible assumption) | assumption); obtain ⟨ce6, hcl6, hM6, hcc6, hfr6⟩ := Kd.R_elem HO_0.out z33 (x5_1 : Int) p6 q6; obtain rfl := k33_openM hM6; have hx6_0 : w9.cell? ⟨go5, (x5_1 : Int).toNat * 2, none⟩ = some (.float .f64 ((rd_T33 y162 x5_1).f0).toNat) := hcc6 0 _ rfl; have hx6_1 : w9.cell? ⟨go5, (x5_1 : Int).toNat * 2 + 1, none⟩ = some (.float .f64 ((rd_T33 y162 x5_1).f1).toNat) := hcc6 1 _ rfl; have hf6_0 : w9.frozen? ⟨go5, (x5_1 : Int).toNat * 2, none⟩ = false := hfr6 0; have hf6_1 : w9.frozen? ⟨go5, (x5_1 : Int).toNat * 2 + 1, none⟩ = false := hfr6 1; clear hcl6 hcc6 hfr6; (try clear hM6); replace p6 := eq_true p6; replace q6 := eq_true q6; have HX10 := Aside0.mk (show Kd.R k33 33 w9 w0.heap.size (fun k_ => (P0_ k_ ∨ w.heap.size ≤ k_)) (.slice (some ⟨go5, 0, none⟩) x0_1.length co7) y162 from (by (with_reducible repeat (first | apply Kd.R_alloc | apply Kd.R_drewN | apply Kd.R_drew)); exact HO_0.out)); obtain ⟨ce10, hcl10, hM10, hcc10, hfr10⟩ := Kd.R_elem HX10.out z33 (x5_1 : Int) (of_decide_eq_true (by first | (with_reducible assumption) | assumption)) (by have h_ : (x5_1 : Int) < ((x0_1.length : Int) : Int) := of_decide_eq_true (by first | (with_reducible assumption) | assumption); first | exact h_ | (have e_ := (Kd.R_reads' HO_0.out).1; omega) | simpa using h_); obtain rfl := k33_openM hM10; have HP10 := Kd.R_seg HX10.out (x5_1 : Int) (of_decide_eq_true (by first | (with_reducible assumption) | assumption)) (by have h_ : (x5_1 : Int) < ((x0_1.length : Int) : Int) := of_decide_eq_true (by first | (with_reducible assumption) | assumption); first | exact h_ | (have e_ := (Kd.R_reads' HO_0.out).1; omega) | simpa using h_) (seg := [.float .f64 (fofI (wrap64 (x1_1 + 1))).toNat]) (j := 1) hcl10 hcc10 (show 2 ≤ 2 from by decide) (x' := (⟨(rd_T33 y162 x5_1).f0, fofI (wrap64 (x1_1 + 1))⟩ : S33)) (k33_mkM _ _ _ (⟨(rd_T33 y162 x5_1).f0, fofI (wrap64 (x1_1 + 1))⟩ : S33) ) (fun _ hk => hk); have hx10_1 := hcc10 1 _ rfl; (try simp only [show (k33).sz = 2 from rfl, Nat.mul_one, Nat.add_zero] at hx10_1); have hf10_1 := hfr10 1; (try simp only [show (k33).sz = 2 from rfl, Nat.mul_one, Nat.add_zero] at hf10_1); clear hcl10 hcc10 hfr10; (try clear hM10)) | ((with_reducible refine gate_store (t := 22) (p := 25) rfl ?_); refine se_ 22 25 (w9.setCell ⟨go5, (x5_1 : Int).toNat * 2 + 1, none⟩ (.float .f64 (fofI (wrap64 (x1_1 + 1))).toNat)) ?_; intro w11 hw; have hg : w9.grownBy w11 (some go5) := (by rw [hw]; exact HP10.2); have hp_ : Kd.R k33 33 w11 w0.heap.size (fun k_ => (P0_ k_ ∨ w.heap.size ≤ k_)) (.slice (some ⟨go5, 0, none⟩) x0_1.length co7) y163 := (by rw [hw, Ny163.out]; exact HP10.1); clear HP10; have n0_ := Aside0.mk (hp_); have n1_ := Aside0.mk ((by rw [hw]; exact below_set (HB.out) GB5.out : Below w0.heap.size w0 w11)); have n2_ := Aside0.mk (Kept.of_grown (S := (fun k_ => P0_ k_)) hg (by repeat (first | (with_reducible first | exact HK.out | apply Kept.alloc | apply Kept.drewN | apply Kept.drew) | exact HK.out)) (fun k_ e_ => (HO_0.out.1 k_ e_))); clear HO_0; clear HB; clear HK; have HO_0 := n0_; have HB := n1_; have HK := n2_; clear n0_ n1_ n2_; clear hg hw hp_))
     go_roundg k1
     case measure => have := HK1.out; omega
     case rel => exact ⟨(y163), (wrap64 ((wrap64 (x1_1 + 1)) + 1)), (wrap64 (x5_1 + 1)), (by first | rfl | (simp; done) | (simp [*]; done) | (simp [wrap64]; done)), (by first | rfl | (simp; done) | (simp [*]; done) | (simp [wrap64]; done)), H', ⟨by have := HK1.out; omega⟩, ⟨by (with_reducible repeat (first | apply Kd.R_alloc | apply Kd.R_drewN | apply Kd.R_drew)); exact HO_0.out⟩, ⟨by repeat (first | (with_reducible first | exact HK.out | apply Kept.alloc | apply Kept.drewN | apply Kept.drew) | exact HK.out)⟩, ⟨bw_ HB.out⟩⟩
    ·rw [if_neg c4] at H
     exact absurd H (by simp)
   ·rw [if_neg c3] at H
    have c3b0 : decide (x5_1 < (x0_1.length : Int)) = false := decide_eq_false c3
    clear c3
    simp only [Option.some.injEq, Prod.mk.injEq] at H
    obtain ⟨rfl, rfl⟩ := H
    obtain ⟨Ao12, co12, eo12⟩ := Kd.R_slice HO_0.out
    subst eo12
    go_wp2
    go_ret
    exact ⟨by first | rfl | (simp [errW_none, errW_some] <;> rfl) | (simp [*, errW_none, errW_some] <;> rfl), by (with_reducible repeat (first | apply Kd.R_alloc | apply Kd.R_drewN | apply Kd.R_drew)); exact HO_0.out, bw_ HB.out, by repeat (first | (with_reducible first | exact HK.out | apply Kept.alloc | apply Kept.drewN | apply Kept.drew) | exact HK.out)⟩

/-! ### laws_heldTurnS: function 27 -/
def laws_heldTurnS.l0 : Nat → List (S33) → Int → Int → Option (Int)
 | 0, _, _, _ => none
 | k + 1, x0, x1, x5 => if x5 < (x0.length : Int) then (if 0 ≤ x5 then (if (!feq ((rd_T33 x0 x5).f0).toNat (fofI x1).toNat) = true then (some (-1)) else (if (!feq ((rd_T33 x0 x5).f1).toNat (fofI (wrap64 (x1 + 1))).toNat) = true then (some (-1)) else (laws_heldTurnS.l0 k x0 (wrap64 ((wrap64 (x1 + 1)) + 1)) (wrap64 (x5 + 1))))) else (none)) else (some x1)
def laws_heldTurnS.f (k : Nat) (l0 : List (S33)) (a1 : Int) : Option (Int) := laws_heldTurnS.l0 k l0 a1 0
theorem laws_heldTurnS.mono_l : ∀ k, (∀ y0 y1 y2, LeO (laws_heldTurnS.l0 k y0 y1 y2) (laws_heldTurnS.l0 (k + 1) y0 y1 y2))
 | 0 => fun _ _ _ r h => by simp [laws_heldTurnS.l0] at h
 | k + 1 => by
  have ih0 := laws_heldTurnS.mono_l k
  ·intro y0 y1 y2
   unfold laws_heldTurnS.l0
   repeat' first
   | (with_reducible exact ih0 _ _ _)
   | (with_reducible exact LeO.refl _)
   | (with_reducible exact LeO.none _)
   | (with_reducible refine LeO.ite ?_ ?_)
   | (with_reducible refine LeO.bind ?_ (fun _ => ?_))
   | exact ih0 _ _ _
   | exact LeO.none _
   | refine LeO.ite ?_ ?_
   | refine LeO.bind ?_ (fun _ => ?_)
theorem laws_heldTurnS.mono : ∀ a0 a1 k, LeO (laws_heldTurnS.f k a0 a1) (laws_heldTurnS.f (k + 1) a0 a1) := by
 intro a0 a1 k
 have ih0 := laws_heldTurnS.mono_l k
 unfold laws_heldTurnS.f
 repeat' first
   | (with_reducible exact ih0 _ _ _)
   | (with_reducible exact LeO.refl _)
   | (with_reducible exact LeO.none _)
   | (with_reducible refine LeO.ite ?_ ?_)
   | (with_reducible refine LeO.bind ?_ (fun _ => ?_))
   | exact ih0 _ _ _
   | exact LeO.none _
   | refine LeO.ite ?_ ?_
   | refine LeO.bind ?_ (fun _ => ?_)
set_option maxHeartbeats 8000000 in
set_option maxRecDepth 100000 in
theorem laws_heldTurnS.calls (k : Nat) (A0 : Option Addr) (c0 : Nat) (l0 : List (S33)) (a1 : Int) (r : Int) (w : World) (hr0 : Kd.C k33 w A0 l0.length l0) (hc0 : l0.length ≤ c0) (h : laws_heldTurnS.f k l0 a1 = some r) :
  Calls Try.prog 27 #[.slice A0 l0.length c0, .int .i64 a1] w fun e w' => e = .returned (.int .i64 r) ∧ Drawn0 w w' := by
 have HR0 := Aside0.mk hr0
 have HC0 := Aside0.mk hc0
 clear hr0 hc0
 have H : (laws_heldTurnS.l0 k l0 a1 0) = some r := h
 clear h
 have H' := Aside0.mk H
 clear H
 go_enter Try.func27, Try.ntmps27
 go_wp2
 go_loopg [1, 5] k (fun kq v1 v5 w' => ∃ (x1_1 : Int) (x5_1 : Int), v1 = .int .i64 x1_1 ∧ v5 = .int .i64 x5_1 ∧ Aside0 (laws_heldTurnS.l0 kq l0 x1_1 x5_1 = some r) ∧ Aside0 (kq ≤ k) ∧ Drawn0 w w')
 case atStart => exact ⟨(a1), (0), (by first | rfl | (simp; done) | (simp [*]; done) | (simp [wrap64]; done)), (by first | rfl | (simp; done) | (simp [*]; done) | (simp [wrap64]; done)), H', ⟨Nat.le_refl _⟩, by repeat (first | exact Drawn0.refl _ | apply Drawn0.step)⟩
 case round =>
  clear H'
  try clear c2
  try clear p2
  obtain ⟨x1_1, x5_1, rfl, rfl, HA, HK1, ⟨m1, rfl⟩⟩ := hrel
  cases gk with
  | zero => exact absurd HA.out (by simp [laws_heldTurnS.l0])
  | succ k1 =>
   have H := HA.out
   clear HA
   simp only [laws_heldTurnS.l0] at H
   by_cases c3 : x5_1 < (l0.length : Int)
   ·rw [if_pos c3] at H
    have c3b0 : decide (x5_1 < (l0.length : Int)) = true := decide_eq_true c3
    clear c3
    by_cases c4 : 0 ≤ x5_1
    ·rw [if_pos c4] at H
     have c4b0 : decide (0 ≤ x5_1) = true := decide_eq_true c4
     clear c4
     by_cases c5 : (!feq ((rd_T33 l0 x5_1).f0).toNat (fofI x1_1).toNat) = true
     ·rw [if_pos c5] at H
      have c5b0 : (!feq ((rd_T33 l0 x5_1).f0).toNat (fofI x1_1).toNat) = true := c5
      clear c5
      obtain rfl := Option.some.inj H
      have p164 : 0 ≤ (x5_1 : Int) := of_decide_eq_true (by first | (with_reducible assumption) | assumption)
      have q164 : x5_1 < (l0.length : Int) := of_decide_eq_true (by first | (with_reducible assumption) | assumption)
      obtain ⟨ad164, e164, hx164_0, hx164_1⟩ := at_T33 HR0.out x5_1 p164 q164
      cases e164
      replace p164 := eq_true p164
      replace q164 := eq_true q164
      go_wp2
      go_ret
      exact ⟨by first | rfl | (simp; done) | (simp [*]; done), by repeat (first | exact Drawn0.refl _ | apply Drawn0.step)⟩
     ·rw [if_neg c5] at H
      have c5b0 : (!feq ((rd_T33 l0 x5_1).f0).toNat (fofI x1_1).toNat) = false := by simpa using c5
      clear c5
      by_cases c6 : (!feq ((rd_T33 l0 x5_1).f1).toNat (fofI (wrap64 (x1_1 + 1))).toNat) = true
      ·rw [if_pos c6] at H
       have c6b0 : (!feq ((rd_T33 l0 x5_1).f1).toNat (fofI (wrap64 (x1_1 + 1))).toNat) = true := c6
       clear c6
       obtain rfl := Option.some.inj H
       have p164 : 0 ≤ (x5_1 : Int) := of_decide_eq_true (by first | (with_reducible assumption) | assumption)
       have q164 : x5_1 < (l0.length : Int) := of_decide_eq_true (by first | (with_reducible assumption) | assumption)
       obtain ⟨ad164, e164, hx164_0, hx164_1⟩ := at_T33 HR0.out x5_1 p164 q164
       cases e164
       replace p164 := eq_true p164
       replace q164 := eq_true q164
       have p165 : 0 ≤ (x5_1 : Int) := of_decide_eq_true (by first | (with_reducible assumption) | assumption)
       have q165 : x5_1 < (l0.length : Int) := of_decide_eq_true (by first | (with_reducible assumption) | assumption)
       obtain ⟨ad165, e165, hx165_0, hx165_1⟩ := at_T33 HR0.out x5_1 p165 q165
       obtain rfl : ad164 = ad165 := (by injection e165)
       replace p165 := eq_true p165
       replace q165 := eq_true q165
       go_wp2
       go_ret
       exact ⟨by first | rfl | (simp; done) | (simp [*]; done), by repeat (first | exact Drawn0.refl _ | apply Drawn0.step)⟩
      ·rw [if_neg c6] at H
       have c6b0 : (!feq ((rd_T33 l0 x5_1).f1).toNat (fofI (wrap64 (x1_1 + 1))).toNat) = false := by simpa using c6
       clear c6
       have H' := Aside0.mk H
       clear H
       have p164 : 0 ≤ (x5_1 : Int) := of_decide_eq_true (by first | (with_reducible assumption) | assumption)
       have q164 : x5_1 < (l0.length : Int) := of_decide_eq_true (by first | (with_reducible assumption) | assumption)
       obtain ⟨ad164, e164, hx164_0, hx164_1⟩ := at_T33 HR0.out x5_1 p164 q164
       cases e164
       replace p164 := eq_true p164
       replace q164 := eq_true q164
       have p165 : 0 ≤ (x5_1 : Int) := of_decide_eq_true (by first | (with_reducible assumption) | assumption)
       have q165 : x5_1 < (l0.length : Int) := of_decide_eq_true (by first | (with_reducible assumption) | assumption)
       obtain ⟨ad165, e165, hx165_0, hx165_1⟩ := at_T33 HR0.out x5_1 p165 q165
       obtain rfl : ad164 = ad165 := (by injection e165)
       replace p165 := eq_true p165
       replace q165 := eq_true q165
       go_wp2
       go_roundg k1
       case measure => have := HK1.out; omega
       case rel => exact ⟨(wrap64 ((wrap64 (x1_1 + 1)) + 1)), (wrap64 (x5_1 + 1)), (by first | rfl | (simp; done) | (simp [*]; done) | (simp [wrap64]; done)), (by first | rfl | (simp; done) | (simp [*]; done) | (simp [wrap64]; done)), H', ⟨by have := HK1.out; omega⟩, by repeat (first | exact Drawn0.refl _ | apply Drawn0.step)⟩
    ·rw [if_neg c4] at H
     exact absurd H (by simp)
   ·rw [if_neg c3] at H
    have c3b0 : decide (x5_1 < (l0.length : Int)) = false := decide_eq_false c3
    clear c3
    obtain rfl := Option.some.inj H
    go_wp2
    go_ret
    exact ⟨by first | rfl | (simp; done) | (simp [*]; done), by repeat (first | exact Drawn0.refl _ | apply Drawn0.step)⟩

/-! ### laws_FnExactSpectrum: function 6 -/
def laws_FnExactSpectrum.f (k : Nat) (l0 : List Int) : Option (Bool) := if (l0.length : Int) > 1048576 then some true else ((laws_toFloat64S.f k l0).bind fun t1 => (spec_Spectrum.f k t1).bind fun t3 => (laws_toFloat64S.f k l0).bind fun t5 => (impl_Spectrum.f k t5).bind fun t7 => (laws_eqTurnS.f k t7.1 t3.1).bind fun t9 => if t9 = true then (if t7.2 = t3.2 then ((laws_toFloat64S.f k l0).bind fun t10 => (laws_eqFloat64S.f k t5 t10).bind fun t12 => if t12 = true then ((laws_markFloat64S.f k t5 1).bind fun t13 => if ¬ (t13.1 < 0) then ((laws_eqTurnS.f k t7.1 t3.1).bind fun t14 => if t14 = true then (if t7.2 = t3.2 then ((laws_markTurnS.f k t7.1 1).bind fun t15 => (laws_heldTurnS.f k t15.2 1).bind fun t16 => if ¬ (t16 < 0) then (if t16 = t15.1 then ((laws_toFloat64S.f k l0).bind fun t17 => (impl_Spectrum.f k t17).bind fun t19 => (laws_eqTurnS.f k t19.1 t3.1).bind fun t21 => if t21 = true then (if t19.2 = t3.2 then ((laws_heldTurnS.f k t15.2 1).bind fun t22 => if ¬ (t22 < 0) then (if t22 = t15.1 then (some true) else none) else none) else none) else none) else none) else none) else none) else none) else none) else none) else none) else none)
theorem laws_FnExactSpectrum.mono : ∀ a0 k, LeO (laws_FnExactSpectrum.f k a0) (laws_FnExactSpectrum.f (k + 1) a0) := by
  intro a0 k
  unfold laws_FnExactSpectrum.f
  repeat' first
  | (with_reducible exact laws_toFloat64S.mono _ _)
  | (with_reducible exact laws_eqFloat64S.mono _ _ _)
  | (with_reducible exact laws_markFloat64S.mono _ _ _)
  | (with_reducible exact spec_Spectrum.mono _ _)
  | (with_reducible exact impl_Spectrum.mono _ _)
  | (with_reducible exact laws_eqTurnS.mono _ _ _)
  | (with_reducible exact laws_markTurnS.mono _ _ _)
  | (with_reducible exact laws_heldTurnS.mono _ _ _)
  | (with_reducible exact LeO.refl _)
  | (with_reducible exact LeO.none _)
  | (with_reducible refine LeO.ite ?_ ?_)
  | refine LeO.bind ?_ (fun _ => ?_)
  | exact LeO.none _
set_option maxHeartbeats 8000000 in
set_option maxRecDepth 100000 in
theorem laws_FnExactSpectrum.calls (k : Nat) (A0 : Option Addr) (c0 : Nat) (l0 : List Int) (r : Bool) (w : World) (hr0 : Kd.C Kd.flt w A0 l0.length l0) (hc0 : l0.length ≤ c0) (h : laws_FnExactSpectrum.f k l0 = some r) :
    Calls Try.prog 6 #[.slice A0 l0.length c0] w fun e w' => e = .returned (.bool r) ∧ Below w.heap.size w w' := by
  have HR0 := Aside0.mk hr0
  have HC0 := Aside0.mk hc0
  clear hr0 hc0
  have HB := Aside0.mk (Below.refl w.heap.size w)
  unfold laws_FnExactSpectrum.f at h
  have H := h
  clear h
  by_cases c_ : (l0.length : Int) > 1048576
  · rw [if_pos c_] at H
    have fb23 : decide ((l0.length : Int) > 1048576) = true := decide_eq_true c_
    have fb24 : decide (1048576 < (l0.length : Int)) = true := decide_eq_true (by omega)
    have fb25 : decide (l0.length > 1048576) = true := decide_eq_true (by omega)
    have fb26 : decide (1048576 < l0.length) = true := decide_eq_true (by omega)
    clear c_
    obtain rfl := Option.some.inj H
    go_enter Try.func6, Try.ntmps6
    go_wp2
    go_ret
    exact ⟨rfl, HB.out⟩
  rw [if_neg c_] at H
  have fb27 : decide ((l0.length : Int) > 1048576) = false := decide_eq_false c_
  have fb28 : decide (1048576 < (l0.length : Int)) = false := decide_eq_false (by omega)
  have fb29 : decide (l0.length > 1048576) = false := decide_eq_false (by omega)
  have fb30 : decide (1048576 < l0.length) = false := decide_eq_false (by omega)
  clear c_
  replace H := bE_ H
  obtain ⟨t1, hA1, H⟩ := H
  have A1 := Aside0.mk hA1
  clear hA1
  replace H := bE_ H
  obtain ⟨⟨t3_0, t3_1⟩, hA3, H⟩ := H
  try dsimp only at H
  have A3 := Aside0.mk hA3
  clear hA3
  replace H := bE_ H
  obtain ⟨t5, hA5, H⟩ := H
  have A5 := Aside0.mk hA5
  clear hA5
  replace H := bE_ H
  obtain ⟨⟨t7_0, t7_1⟩, hA7, H⟩ := H
  try dsimp only at H
  have A7 := Aside0.mk hA7
  clear hA7
  replace H := bE_ H
  obtain ⟨t9, hA9, H⟩ := H
  have A9 := Aside0.mk hA9
  clear hA9
  replace H := nd_ H
  obtain ⟨c_, H⟩ := H
  subst c_
  replace H := nd_ H
  obtain ⟨c_, H⟩ := H
  subst c_
  first | have fb31 : (t7_1 == t7_1) = true := beq_self_eq_true _ | have fb31 : (t7_1.toList == t7_1.toList) = true := beq_self_eq_true _
  first | have fb32 : (t7_1 != t7_1) = false := by simp | have fb32 : (t7_1.toList != t7_1.toList) = false := by simp
  replace H := bE_ H
  obtain ⟨t10, hA10, H⟩ := H
  have A10 := Aside0.mk hA10
  clear hA10
  replace H := bE_ H
  obtain ⟨t12, hA12, H⟩ := H
  have A12 := Aside0.mk hA12
  clear hA12
  replace H := nd_ H
  obtain ⟨c_, H⟩ := H
  subst c_
  replace H := bE_ H
  obtain ⟨⟨t13_0, t13_1⟩, hA13, H⟩ := H
  try dsimp only at H
  have A13 := Aside0.mk hA13
  clear hA13
  replace H := nd_ H
  obtain ⟨c_, H⟩ := H
  have fb33 : decide (t13_0 < 0) = false := decide_eq_false c_
  clear c_
  replace H := bE_ H
  obtain ⟨t14, hA14, H⟩ := H
  have A14 := Aside0.mk hA14
  clear hA14
  replace H := nd_ H
  obtain ⟨c_, H⟩ := H
  subst c_
  replace H := nd_ H
  obtain ⟨c_, H⟩ := H
  clear c_
  replace H := bE_ H
  obtain ⟨⟨t15_0, t15_1⟩, hA15, H⟩ := H
  try dsimp only at H
  have A15 := Aside0.mk hA15
  clear hA15
  replace H := bE_ H
  obtain ⟨t16, hA16, H⟩ := H
  have A16 := Aside0.mk hA16
  clear hA16
  replace H := nd_ H
  obtain ⟨c_, H⟩ := H
  have fb34 : decide (t16 < 0) = false := decide_eq_false c_
  clear c_
  replace H := nd_ H
  obtain ⟨c_, H⟩ := H
  subst c_
  first | have fb35 : (t16 == t16) = true := beq_self_eq_true _ | have fb35 : (t16.toList == t16.toList) = true := beq_self_eq_true _
  first | have fb36 : (t16 != t16) = false := by simp | have fb36 : (t16.toList != t16.toList) = false := by simp
  replace H := bE_ H
  obtain ⟨t17, hA17, H⟩ := H
  have A17 := Aside0.mk hA17
  clear hA17
  replace H := bE_ H
  obtain ⟨⟨t19_0, t19_1⟩, hA19, H⟩ := H
  try dsimp only at H
  have A19 := Aside0.mk hA19
  clear hA19
  replace H := bE_ H
  obtain ⟨t21, hA21, H⟩ := H
  have A21 := Aside0.mk hA21
  clear hA21
  replace H := nd_ H
  obtain ⟨c_, H⟩ := H
  subst c_
  replace H := nd_ H
  obtain ⟨c_, H⟩ := H
  subst c_
  first | have fb37 : (t19_1 == t19_1) = true := beq_self_eq_true _ | have fb37 : (t19_1.toList == t19_1.toList) = true := beq_self_eq_true _
  first | have fb38 : (t19_1 != t19_1) = false := by simp | have fb38 : (t19_1.toList != t19_1.toList) = false := by simp
  replace H := bE_ H
  obtain ⟨t22, hA22, H⟩ := H
  have A22 := Aside0.mk hA22
  clear hA22
  replace H := nd_ H
  obtain ⟨c_, H⟩ := H
  have fb39 : decide (t22 < 0) = false := decide_eq_false c_
  clear c_
  replace H := nd_ H
  obtain ⟨c_, H⟩ := H
  subst c_
  first | have fb40 : (t22 == t22) = true := beq_self_eq_true _ | have fb40 : (t22.toList == t22.toList) = true := beq_self_eq_true _
  first | have fb41 : (t22 != t22) = false := by simp | have fb41 : (t22.toList != t22.toList) = false := by simp
  obtain rfl := Option.some.inj H
  go_enter Try.func6, Try.ntmps6
  go_wp2_with (first | (go_at_call 16; (with_reducible refine (laws_toFloat64S.calls k _ _ l0 t1 _ ?sd1_1 ?sd1_2 A1.out).mono ?_); (case sd1_1 => exact Kd.C_below HR0.out HB.out); (case sd1_2 => exact HC0.out); rintro e w1001 ⟨v_2, rfl, ho0, hb⟩; have hs_ := below_size HB.out; have n0_ := Aside0.mk (below_step HB.out hb); have SZ1 := Aside0.mk (show w.heap.size ≤ w1001.heap.size from (hb).size); clear HB; have HB := n0_; clear n0_; have HO2 := Aside0.mk (R_zone ho0 hs_); clear ho0; obtain ⟨A_2, c_2, e_2⟩ := Kd.R_slice HO2.out; subst e_2; clear hb hs_) | (go_at_call 23; (with_reducible refine (spec_Spectrum.calls k _ _ t1 t3_0 t19_1 _ ?sd3_1 ?sd3_2 A3.out).mono ?_); (case sd3_1 => exact (Kd.R_reads' HO2.out).2.2); (case sd3_2 => exact (Kd.R_reads' HO2.out).2.1); rintro e w1003 ⟨v_4, rfl, ho0, hb⟩; have hs_ := below_size HB.out; have n0_ := Aside0.mk (below_step HB.out hb); have n1_ := Aside0.mk (Kd.R_below HO2.out hb); have SZ2 := Aside0.mk (show w1001.heap.size ≤ w1003.heap.size from (hb).size); clear HB HO2; have HB := n0_; have HO2 := n1_; clear n0_ n1_; have HO4 := Aside0.mk (R_zone ho0 hs_); clear ho0; obtain ⟨A_4, c_4, e_4⟩ := Kd.R_slice HO4.out; subst e_4; clear hb hs_) | (go_at_call 16; (with_reducible refine (laws_toFloat64S.calls k _ _ l0 t5 _ ?sd5_1 ?sd5_2 A5.out).mono ?_); (case sd5_1 => exact Kd.C_below HR0.out HB.out); (case sd5_2 => exact HC0.out); rintro e w1005 ⟨v_6, rfl, ho0, hb⟩; have hs_ := below_size HB.out; have n0_ := Aside0.mk (below_step HB.out hb); have n1_ := Aside0.mk (Kd.R_below HO2.out hb); have n2_ := Aside0.mk (Kd.R_below HO4.out hb); have SZ3 := Aside0.mk (show w1003.heap.size ≤ w1005.heap.size from (hb).size); clear HB HO2 HO4; have HB := n0_; have HO2 := n1_; have HO4 := n2_; clear n0_ n1_ n2_; have HO6 := Aside0.mk (R_zone ho0 hs_); clear ho0; obtain ⟨A_6, c_6, e_6⟩ := Kd.R_slice HO6.out; subst e_6; clear hb hs_) | (go_at_call 24; (with_reducible refine (impl_Spectrum.calls k _ _ t5 t7_0 t19_1 _ ?sd7_1 ?sd7_2 A7.out).mono ?_); (case sd7_1 => exact (Kd.R_reads' HO6.out).2.2); (case sd7_2 => exact (Kd.R_reads' HO6.out).2.1); rintro e w1007 ⟨v_8, rfl, ho0, hb⟩; have hs_ := below_size HB.out; have n0_ := Aside0.mk (below_step HB.out hb); have n1_ := Aside0.mk (Kd.R_below HO2.out hb); have n2_ := Aside0.mk (Kd.R_below HO4.out hb); have n3_ := Aside0.mk (Kd.R_below HO6.out hb); have SZ4 := Aside0.mk (show w1005.heap.size ≤ w1007.heap.size from (hb).size); clear HB HO2 HO4 HO6; have HB := n0_; have HO2 := n1_; have HO4 := n2_; have HO6 := n3_; clear n0_ n1_ n2_ n3_; have HO8 := Aside0.mk (R_zone ho0 hs_); clear ho0; obtain ⟨A_8, c_8, e_8⟩ := Kd.R_slice HO8.out; subst e_8; clear hb hs_) | (go_at_call 25; (with_reducible refine (laws_eqTurnS.calls k _ _ t7_0 _ _ t3_0 true _ ?sd9_1 ?sd9_2 ?sd9_3 ?sd9_4 A9.out).mono ?_); (case sd9_1 => exact (Kd.R_reads' HO8.out).2.2); (case sd9_2 => exact (Kd.R_reads' HO8.out).2.1); (case sd9_3 => exact (Kd.R_reads' HO4.out).2.2); (case sd9_4 => exact (Kd.R_reads' HO4.out).2.1); rintro e w1009 ⟨rfl, hb⟩; have hs_ := below_size HB.out; have n0_ := Aside0.mk (below_step HB.out hb); have n1_ := Aside0.mk (Kd.R_below HO2.out hb); have n2_ := Aside0.mk (Kd.R_below HO4.out hb); have n3_ := Aside0.mk (Kd.R_below HO6.out hb); have n4_ := Aside0.mk (Kd.R_below HO8.out hb); have SZ5 := Aside0.mk (show w1007.heap.size ≤ w1009.heap.size from (hb).size); clear HB HO2 HO4 HO6 HO8; have HB := n0_; have HO2 := n1_; have HO4 := n2_; have HO6 := n3_; have HO8 := n4_; clear n0_ n1_ n2_ n3_ n4_; clear hb hs_) | (go_at_call 16; (with_reducible refine (laws_toFloat64S.calls k _ _ l0 t10 _ ?sd10_1 ?sd10_2 A10.out).mono ?_); (case sd10_1 => exact Kd.C_below HR0.out HB.out); (case sd10_2 => exact HC0.out); rintro e w1010 ⟨v_11, rfl, ho0, hb⟩; have hs_ := below_size HB.out; have n0_ := Aside0.mk (below_step HB.out hb); have n1_ := Aside0.mk (Kd.R_below HO2.out hb); have n2_ := Aside0.mk (Kd.R_below HO4.out hb); have n3_ := Aside0.mk (Kd.R_below HO6.out hb); have n4_ := Aside0.mk (Kd.R_below HO8.out hb); have SZ6 := Aside0.mk (show w1009.heap.size ≤ w1010.heap.size from (hb).size); clear HB HO2 HO4 HO6 HO8; have HB := n0_; have HO2 := n1_; have HO4 := n2_; have HO6 := n3_; have HO8 := n4_; clear n0_ n1_ n2_ n3_ n4_; have HO11 := Aside0.mk (R_zone ho0 hs_); clear ho0; obtain ⟨A_11, c_11, e_11⟩ := Kd.R_slice HO11.out; subst e_11; clear hb hs_) | (go_at_call 19; (with_reducible refine (laws_eqFloat64S.calls k _ _ t5 _ _ t10 true _ ?sd12_1 ?sd12_2 ?sd12_3 ?sd12_4 A12.out).mono ?_); (case sd12_1 => exact (Kd.R_reads' HO6.out).2.2); (case sd12_2 => exact (Kd.R_reads' HO6.out).2.1); (case sd12_3 => exact (Kd.R_reads' HO11.out).2.2); (case sd12_4 => exact (Kd.R_reads' HO11.out).2.1); rintro e w1012 ⟨rfl, hd⟩; have hb := hd.below; clear hd; have hs_ := below_size HB.out; have n0_ := Aside0.mk (below_step HB.out hb); have n1_ := Aside0.mk (Kd.R_below HO2.out hb); have n2_ := Aside0.mk (Kd.R_below HO4.out hb); have n3_ := Aside0.mk (Kd.R_below HO6.out hb); have n4_ := Aside0.mk (Kd.R_below HO8.out hb); have n5_ := Aside0.mk (Kd.R_below HO11.out hb); have SZ7 := Aside0.mk (show w1010.heap.size ≤ w1012.heap.size from (hb).size); clear HB HO2 HO4 HO6 HO8 HO11; have HB := n0_; have HO2 := n1_; have HO4 := n2_; have HO6 := n3_; have HO8 := n4_; have HO11 := n5_; clear n0_ n1_ n2_ n3_ n4_ n5_; clear hb hs_) | (go_at_call 20; (with_reducible refine (laws_markFloat64S.calls k (Zone w1003 w1005 (22 :: (Kd.flt).E)) (.slice A_6 t5.length c_6) t5 1 t13_0 t13_1 w _ ?sd13_1 ?sd13_2 A13.out).mono ?_); (case sd13_1 => exact HB.out); (case sd13_2 => exact HO6.out); rintro e w1013 ⟨rfl, hy0, hb, hkp⟩; have n0_ := Aside0.mk (hb); have n1_ := Aside0.mk (Kd.R_step HO2.out (fun k_ h_ hlt_ => hkp.2 k_ hlt_ (fun e_ => (show False from Zone.apart h_ e_ (by have := SZ2.out; first | exact .inl (by omega) | exact .inr (by omega))).elim))); have n2_ := Aside0.mk (Kd.R_step HO4.out (fun k_ h_ hlt_ => hkp.2 k_ hlt_ (fun e_ => (show False from Zone.apart h_ e_ (by first | exact .inl (by omega) | exact .inr (by omega))).elim))); have n3_ := Aside0.mk (Kd.R_reok rfl hy0 HO6.out.1); have n4_ := Aside0.mk (Kd.R_step HO8.out (fun k_ h_ hlt_ => hkp.2 k_ hlt_ (fun e_ => (show False from Zone.apart h_ e_ (by first | exact .inl (by omega) | exact .inr (by omega))).elim))); have n5_ := Aside0.mk (Kd.R_step HO11.out (fun k_ h_ hlt_ => hkp.2 k_ hlt_ (fun e_ => (show False from Zone.apart h_ e_ (by have := SZ4.out; have := SZ5.out; first | exact .inl (by omega) | exact .inr (by omega))).elim))); have SZ8 := Aside0.mk (show w1012.heap.size ≤ w1013.heap.size from hkp.1); clear HB HO2 HO4 HO6 HO8 HO11; have HB := n0_; have HO2 := n1_; have HO4 := n2_; have HO6 := n3_; have HO8 := n4_; have HO11 := n5_; clear n0_ n1_ n2_ n3_ n4_ n5_; clear hb hkp hy0) | (go_at_call 25; (with_reducible refine (laws_eqTurnS.calls k _ _ t7_0 _ _ t3_0 true _ ?sd14_1 ?sd14_2 ?sd14_3 ?sd14_4 A14.out).mono ?_); (case sd14_1 => exact (Kd.R_reads' HO8.out).2.2); (case sd14_2 => exact (Kd.R_reads' HO8.out).2.1); (case sd14_3 => exact (Kd.R_reads' HO4.out).2.2); (case sd14_4 => exact (Kd.R_reads' HO4.out).2.1); rintro e w1014 ⟨rfl, hb⟩; have hs_ := below_size HB.out; have n0_ := Aside0.mk (below_step HB.out hb); have n1_ := Aside0.mk (Kd.R_below HO2.out hb); have n2_ := Aside0.mk (Kd.R_below HO4.out hb); have n3_ := Aside0.mk (Kd.R_below HO6.out hb); have n4_ := Aside0.mk (Kd.R_below HO8.out hb); have n5_ := Aside0.mk (Kd.R_below HO11.out hb); have SZ9 := Aside0.mk (show w1013.heap.size ≤ w1014.heap.size from (hb).size); clear HB HO2 HO4 HO6 HO8 HO11; have HB := n0_; have HO2 := n1_; have HO4 := n2_; have HO6 := n3_; have HO8 := n4_; have HO11 := n5_; clear n0_ n1_ n2_ n3_ n4_ n5_; clear hb hs_) | (go_at_call 26; (with_reducible refine (laws_markTurnS.calls k (Zone w1005 w1007 (33 :: (k33).E)) (.slice A_8 t7_0.length c_8) t7_0 1 t22 t15_1 w _ ?sd15_1 ?sd15_2 A15.out).mono ?_); (case sd15_1 => exact HB.out); (case sd15_2 => exact HO8.out); rintro e w1015 ⟨rfl, hy0, hb, hkp⟩; have n0_ := Aside0.mk (hb); have n1_ := Aside0.mk (Kd.R_step HO2.out (fun k_ h_ hlt_ => hkp.2 k_ hlt_ (fun e_ => (show False from Zone.apart h_ e_ (by have := SZ2.out; have := SZ3.out; first | exact .inl (by omega) | exact .inr (by omega))).elim))); have n2_ := Aside0.mk (Kd.R_step HO4.out (fun k_ h_ hlt_ => hkp.2 k_ hlt_ (fun e_ => (show False from Zone.apart h_ e_ (by have := SZ3.out; first | exact .inl (by omega) | exact .inr (by omega))).elim))); have n3_ := Aside0.mk (Kd.R_step HO6.out (fun k_ h_ hlt_ => hkp.2 k_ hlt_ (fun e_ => (show False from Zone.apart h_ e_ (by first | exact .inl (by omega) | exact .inr (by omega))).elim))); have n4_ := Aside0.mk (Kd.R_reok rfl hy0 HO8.out.1); have n5_ := Aside0.mk (Kd.R_step HO11.out (fun k_ h_ hlt_ => hkp.2 k_ hlt_ (fun e_ => (show False from Zone.apart h_ e_ (by have := SZ5.out; first | exact .inl (by omega) | exact .inr (by omega))).elim))); have SZ10 := Aside0.mk (show w1014.heap.size ≤ w1015.heap.size from hkp.1); clear HB HO2 HO4 HO6 HO8 HO11; have HB := n0_; have HO2 := n1_; have HO4 := n2_; have HO6 := n3_; have HO8 := n4_; have HO11 := n5_; clear n0_ n1_ n2_ n3_ n4_ n5_; clear hb hkp hy0) | (go_at_call 27; refine calls_of_args (args' := #[.slice A_8 t15_1.length c_8, .int .i64 1]) (by first | (rw [show t15_1.length = t7_0.length from (Kd.R_reads' HO8.out).1.symm] <;> rfl) | rfl) ?_; (with_reducible refine (laws_heldTurnS.calls k _ _ t15_1 1 t22 _ ?sd16_1 ?sd16_2 A16.out).mono ?_); (case sd16_1 => exact (Kd.R_reads' HO8.out).2.2); (case sd16_2 => exact (by rw [show t15_1.length = t7_0.length from (Kd.R_reads' HO8.out).1.symm]; exact (Kd.R_reads' HO8.out).2.1)); rintro e w1016 ⟨rfl, hd⟩; have hb := hd.below; clear hd; have hs_ := below_size HB.out; have n0_ := Aside0.mk (below_step HB.out hb); have n1_ := Aside0.mk (Kd.R_below HO2.out hb); have n2_ := Aside0.mk (Kd.R_below HO4.out hb); have n3_ := Aside0.mk (Kd.R_below HO6.out hb); have n4_ := Aside0.mk (Kd.R_below HO8.out hb); have n5_ := Aside0.mk (Kd.R_below HO11.out hb); have SZ11 := Aside0.mk (show w1015.heap.size ≤ w1016.heap.size from (hb).size); clear HB HO2 HO4 HO6 HO8 HO11; have HB := n0_; have HO2 := n1_; have HO4 := n2_; have HO6 := n3_; have HO8 := n4_; have HO11 := n5_; clear n0_ n1_ n2_ n3_ n4_ n5_; clear hb hs_) | (go_at_call 16; (with_reducible refine (laws_toFloat64S.calls k _ _ l0 t17 _ ?sd17_1 ?sd17_2 A17.out).mono ?_); (case sd17_1 => exact Kd.C_below HR0.out HB.out); (case sd17_2 => exact HC0.out); rintro e w1017 ⟨v_18, rfl, ho0, hb⟩; have hs_ := below_size HB.out; have n0_ := Aside0.mk (below_step HB.out hb); have n1_ := Aside0.mk (Kd.R_below HO2.out hb); have n2_ := Aside0.mk (Kd.R_below HO4.out hb); have n3_ := Aside0.mk (Kd.R_below HO6.out hb); have n4_ := Aside0.mk (Kd.R_below HO8.out hb); have n5_ := Aside0.mk (Kd.R_below HO11.out hb); have SZ12 := Aside0.mk (show w1016.heap.size ≤ w1017.heap.size from (hb).size); clear HB HO2 HO4 HO6 HO8 HO11; have HB := n0_; have HO2 := n1_; have HO4 := n2_; have HO6 := n3_; have HO8 := n4_; have HO11 := n5_; clear n0_ n1_ n2_ n3_ n4_ n5_; have HO18 := Aside0.mk (R_zone ho0 hs_); clear ho0; obtain ⟨A_18, c_18, e_18⟩ := Kd.R_slice HO18.out; subst e_18; clear hb hs_) | (go_at_call 24; (with_reducible refine (impl_Spectrum.calls k _ _ t17 t19_0 t19_1 _ ?sd19_1 ?sd19_2 A19.out).mono ?_); (case sd19_1 => exact (Kd.R_reads' HO18.out).2.2); (case sd19_2 => exact (Kd.R_reads' HO18.out).2.1); rintro e w1019 ⟨v_20, rfl, ho0, hb⟩; have hs_ := below_size HB.out; have n0_ := Aside0.mk (below_step HB.out hb); have n1_ := Aside0.mk (Kd.R_below HO2.out hb); have n2_ := Aside0.mk (Kd.R_below HO4.out hb); have n3_ := Aside0.mk (Kd.R_below HO6.out hb); have n4_ := Aside0.mk (Kd.R_below HO8.out hb); have n5_ := Aside0.mk (Kd.R_below HO11.out hb); have n6_ := Aside0.mk (Kd.R_below HO18.out hb); have SZ13 := Aside0.mk (show w1017.heap.size ≤ w1019.heap.size from (hb).size); clear HB HO2 HO4 HO6 HO8 HO11 HO18; have HB := n0_; have HO2 := n1_; have HO4 := n2_; have HO6 := n3_; have HO8 := n4_; have HO11 := n5_; have HO18 := n6_; clear n0_ n1_ n2_ n3_ n4_ n5_ n6_; have HO20 := Aside0.mk (R_zone ho0 hs_); clear ho0; obtain ⟨A_20, c_20, e_20⟩ := Kd.R_slice HO20.out; subst e_20; clear hb hs_) | (go_at_call 25; (with_reducible refine (laws_eqTurnS.calls k _ _ t19_0 _ _ t3_0 true _ ?sd21_1 ?sd21_2 ?sd21_3 ?sd21_4 A21.out).mono ?_); (case sd21_1 => exact (Kd.R_reads' HO20.out).2.2); (case sd21_2 => exact (Kd.R_reads' HO20.out).2.1); (case sd21_3 => exact (Kd.R_reads' HO4.out).2.2); (case sd21_4 => exact (Kd.R_reads' HO4.out).2.1); rintro e w1021 ⟨rfl, hb⟩; have hs_ := below_size HB.out; have n0_ := Aside0.mk (below_step HB.out hb); have n1_ := Aside0.mk (Kd.R_below HO2.out hb); have n2_ := Aside0.mk (Kd.R_below HO4.out hb); have n3_ := Aside0.mk (Kd.R_below HO6.out hb); have n4_ := Aside0.mk (Kd.R_below HO8.out hb); have n5_ := Aside0.mk (Kd.R_below HO11.out hb); have n6_ := Aside0.mk (Kd.R_below HO18.out hb); have n7_ := Aside0.mk (Kd.R_below HO20.out hb); have SZ14 := Aside0.mk (show w1019.heap.size ≤ w1021.heap.size from (hb).size); clear HB HO2 HO4 HO6 HO8 HO11 HO18 HO20; have HB := n0_; have HO2 := n1_; have HO4 := n2_; have HO6 := n3_; have HO8 := n4_; have HO11 := n5_; have HO18 := n6_; have HO20 := n7_; clear n0_ n1_ n2_ n3_ n4_ n5_ n6_ n7_; clear hb hs_) | (go_at_call 27; refine calls_of_args (args' := #[.slice A_8 t15_1.length c_8, .int .i64 1]) (by first | (rw [show t15_1.length = t7_0.length from (Kd.R_reads' HO8.out).1.symm] <;> rfl) | rfl) ?_; (with_reducible refine (laws_heldTurnS.calls k _ _ t15_1 1 t22 _ ?sd22_1 ?sd22_2 A22.out).mono ?_); (case sd22_1 => exact (Kd.R_reads' HO8.out).2.2); (case sd22_2 => exact (by rw [show t15_1.length = t7_0.length from (Kd.R_reads' HO8.out).1.symm]; exact (Kd.R_reads' HO8.out).2.1)); rintro e w1022 ⟨rfl, hd⟩; have hb := hd.below; clear hd; have hs_ := below_size HB.out; have n0_ := Aside0.mk (below_step HB.out hb); have n1_ := Aside0.mk (Kd.R_below HO2.out hb); have n2_ := Aside0.mk (Kd.R_below HO4.out hb); have n3_ := Aside0.mk (Kd.R_below HO6.out hb); have n4_ := Aside0.mk (Kd.R_below HO8.out hb); have n5_ := Aside0.mk (Kd.R_below HO11.out hb); have n6_ := Aside0.mk (Kd.R_below HO18.out hb); have n7_ := Aside0.mk (Kd.R_below HO20.out hb); have SZ15 := Aside0.mk (show w1021.heap.size ≤ w1022.heap.size from (hb).size); clear HB HO2 HO4 HO6 HO8 HO11 HO18 HO20; have HB := n0_; have HO2 := n1_; have HO4 := n2_; have HO6 := n3_; have HO8 := n4_; have HO11 := n5_; have HO18 := n6_; have HO20 := n7_; clear n0_ n1_ n2_ n3_ n4_ n5_ n6_ n7_; clear hb hs_))
  go_ret
  exact ⟨rfl, HB.out⟩

/-! the law's reading -/
/-- THE ONE PURE STATEMENT of laws_FnExactSpectrum. -/
def laws_FnExactSpectrum.Pure : Prop := ∀ (l0 : List Int), (l0.length ≤ maxLen ∧ ∀ z167 ∈ l0, (Lit.float .f64 z167.toNat).wf = true) → ∃ k, laws_FnExactSpectrum.f k l0 = some true


end Go.Proofs.Ytbjdhmgednhdgaa.XFnExactSpectrum
