/- What the Go functions that this law comes to compute, each walked; written by a program of this session. -/
import Derived.Test.YtfgdfnnddoncjaaXShort
import Derived.Test.YtfgdfnnddoncjaaXMark
import Derived.Test.YtfgdfnnddoncjaaXFnExactRebindx0
import Derived.Test.YtfgdfnnddoncjaaXFnExactRebindx1
import Derived.Test.YtfgdfnnddoncjaaXFnExactRebindx3
import Derived.Test.YtfgdfnnddoncjaaXFnExactRebindx4
import Derived.Test.YtfgdfnnddoncjaaXFnExactRebindx8
import Derived.Test.YtfgdfnnddoncjaaXFnExactRebindx9
namespace Go.Proofs.Ytfgdfnnddoncjaa.XFnExactRebind
open Go.RowKit Go.Proofs.YtfgdfnnddoncjaaW.PrintWords Go.Proofs.YtfgdfnnddoncjaaW.PrintLast Go.Proofs.YtfgdfnnddoncjaaW.PrintMore
attribute [local go_sem] str_geq max2_int min2_int max_two min_two max_three min_three max_four min_four   -- for this text's walks alone
set_option linter.unusedVariables false
set_option linter.unusedSimpArgs false

/-! ### laws_heldBindS: function 14 -/
def laws_heldBindS.l0 : Nat → List (S53) → Int → Int → Option (Int)
 | 0, _, _, _ => none
 | k + 1, x0, x1, x5 => if x5 < (x0.length : Int) then (if 0 ≤ x5 then ((laws_markText.f k x1).bind fun t261 => (if ((rd_T53 x0 x5).f0).toList = t261.toList then ((laws_heldIntS.f k ((rd_T53 x0 x5).f1) (wrap64 (x1 + 1))).bind fun t263 => (if t263 < 0 then (some (-1)) else (laws_heldBindS.l0 k x0 t263 (wrap64 (x5 + 1))))) else (some (-1)))) else (none)) else (some x1)
def laws_heldBindS.f (k : Nat) (l0 : List (S53)) (a1 : Int) : Option (Int) := laws_heldBindS.l0 k l0 a1 0
theorem laws_heldBindS.mono_l : ∀ k, (∀ y0 y1 y2, LeO (laws_heldBindS.l0 k y0 y1 y2) (laws_heldBindS.l0 (k + 1) y0 y1 y2))
 | 0 => fun _ _ _ r h => by simp [laws_heldBindS.l0] at h
 | k + 1 => by
  have ih0 := laws_heldBindS.mono_l k
  ·intro y0 y1 y2
   unfold laws_heldBindS.l0
   repeat' first
   | (with_reducible exact ih0 _ _ _)
   | (with_reducible exact laws_heldIntS.mono _ _ _)
   | (with_reducible exact laws_markText.mono _ _)
   | (with_reducible exact LeO.refl _)
   | (with_reducible exact LeO.none _)
   | (with_reducible refine LeO.ite ?_ ?_)
   | (with_reducible refine LeO.bind ?_ (fun _ => ?_))
   | exact ih0 _ _ _
   | exact laws_heldIntS.mono _ _ _
   | exact laws_markText.mono _ _
   | exact LeO.none _
   | refine LeO.ite ?_ ?_
   | refine LeO.bind ?_ (fun _ => ?_)
theorem laws_heldBindS.mono : ∀ a0 a1 k, LeO (laws_heldBindS.f k a0 a1) (laws_heldBindS.f (k + 1) a0 a1) := by
 intro a0 a1 k
 have ih0 := laws_heldBindS.mono_l k
 unfold laws_heldBindS.f
 repeat' first
   | (with_reducible exact ih0 _ _ _)
   | (with_reducible exact laws_heldIntS.mono _ _ _)
   | (with_reducible exact laws_markText.mono _ _)
   | (with_reducible exact LeO.refl _)
   | (with_reducible exact LeO.none _)
   | (with_reducible refine LeO.ite ?_ ?_)
   | (with_reducible refine LeO.bind ?_ (fun _ => ?_))
   | exact ih0 _ _ _
   | exact laws_heldIntS.mono _ _ _
   | exact laws_markText.mono _ _
   | exact LeO.none _
   | refine LeO.ite ?_ ?_
   | refine LeO.bind ?_ (fun _ => ?_)
def laws_heldBindS.T4 : Bool × List (List Nat × List Nat) := (true, [([], []), ([], []), ([0, 1], [0, 1]), ([2], [2]), ([3], [3]), ([], []), ([5], [5]), ([4, 6], [4, 6])])
def laws_heldBindS.B4 : List Nat := [0, 0, 3, 7, 15, 0, 32, 127]
theorem laws_heldBindS.tab4 : rtab .any (opsOf Try.f14 4) = laws_heldBindS.T4 := by kernel_rfl
theorem laws_heldBindS.bits4 : waitsOk laws_heldBindS.T4.2 laws_heldBindS.B4 = true := by kernel_rfl
set_option maxHeartbeats 8000000 in
set_option maxRecDepth 100000 in
theorem laws_heldBindS.calls (k : Nat) (A0 : Option Addr) (c0 : Nat) (l0 : List (S53)) (a1 : Int) (r : Int) (w : World) (hr0 : Kd.C k53 w A0 l0.length l0) (hc0 : l0.length ≤ c0) (h : laws_heldBindS.f k l0 a1 = some r) :
  Calls Try.prog 14 #[.slice A0 l0.length c0, .int .i64 a1] w fun e w' => e = .returned (.int .i64 r) ∧ Below w.heap.size w w' := by
 have HR0 := am_ hr0
 have HC0 := am_ hc0
 clear hr0 hc0
 have HB := am_ (Below.refl w.heap.size w)
 have H : (laws_heldBindS.l0 k l0 a1 0) = some r := h
 clear h
 have H' := am_ H
 clear H
 go_enter Try.func14, Try.ntmps14
 go_wp2
 go_loopg [1, 5] k (fun kq v1 v5 w' => ∃ (x1_1 : Int) (x5_1 : Int), v1 = .int .i64 x1_1 ∧ v5 = .int .i64 x5_1 ∧ Aside0 (laws_heldBindS.l0 kq l0 x1_1 x5_1 = some r) ∧ Aside0 (kq ≤ k) ∧ Aside0 (Below w.heap.size w w'))
 case atStart => exact ⟨(a1), (0), sq_, sq_, H', ⟨Nat.le_refl _⟩, ⟨bw_ HB.out⟩⟩
 case round =>
  clear H'
  obtain ⟨x1_1, x5_1, rfl, rfl, HA, HK1, HB⟩ := hrel
  cases gk with
  | zero => exact absurd HA.out (by simp [laws_heldBindS.l0])
  | succ k1 =>
   have H := HA.out
   clear HA
   simp only [laws_heldBindS.l0] at H
   by_cases c3 : x5_1 < (l0.length : Int)
   ·rw [if_pos c3] at H
    have c3b0 : decide (x5_1 < (l0.length : Int)) = true := decide_eq_true c3
    clear c3
    obtain ⟨c4, H⟩ := ifn_ H
    have c4b0 : decide (0 ≤ x5_1) = true := decide_eq_true c4
    clear c4
    obtain ⟨t261, A50, H⟩ := bE_ H
    have A5 := am_ A50
    clear A50
    by_cases c6 : ((rd_T53 l0 x5_1).f0).toList = t261.toList
    ·rw [if_pos c6] at H
     have c6b0 : (((rd_T53 l0 x5_1).f0).toList == t261.toList) = true := beq_iff_eq.mpr c6
     have c6b1 : (((rd_T53 l0 x5_1).f0).toList != t261.toList) = false := bne_eq_false_iff_eq.mpr c6
     clear c6
     obtain ⟨t263, A70, H⟩ := bE_ H
     have A7 := am_ A70
     clear A70
     by_cases c8 : t263 < 0
     ·rw [if_pos c8] at H
      have c8b0 : decide (t263 < 0) = true := decide_eq_true c8
      clear c8
      obtain rfl := Option.some.inj H
      try go_wp2
      have n0_ := am_ (below_drew1 HB.out)
      replace HB := n0_
      clear n0_
      have p260 : 0 ≤ (x5_1 : Int) := od_
      have q260 : x5_1 < (l0.length : Int) := od_
      obtain ⟨ad260, A260_1, c260_1, e260, hx260_0, hx260_1, hl260_1, hi260_1⟩ := at_T53 HR0.out x5_1 p260 q260
      have hw260_1 := hx260_1
      have hw260_0 := hx260_0
      cases e260
      (try replace hx260_0 := hc_ HB.out hx260_0)
      (try replace hx260_1 := hc_ HB.out hx260_1)
      have HR260_1 := am_ hi260_1
      have HC260_1 := am_ hl260_1
      clear hi260_1 hl260_1
      replace p260 := eq_true p260
      replace q260 := eq_true q260
      refine start_ (n := 8) (S := fun w' => w'.cell? (ad260.add ((x5_1).toNat * 2)) = some (.string ((rd_T53 l0 x5_1).f0)) ∧ w'.cell? ⟨(ad260.add ((x5_1).toNat * 2)).block, (ad260.add ((x5_1).toNat * 2)).off + 1, none⟩ = some (.slice A260_1 ((rd_T53 l0 x5_1).f1).length c260_1)) (ds := []) (Array.replicate 8 false) (by kernel_rfl) rfl rfl ⟨((HB.out.cell (World.block_lt_of_cell? w _ hw260_0)).trans hw260_0), ((HB.out.cell (World.block_lt_of_cell? w _ hw260_1)).trans hw260_1)⟩ (fun hHeld => ?_); refine with_tabW laws_heldBindS.tab4 laws_heldBindS.bits4 (fun HT_ HW_ => ?_)
      generalize wr.drew = w9 at HB HR260_1 hx260_0 hx260_1 hHeld ⊢
      refine pS_ 0 12 HT_ ?_
      refine pS_ 1 13 HT_ ?_
      refine pS_ 2 14 HT_ ?_
      refine pS_ 3 15 HT_ ?_
      refine pS_ 5 17 HT_ ?_
      refine tS_ 4 16 HT_ HW_ hHeld ?_
      refine oS_ 6 18 HT_ (fun K hK => ?_)
      refine goes_ Try.func40 (by kernel_rfl) rfl #[.int .i64 x1_1] (by rfl) rfl rfl (by (try simp only [List.map_toArray, List.map_cons, List.map_nil]); first | done | rfl | (simp only [List.length_drop, List.length_take]; rfl)) ?_
      with_reducible refine (laws_markText.calls k1 x1_1 t261 _ A5.out).mono ?_
      rintro e w10 ⟨rfl, hb⟩
      refine ⟨_, rfl, ?_⟩
      have n0_ := am_ (below_step (bw_ HB.out) hb)
      replace HB := n0_
      clear n0_
      (try clear hb)
      (try clear hb2)
      (try clear hk)
      (try clear hi)
      refine hK.out _ _ ⟨((HB.out.cell (World.block_lt_of_cell? w _ hw260_0)).trans hw260_0), ((HB.out.cell (World.block_lt_of_cell? w _ hw260_1)).trans hw260_1)⟩ (fun hHeld => ?_)
      clear hK K
      refine nD_ 18 ?_
      refine pS_ 7 19 HT_ ?_
      refine done_ (done_of HT_.out (by kernel_rfl)) ?_
      have p262 : 0 ≤ (x5_1 : Int) := od_
      have q262 : x5_1 < (l0.length : Int) := od_
      obtain ⟨ad262, A262_1, c262_1, e262, hx262_0, hx262_1, hl262_1, hi262_1⟩ := at_T53 HR0.out x5_1 p262 q262
      obtain rfl : ad260 = ad262 := (by injection e262)
      (try obtain ⟨rfl, rfl⟩ : A262_1 = A260_1 ∧ c262_1 = c260_1 := (by have e_ := hx262_1.symm.trans hw260_1; injection e_ with e_; injection e_ with e1_ e2_ e3_; exact ⟨e1_, e3_⟩))
      (try replace hx262_0 := hc_ HB.out hx262_0)
      (try replace hx262_1 := hc_ HB.out hx262_1)
      have HR262_1 := am_ hi262_1
      have HC262_1 := am_ hl262_1
      clear hi262_1 hl262_1
      replace p262 := eq_true p262
      replace q262 := eq_true q262
      try go_wp2_with (first | ((with_reducible refine gate_callee (f := 41) rfl ?_); refine goesL_ (some 28) rfl rfl Try.func41 (by kernel_rfl) rfl #[.slice A262_1 ((rd_T53 l0 x5_1).f1).length c262_1, .int .i64 (wrap64 (x1_1 + 1))] rfl (by (try simp only [List.map_toArray, List.map_cons, List.map_nil]); first | done | rfl | (simp only [List.length_drop, List.length_take]; rfl)) ?_; (with_reducible refine (laws_heldIntS.calls k1 _ _ ((rd_T53 l0 x5_1).f1) (wrap64 (x1_1 + 1)) t263 _ ?side1 ?side2 A7.out).mono ?_); (case side1 => repeat (first | exact (Kd.C_below HR262_1.out HB.out) | (with_reducible refine Kd.C_alloc ?_ _) | (with_reducible refine Kd.C_drewN ?_ _) | (with_reducible refine Kd.C_drew ?_))); (case side2 => exact HC262_1.out); rintro e w' ⟨rfl, ⟨nd, rfl⟩⟩; refine ⟨_, rfl, ?_⟩))
      go_ret
      exact ⟨by first | rfl | (simp [errW_none, errW_some] <;> rfl) | (simp [*, errW_none, errW_some] <;> rfl), bw_ HB.out⟩
     ·rw [if_neg c8] at H
      have c8b0 : decide (t263 < 0) = false := decide_eq_false c8
      clear c8
      have H' := am_ H
      clear H
      try go_wp2
      have n0_ := am_ (below_drew1 HB.out)
      replace HB := n0_
      clear n0_
      have p260 : 0 ≤ (x5_1 : Int) := od_
      have q260 : x5_1 < (l0.length : Int) := od_
      obtain ⟨ad260, A260_1, c260_1, e260, hx260_0, hx260_1, hl260_1, hi260_1⟩ := at_T53 HR0.out x5_1 p260 q260
      have hw260_1 := hx260_1
      have hw260_0 := hx260_0
      cases e260
      (try replace hx260_0 := hc_ HB.out hx260_0)
      (try replace hx260_1 := hc_ HB.out hx260_1)
      have HR260_1 := am_ hi260_1
      have HC260_1 := am_ hl260_1
      clear hi260_1 hl260_1
      replace p260 := eq_true p260
      replace q260 := eq_true q260
      refine start_ (n := 8) (S := fun w' => w'.cell? (ad260.add ((x5_1).toNat * 2)) = some (.string ((rd_T53 l0 x5_1).f0)) ∧ w'.cell? ⟨(ad260.add ((x5_1).toNat * 2)).block, (ad260.add ((x5_1).toNat * 2)).off + 1, none⟩ = some (.slice A260_1 ((rd_T53 l0 x5_1).f1).length c260_1)) (ds := []) (Array.replicate 8 false) (by kernel_rfl) rfl rfl ⟨((HB.out.cell (World.block_lt_of_cell? w _ hw260_0)).trans hw260_0), ((HB.out.cell (World.block_lt_of_cell? w _ hw260_1)).trans hw260_1)⟩ (fun hHeld => ?_); refine with_tabW laws_heldBindS.tab4 laws_heldBindS.bits4 (fun HT_ HW_ => ?_)
      generalize wr.drew = w11 at HB HR260_1 hx260_0 hx260_1 hHeld ⊢
      refine pS_ 0 12 HT_ ?_
      refine pS_ 1 13 HT_ ?_
      refine pS_ 2 14 HT_ ?_
      refine pS_ 3 15 HT_ ?_
      refine pS_ 5 17 HT_ ?_
      refine tS_ 4 16 HT_ HW_ hHeld ?_
      refine oS_ 6 18 HT_ (fun K hK => ?_)
      refine goes_ Try.func40 (by kernel_rfl) rfl #[.int .i64 x1_1] (by rfl) rfl rfl (by (try simp only [List.map_toArray, List.map_cons, List.map_nil]); first | done | rfl | (simp only [List.length_drop, List.length_take]; rfl)) ?_
      with_reducible refine (laws_markText.calls k1 x1_1 t261 _ A5.out).mono ?_
      rintro e w12 ⟨rfl, hb⟩
      refine ⟨_, rfl, ?_⟩
      have n0_ := am_ (below_step (bw_ HB.out) hb)
      replace HB := n0_
      clear n0_
      (try clear hb)
      (try clear hb2)
      (try clear hk)
      (try clear hi)
      refine hK.out _ _ ⟨((HB.out.cell (World.block_lt_of_cell? w _ hw260_0)).trans hw260_0), ((HB.out.cell (World.block_lt_of_cell? w _ hw260_1)).trans hw260_1)⟩ (fun hHeld => ?_)
      clear hK K
      refine nD_ 18 ?_
      refine pS_ 7 19 HT_ ?_
      refine done_ (done_of HT_.out (by kernel_rfl)) ?_
      have p262 : 0 ≤ (x5_1 : Int) := od_
      have q262 : x5_1 < (l0.length : Int) := od_
      obtain ⟨ad262, A262_1, c262_1, e262, hx262_0, hx262_1, hl262_1, hi262_1⟩ := at_T53 HR0.out x5_1 p262 q262
      obtain rfl : ad260 = ad262 := (by injection e262)
      (try obtain ⟨rfl, rfl⟩ : A262_1 = A260_1 ∧ c262_1 = c260_1 := (by have e_ := hx262_1.symm.trans hw260_1; injection e_ with e_; injection e_ with e1_ e2_ e3_; exact ⟨e1_, e3_⟩))
      (try replace hx262_0 := hc_ HB.out hx262_0)
      (try replace hx262_1 := hc_ HB.out hx262_1)
      have HR262_1 := am_ hi262_1
      have HC262_1 := am_ hl262_1
      clear hi262_1 hl262_1
      replace p262 := eq_true p262
      replace q262 := eq_true q262
      try go_wp2_with (first | ((with_reducible refine gate_callee (f := 41) rfl ?_); refine goesL_ (some 28) rfl rfl Try.func41 (by kernel_rfl) rfl #[.slice A262_1 ((rd_T53 l0 x5_1).f1).length c262_1, .int .i64 (wrap64 (x1_1 + 1))] rfl (by (try simp only [List.map_toArray, List.map_cons, List.map_nil]); first | done | rfl | (simp only [List.length_drop, List.length_take]; rfl)) ?_; (with_reducible refine (laws_heldIntS.calls k1 _ _ ((rd_T53 l0 x5_1).f1) (wrap64 (x1_1 + 1)) t263 _ ?side1 ?side2 A7.out).mono ?_); (case side1 => repeat (first | exact (Kd.C_below HR262_1.out HB.out) | (with_reducible refine Kd.C_alloc ?_ _) | (with_reducible refine Kd.C_drewN ?_ _) | (with_reducible refine Kd.C_drew ?_))); (case side2 => exact HC262_1.out); rintro e w' ⟨rfl, ⟨nd, rfl⟩⟩; refine ⟨_, rfl, ?_⟩))
      go_roundg k1
      case measure => have := HK1.out; omega
      case rel => exact ⟨(t263), (wrap64 (x5_1 + 1)), sq_, sq_, H', ⟨by have := HK1.out; omega⟩, ⟨bw_ HB.out⟩⟩
    ·rw [if_neg c6] at H
     have c6b0 : (((rd_T53 l0 x5_1).f0).toList == t261.toList) = false := beq_eq_false_iff_ne.mpr c6
     have c6b1 : (((rd_T53 l0 x5_1).f0).toList != t261.toList) = true := bne_iff_ne.mpr c6
     obtain rfl := Option.some.inj H
     try go_wp2
     have n0_ := am_ (below_drew1 HB.out)
     replace HB := n0_
     clear n0_
     have p260 : 0 ≤ (x5_1 : Int) := od_
     have q260 : x5_1 < (l0.length : Int) := od_
     obtain ⟨ad260, A260_1, c260_1, e260, hx260_0, hx260_1, hl260_1, hi260_1⟩ := at_T53 HR0.out x5_1 p260 q260
     have hw260_1 := hx260_1
     have hw260_0 := hx260_0
     cases e260
     (try replace hx260_0 := hc_ HB.out hx260_0)
     (try replace hx260_1 := hc_ HB.out hx260_1)
     have HR260_1 := am_ hi260_1
     have HC260_1 := am_ hl260_1
     clear hi260_1 hl260_1
     replace p260 := eq_true p260
     replace q260 := eq_true q260
     refine start_ (n := 8) (S := fun w' => w'.cell? (ad260.add ((x5_1).toNat * 2)) = some (.string ((rd_T53 l0 x5_1).f0)) ∧ w'.cell? ⟨(ad260.add ((x5_1).toNat * 2)).block, (ad260.add ((x5_1).toNat * 2)).off + 1, none⟩ = some (.slice A260_1 ((rd_T53 l0 x5_1).f1).length c260_1)) (ds := []) (Array.replicate 8 false) (by kernel_rfl) rfl rfl ⟨((HB.out.cell (World.block_lt_of_cell? w _ hw260_0)).trans hw260_0), ((HB.out.cell (World.block_lt_of_cell? w _ hw260_1)).trans hw260_1)⟩ (fun hHeld => ?_); refine with_tabW laws_heldBindS.tab4 laws_heldBindS.bits4 (fun HT_ HW_ => ?_)
     generalize wr.drew = w13 at HB HR260_1 hx260_0 hx260_1 hHeld ⊢
     refine pS_ 0 12 HT_ ?_
     refine pS_ 1 13 HT_ ?_
     refine pS_ 2 14 HT_ ?_
     refine pS_ 3 15 HT_ ?_
     refine pS_ 5 17 HT_ ?_
     refine tS_ 4 16 HT_ HW_ hHeld ?_
     refine oS_ 6 18 HT_ (fun K hK => ?_)
     refine goes_ Try.func40 (by kernel_rfl) rfl #[.int .i64 x1_1] (by rfl) rfl rfl (by (try simp only [List.map_toArray, List.map_cons, List.map_nil]); first | done | rfl | (simp only [List.length_drop, List.length_take]; rfl)) ?_
     with_reducible refine (laws_markText.calls k1 x1_1 t261 _ A5.out).mono ?_
     rintro e w14 ⟨rfl, hb⟩
     refine ⟨_, rfl, ?_⟩
     have n0_ := am_ (below_step (bw_ HB.out) hb)
     replace HB := n0_
     clear n0_
     (try clear hb)
     (try clear hb2)
     (try clear hk)
     (try clear hi)
     refine hK.out _ _ ⟨((HB.out.cell (World.block_lt_of_cell? w _ hw260_0)).trans hw260_0), ((HB.out.cell (World.block_lt_of_cell? w _ hw260_1)).trans hw260_1)⟩ (fun hHeld => ?_)
     clear hK K
     refine nD_ 18 ?_
     refine pS_ 7 19 HT_ ?_
     refine done_ (done_of HT_.out (by kernel_rfl)) ?_
     try go_wp2
     go_ret
     exact ⟨by first | rfl | (simp [errW_none, errW_some] <;> rfl) | (simp [*, errW_none, errW_some] <;> rfl), bw_ HB.out⟩
   ·rw [if_neg c3] at H
    have c3b0 : decide (x5_1 < (l0.length : Int)) = false := decide_eq_false c3
    clear c3
    obtain rfl := Option.some.inj H
    go_wp2
    go_ret
    exact ⟨by first | rfl | (simp [errW_none, errW_some] <;> rfl) | (simp [*, errW_none, errW_some] <;> rfl), bw_ HB.out⟩

/-! ### laws_FnExactRebind: function 3 -/
def laws_FnExactRebind.f (k : Nat) (l0 : List (S49)) (a1 : ByteArray) (l2 : List Int) : Option (Bool) := if (a1.size : Int) > 1048576 then some true else (if (l2.length : Int) > 1048576 then some true else ((laws_szBindS.f k l0 1048576).bind fun t1 => if t1 < 0 then some true else ((laws_toBindS.f k l0).bind fun t2 => (laws_toIntS.f k l2).bind fun t4 => (spec_Rebind.f k t2 a1 t4).bind fun t6 => (laws_toBindS.f k l0).bind fun t8 => (laws_toIntS.f k l2).bind fun t10 => (impl_Rebind.f k t8 a1 t10).bind fun t12 => (laws_eqBindS.f k t12.1 t6.1).bind fun t14 => if t14 = true then (if t12.2.1 = t6.2.1 then (if t12.2.2 = t6.2.2 then ((laws_toBindS.f k l0).bind fun t15 => (laws_eqBindS.f k t8 t15).bind fun t17 => if t17 = true then ((laws_toIntS.f k l2).bind fun t18 => (laws_eqIntS.f k t10 t18).bind fun t20 => if t20 = true then ((laws_markBindS.f k t8 1).bind fun t21 => (laws_markIntS.f k t10 t21.1).bind fun t22 => if ¬ (t22.1 < 0) then ((laws_eqBindS.f k t12.1 t6.1).bind fun t23 => if t23 = true then (if t12.2.1 = t6.2.1 then (if t12.2.2 = t6.2.2 then ((laws_markBindS.f k t12.1 1).bind fun t24 => (laws_heldBindS.f k t24.2 1).bind fun t25 => if ¬ (t25 < 0) then (if t25 = t24.1 then ((laws_toBindS.f k l0).bind fun t26 => (laws_toIntS.f k l2).bind fun t28 => (impl_Rebind.f k t26 a1 t28).bind fun t30 => (laws_eqBindS.f k t30.1 t6.1).bind fun t32 => if t32 = true then (if t30.2.1 = t6.2.1 then (if t30.2.2 = t6.2.2 then ((laws_heldBindS.f k t24.2 1).bind fun t33 => if ¬ (t33 < 0) then (if t33 = t24.1 then (some true) else none) else none) else none) else none) else none) else none) else none) else none) else none) else none) else none) else none) else none) else none) else none) else none)))
theorem laws_FnExactRebind.mono : ∀ a0 a1 a2 k, LeO (laws_FnExactRebind.f k a0 a1 a2) (laws_FnExactRebind.f (k + 1) a0 a1 a2) := by
  intro a0 a1 a2 k
  unfold laws_FnExactRebind.f
  repeat' first
  | (with_reducible exact laws_szBindS.mono _ _ _)
  | (with_reducible exact spec_Rebind.mono _ _ _ _)
  | (with_reducible exact laws_toBindS.mono _ _)
  | (with_reducible exact laws_toIntS.mono _ _)
  | (with_reducible exact impl_Rebind.mono _ _ _ _)
  | (with_reducible exact laws_eqBindS.mono _ _ _)
  | (with_reducible exact laws_eqIntS.mono _ _ _)
  | (with_reducible exact laws_markBindS.mono _ _ _)
  | (with_reducible exact laws_markIntS.mono _ _ _)
  | (with_reducible exact laws_heldBindS.mono _ _ _)
  | (with_reducible exact LeO.refl _)
  | (with_reducible exact LeO.none _)
  | (with_reducible refine LeO.ite ?_ ?_)
  | refine LeO.bind ?_ (fun _ => ?_)
  | exact LeO.none _
set_option maxHeartbeats 8000000 in
set_option maxRecDepth 100000 in
theorem laws_FnExactRebind.calls (k : Nat) (A0 : Option Addr) (c0 : Nat) (l0 : List (S49)) (a1 : ByteArray) (A2 : Option Addr) (c2 : Nat) (l2 : List Int) (r : Bool) (w : World) (hr0 : Kd.C k49 w A0 l0.length l0) (hc0 : l0.length ≤ c0) (hr2 : Kd.C (Kd.int .i64) w A2 l2.length l2) (hc2 : l2.length ≤ c2) (h : laws_FnExactRebind.f k l0 a1 l2 = some r) :
    Calls Try.prog 3 #[.slice A0 l0.length c0, .string a1, .slice A2 l2.length c2] w fun e w' => e = .returned (.bool r) ∧ Below w.heap.size w w' := by
  have HR0 := am_ hr0
  have HC0 := am_ hc0
  clear hr0 hc0
  have HR2 := am_ hr2
  have HC2 := am_ hc2
  clear hr2 hc2
  have HB := am_ (Below.refl w.heap.size w)
  unfold laws_FnExactRebind.f at h
  have H := h
  clear h
  by_cases c_ : (a1.size : Int) > 1048576
  · rw [if_pos c_] at H
    have fb34 : decide ((a1.size : Int) > 1048576) = true := decide_eq_true c_
    have fb35 : decide (1048576 < (a1.size : Int)) = true := decide_eq_true (by omega)
    have fb36 : decide (a1.size > 1048576) = true := decide_eq_true (by omega)
    have fb37 : decide (1048576 < a1.size) = true := decide_eq_true (by omega)
    clear c_
    obtain rfl := Option.some.inj H
    go_enter Try.func3, Try.ntmps3
    go_wp2
    go_ret
    exact ⟨rfl, HB.out⟩
  rw [if_neg c_] at H
  have fb38 : decide ((a1.size : Int) > 1048576) = false := decide_eq_false c_
  have fb39 : decide (1048576 < (a1.size : Int)) = false := decide_eq_false (by omega)
  have fb40 : decide (a1.size > 1048576) = false := decide_eq_false (by omega)
  have fb41 : decide (1048576 < a1.size) = false := decide_eq_false (by omega)
  clear c_
  by_cases c_ : (l2.length : Int) > 1048576
  · rw [if_pos c_] at H
    have fb42 : decide ((l2.length : Int) > 1048576) = true := decide_eq_true c_
    have fb43 : decide (1048576 < (l2.length : Int)) = true := decide_eq_true (by omega)
    have fb44 : decide (l2.length > 1048576) = true := decide_eq_true (by omega)
    have fb45 : decide (1048576 < l2.length) = true := decide_eq_true (by omega)
    clear c_
    obtain rfl := Option.some.inj H
    go_enter Try.func3, Try.ntmps3
    go_wp2
    go_ret
    exact ⟨rfl, HB.out⟩
  rw [if_neg c_] at H
  have fb46 : decide ((l2.length : Int) > 1048576) = false := decide_eq_false c_
  have fb47 : decide (1048576 < (l2.length : Int)) = false := decide_eq_false (by omega)
  have fb48 : decide (l2.length > 1048576) = false := decide_eq_false (by omega)
  have fb49 : decide (1048576 < l2.length) = false := decide_eq_false (by omega)
  clear c_
  replace H := bE_ H
  obtain ⟨t1, hA1, H⟩ := H
  have A1 := am_ hA1
  clear hA1
  by_cases c_ : t1 < 0
  · rw [if_pos c_] at H
    have fb50 : decide (t1 < 0) = true := decide_eq_true c_
    clear c_
    obtain rfl := Option.some.inj H
    go_enter Try.func3, Try.ntmps3
    go_wp2_with (first | (go_at_call 5; (with_reducible refine (laws_szBindS.calls k _ _ l0 1048576 t1 _ ?sd1_1 ?sd1_2 A1.out).mono ?_); (case sd1_1 => exact Kd.C_below HR0.out HB.out); (case sd1_2 => exact HC0.out); rintro e w1001 ⟨rfl, hb⟩; have hs_ := below_size HB.out; have n0_ := am_ (below_step HB.out hb); have SZ1 := am_ (show w.heap.size ≤ w1001.heap.size from (hb).size); replace HB := n0_; clear n0_; clear hb hs_))
    go_ret
    exact ⟨rfl, HB.out⟩
  rw [if_neg c_] at H
  have fb51 : decide (t1 < 0) = false := decide_eq_false c_
  clear c_
  replace H := bE_ H
  obtain ⟨t2, hA2, H⟩ := H
  have A2 := am_ hA2
  clear hA2
  replace H := bE_ H
  obtain ⟨t4, hA4, H⟩ := H
  have A4 := am_ hA4
  clear hA4
  replace H := bE_ H
  obtain ⟨⟨t6_0, t6_1, t6_2⟩, hA6, H⟩ := H
  try dsimp only at H
  have A6 := am_ hA6
  clear hA6
  replace H := bE_ H
  obtain ⟨t8, hA8, H⟩ := H
  have A8 := am_ hA8
  clear hA8
  replace H := bE_ H
  obtain ⟨t10, hA10, H⟩ := H
  have A10 := am_ hA10
  clear hA10
  replace H := bE_ H
  obtain ⟨⟨t12_0, t12_1, t12_2⟩, hA12, H⟩ := H
  try dsimp only at H
  have A12 := am_ hA12
  clear hA12
  replace H := bE_ H
  obtain ⟨t14, hA14, H⟩ := H
  have A14 := am_ hA14
  clear hA14
  replace H := nd_ H
  obtain ⟨c_, H⟩ := H
  subst c_
  replace H := nd_ H
  obtain ⟨c_, H⟩ := H
  subst c_
  first | have fb52 : (t12_1 == t12_1) = true := beq_self_eq_true _ | have fb52 : (t12_1.toList == t12_1.toList) = true := beq_self_eq_true _
  first | have fb53 : (t12_1 != t12_1) = false := by simp | have fb53 : (t12_1.toList != t12_1.toList) = false := by simp
  replace H := nd_ H
  obtain ⟨c_, H⟩ := H
  subst c_
  first | have fb54 : (t12_2 == t12_2) = true := beq_self_eq_true _ | have fb54 : (t12_2.toList == t12_2.toList) = true := beq_self_eq_true _
  first | have fb55 : (t12_2 != t12_2) = false := by simp | have fb55 : (t12_2.toList != t12_2.toList) = false := by simp
  replace H := bE_ H
  obtain ⟨t15, hA15, H⟩ := H
  have A15 := am_ hA15
  clear hA15
  replace H := bE_ H
  obtain ⟨t17, hA17, H⟩ := H
  have A17 := am_ hA17
  clear hA17
  replace H := nd_ H
  obtain ⟨c_, H⟩ := H
  subst c_
  replace H := bE_ H
  obtain ⟨t18, hA18, H⟩ := H
  have A18 := am_ hA18
  clear hA18
  replace H := bE_ H
  obtain ⟨t20, hA20, H⟩ := H
  have A20 := am_ hA20
  clear hA20
  replace H := nd_ H
  obtain ⟨c_, H⟩ := H
  subst c_
  replace H := bE_ H
  obtain ⟨⟨t21_0, t21_1⟩, hA21, H⟩ := H
  try dsimp only at H
  have A21 := am_ hA21
  clear hA21
  replace H := bE_ H
  obtain ⟨⟨t22_0, t22_1⟩, hA22, H⟩ := H
  try dsimp only at H
  have A22 := am_ hA22
  clear hA22
  replace H := nd_ H
  obtain ⟨c_, H⟩ := H
  have fb56 : decide (t22_0 < 0) = false := decide_eq_false c_
  clear c_
  replace H := bE_ H
  obtain ⟨t23, hA23, H⟩ := H
  have A23 := am_ hA23
  clear hA23
  replace H := nd_ H
  obtain ⟨c_, H⟩ := H
  subst c_
  replace H := nd_ H
  obtain ⟨c_, H⟩ := H
  clear c_
  replace H := nd_ H
  obtain ⟨c_, H⟩ := H
  clear c_
  replace H := bE_ H
  obtain ⟨⟨t24_0, t24_1⟩, hA24, H⟩ := H
  try dsimp only at H
  have A24 := am_ hA24
  clear hA24
  replace H := bE_ H
  obtain ⟨t25, hA25, H⟩ := H
  have A25 := am_ hA25
  clear hA25
  replace H := nd_ H
  obtain ⟨c_, H⟩ := H
  have fb57 : decide (t25 < 0) = false := decide_eq_false c_
  clear c_
  replace H := nd_ H
  obtain ⟨c_, H⟩ := H
  subst c_
  first | have fb58 : (t25 == t25) = true := beq_self_eq_true _ | have fb58 : (t25.toList == t25.toList) = true := beq_self_eq_true _
  first | have fb59 : (t25 != t25) = false := by simp | have fb59 : (t25.toList != t25.toList) = false := by simp
  replace H := bE_ H
  obtain ⟨t26, hA26, H⟩ := H
  have A26 := am_ hA26
  clear hA26
  replace H := bE_ H
  obtain ⟨t28, hA28, H⟩ := H
  have A28 := am_ hA28
  clear hA28
  replace H := bE_ H
  obtain ⟨⟨t30_0, t30_1, t30_2⟩, hA30, H⟩ := H
  try dsimp only at H
  have A30 := am_ hA30
  clear hA30
  replace H := bE_ H
  obtain ⟨t32, hA32, H⟩ := H
  have A32 := am_ hA32
  clear hA32
  replace H := nd_ H
  obtain ⟨c_, H⟩ := H
  subst c_
  replace H := nd_ H
  obtain ⟨c_, H⟩ := H
  subst c_
  first | have fb60 : (t30_1 == t30_1) = true := beq_self_eq_true _ | have fb60 : (t30_1.toList == t30_1.toList) = true := beq_self_eq_true _
  first | have fb61 : (t30_1 != t30_1) = false := by simp | have fb61 : (t30_1.toList != t30_1.toList) = false := by simp
  replace H := nd_ H
  obtain ⟨c_, H⟩ := H
  subst c_
  first | have fb62 : (t30_2 == t30_2) = true := beq_self_eq_true _ | have fb62 : (t30_2.toList == t30_2.toList) = true := beq_self_eq_true _
  first | have fb63 : (t30_2 != t30_2) = false := by simp | have fb63 : (t30_2.toList != t30_2.toList) = false := by simp
  replace H := bE_ H
  obtain ⟨t33, hA33, H⟩ := H
  have A33 := am_ hA33
  clear hA33
  replace H := nd_ H
  obtain ⟨c_, H⟩ := H
  have fb64 : decide (t33 < 0) = false := decide_eq_false c_
  clear c_
  replace H := nd_ H
  obtain ⟨c_, H⟩ := H
  subst c_
  first | have fb65 : (t33 == t33) = true := beq_self_eq_true _ | have fb65 : (t33.toList == t33.toList) = true := beq_self_eq_true _
  first | have fb66 : (t33 != t33) = false := by simp | have fb66 : (t33.toList != t33.toList) = false := by simp
  obtain rfl := Option.some.inj H
  go_enter Try.func3, Try.ntmps3
  go_wp2_with (first | (go_at_call 5; (with_reducible refine (laws_szBindS.calls k _ _ l0 1048576 t1 _ ?sd1_1 ?sd1_2 A1.out).mono ?_); (case sd1_1 => exact Kd.C_below HR0.out HB.out); (case sd1_2 => exact HC0.out); rintro e w1001 ⟨rfl, hb⟩; have hs_ := below_size HB.out; have n0_ := am_ (below_step HB.out hb); have SZ1 := am_ (show w.heap.size ≤ w1001.heap.size from (hb).size); replace HB := n0_; clear n0_; clear hb hs_) | (go_at_call 7; (with_reducible refine (laws_toBindS.calls k _ _ l0 t2 _ ?sd2_1 ?sd2_2 A2.out).mono ?_); (case sd2_1 => exact Kd.C_below HR0.out HB.out); (case sd2_2 => exact HC0.out); rintro e w1002 ⟨v_3, rfl, ho0, hb⟩; have hs_ := below_size HB.out; have n0_ := am_ (below_step HB.out hb); have SZ2 := am_ (show w1001.heap.size ≤ w1002.heap.size from (hb).size); replace HB := n0_; clear n0_; have HO3 := am_ (S_zone ho0 hs_); clear ho0; obtain ⟨A_3, c_3, e_3⟩ := Kd.S_slice HO3.out; subst e_3; clear hb hs_) | (go_at_call 8; (with_reducible refine (laws_toIntS.calls k _ _ l2 t4 _ ?sd4_1 ?sd4_2 A4.out).mono ?_); (case sd4_1 => exact Kd.C_below HR2.out HB.out); (case sd4_2 => exact HC2.out); rintro e w1004 ⟨v_5, rfl, ho0, hb⟩; have hs_ := below_size HB.out; have n0_ := am_ (below_step HB.out hb); have n1_ := am_ (Kd.S_below HO3.out hb); have SZ3 := am_ (show w1002.heap.size ≤ w1004.heap.size from (hb).size); clear HB HO3; have HB := n0_; have HO3 := n1_; clear n0_ n1_; have HO5 := am_ (R_zone ho0 hs_); clear ho0; obtain ⟨A_5, c_5, e_5⟩ := Kd.R_slice HO5.out; subst e_5; clear hb hs_) | (go_at_call 6; (with_reducible refine (spec_Rebind.calls k _ _ t2 a1 _ _ t4 t6_0 t30_1 t30_2 _ ?sd6_1 ?sd6_2 ?sd6_3 ?sd6_4 A6.out).mono ?_); (case sd6_1 => exact (Kd.S_reads' HO3.out).2.2); (case sd6_2 => exact (Kd.S_reads' HO3.out).2.1); (case sd6_3 => exact (Kd.R_reads' HO5.out).2.2); (case sd6_4 => exact (Kd.R_reads' HO5.out).2.1); rintro e w1006 ⟨v_7, rfl, ho0, hb⟩; have hs_ := below_size HB.out; have n0_ := am_ (below_step HB.out hb); have n1_ := am_ (Kd.S_below HO3.out hb); have n2_ := am_ (Kd.R_below HO5.out hb); have SZ4 := am_ (show w1004.heap.size ≤ w1006.heap.size from (hb).size); clear HB HO3 HO5; have HB := n0_; have HO3 := n1_; have HO5 := n2_; clear n0_ n1_ n2_; have HO7 := am_ (S_zone ho0 hs_); clear ho0; obtain ⟨A_7, c_7, e_7⟩ := Kd.S_slice HO7.out; subst e_7; clear hb hs_) | (go_at_call 7; (with_reducible refine (laws_toBindS.calls k _ _ l0 t8 _ ?sd8_1 ?sd8_2 A8.out).mono ?_); (case sd8_1 => exact Kd.C_below HR0.out HB.out); (case sd8_2 => exact HC0.out); rintro e w1008 ⟨v_9, rfl, ho0, hb⟩; have hs_ := below_size HB.out; have n0_ := am_ (below_step HB.out hb); have n1_ := am_ (Kd.S_below HO3.out hb); have n2_ := am_ (Kd.R_below HO5.out hb); have n3_ := am_ (Kd.S_below HO7.out hb); have SZ5 := am_ (show w1006.heap.size ≤ w1008.heap.size from (hb).size); clear HB HO3 HO5 HO7; have HB := n0_; have HO3 := n1_; have HO5 := n2_; have HO7 := n3_; clear n0_ n1_ n2_ n3_; have HO9 := am_ (S_zone ho0 hs_); clear ho0; obtain ⟨A_9, c_9, e_9⟩ := Kd.S_slice HO9.out; subst e_9; clear hb hs_) | (go_at_call 8; (with_reducible refine (laws_toIntS.calls k _ _ l2 t10 _ ?sd10_1 ?sd10_2 A10.out).mono ?_); (case sd10_1 => exact Kd.C_below HR2.out HB.out); (case sd10_2 => exact HC2.out); rintro e w1010 ⟨v_11, rfl, ho0, hb⟩; have hs_ := below_size HB.out; have n0_ := am_ (below_step HB.out hb); have n1_ := am_ (Kd.S_below HO3.out hb); have n2_ := am_ (Kd.R_below HO5.out hb); have n3_ := am_ (Kd.S_below HO7.out hb); have n4_ := am_ (Kd.S_below HO9.out hb); have SZ6 := am_ (show w1008.heap.size ≤ w1010.heap.size from (hb).size); clear HB HO3 HO5 HO7 HO9; have HB := n0_; have HO3 := n1_; have HO5 := n2_; have HO7 := n3_; have HO9 := n4_; clear n0_ n1_ n2_ n3_ n4_; have HO11 := am_ (R_zone ho0 hs_); clear ho0; obtain ⟨A_11, c_11, e_11⟩ := Kd.R_slice HO11.out; subst e_11; clear hb hs_) | (go_at_call 9; (with_reducible refine (impl_Rebind.calls k _ _ t8 a1 _ _ t10 t12_0 t30_1 t30_2 _ ?sd12_1 ?sd12_2 ?sd12_3 ?sd12_4 A12.out).mono ?_); (case sd12_1 => exact (Kd.S_reads' HO9.out).2.2); (case sd12_2 => exact (Kd.S_reads' HO9.out).2.1); (case sd12_3 => exact (Kd.R_reads' HO11.out).2.2); (case sd12_4 => exact (Kd.R_reads' HO11.out).2.1); rintro e w1012 ⟨v_13, rfl, ho0, hb⟩; have hs_ := below_size HB.out; have n0_ := am_ (below_step HB.out hb); have n1_ := am_ (Kd.S_below HO3.out hb); have n2_ := am_ (Kd.R_below HO5.out hb); have n3_ := am_ (Kd.S_below HO7.out hb); have n4_ := am_ (Kd.S_below HO9.out hb); have n5_ := am_ (Kd.R_below HO11.out hb); have SZ7 := am_ (show w1010.heap.size ≤ w1012.heap.size from (hb).size); clear HB HO3 HO5 HO7 HO9 HO11; have HB := n0_; have HO3 := n1_; have HO5 := n2_; have HO7 := n3_; have HO9 := n4_; have HO11 := n5_; clear n0_ n1_ n2_ n3_ n4_ n5_; have HO13 := am_ (S_zone ho0 hs_); clear ho0; obtain ⟨A_13, c_13, e_13⟩ := Kd.S_slice HO13.out; subst e_13; clear hb hs_) | (go_at_call 10; (with_reducible refine (laws_eqBindS.calls k _ _ t12_0 _ _ t6_0 true _ ?sd14_1 ?sd14_2 ?sd14_3 ?sd14_4 A14.out).mono ?_); (case sd14_1 => exact (Kd.S_reads' HO13.out).2.2); (case sd14_2 => exact (Kd.S_reads' HO13.out).2.1); (case sd14_3 => exact (Kd.S_reads' HO7.out).2.2); (case sd14_4 => exact (Kd.S_reads' HO7.out).2.1); rintro e w1014 ⟨rfl, hb⟩; have hs_ := below_size HB.out; have n0_ := am_ (below_step HB.out hb); have n1_ := am_ (Kd.S_below HO3.out hb); have n2_ := am_ (Kd.R_below HO5.out hb); have n3_ := am_ (Kd.S_below HO7.out hb); have n4_ := am_ (Kd.S_below HO9.out hb); have n5_ := am_ (Kd.R_below HO11.out hb); have n6_ := am_ (Kd.S_below HO13.out hb); have SZ8 := am_ (show w1012.heap.size ≤ w1014.heap.size from (hb).size); clear HB HO3 HO5 HO7 HO9 HO11 HO13; have HB := n0_; have HO3 := n1_; have HO5 := n2_; have HO7 := n3_; have HO9 := n4_; have HO11 := n5_; have HO13 := n6_; clear n0_ n1_ n2_ n3_ n4_ n5_ n6_; clear hb hs_) | (go_at_call 7; (with_reducible refine (laws_toBindS.calls k _ _ l0 t15 _ ?sd15_1 ?sd15_2 A15.out).mono ?_); (case sd15_1 => exact Kd.C_below HR0.out HB.out); (case sd15_2 => exact HC0.out); rintro e w1015 ⟨v_16, rfl, ho0, hb⟩; have hs_ := below_size HB.out; have n0_ := am_ (below_step HB.out hb); have n1_ := am_ (Kd.S_below HO3.out hb); have n2_ := am_ (Kd.R_below HO5.out hb); have n3_ := am_ (Kd.S_below HO7.out hb); have n4_ := am_ (Kd.S_below HO9.out hb); have n5_ := am_ (Kd.R_below HO11.out hb); have n6_ := am_ (Kd.S_below HO13.out hb); have SZ9 := am_ (show w1014.heap.size ≤ w1015.heap.size from (hb).size); clear HB HO3 HO5 HO7 HO9 HO11 HO13; have HB := n0_; have HO3 := n1_; have HO5 := n2_; have HO7 := n3_; have HO9 := n4_; have HO11 := n5_; have HO13 := n6_; clear n0_ n1_ n2_ n3_ n4_ n5_ n6_; have HO16 := am_ (S_zone ho0 hs_); clear ho0; obtain ⟨A_16, c_16, e_16⟩ := Kd.S_slice HO16.out; subst e_16; clear hb hs_) | (go_at_call 10; (with_reducible refine (laws_eqBindS.calls k _ _ t8 _ _ t15 true _ ?sd17_1 ?sd17_2 ?sd17_3 ?sd17_4 A17.out).mono ?_); (case sd17_1 => exact (Kd.S_reads' HO9.out).2.2); (case sd17_2 => exact (Kd.S_reads' HO9.out).2.1); (case sd17_3 => exact (Kd.S_reads' HO16.out).2.2); (case sd17_4 => exact (Kd.S_reads' HO16.out).2.1); rintro e w1017 ⟨rfl, hb⟩; have hs_ := below_size HB.out; have n0_ := am_ (below_step HB.out hb); have n1_ := am_ (Kd.S_below HO3.out hb); have n2_ := am_ (Kd.R_below HO5.out hb); have n3_ := am_ (Kd.S_below HO7.out hb); have n4_ := am_ (Kd.S_below HO9.out hb); have n5_ := am_ (Kd.R_below HO11.out hb); have n6_ := am_ (Kd.S_below HO13.out hb); have n7_ := am_ (Kd.S_below HO16.out hb); have SZ10 := am_ (show w1015.heap.size ≤ w1017.heap.size from (hb).size); clear HB HO3 HO5 HO7 HO9 HO11 HO13 HO16; have HB := n0_; have HO3 := n1_; have HO5 := n2_; have HO7 := n3_; have HO9 := n4_; have HO11 := n5_; have HO13 := n6_; have HO16 := n7_; clear n0_ n1_ n2_ n3_ n4_ n5_ n6_ n7_; clear hb hs_) | (go_at_call 8; (with_reducible refine (laws_toIntS.calls k _ _ l2 t18 _ ?sd18_1 ?sd18_2 A18.out).mono ?_); (case sd18_1 => exact Kd.C_below HR2.out HB.out); (case sd18_2 => exact HC2.out); rintro e w1018 ⟨v_19, rfl, ho0, hb⟩; have hs_ := below_size HB.out; have n0_ := am_ (below_step HB.out hb); have n1_ := am_ (Kd.S_below HO3.out hb); have n2_ := am_ (Kd.R_below HO5.out hb); have n3_ := am_ (Kd.S_below HO7.out hb); have n4_ := am_ (Kd.S_below HO9.out hb); have n5_ := am_ (Kd.R_below HO11.out hb); have n6_ := am_ (Kd.S_below HO13.out hb); have n7_ := am_ (Kd.S_below HO16.out hb); have SZ11 := am_ (show w1017.heap.size ≤ w1018.heap.size from (hb).size); clear HB HO3 HO5 HO7 HO9 HO11 HO13 HO16; have HB := n0_; have HO3 := n1_; have HO5 := n2_; have HO7 := n3_; have HO9 := n4_; have HO11 := n5_; have HO13 := n6_; have HO16 := n7_; clear n0_ n1_ n2_ n3_ n4_ n5_ n6_ n7_; have HO19 := am_ (R_zone ho0 hs_); clear ho0; obtain ⟨A_19, c_19, e_19⟩ := Kd.R_slice HO19.out; subst e_19; clear hb hs_) | (go_at_call 11; (with_reducible refine (laws_eqIntS.calls k _ _ t10 _ _ t18 true _ ?sd20_1 ?sd20_2 ?sd20_3 ?sd20_4 A20.out).mono ?_); (case sd20_1 => exact (Kd.R_reads' HO11.out).2.2); (case sd20_2 => exact (Kd.R_reads' HO11.out).2.1); (case sd20_3 => exact (Kd.R_reads' HO19.out).2.2); (case sd20_4 => exact (Kd.R_reads' HO19.out).2.1); rintro e w1020 ⟨rfl, hd⟩; have hb := hd.below; clear hd; have hs_ := below_size HB.out; have n0_ := am_ (below_step HB.out hb); have n1_ := am_ (Kd.S_below HO3.out hb); have n2_ := am_ (Kd.R_below HO5.out hb); have n3_ := am_ (Kd.S_below HO7.out hb); have n4_ := am_ (Kd.S_below HO9.out hb); have n5_ := am_ (Kd.R_below HO11.out hb); have n6_ := am_ (Kd.S_below HO13.out hb); have n7_ := am_ (Kd.S_below HO16.out hb); have n8_ := am_ (Kd.R_below HO19.out hb); have SZ12 := am_ (show w1018.heap.size ≤ w1020.heap.size from (hb).size); clear HB HO3 HO5 HO7 HO9 HO11 HO13 HO16 HO19; have HB := n0_; have HO3 := n1_; have HO5 := n2_; have HO7 := n3_; have HO9 := n4_; have HO11 := n5_; have HO13 := n6_; have HO16 := n7_; have HO19 := n8_; clear n0_ n1_ n2_ n3_ n4_ n5_ n6_ n7_ n8_; clear hb hs_) | (go_at_call 12; (with_reducible refine (laws_markBindS.callsP k (Zone w1006 w1008 (53 :: (k53).E)) (.slice A_9 t8.length c_9) t8 1 t21_0 t21_1 w _ ?sd21_1 ?sd21_2 A21.out).mono ?_); (case sd21_1 => exact HB.out); (case sd21_2 => exact HO9.out); rintro e w1021 ⟨rfl, hy0, hb, hkp⟩; have n0_ := am_ (hb); have n1_ := am_ (Kd.S_step HO3.out (fun k_ h_ hlt_ => hkp.2 k_ hlt_ (fun e_ => (show False from Zone.apart h_ e_ (by have := SZ3.out; have := SZ4.out; first | exact .inl (by omega) | exact .inr (by omega))).elim))); have n2_ := am_ (Kd.R_step HO5.out (fun k_ h_ hlt_ => hkp.2 k_ hlt_ (fun e_ => (show False from Zone.apart h_ e_ (by have := SZ4.out; first | exact .inl (by omega) | exact .inr (by omega))).elim))); have n3_ := am_ (Kd.S_step HO7.out (fun k_ h_ hlt_ => hkp.2 k_ hlt_ (fun e_ => (show False from Zone.apart h_ e_ (by first | exact .inl (by omega) | exact .inr (by omega))).elim))); have n4_ := am_ (hy0); have n5_ := am_ (Kd.R_step HO11.out (fun k_ h_ hlt_ => hkp.2 k_ hlt_ (fun e_ => (show False from Zone.apart h_ e_ (by first | exact .inl (by omega) | exact .inr (by omega))).elim))); have n6_ := am_ (Kd.S_step HO13.out (fun k_ h_ hlt_ => hkp.2 k_ hlt_ (fun e_ => (show False from Zone.apart h_ e_ (by have := SZ6.out; first | exact .inl (by omega) | exact .inr (by omega))).elim))); have n7_ := am_ (Kd.S_step HO16.out (fun k_ h_ hlt_ => hkp.2 k_ hlt_ (fun e_ => (show False from Zone.apart h_ e_ (by have := SZ6.out; have := SZ7.out; have := SZ8.out; first | exact .inl (by omega) | exact .inr (by omega))).elim))); have n8_ := am_ (Kd.R_step HO19.out (fun k_ h_ hlt_ => hkp.2 k_ hlt_ (fun e_ => (show False from Zone.apart h_ e_ (by have := SZ6.out; have := SZ7.out; have := SZ8.out; have := SZ9.out; have := SZ10.out; first | exact .inl (by omega) | exact .inr (by omega))).elim))); have SZ13 := am_ (show w1020.heap.size ≤ w1021.heap.size from hkp.1); clear HB HO3 HO5 HO7 HO9 HO11 HO13 HO16 HO19; have HB := n0_; have HO3 := n1_; have HO5 := n2_; have HO7 := n3_; have HO9 := n4_; have HO11 := n5_; have HO13 := n6_; have HO16 := n7_; have HO19 := n8_; clear n0_ n1_ n2_ n3_ n4_ n5_ n6_ n7_ n8_; clear hb hkp hy0) | (go_at_call 13; (with_reducible refine (laws_markIntS.calls k (Zone w1008 w1010 (3 :: ((Kd.int .i64)).E)) (.slice A_11 t10.length c_11) t10 t21_0 t22_0 t22_1 w _ ?sd22_1 ?sd22_2 A22.out).mono ?_); (case sd22_1 => exact HB.out); (case sd22_2 => exact HO11.out); rintro e w1022 ⟨rfl, hy0, hb, hkp⟩; have n0_ := am_ (hb); have n1_ := am_ (Kd.S_step HO3.out (fun k_ h_ hlt_ => hkp.2 k_ hlt_ (fun e_ => (show False from Zone.apart h_ e_ (by have := SZ3.out; have := SZ4.out; have := SZ5.out; first | exact .inl (by omega) | exact .inr (by omega))).elim))); have n2_ := am_ (Kd.R_step HO5.out (fun k_ h_ hlt_ => hkp.2 k_ hlt_ (fun e_ => (show False from Zone.apart h_ e_ (by have := SZ4.out; have := SZ5.out; first | exact .inl (by omega) | exact .inr (by omega))).elim))); have n3_ := am_ (Kd.S_step HO7.out (fun k_ h_ hlt_ => hkp.2 k_ hlt_ (fun e_ => (show False from Zone.apart h_ e_ (by have := SZ5.out; first | exact .inl (by omega) | exact .inr (by omega))).elim))); have n4_ := am_ (Kd.S_step HO9.out (fun k_ h_ hlt_ => hkp.2 k_ hlt_ (fun e_ => (show False from Zone.apart h_ e_ (by first | exact .inl (by omega) | exact .inr (by omega))).elim))); have n5_ := am_ (Kd.R_reok rfl hy0 HO11.out.1); have n6_ := am_ (Kd.S_step HO13.out (fun k_ h_ hlt_ => hkp.2 k_ hlt_ (fun e_ => (show False from Zone.apart h_ e_ (by first | exact .inl (by omega) | exact .inr (by omega))).elim))); have n7_ := am_ (Kd.S_step HO16.out (fun k_ h_ hlt_ => hkp.2 k_ hlt_ (fun e_ => (show False from Zone.apart h_ e_ (by have := SZ7.out; have := SZ8.out; first | exact .inl (by omega) | exact .inr (by omega))).elim))); have n8_ := am_ (Kd.R_step HO19.out (fun k_ h_ hlt_ => hkp.2 k_ hlt_ (fun e_ => (show False from Zone.apart h_ e_ (by have := SZ7.out; have := SZ8.out; have := SZ9.out; have := SZ10.out; first | exact .inl (by omega) | exact .inr (by omega))).elim))); have SZ14 := am_ (show w1021.heap.size ≤ w1022.heap.size from hkp.1); clear HB HO3 HO5 HO7 HO9 HO11 HO13 HO16 HO19; have HB := n0_; have HO3 := n1_; have HO5 := n2_; have HO7 := n3_; have HO9 := n4_; have HO11 := n5_; have HO13 := n6_; have HO16 := n7_; have HO19 := n8_; clear n0_ n1_ n2_ n3_ n4_ n5_ n6_ n7_ n8_; clear hb hkp hy0) | (go_at_call 10; (with_reducible refine (laws_eqBindS.calls k _ _ t12_0 _ _ t6_0 true _ ?sd23_1 ?sd23_2 ?sd23_3 ?sd23_4 A23.out).mono ?_); (case sd23_1 => exact (Kd.S_reads' HO13.out).2.2); (case sd23_2 => exact (Kd.S_reads' HO13.out).2.1); (case sd23_3 => exact (Kd.S_reads' HO7.out).2.2); (case sd23_4 => exact (Kd.S_reads' HO7.out).2.1); rintro e w1023 ⟨rfl, hb⟩; have hs_ := below_size HB.out; have n0_ := am_ (below_step HB.out hb); have n1_ := am_ (Kd.S_below HO3.out hb); have n2_ := am_ (Kd.R_below HO5.out hb); have n3_ := am_ (Kd.S_below HO7.out hb); have n4_ := am_ (Kd.S_below HO9.out hb); have n5_ := am_ (Kd.R_below HO11.out hb); have n6_ := am_ (Kd.S_below HO13.out hb); have n7_ := am_ (Kd.S_below HO16.out hb); have n8_ := am_ (Kd.R_below HO19.out hb); have SZ15 := am_ (show w1022.heap.size ≤ w1023.heap.size from (hb).size); clear HB HO3 HO5 HO7 HO9 HO11 HO13 HO16 HO19; have HB := n0_; have HO3 := n1_; have HO5 := n2_; have HO7 := n3_; have HO9 := n4_; have HO11 := n5_; have HO13 := n6_; have HO16 := n7_; have HO19 := n8_; clear n0_ n1_ n2_ n3_ n4_ n5_ n6_ n7_ n8_; clear hb hs_) | (go_at_call 12; (with_reducible refine (laws_markBindS.callsP k (Zone w1010 w1012 (53 :: (k53).E)) (.slice A_13 t12_0.length c_13) t12_0 1 t33 t24_1 w _ ?sd24_1 ?sd24_2 A24.out).mono ?_); (case sd24_1 => exact HB.out); (case sd24_2 => exact HO13.out); rintro e w1024 ⟨rfl, hy0, hb, hkp⟩; have n0_ := am_ (hb); have n1_ := am_ (Kd.S_step HO3.out (fun k_ h_ hlt_ => hkp.2 k_ hlt_ (fun e_ => (show False from Zone.apart h_ e_ (by have := SZ3.out; have := SZ4.out; have := SZ5.out; have := SZ6.out; first | exact .inl (by omega) | exact .inr (by omega))).elim))); have n2_ := am_ (Kd.R_step HO5.out (fun k_ h_ hlt_ => hkp.2 k_ hlt_ (fun e_ => (show False from Zone.apart h_ e_ (by have := SZ4.out; have := SZ5.out; have := SZ6.out; first | exact .inl (by omega) | exact .inr (by omega))).elim))); have n3_ := am_ (Kd.S_step HO7.out (fun k_ h_ hlt_ => hkp.2 k_ hlt_ (fun e_ => (show False from Zone.apart h_ e_ (by have := SZ5.out; have := SZ6.out; first | exact .inl (by omega) | exact .inr (by omega))).elim))); have n4_ := am_ (Kd.S_step HO9.out (fun k_ h_ hlt_ => hkp.2 k_ hlt_ (fun e_ => (show False from Zone.apart h_ e_ (by have := SZ6.out; first | exact .inl (by omega) | exact .inr (by omega))).elim))); have n5_ := am_ (Kd.R_step HO11.out (fun k_ h_ hlt_ => hkp.2 k_ hlt_ (fun e_ => (show False from Zone.apart h_ e_ (by first | exact .inl (by omega) | exact .inr (by omega))).elim))); have n6_ := am_ (hy0); have n7_ := am_ (Kd.S_step HO16.out (fun k_ h_ hlt_ => hkp.2 k_ hlt_ (fun e_ => (show False from Zone.apart h_ e_ (by have := SZ8.out; first | exact .inl (by omega) | exact .inr (by omega))).elim))); have n8_ := am_ (Kd.R_step HO19.out (fun k_ h_ hlt_ => hkp.2 k_ hlt_ (fun e_ => (show False from Zone.apart h_ e_ (by have := SZ8.out; have := SZ9.out; have := SZ10.out; first | exact .inl (by omega) | exact .inr (by omega))).elim))); have SZ16 := am_ (show w1023.heap.size ≤ w1024.heap.size from hkp.1); clear HB HO3 HO5 HO7 HO9 HO11 HO13 HO16 HO19; have HB := n0_; have HO3 := n1_; have HO5 := n2_; have HO7 := n3_; have HO9 := n4_; have HO11 := n5_; have HO13 := n6_; have HO16 := n7_; have HO19 := n8_; clear n0_ n1_ n2_ n3_ n4_ n5_ n6_ n7_ n8_; clear hb hkp hy0) | (go_at_call 14; refine calls_of_args (args' := #[.slice A_13 t24_1.length c_13, .int .i64 1]) (by first | (rw [show t24_1.length = t12_0.length from (Kd.S_reads' HO13.out).1.symm] <;> rfl) | rfl) ?_; (with_reducible refine (laws_heldBindS.calls k _ _ t24_1 1 t33 _ ?sd25_1 ?sd25_2 A25.out).mono ?_); (case sd25_1 => exact (Kd.S_reads' HO13.out).2.2); (case sd25_2 => exact (by rw [show t24_1.length = t12_0.length from (Kd.S_reads' HO13.out).1.symm]; exact (Kd.S_reads' HO13.out).2.1)); rintro e w1025 ⟨rfl, hb⟩; have hs_ := below_size HB.out; have n0_ := am_ (below_step HB.out hb); have n1_ := am_ (Kd.S_below HO3.out hb); have n2_ := am_ (Kd.R_below HO5.out hb); have n3_ := am_ (Kd.S_below HO7.out hb); have n4_ := am_ (Kd.S_below HO9.out hb); have n5_ := am_ (Kd.R_below HO11.out hb); have n6_ := am_ (Kd.S_below HO13.out hb); have n7_ := am_ (Kd.S_below HO16.out hb); have n8_ := am_ (Kd.R_below HO19.out hb); have SZ17 := am_ (show w1024.heap.size ≤ w1025.heap.size from (hb).size); clear HB HO3 HO5 HO7 HO9 HO11 HO13 HO16 HO19; have HB := n0_; have HO3 := n1_; have HO5 := n2_; have HO7 := n3_; have HO9 := n4_; have HO11 := n5_; have HO13 := n6_; have HO16 := n7_; have HO19 := n8_; clear n0_ n1_ n2_ n3_ n4_ n5_ n6_ n7_ n8_; clear hb hs_) | (go_at_call 7; (with_reducible refine (laws_toBindS.calls k _ _ l0 t26 _ ?sd26_1 ?sd26_2 A26.out).mono ?_); (case sd26_1 => exact Kd.C_below HR0.out HB.out); (case sd26_2 => exact HC0.out); rintro e w1026 ⟨v_27, rfl, ho0, hb⟩; have hs_ := below_size HB.out; have n0_ := am_ (below_step HB.out hb); have n1_ := am_ (Kd.S_below HO3.out hb); have n2_ := am_ (Kd.R_below HO5.out hb); have n3_ := am_ (Kd.S_below HO7.out hb); have n4_ := am_ (Kd.S_below HO9.out hb); have n5_ := am_ (Kd.R_below HO11.out hb); have n6_ := am_ (Kd.S_below HO13.out hb); have n7_ := am_ (Kd.S_below HO16.out hb); have n8_ := am_ (Kd.R_below HO19.out hb); have SZ18 := am_ (show w1025.heap.size ≤ w1026.heap.size from (hb).size); clear HB HO3 HO5 HO7 HO9 HO11 HO13 HO16 HO19; have HB := n0_; have HO3 := n1_; have HO5 := n2_; have HO7 := n3_; have HO9 := n4_; have HO11 := n5_; have HO13 := n6_; have HO16 := n7_; have HO19 := n8_; clear n0_ n1_ n2_ n3_ n4_ n5_ n6_ n7_ n8_; have HO27 := am_ (S_zone ho0 hs_); clear ho0; obtain ⟨A_27, c_27, e_27⟩ := Kd.S_slice HO27.out; subst e_27; clear hb hs_) | (go_at_call 8; (with_reducible refine (laws_toIntS.calls k _ _ l2 t28 _ ?sd28_1 ?sd28_2 A28.out).mono ?_); (case sd28_1 => exact Kd.C_below HR2.out HB.out); (case sd28_2 => exact HC2.out); rintro e w1028 ⟨v_29, rfl, ho0, hb⟩; have hs_ := below_size HB.out; have n0_ := am_ (below_step HB.out hb); have n1_ := am_ (Kd.S_below HO3.out hb); have n2_ := am_ (Kd.R_below HO5.out hb); have n3_ := am_ (Kd.S_below HO7.out hb); have n4_ := am_ (Kd.S_below HO9.out hb); have n5_ := am_ (Kd.R_below HO11.out hb); have n6_ := am_ (Kd.S_below HO13.out hb); have n7_ := am_ (Kd.S_below HO16.out hb); have n8_ := am_ (Kd.R_below HO19.out hb); have n9_ := am_ (Kd.S_below HO27.out hb); have SZ19 := am_ (show w1026.heap.size ≤ w1028.heap.size from (hb).size); clear HB HO3 HO5 HO7 HO9 HO11 HO13 HO16 HO19 HO27; have HB := n0_; have HO3 := n1_; have HO5 := n2_; have HO7 := n3_; have HO9 := n4_; have HO11 := n5_; have HO13 := n6_; have HO16 := n7_; have HO19 := n8_; have HO27 := n9_; clear n0_ n1_ n2_ n3_ n4_ n5_ n6_ n7_ n8_ n9_; have HO29 := am_ (R_zone ho0 hs_); clear ho0; obtain ⟨A_29, c_29, e_29⟩ := Kd.R_slice HO29.out; subst e_29; clear hb hs_) | (go_at_call 9; (with_reducible refine (impl_Rebind.calls k _ _ t26 a1 _ _ t28 t30_0 t30_1 t30_2 _ ?sd30_1 ?sd30_2 ?sd30_3 ?sd30_4 A30.out).mono ?_); (case sd30_1 => exact (Kd.S_reads' HO27.out).2.2); (case sd30_2 => exact (Kd.S_reads' HO27.out).2.1); (case sd30_3 => exact (Kd.R_reads' HO29.out).2.2); (case sd30_4 => exact (Kd.R_reads' HO29.out).2.1); rintro e w1030 ⟨v_31, rfl, ho0, hb⟩; have hs_ := below_size HB.out; have n0_ := am_ (below_step HB.out hb); have n1_ := am_ (Kd.S_below HO3.out hb); have n2_ := am_ (Kd.R_below HO5.out hb); have n3_ := am_ (Kd.S_below HO7.out hb); have n4_ := am_ (Kd.S_below HO9.out hb); have n5_ := am_ (Kd.R_below HO11.out hb); have n6_ := am_ (Kd.S_below HO13.out hb); have n7_ := am_ (Kd.S_below HO16.out hb); have n8_ := am_ (Kd.R_below HO19.out hb); have n9_ := am_ (Kd.S_below HO27.out hb); have n10_ := am_ (Kd.R_below HO29.out hb); have SZ20 := am_ (show w1028.heap.size ≤ w1030.heap.size from (hb).size); clear HB HO3 HO5 HO7 HO9 HO11 HO13 HO16 HO19 HO27 HO29; have HB := n0_; have HO3 := n1_; have HO5 := n2_; have HO7 := n3_; have HO9 := n4_; have HO11 := n5_; have HO13 := n6_; have HO16 := n7_; have HO19 := n8_; have HO27 := n9_; have HO29 := n10_; clear n0_ n1_ n2_ n3_ n4_ n5_ n6_ n7_ n8_ n9_ n10_; have HO31 := am_ (S_zone ho0 hs_); clear ho0; obtain ⟨A_31, c_31, e_31⟩ := Kd.S_slice HO31.out; subst e_31; clear hb hs_) | (go_at_call 10; (with_reducible refine (laws_eqBindS.calls k _ _ t30_0 _ _ t6_0 true _ ?sd32_1 ?sd32_2 ?sd32_3 ?sd32_4 A32.out).mono ?_); (case sd32_1 => exact (Kd.S_reads' HO31.out).2.2); (case sd32_2 => exact (Kd.S_reads' HO31.out).2.1); (case sd32_3 => exact (Kd.S_reads' HO7.out).2.2); (case sd32_4 => exact (Kd.S_reads' HO7.out).2.1); rintro e w1032 ⟨rfl, hb⟩; have hs_ := below_size HB.out; have n0_ := am_ (below_step HB.out hb); have n1_ := am_ (Kd.S_below HO3.out hb); have n2_ := am_ (Kd.R_below HO5.out hb); have n3_ := am_ (Kd.S_below HO7.out hb); have n4_ := am_ (Kd.S_below HO9.out hb); have n5_ := am_ (Kd.R_below HO11.out hb); have n6_ := am_ (Kd.S_below HO13.out hb); have n7_ := am_ (Kd.S_below HO16.out hb); have n8_ := am_ (Kd.R_below HO19.out hb); have n9_ := am_ (Kd.S_below HO27.out hb); have n10_ := am_ (Kd.R_below HO29.out hb); have n11_ := am_ (Kd.S_below HO31.out hb); have SZ21 := am_ (show w1030.heap.size ≤ w1032.heap.size from (hb).size); clear HB HO3 HO5 HO7 HO9 HO11 HO13 HO16 HO19 HO27 HO29 HO31; have HB := n0_; have HO3 := n1_; have HO5 := n2_; have HO7 := n3_; have HO9 := n4_; have HO11 := n5_; have HO13 := n6_; have HO16 := n7_; have HO19 := n8_; have HO27 := n9_; have HO29 := n10_; have HO31 := n11_; clear n0_ n1_ n2_ n3_ n4_ n5_ n6_ n7_ n8_ n9_ n10_ n11_; clear hb hs_) | (go_at_call 14; refine calls_of_args (args' := #[.slice A_13 t24_1.length c_13, .int .i64 1]) (by first | (rw [show t24_1.length = t12_0.length from (Kd.S_reads' HO13.out).1.symm] <;> rfl) | rfl) ?_; (with_reducible refine (laws_heldBindS.calls k _ _ t24_1 1 t33 _ ?sd33_1 ?sd33_2 A33.out).mono ?_); (case sd33_1 => exact (Kd.S_reads' HO13.out).2.2); (case sd33_2 => exact (by rw [show t24_1.length = t12_0.length from (Kd.S_reads' HO13.out).1.symm]; exact (Kd.S_reads' HO13.out).2.1)); rintro e w1033 ⟨rfl, hb⟩; have hs_ := below_size HB.out; have n0_ := am_ (below_step HB.out hb); have n1_ := am_ (Kd.S_below HO3.out hb); have n2_ := am_ (Kd.R_below HO5.out hb); have n3_ := am_ (Kd.S_below HO7.out hb); have n4_ := am_ (Kd.S_below HO9.out hb); have n5_ := am_ (Kd.R_below HO11.out hb); have n6_ := am_ (Kd.S_below HO13.out hb); have n7_ := am_ (Kd.S_below HO16.out hb); have n8_ := am_ (Kd.R_below HO19.out hb); have n9_ := am_ (Kd.S_below HO27.out hb); have n10_ := am_ (Kd.R_below HO29.out hb); have n11_ := am_ (Kd.S_below HO31.out hb); have SZ22 := am_ (show w1032.heap.size ≤ w1033.heap.size from (hb).size); clear HB HO3 HO5 HO7 HO9 HO11 HO13 HO16 HO19 HO27 HO29 HO31; have HB := n0_; have HO3 := n1_; have HO5 := n2_; have HO7 := n3_; have HO9 := n4_; have HO11 := n5_; have HO13 := n6_; have HO16 := n7_; have HO19 := n8_; have HO27 := n9_; have HO29 := n10_; have HO31 := n11_; clear n0_ n1_ n2_ n3_ n4_ n5_ n6_ n7_ n8_ n9_ n10_ n11_; clear hb hs_))
  go_ret
  exact ⟨rfl, HB.out⟩

/-! the law's reading -/
def ok49 (z : S49) : Prop := (z.f0.size ≤ maxLen) ∧ (z.f1.length ≤ maxLen ∧ ∀ z264 ∈ z.f1, (Lit.int .i64 z264).wf = true)
/-- THE ONE PURE STATEMENT of laws_FnExactRebind. -/
def laws_FnExactRebind.Pure : Prop := ∀ (l0 : List (S49)) (a1 : ByteArray) (l2 : List Int), (l0.length ≤ maxLen ∧ ∀ z267 ∈ l0, ok49 z267) → (a1.size ≤ maxLen) → (l2.length ≤ maxLen ∧ ∀ z268 ∈ l2, (Lit.int .i64 z268).wf = true) → ∃ k, laws_FnExactRebind.f k l0 a1 l2 = some true


end Go.Proofs.Ytfgdfnnddoncjaa.XFnExactRebind
