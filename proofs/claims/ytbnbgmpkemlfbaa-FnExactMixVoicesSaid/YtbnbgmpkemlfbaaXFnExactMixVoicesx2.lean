/- What the Go functions that this law comes to compute, each walked; written by a program of this session. -/
import Derived.Test.YtbnbgmpkemlfbaaXShort
import Derived.Test.YtbnbgmpkemlfbaaXMark
import Derived.Test.YtbnbgmpkemlfbaaXFnExactMixVoicesx0
import Derived.Test.YtbnbgmpkemlfbaaXFnExactMixVoicesx1
namespace Go.Proofs.Ytbnbgmpkemlfbaa.XFnExactMixVoices
open Go.RowKit Go.Proofs.YtbnbgmpkemlfbaaW.PrintWords Go.Proofs.YtbnbgmpkemlfbaaW.PrintLast Go.Proofs.YtbnbgmpkemlfbaaW.PrintMore
attribute [local go_sem] str_geq max2_int min2_int max_two min_two max_three min_three max_four min_four   -- for this text's walks alone
set_option linter.unusedVariables false
set_option linter.unusedSimpArgs false

/-! ### laws_eqVoiceS: function 11 -/
def laws_eqVoiceS.l0 : Nat → List (S32) → List (S32) → Int → Option (Bool)
 | 0, _, _, _ => none
 | k + 1, x0, x1, x5 => if x5 < (x0.length : Int) then (if 0 ≤ x5 then (if x5 < (x1.length : Int) then ((laws_eqVoice.f k ((rd_T32 x0 x5).f0) ((rd_T32 x0 x5).f1) ((rd_T32 x0 x5).f2) ((rd_T32 x0 x5).f3) ((rd_T32 x0 x5).f4) ((rd_T32 x0 x5).f5) ((rd_T32 x1 x5).f0) ((rd_T32 x1 x5).f1) ((rd_T32 x1 x5).f2) ((rd_T32 x1 x5).f3) ((rd_T32 x1 x5).f4) ((rd_T32 x1 x5).f5)).bind fun t136 => (if t136 = true then (laws_eqVoiceS.l0 k x0 x1 (wrap64 (x5 + 1))) else (some false))) else (none)) else (none)) else (some true)
def laws_eqVoiceS.f (k : Nat) (l0 : List (S32)) (l1 : List (S32)) : Option (Bool) := if (l0.length : Int) = (l1.length : Int) then (laws_eqVoiceS.l0 k l0 l1 0) else (some false)
theorem laws_eqVoiceS.mono_l : ∀ k, (∀ y0 y1 y2, LeO (laws_eqVoiceS.l0 k y0 y1 y2) (laws_eqVoiceS.l0 (k + 1) y0 y1 y2))
 | 0 => fun _ _ _ r h => by simp [laws_eqVoiceS.l0] at h
 | k + 1 => by
  have ih0 := laws_eqVoiceS.mono_l k
  ·intro y0 y1 y2
   unfold laws_eqVoiceS.l0
   repeat' first
   | (with_reducible exact ih0 _ _ _)
   | (with_reducible exact laws_eqVoice.mono _ _ _ _ _ _ _ _ _ _ _ _ _)
   | (with_reducible exact LeO.refl _)
   | (with_reducible exact LeO.none _)
   | (with_reducible refine LeO.ite ?_ ?_)
   | (with_reducible refine LeO.bind ?_ (fun _ => ?_))
   | exact ih0 _ _ _
   | exact laws_eqVoice.mono _ _ _ _ _ _ _ _ _ _ _ _ _
   | exact LeO.none _
   | refine LeO.ite ?_ ?_
   | refine LeO.bind ?_ (fun _ => ?_)
theorem laws_eqVoiceS.mono : ∀ a0 a1 k, LeO (laws_eqVoiceS.f k a0 a1) (laws_eqVoiceS.f (k + 1) a0 a1) := by
 intro a0 a1 k
 have ih0 := laws_eqVoiceS.mono_l k
 unfold laws_eqVoiceS.f
 repeat' first
   | (with_reducible exact ih0 _ _ _)
   | (with_reducible exact laws_eqVoice.mono _ _ _ _ _ _ _ _ _ _ _ _ _)
   | (with_reducible exact LeO.refl _)
   | (with_reducible exact LeO.none _)
   | (with_reducible refine LeO.ite ?_ ?_)
   | (with_reducible refine LeO.bind ?_ (fun _ => ?_))
   | exact ih0 _ _ _
   | exact laws_eqVoice.mono _ _ _ _ _ _ _ _ _ _ _ _ _
   | exact LeO.none _
   | refine LeO.ite ?_ ?_
   | refine LeO.bind ?_ (fun _ => ?_)
def laws_eqVoiceS.T6 : Bool × List (List Nat × List Nat) := (true, [([], []), ([], []), ([0, 1], [0, 1]), ([2], [2]), ([], []), ([], []), ([4, 5], [4, 5]), ([6], [6]), ([3, 7], [3, 7]), ([8], [8])])
def laws_eqVoiceS.B6 : List Nat := [0, 0, 3, 7, 0, 0, 48, 112, 255, 511]
theorem laws_eqVoiceS.tab6 : rtab .any (opsOf Try.f11 6) = laws_eqVoiceS.T6 := by kernel_rfl
theorem laws_eqVoiceS.bits6 : waitsOk laws_eqVoiceS.T6.2 laws_eqVoiceS.B6 = true := by kernel_rfl
set_option maxHeartbeats 8000000 in
set_option maxRecDepth 100000 in
theorem laws_eqVoiceS.calls (k : Nat) (A0 : Option Addr) (c0 : Nat) (l0 : List (S32)) (A1 : Option Addr) (c1 : Nat) (l1 : List (S32)) (r : Bool) (w : World) (hr0 : Kd.C k32 w A0 l0.length l0) (hc0 : l0.length ≤ c0) (hr1 : Kd.C k32 w A1 l1.length l1) (hc1 : l1.length ≤ c1) (h : laws_eqVoiceS.f k l0 l1 = some r) :
  Calls Try.prog 11 #[.slice A0 l0.length c0, .slice A1 l1.length c1] w fun e w' => e = .returned (.bool r) ∧ Below w.heap.size w w' := by
 have hu32 := Try.underlying32
 have HR0 := am_ hr0
 have HC0 := am_ hc0
 clear hr0 hc0
 have HR1 := am_ hr1
 have HC1 := am_ hc1
 clear hr1 hc1
 have HB := am_ (Below.refl w.heap.size w)
 have H : (if (l0.length : Int) = (l1.length : Int) then (laws_eqVoiceS.l0 k l0 l1 0) else (some false)) = some r := h
 clear h
 by_cases c3 : (l0.length : Int) = (l1.length : Int)
 ·rw [if_pos c3] at H
  have c3b0 : ((l0.length : Int) == (l1.length : Int)) = true := beq_iff_eq.mpr c3
  have c3b1 : ((l0.length : Int) != (l1.length : Int)) = false := bne_eq_false_iff_eq.mpr c3
  have c3b2 : (l0.length == l1.length) = true := by first | simpa using c3 | (simp at c3 ⊢; omega)
  clear c3
  have H' := am_ H
  clear H
  go_enter Try.func11, Try.ntmps11
  go_wp2
  go_loopg [5] k (fun kq v5 w' => ∃ (x5_1 : Int), v5 = .int .i64 x5_1 ∧ Aside0 (laws_eqVoiceS.l0 kq l0 l1 x5_1 = some r) ∧ Aside0 (kq ≤ k) ∧ Aside0 (Below w.heap.size w w'))
  case atStart => exact ⟨(0), sq_, H', ⟨Nat.le_refl _⟩, ⟨bw_ HB.out⟩⟩
  case round =>
   clear H'
   try clear c1
   try clear c3
   try clear c3b0
   try clear c3b1
   try clear c3b2
   obtain ⟨x5_1, rfl, HA, HK1, HB⟩ := hrel
   cases gk with
   | zero => exact absurd HA.out (by simp [laws_eqVoiceS.l0])
   | succ k1 =>
    have H := HA.out
    clear HA
    simp only [laws_eqVoiceS.l0] at H
    by_cases c4 : x5_1 < (l0.length : Int)
    ·rw [if_pos c4] at H
     have c4b0 : decide (x5_1 < (l0.length : Int)) = true := decide_eq_true c4
     clear c4
     obtain ⟨c5, H⟩ := ifn_ H
     have c5b0 : decide (0 ≤ x5_1) = true := decide_eq_true c5
     clear c5
     obtain ⟨c6, H⟩ := ifn_ H
     have c6b0 : decide (x5_1 < (l1.length : Int)) = true := decide_eq_true c6
     clear c6
     obtain ⟨t136, A70, H⟩ := bE_ H
     have A7 := am_ A70
     clear A70
     by_cases c8 : t136 = true
     ·subst c8
      replace H := it_ H rfl
      have H' := am_ H
      clear H
      try go_wp2
      have n0_ := am_ (below_drew1 HB.out)
      replace HB := n0_
      clear n0_
      have p134 : 0 ≤ (x5_1 : Int) := od_
      have q134 : x5_1 < (l0.length : Int) := od_
      obtain ⟨ad134, A134_0, c134_0, e134, hx134_0, hx134_1, hx134_2, hx134_3, hx134_4, hx134_5, hl134_0, hi134_0⟩ := at_T32 HR0.out x5_1 p134 q134
      have hw134_5 := hx134_5
      have hw134_4 := hx134_4
      have hw134_3 := hx134_3
      have hw134_2 := hx134_2
      have hw134_1 := hx134_1
      have hw134_0 := hx134_0
      cases e134
      (try replace hx134_0 := hc_ HB.out hx134_0)
      (try replace hx134_1 := hc_ HB.out hx134_1)
      (try replace hx134_2 := hc_ HB.out hx134_2)
      (try replace hx134_3 := hc_ HB.out hx134_3)
      (try replace hx134_4 := hc_ HB.out hx134_4)
      (try replace hx134_5 := hc_ HB.out hx134_5)
      have HR134_0 := am_ hi134_0
      have HC134_0 := am_ hl134_0
      clear hi134_0 hl134_0
      replace p134 := eq_true p134
      replace q134 := eq_true q134
      have p135 : 0 ≤ (x5_1 : Int) := od_
      have q135 : x5_1 < (l1.length : Int) := od_
      obtain ⟨ad135, A135_0, c135_0, e135, hx135_0, hx135_1, hx135_2, hx135_3, hx135_4, hx135_5, hl135_0, hi135_0⟩ := at_T32 HR1.out x5_1 p135 q135
      have hw135_5 := hx135_5
      have hw135_4 := hx135_4
      have hw135_3 := hx135_3
      have hw135_2 := hx135_2
      have hw135_1 := hx135_1
      have hw135_0 := hx135_0
      cases e135
      (try replace hx135_0 := hc_ HB.out hx135_0)
      (try replace hx135_1 := hc_ HB.out hx135_1)
      (try replace hx135_2 := hc_ HB.out hx135_2)
      (try replace hx135_3 := hc_ HB.out hx135_3)
      (try replace hx135_4 := hc_ HB.out hx135_4)
      (try replace hx135_5 := hc_ HB.out hx135_5)
      have HR135_0 := am_ hi135_0
      have HC135_0 := am_ hl135_0
      clear hi135_0 hl135_0
      replace p135 := eq_true p135
      replace q135 := eq_true q135
      refine start_ (n := 10) (S := fun w' => w'.cell? (ad134.add ((x5_1).toNat * 6)) = some (.slice A134_0 ((rd_T32 l0 x5_1).f0).length c134_0) ∧ w'.cell? ⟨(ad134.add ((x5_1).toNat * 6)).block, (ad134.add ((x5_1).toNat * 6)).off + 1, none⟩ = some (.int .i64 ((rd_T32 l0 x5_1).f1)) ∧ w'.cell? ⟨(ad134.add ((x5_1).toNat * 6)).block, (ad134.add ((x5_1).toNat * 6)).off + 2, none⟩ = some (.bool ((rd_T32 l0 x5_1).f2)) ∧ w'.cell? ⟨(ad134.add ((x5_1).toNat * 6)).block, (ad134.add ((x5_1).toNat * 6)).off + 3, none⟩ = some (.int .i64 ((rd_T32 l0 x5_1).f3)) ∧ w'.cell? ⟨(ad134.add ((x5_1).toNat * 6)).block, (ad134.add ((x5_1).toNat * 6)).off + 4, none⟩ = some (.int .i64 ((rd_T32 l0 x5_1).f4)) ∧ w'.cell? ⟨(ad134.add ((x5_1).toNat * 6)).block, (ad134.add ((x5_1).toNat * 6)).off + 5, none⟩ = some (.int .i64 ((rd_T32 l0 x5_1).f5)) ∧ w'.cell? (ad135.add ((x5_1).toNat * 6)) = some (.slice A135_0 ((rd_T32 l1 x5_1).f0).length c135_0) ∧ w'.cell? ⟨(ad135.add ((x5_1).toNat * 6)).block, (ad135.add ((x5_1).toNat * 6)).off + 1, none⟩ = some (.int .i64 ((rd_T32 l1 x5_1).f1)) ∧ w'.cell? ⟨(ad135.add ((x5_1).toNat * 6)).block, (ad135.add ((x5_1).toNat * 6)).off + 2, none⟩ = some (.bool ((rd_T32 l1 x5_1).f2)) ∧ w'.cell? ⟨(ad135.add ((x5_1).toNat * 6)).block, (ad135.add ((x5_1).toNat * 6)).off + 3, none⟩ = some (.int .i64 ((rd_T32 l1 x5_1).f3)) ∧ w'.cell? ⟨(ad135.add ((x5_1).toNat * 6)).block, (ad135.add ((x5_1).toNat * 6)).off + 4, none⟩ = some (.int .i64 ((rd_T32 l1 x5_1).f4)) ∧ w'.cell? ⟨(ad135.add ((x5_1).toNat * 6)).block, (ad135.add ((x5_1).toNat * 6)).off + 5, none⟩ = some (.int .i64 ((rd_T32 l1 x5_1).f5))) (ds := []) (Array.replicate 10 false) (by kernel_rfl) rfl rfl ⟨((HB.out.cell (World.block_lt_of_cell? w _ hw134_0)).trans hw134_0), ((HB.out.cell (World.block_lt_of_cell? w _ hw134_1)).trans hw134_1), ((HB.out.cell (World.block_lt_of_cell? w _ hw134_2)).trans hw134_2), ((HB.out.cell (World.block_lt_of_cell? w _ hw134_3)).trans hw134_3), ((HB.out.cell (World.block_lt_of_cell? w _ hw134_4)).trans hw134_4), ((HB.out.cell (World.block_lt_of_cell? w _ hw134_5)).trans hw134_5), ((HB.out.cell (World.block_lt_of_cell? w _ hw135_0)).trans hw135_0), ((HB.out.cell (World.block_lt_of_cell? w _ hw135_1)).trans hw135_1), ((HB.out.cell (World.block_lt_of_cell? w _ hw135_2)).trans hw135_2), ((HB.out.cell (World.block_lt_of_cell? w _ hw135_3)).trans hw135_3), ((HB.out.cell (World.block_lt_of_cell? w _ hw135_4)).trans hw135_4), ((HB.out.cell (World.block_lt_of_cell? w _ hw135_5)).trans hw135_5)⟩ (fun hHeld => ?_); refine with_tabW laws_eqVoiceS.tab6 laws_eqVoiceS.bits6 (fun HT_ HW_ => ?_)
      generalize wr.drew = w9 at HB HR134_0 HR135_0 hx134_0 hx134_1 hx134_2 hx134_3 hx134_4 hx134_5 hx135_0 hx135_1 hx135_2 hx135_3 hx135_4 hx135_5 hHeld ⊢
      refine pS_ 0 17 HT_ ?_
      refine pS_ 1 18 HT_ ?_
      refine pS_ 2 19 HT_ ?_
      refine pS_ 4 21 HT_ ?_
      refine pS_ 5 22 HT_ ?_
      refine pS_ 6 23 HT_ ?_
      refine tS_ 3 20 HT_ HW_ hHeld ?_
      refine tS_ 7 24 HT_ HW_ hHeld ?_
      refine oS_ 8 25 HT_ (fun K hK => ?_)
      refine goes_ Try.func12 (by kernel_rfl) rfl #[.agg #[.slice A134_0 ((rd_T32 l0 x5_1).f0).length c134_0, .int .i64 ((rd_T32 l0 x5_1).f1), .bool ((rd_T32 l0 x5_1).f2), .int .i64 ((rd_T32 l0 x5_1).f3), .int .i64 ((rd_T32 l0 x5_1).f4), .int .i64 ((rd_T32 l0 x5_1).f5)], .agg #[.slice A135_0 ((rd_T32 l1 x5_1).f0).length c135_0, .int .i64 ((rd_T32 l1 x5_1).f1), .bool ((rd_T32 l1 x5_1).f2), .int .i64 ((rd_T32 l1 x5_1).f3), .int .i64 ((rd_T32 l1 x5_1).f4), .int .i64 ((rd_T32 l1 x5_1).f5)]] (by rfl) rfl rfl (by (try simp only [List.map_toArray, List.map_cons, List.map_nil]); first | done | rfl | (simp only [List.length_drop, List.length_take]; rfl)) ?_
      with_reducible refine (laws_eqVoice.calls k1 _ _ ((rd_T32 l0 x5_1).f0) ((rd_T32 l0 x5_1).f1) ((rd_T32 l0 x5_1).f2) ((rd_T32 l0 x5_1).f3) ((rd_T32 l0 x5_1).f4) ((rd_T32 l0 x5_1).f5) _ _ ((rd_T32 l1 x5_1).f0) ((rd_T32 l1 x5_1).f1) ((rd_T32 l1 x5_1).f2) ((rd_T32 l1 x5_1).f3) ((rd_T32 l1 x5_1).f4) ((rd_T32 l1 x5_1).f5) true _ ?side1 ?side2 ?side3 ?side4 A7.out).mono ?_
      (case side1 => repeat (first | exact (Kd.C_below HR134_0.out HB.out) | (with_reducible refine Kd.C_alloc ?_ _) | (with_reducible refine Kd.C_drewN ?_ _) | (with_reducible refine Kd.C_drew ?_)))
      (case side2 => exact HC134_0.out)
      (case side3 => repeat (first | exact (Kd.C_below HR135_0.out HB.out) | (with_reducible refine Kd.C_alloc ?_ _) | (with_reducible refine Kd.C_drewN ?_ _) | (with_reducible refine Kd.C_drew ?_)))
      (case side4 => exact HC135_0.out)
      rintro e w10 ⟨rfl, hb⟩
      refine ⟨_, rfl, ?_⟩
      have n0_ := am_ (below_step (bw_ HB.out) hb)
      replace HB := n0_
      clear n0_
      (try clear hb)
      (try clear hb2)
      (try clear hk)
      (try clear hi)
      refine hK.out _ _ ⟨((HB.out.cell (World.block_lt_of_cell? w _ hw134_0)).trans hw134_0), ((HB.out.cell (World.block_lt_of_cell? w _ hw134_1)).trans hw134_1), ((HB.out.cell (World.block_lt_of_cell? w _ hw134_2)).trans hw134_2), ((HB.out.cell (World.block_lt_of_cell? w _ hw134_3)).trans hw134_3), ((HB.out.cell (World.block_lt_of_cell? w _ hw134_4)).trans hw134_4), ((HB.out.cell (World.block_lt_of_cell? w _ hw134_5)).trans hw134_5), ((HB.out.cell (World.block_lt_of_cell? w _ hw135_0)).trans hw135_0), ((HB.out.cell (World.block_lt_of_cell? w _ hw135_1)).trans hw135_1), ((HB.out.cell (World.block_lt_of_cell? w _ hw135_2)).trans hw135_2), ((HB.out.cell (World.block_lt_of_cell? w _ hw135_3)).trans hw135_3), ((HB.out.cell (World.block_lt_of_cell? w _ hw135_4)).trans hw135_4), ((HB.out.cell (World.block_lt_of_cell? w _ hw135_5)).trans hw135_5)⟩ (fun hHeld => ?_)
      clear hK K
      refine nD_ 25 ?_
      refine pS_ 9 26 HT_ ?_
      refine done_ (done_of HT_.out (by kernel_rfl)) ?_
      try go_wp2
      go_roundg k1
      case measure => have := HK1.out; omega
      case rel => exact ⟨(wrap64 (x5_1 + 1)), sq_, H', ⟨by have := HK1.out; omega⟩, ⟨bw_ HB.out⟩⟩
     ·replace c8 := Bool.eq_false_iff.mpr c8
      subst c8
      replace H := if_ H Bool.false_ne_true
      obtain rfl := Option.some.inj H
      try go_wp2
      have n0_ := am_ (below_drew1 HB.out)
      replace HB := n0_
      clear n0_
      have p134 : 0 ≤ (x5_1 : Int) := od_
      have q134 : x5_1 < (l0.length : Int) := od_
      obtain ⟨ad134, A134_0, c134_0, e134, hx134_0, hx134_1, hx134_2, hx134_3, hx134_4, hx134_5, hl134_0, hi134_0⟩ := at_T32 HR0.out x5_1 p134 q134
      have hw134_5 := hx134_5
      have hw134_4 := hx134_4
      have hw134_3 := hx134_3
      have hw134_2 := hx134_2
      have hw134_1 := hx134_1
      have hw134_0 := hx134_0
      cases e134
      (try replace hx134_0 := hc_ HB.out hx134_0)
      (try replace hx134_1 := hc_ HB.out hx134_1)
      (try replace hx134_2 := hc_ HB.out hx134_2)
      (try replace hx134_3 := hc_ HB.out hx134_3)
      (try replace hx134_4 := hc_ HB.out hx134_4)
      (try replace hx134_5 := hc_ HB.out hx134_5)
      have HR134_0 := am_ hi134_0
      have HC134_0 := am_ hl134_0
      clear hi134_0 hl134_0
      replace p134 := eq_true p134
      replace q134 := eq_true q134
      have p135 : 0 ≤ (x5_1 : Int) := od_
      have q135 : x5_1 < (l1.length : Int) := od_
      obtain ⟨ad135, A135_0, c135_0, e135, hx135_0, hx135_1, hx135_2, hx135_3, hx135_4, hx135_5, hl135_0, hi135_0⟩ := at_T32 HR1.out x5_1 p135 q135
      have hw135_5 := hx135_5
      have hw135_4 := hx135_4
      have hw135_3 := hx135_3
      have hw135_2 := hx135_2
      have hw135_1 := hx135_1
      have hw135_0 := hx135_0
      cases e135
      (try replace hx135_0 := hc_ HB.out hx135_0)
      (try replace hx135_1 := hc_ HB.out hx135_1)
      (try replace hx135_2 := hc_ HB.out hx135_2)
      (try replace hx135_3 := hc_ HB.out hx135_3)
      (try replace hx135_4 := hc_ HB.out hx135_4)
      (try replace hx135_5 := hc_ HB.out hx135_5)
      have HR135_0 := am_ hi135_0
      have HC135_0 := am_ hl135_0
      clear hi135_0 hl135_0
      replace p135 := eq_true p135
      replace q135 := eq_true q135
      refine start_ (n := 10) (S := fun w' => w'.cell? (ad134.add ((x5_1).toNat * 6)) = some (.slice A134_0 ((rd_T32 l0 x5_1).f0).length c134_0) ∧ w'.cell? ⟨(ad134.add ((x5_1).toNat * 6)).block, (ad134.add ((x5_1).toNat * 6)).off + 1, none⟩ = some (.int .i64 ((rd_T32 l0 x5_1).f1)) ∧ w'.cell? ⟨(ad134.add ((x5_1).toNat * 6)).block, (ad134.add ((x5_1).toNat * 6)).off + 2, none⟩ = some (.bool ((rd_T32 l0 x5_1).f2)) ∧ w'.cell? ⟨(ad134.add ((x5_1).toNat * 6)).block, (ad134.add ((x5_1).toNat * 6)).off + 3, none⟩ = some (.int .i64 ((rd_T32 l0 x5_1).f3)) ∧ w'.cell? ⟨(ad134.add ((x5_1).toNat * 6)).block, (ad134.add ((x5_1).toNat * 6)).off + 4, none⟩ = some (.int .i64 ((rd_T32 l0 x5_1).f4)) ∧ w'.cell? ⟨(ad134.add ((x5_1).toNat * 6)).block, (ad134.add ((x5_1).toNat * 6)).off + 5, none⟩ = some (.int .i64 ((rd_T32 l0 x5_1).f5)) ∧ w'.cell? (ad135.add ((x5_1).toNat * 6)) = some (.slice A135_0 ((rd_T32 l1 x5_1).f0).length c135_0) ∧ w'.cell? ⟨(ad135.add ((x5_1).toNat * 6)).block, (ad135.add ((x5_1).toNat * 6)).off + 1, none⟩ = some (.int .i64 ((rd_T32 l1 x5_1).f1)) ∧ w'.cell? ⟨(ad135.add ((x5_1).toNat * 6)).block, (ad135.add ((x5_1).toNat * 6)).off + 2, none⟩ = some (.bool ((rd_T32 l1 x5_1).f2)) ∧ w'.cell? ⟨(ad135.add ((x5_1).toNat * 6)).block, (ad135.add ((x5_1).toNat * 6)).off + 3, none⟩ = some (.int .i64 ((rd_T32 l1 x5_1).f3)) ∧ w'.cell? ⟨(ad135.add ((x5_1).toNat * 6)).block, (ad135.add ((x5_1).toNat * 6)).off + 4, none⟩ = some (.int .i64 ((rd_T32 l1 x5_1).f4)) ∧ w'.cell? ⟨(ad135.add ((x5_1).toNat * 6)).block, (ad135.add ((x5_1).toNat * 6)).off + 5, none⟩ = some (.int .i64 ((rd_T32 l1 x5_1).f5))) (ds := []) (Array.replicate 10 false) (by kernel_rfl) rfl rfl ⟨((HB.out.cell (World.block_lt_of_cell? w _ hw134_0)).trans hw134_0), ((HB.out.cell (World.block_lt_of_cell? w _ hw134_1)).trans hw134_1), ((HB.out.cell (World.block_lt_of_cell? w _ hw134_2)).trans hw134_2), ((HB.out.cell (World.block_lt_of_cell? w _ hw134_3)).trans hw134_3), ((HB.out.cell (World.block_lt_of_cell? w _ hw134_4)).trans hw134_4), ((HB.out.cell (World.block_lt_of_cell? w _ hw134_5)).trans hw134_5), ((HB.out.cell (World.block_lt_of_cell? w _ hw135_0)).trans hw135_0), ((HB.out.cell (World.block_lt_of_cell? w _ hw135_1)).trans hw135_1), ((HB.out.cell (World.block_lt_of_cell? w _ hw135_2)).trans hw135_2), ((HB.out.cell (World.block_lt_of_cell? w _ hw135_3)).trans hw135_3), ((HB.out.cell (World.block_lt_of_cell? w _ hw135_4)).trans hw135_4), ((HB.out.cell (World.block_lt_of_cell? w _ hw135_5)).trans hw135_5)⟩ (fun hHeld => ?_); refine with_tabW laws_eqVoiceS.tab6 laws_eqVoiceS.bits6 (fun HT_ HW_ => ?_)
      generalize wr.drew = w11 at HB HR134_0 HR135_0 hx134_0 hx134_1 hx134_2 hx134_3 hx134_4 hx134_5 hx135_0 hx135_1 hx135_2 hx135_3 hx135_4 hx135_5 hHeld ⊢
      refine pS_ 0 17 HT_ ?_
      refine pS_ 1 18 HT_ ?_
      refine pS_ 2 19 HT_ ?_
      refine pS_ 4 21 HT_ ?_
      refine pS_ 5 22 HT_ ?_
      refine pS_ 6 23 HT_ ?_
      refine tS_ 3 20 HT_ HW_ hHeld ?_
      refine tS_ 7 24 HT_ HW_ hHeld ?_
      refine oS_ 8 25 HT_ (fun K hK => ?_)
      refine goes_ Try.func12 (by kernel_rfl) rfl #[.agg #[.slice A134_0 ((rd_T32 l0 x5_1).f0).length c134_0, .int .i64 ((rd_T32 l0 x5_1).f1), .bool ((rd_T32 l0 x5_1).f2), .int .i64 ((rd_T32 l0 x5_1).f3), .int .i64 ((rd_T32 l0 x5_1).f4), .int .i64 ((rd_T32 l0 x5_1).f5)], .agg #[.slice A135_0 ((rd_T32 l1 x5_1).f0).length c135_0, .int .i64 ((rd_T32 l1 x5_1).f1), .bool ((rd_T32 l1 x5_1).f2), .int .i64 ((rd_T32 l1 x5_1).f3), .int .i64 ((rd_T32 l1 x5_1).f4), .int .i64 ((rd_T32 l1 x5_1).f5)]] (by rfl) rfl rfl (by (try simp only [List.map_toArray, List.map_cons, List.map_nil]); first | done | rfl | (simp only [List.length_drop, List.length_take]; rfl)) ?_
      with_reducible refine (laws_eqVoice.calls k1 _ _ ((rd_T32 l0 x5_1).f0) ((rd_T32 l0 x5_1).f1) ((rd_T32 l0 x5_1).f2) ((rd_T32 l0 x5_1).f3) ((rd_T32 l0 x5_1).f4) ((rd_T32 l0 x5_1).f5) _ _ ((rd_T32 l1 x5_1).f0) ((rd_T32 l1 x5_1).f1) ((rd_T32 l1 x5_1).f2) ((rd_T32 l1 x5_1).f3) ((rd_T32 l1 x5_1).f4) ((rd_T32 l1 x5_1).f5) false _ ?side1 ?side2 ?side3 ?side4 A7.out).mono ?_
      (case side1 => repeat (first | exact (Kd.C_below HR134_0.out HB.out) | (with_reducible refine Kd.C_alloc ?_ _) | (with_reducible refine Kd.C_drewN ?_ _) | (with_reducible refine Kd.C_drew ?_)))
      (case side2 => exact HC134_0.out)
      (case side3 => repeat (first | exact (Kd.C_below HR135_0.out HB.out) | (with_reducible refine Kd.C_alloc ?_ _) | (with_reducible refine Kd.C_drewN ?_ _) | (with_reducible refine Kd.C_drew ?_)))
      (case side4 => exact HC135_0.out)
      rintro e w12 ⟨rfl, hb⟩
      refine ⟨_, rfl, ?_⟩
      have n0_ := am_ (below_step (bw_ HB.out) hb)
      replace HB := n0_
      clear n0_
      (try clear hb)
      (try clear hb2)
      (try clear hk)
      (try clear hi)
      refine hK.out _ _ ⟨((HB.out.cell (World.block_lt_of_cell? w _ hw134_0)).trans hw134_0), ((HB.out.cell (World.block_lt_of_cell? w _ hw134_1)).trans hw134_1), ((HB.out.cell (World.block_lt_of_cell? w _ hw134_2)).trans hw134_2), ((HB.out.cell (World.block_lt_of_cell? w _ hw134_3)).trans hw134_3), ((HB.out.cell (World.block_lt_of_cell? w _ hw134_4)).trans hw134_4), ((HB.out.cell (World.block_lt_of_cell? w _ hw134_5)).trans hw134_5), ((HB.out.cell (World.block_lt_of_cell? w _ hw135_0)).trans hw135_0), ((HB.out.cell (World.block_lt_of_cell? w _ hw135_1)).trans hw135_1), ((HB.out.cell (World.block_lt_of_cell? w _ hw135_2)).trans hw135_2), ((HB.out.cell (World.block_lt_of_cell? w _ hw135_3)).trans hw135_3), ((HB.out.cell (World.block_lt_of_cell? w _ hw135_4)).trans hw135_4), ((HB.out.cell (World.block_lt_of_cell? w _ hw135_5)).trans hw135_5)⟩ (fun hHeld => ?_)
      clear hK K
      refine nD_ 25 ?_
      refine pS_ 9 26 HT_ ?_
      refine done_ (done_of HT_.out (by kernel_rfl)) ?_
      try go_wp2
      go_ret
      exact ⟨by first | rfl | (simp [errW_none, errW_some] <;> rfl) | (simp [*, errW_none, errW_some] <;> rfl), bw_ HB.out⟩
    ·rw [if_neg c4] at H
     have c4b0 : decide (x5_1 < (l0.length : Int)) = false := decide_eq_false c4
     clear c4
     obtain rfl := Option.some.inj H
     go_wp2
     go_ret
     exact ⟨by first | rfl | (simp [errW_none, errW_some] <;> rfl) | (simp [*, errW_none, errW_some] <;> rfl), bw_ HB.out⟩
 ·rw [if_neg c3] at H
  have c3b0 : ((l0.length : Int) == (l1.length : Int)) = false := beq_eq_false_iff_ne.mpr c3
  have c3b1 : ((l0.length : Int) != (l1.length : Int)) = true := bne_iff_ne.mpr c3
  have c3b2 : (l0.length == l1.length) = false := by first | simpa using c3 | (simp at c3 ⊢; omega)
  obtain rfl := Option.some.inj H
  go_enter Try.func11, Try.ntmps11
  go_wp2
  go_ret
  exact ⟨by first | rfl | (simp [errW_none, errW_some] <;> rfl) | (simp [*, errW_none, errW_some] <;> rfl), bw_ HB.out⟩

/-! ### laws_markIntS: function 31 -/
def laws_markIntS.l0 : Nat → List Int → Int → Int → Option (Int × List Int)
 | 0, _, _, _ => none
 | k + 1, x0, x1, x5 => if x5 < (x0.length : Int) then (if 0 ≤ x5 then (laws_markIntS.l0 k (x0.set (x5 : Int).toNat x1) (wrap64 (x1 + 1)) (wrap64 (x5 + 1))) else (none)) else (some (x1, x0))
def laws_markIntS.f (k : Nat) (l0 : List Int) (a1 : Int) : Option (Int × List Int) := laws_markIntS.l0 k l0 a1 0
theorem laws_markIntS.mono_l : ∀ k, (∀ y0 y1 y2, LeO (laws_markIntS.l0 k y0 y1 y2) (laws_markIntS.l0 (k + 1) y0 y1 y2))
 | 0 => fun _ _ _ r h => by simp [laws_markIntS.l0] at h
 | k + 1 => by
  have ih0 := laws_markIntS.mono_l k
  ·intro y0 y1 y2
   unfold laws_markIntS.l0
   repeat' first
   | (with_reducible exact ih0 _ _ _)
   | (with_reducible exact LeO.refl _)
   | (with_reducible exact LeO.none _)
   | (with_reducible refine LeO.ite ?_ ?_)
   | (with_reducible refine LeO.bind ?_ (fun _ => ?_))
   | exact ih0 _ _ _
   | exact LeO.none _
   | refine LeO.ite ?_ ?_
   | refine LeO.bind ?_ (fun _ => ?_)
theorem laws_markIntS.mono : ∀ a0 a1 k, LeO (laws_markIntS.f k a0 a1) (laws_markIntS.f (k + 1) a0 a1) := by
 intro a0 a1 k
 have ih0 := laws_markIntS.mono_l k
 unfold laws_markIntS.f
 repeat' first
   | (with_reducible exact ih0 _ _ _)
   | (with_reducible exact LeO.refl _)
   | (with_reducible exact LeO.none _)
   | (with_reducible refine LeO.ite ?_ ?_)
   | (with_reducible refine LeO.bind ?_ (fun _ => ?_))
   | exact ih0 _ _ _
   | exact LeO.none _
   | refine LeO.ite ?_ ?_
   | refine LeO.bind ?_ (fun _ => ?_)
set_option maxHeartbeats 8000000 in
set_option maxRecDepth 100000 in
theorem laws_markIntS.calls (k : Nat) (P0_ : Nat → Prop) (u9000_ : Value) (l0 : List Int) (a1 : Int) (r1 : Int) (r2 : List Int) (w0 w : World) (hB : Below w0.heap.size w0 w) (ho0 : Kd.R (Kd.int .i64) 3 w w0.heap.size P0_ u9000_ l0) (h : laws_markIntS.f k l0 a1 = some (r1, r2)) :
  Calls Try.prog 31 #[u9000_, .int .i64 a1] w fun e w' => e = .returned (.int .i64 r1) ∧ Kd.R (Kd.int .i64) 3 w' w0.heap.size (fun k_ => (P0_ k_ ∨ w.heap.size ≤ k_)) u9000_ r2 ∧ Below w0.heap.size w0 w' ∧ Kept w w' (fun k_ => P0_ k_) := by
 have HO0 := am_ (show Kd.R (Kd.int .i64) 3 w w0.heap.size (fun k_ => (P0_ k_ ∨ w.heap.size ≤ k_)) u9000_ l0 from Kd.R_mono ho0 (fun k_ hk => (.inl hk)))
 have HK := am_ (Kept.refl w (fun k_ => P0_ k_))
 have HW0 := am_ hB.size
 have HB := am_ hB
 clear hB
 have H : (laws_markIntS.l0 k l0 a1 0) = some (r1, r2) := h
 clear h
 have H' := am_ H
 clear H
 go_enter Try.func31, Try.ntmps31
 go_wp2
 go_loopg [1, 5] k (fun kq v1 v5 w' => ∃ (x0_1 : List Int) (x1_1 : Int) (x5_1 : Int), v1 = .int .i64 x1_1 ∧ v5 = .int .i64 x5_1 ∧ Aside0 (laws_markIntS.l0 kq x0_1 x1_1 x5_1 = some (r1, r2)) ∧ Aside0 (kq ≤ k) ∧ Aside0 (Kd.R (Kd.int .i64) 3 w' w0.heap.size (fun k_ => (P0_ k_ ∨ w.heap.size ≤ k_)) u9000_ x0_1) ∧ Aside0 (Kept w w' (fun k_ => P0_ k_)) ∧ Aside0 (Below w0.heap.size w0 w'))
 case atStart => exact ⟨(l0), (a1), (0), sq_, sq_, H', ⟨Nat.le_refl _⟩, ⟨ra_ HO0.out⟩, ⟨kk_ HK.out⟩, ⟨bw_ HB.out⟩⟩
 case round =>
  clear H'
  obtain ⟨x0_1, x1_1, x5_1, rfl, rfl, HA, HK1, HO_0, HK, HB⟩ := hrel
  cases gk with
  | zero => exact absurd HA.out (by simp [laws_markIntS.l0])
  | succ k1 =>
   have H := HA.out
   clear HA
   simp only [laws_markIntS.l0] at H
   by_cases c3 : x5_1 < (x0_1.length : Int)
   ·rw [if_pos c3] at H
    have c3b0 : decide (x5_1 < (x0_1.length : Int)) = true := decide_eq_true c3
    clear c3
    obtain ⟨c4, H⟩ := ifn_ H
    have c4b0 : decide (0 ≤ x5_1) = true := decide_eq_true c4
    clear c4
    obtain ⟨y137, hy137⟩ : ∃ y_ : List Int, y_ = (x0_1.set (x5_1 : Int).toNat x1_1) := ⟨_, rfl⟩
    replace H : (laws_markIntS.l0 k1 y137 (wrap64 (x1_1 + 1)) (wrap64 (x5_1 + 1))) = some (r1, r2) := by first | (rw [hy137]; with_reducible exact H) | (have H2_ := (Option.bind_some _ _).symm.trans H; rw [hy137]; with_reducible exact H2_) | (have H2_ := (Option.bind_some _ _).symm.trans H; with_reducible exact H2_) | with_reducible exact H | (rw [hy137]; exact H) | exact H
    have Ny137 := am_ hy137
    clear hy137
    have H' := am_ H
    clear H
    obtain ⟨Ao6, co6, eo6⟩ := Kd.R_slice HO_0.out
    subst eo6
    have p5 : 0 ≤ (x5_1 : Int) := od_
    have q5 : (x5_1 : Int) < ((x0_1.length : Int) : Int) := od_
    obtain ⟨go5, co5, eo5, gb5, gl5, cl5, HG5⟩ := Kd.R_form HO_0.out (by omega)
    (first | cases eo5 | (injection eo5 with ea_ en_ ec_; (first | subst ea_ | (injection ea_ with ea_; subst ea_)); subst ec_; clear en_))
    have GB5 := am_ gb5
    have GG5 := am_ HG5
    clear gb5 gl5 HG5
    have HMgo5 := am_ (show (P0_ go5 ∨ w.heap.size ≤ go5) from (HO_0.out.1 _ rfl))
    obtain ⟨hx5_0, hf5_0⟩ := Kd.R_celln 0 HO_0.out (x5_1 : Int) p5 q5
    replace p5 := eq_true p5
    replace q5 := eq_true q5
    have HP7 := Kd.R_putg HO_0.out (x5_1 : Int) x1_1
    go_wp2_with (first | ((with_reducible refine gate_store (t := 3) (p := 15) rfl ?_); refine se_ 3 15 (wr.setCell ⟨go5, (x5_1 : Int).toNat, none⟩ (.int .i64 x1_1)) ?_; intro w8 hw; have hg : wr.grownBy w8 (some go5) := (by rw [hw]; exact HP7.2); have hp_ : Kd.R (Kd.int .i64) 3 w8 w0.heap.size (fun k_ => (P0_ k_ ∨ w.heap.size ≤ k_)) (.slice (some ⟨go5, 0, none⟩) x0_1.length co6) y137 := (by rw [hw, Ny137.out]; exact HP7.1); clear HP7; have n0_ := am_ (hp_); have n1_ := am_ ((by rw [hw]; exact below_set (HB.out) GB5.out : Below w0.heap.size w0 w8)); have n2_ := am_ (Kept.of_grown (S := (fun k_ => P0_ k_)) hg (kk_ HK.out) (fun k_ e_ => (HO_0.out.1 k_ e_))); replace HO_0 := n0_; replace HB := n1_; replace HK := n2_; clear n0_ n1_ n2_; clear hg hw hp_))
    go_roundg k1
    case measure => have := HK1.out; omega
    case rel => exact ⟨(y137), (wrap64 (x1_1 + 1)), (wrap64 (x5_1 + 1)), sq_, sq_, H', ⟨by have := HK1.out; omega⟩, ⟨ra_ HO_0.out⟩, ⟨kk_ HK.out⟩, ⟨bw_ HB.out⟩⟩
   ·rw [if_neg c3] at H
    have c3b0 : decide (x5_1 < (x0_1.length : Int)) = false := decide_eq_false c3
    clear c3
    simp only [Option.some.injEq, Prod.mk.injEq] at H
    obtain ⟨rfl, rfl⟩ := H
    obtain ⟨Ao9, co9, eo9⟩ := Kd.R_slice HO_0.out
    subst eo9
    go_wp2
    go_ret
    exact ⟨by first | rfl | (simp [errW_none, errW_some] <;> rfl) | (simp [*, errW_none, errW_some] <;> rfl), ra_ HO_0.out, bw_ HB.out, kk_ HK.out⟩

/-! ### laws_markVoiceS: function 13 -/
def laws_markVoiceS.one (k : Nat) (e : S32) (x : Int) : Option (Int × (S32)) := (laws_markIntS.f k e.f0 x).bind fun t0 => some ((wrap64 ((wrap64 ((wrap64 ((wrap64 ((wrap64 (t0.1 + 1)) + 1)) + 1)) + 1)) + 1)), (⟨t0.2, t0.1, (Int.tmod (wrap64 (t0.1 + 1)) 3 == 0), (wrap64 ((wrap64 (t0.1 + 1)) + 1)), (wrap64 ((wrap64 ((wrap64 (t0.1 + 1)) + 1)) + 1)), (wrap64 ((wrap64 ((wrap64 ((wrap64 (t0.1 + 1)) + 1)) + 1)) + 1))⟩ : S32))
def laws_markVoiceS.f (k : Nat) (l0 : List (S32)) (a1 : Int) : Option (Int × List (S32)) := mapK (laws_markVoiceS.one k) l0 a1
theorem laws_markVoiceS.mono : ∀ a0 a1 k, LeO (laws_markVoiceS.f k a0 a1) (laws_markVoiceS.f (k + 1) a0 a1) := by
  intro a0 a1 k
  refine mapK_mono (fun e x => ?_) a0 a1
  unfold laws_markVoiceS.one
  repeat' first
  | (with_reducible exact laws_markIntS.mono _ _ _)
  | (with_reducible exact LeO.refl _)
  | refine LeO.bind ?_ (fun _ => ?_)
set_option maxHeartbeats 8000000 in
set_option maxRecDepth 100000 in
theorem laws_markVoiceS.callsP (k : Nat) (P0_ : Nat → Prop) (u9000_ : Value) (l0 : List (S32)) (a1 : Int) (r1 : Int) (r2 : List (S32)) (w0 w : World) (hB : Below w0.heap.size w0 w) (ho0 : Kd.S k32 32 w w0.heap.size P0_ u9000_ l0) (h : laws_markVoiceS.f k l0 a1 = some (r1, r2)) :
    Calls Try.prog 13 #[u9000_, .int .i64 a1] w fun e w' => e = .returned (.int .i64 r1) ∧ Kd.S k32 32 w' w0.heap.size P0_ u9000_ r2 ∧ Below w0.heap.size w0 w' ∧ Kept w w' P0_ := by
  have HO := am_ ho0
  have HK := am_ (Kept.refl w P0_)
  have HB := am_ hB
  have HI := am_ (MInv.start (one := laws_markVoiceS.one k) h)
  clear hB ho0 h
  go_enter Try.func13, Try.ntmps13
  go_wp2
  go_loopg [1, 5] l0.length (fun kq v1 v5 w' => ∃ (xs : List (S32)) (x x5 : Int) (i : Nat), v1 = .int .i64 x ∧ v5 = .int .i64 x5 ∧ Aside0 (x5 = (i : Int)) ∧ Aside0 (i + kq = l0.length) ∧ Aside0 (MInv (laws_markVoiceS.one k) l0 r1 r2 xs x i) ∧ Aside0 (Kd.S k32 32 w' w0.heap.size P0_ u9000_ xs) ∧ Aside0 (Kept w w' P0_) ∧ Aside0 (Below w0.heap.size w0 w'))
  case atStart => exact ⟨l0, a1, 0, 0, rfl, rfl, ⟨rfl⟩, ⟨by omega⟩, HI, HO, HK, HB⟩
  case round =>
    clear HI HO HK HB
    obtain ⟨xs, x, x5, i, rfl, rfl, HX, HQ, HI, HO, HK, HB⟩ := hrel
    have hx := HX.out
    have hlen := HI.out.len
    have hsmall : xs.length ≤ 9223372036854775807 := by obtain ⟨A_, c_, e_, h1_, h2_⟩ := Kd.S_reads HO.out; have h3_ := Kd.C_max h2_; omega
    by_cases hj : i < l0.length
    · obtain ⟨k2, rfl⟩ : ∃ k2, gk = k2 + 1 := ⟨gk - 1, by have := HQ.out; omega⟩
      obtain ⟨t, ht, hI2⟩ := HI.out.step ((z32 : S32)) hj hx
      have HI2 := am_ hI2
      clear hI2
      unfold laws_markVoiceS.one at ht
      obtain ⟨⟨q0, y0⟩, hA0, ht⟩ := bE_ ht
      have A0 := am_ hA0
      clear hA0
      obtain rfl := Option.some.inj ht
      clear ht
      have hwj : wrap64 (x5 + 1) = ((i + 1 : Nat) : Int) := by unfold wrap64; omega
      have hp5 : 0 ≤ x5 := by omega
      have hq5 : x5 < (xs.length : Int) := by omega
      obtain ⟨g, cap, ev, _, _, _⟩ := Kd.S_form HO.out (by omega)
      subst ev
      obtain ⟨oki, c, hL, hM⟩ := Hol.of HO.out HB.out HK.out (z32 : S32) hp5 hq5
      generalize xs.getD x5.toNat (z32 : S32) = el at hM A0
      obtain ⟨v0, rfl, hR0⟩ := k32_openM hM
      obtain ⟨A_0, c_0, e_0⟩ := Kd.R_slice hR0
      subst e_0
      have HL := am_ hL
      clear hL
      have HR0 := am_ hR0
      clear hR0
      have hx_0 : wr.cell? ⟨g, x5.toNat * 6, none⟩ = some (.slice A_0 (el.f0).length c_0) := HL.out.cell (j := 0) rfl
      have hx_1 : wr.cell? ⟨g, x5.toNat * 6 + 1, none⟩ = some (.int .i64 (el.f1)) := HL.out.cell (j := 1) rfl
      have hx_2 : wr.cell? ⟨g, x5.toNat * 6 + 2, none⟩ = some (.bool (el.f2)) := HL.out.cell (j := 2) rfl
      have hx_3 : wr.cell? ⟨g, x5.toNat * 6 + 3, none⟩ = some (.int .i64 (el.f3)) := HL.out.cell (j := 3) rfl
      have hx_4 : wr.cell? ⟨g, x5.toNat * 6 + 4, none⟩ = some (.int .i64 (el.f4)) := HL.out.cell (j := 4) rfl
      have hx_5 : wr.cell? ⟨g, x5.toNat * 6 + 5, none⟩ = some (.int .i64 (el.f5)) := HL.out.cell (j := 5) rfl
      have hf_0 : wr.frozen? ⟨g, x5.toNat * 6, none⟩ = false := HL.out.frozen 0
      have hf_1 : wr.frozen? ⟨g, x5.toNat * 6 + 1, none⟩ = false := HL.out.frozen 1
      have hf_2 : wr.frozen? ⟨g, x5.toNat * 6 + 2, none⟩ = false := HL.out.frozen 2
      have hf_3 : wr.frozen? ⟨g, x5.toNat * 6 + 3, none⟩ = false := HL.out.frozen 3
      have hf_4 : wr.frozen? ⟨g, x5.toNat * 6 + 4, none⟩ = false := HL.out.frozen 4
      have hf_5 : wr.frozen? ⟨g, x5.toNat * 6 + 5, none⟩ = false := HL.out.frozen 5
      have c0b : decide (x5 < (xs.length : Int)) = true := decide_eq_true hq5
      replace hp5 := eq_true hp5
      replace hq5 := eq_true hq5
      have HW := am_ hwj
      clear hx hwj hlen hsmall hj HO HK HB HI
      go_wp2_with (first | (go_at_call 31; (with_reducible refine (laws_markIntS.calls k oki _ (el.f0) x q0 y0 w0 _ ?b0 ?r0 A0.out).mono ?_); (case b0 => exact HL.out.hb); (case r0 => exact HR0.out); rintro e w101 ⟨rfl, hr, hb, hk⟩; have n_ := am_ (HL.out.row hb hk); have n0_ := am_ (Kd.R_reok rfl hr HR0.out.1); clear HL HR0; clear hx_0 hf_0 hx_1 hf_1 hx_2 hf_2 hx_3 hf_3 hx_4 hf_4 hx_5 hf_5; have HL := n_; have HR0 := n0_; clear n_ n0_; have hx_0 : w101.cell? ⟨g, x5.toNat * 6, none⟩ = some (.slice A_0 (el.f0).length c_0) := HL.out.cell (j := 0) rfl; have hx_1 : w101.cell? ⟨g, x5.toNat * 6 + 1, none⟩ = some (.int .i64 (el.f1)) := HL.out.cell (j := 1) rfl; have hx_2 : w101.cell? ⟨g, x5.toNat * 6 + 2, none⟩ = some (.bool (el.f2)) := HL.out.cell (j := 2) rfl; have hx_3 : w101.cell? ⟨g, x5.toNat * 6 + 3, none⟩ = some (.int .i64 (el.f3)) := HL.out.cell (j := 3) rfl; have hx_4 : w101.cell? ⟨g, x5.toNat * 6 + 4, none⟩ = some (.int .i64 (el.f4)) := HL.out.cell (j := 4) rfl; have hx_5 : w101.cell? ⟨g, x5.toNat * 6 + 5, none⟩ = some (.int .i64 (el.f5)) := HL.out.cell (j := 5) rfl; have hf_0 : w101.frozen? ⟨g, x5.toNat * 6, none⟩ = false := HL.out.frozen 0; have hf_1 : w101.frozen? ⟨g, x5.toNat * 6 + 1, none⟩ = false := HL.out.frozen 1; have hf_2 : w101.frozen? ⟨g, x5.toNat * 6 + 2, none⟩ = false := HL.out.frozen 2; have hf_3 : w101.frozen? ⟨g, x5.toNat * 6 + 3, none⟩ = false := HL.out.frozen 3; have hf_4 : w101.frozen? ⟨g, x5.toNat * 6 + 4, none⟩ = false := HL.out.frozen 4; have hf_5 : w101.frozen? ⟨g, x5.toNat * 6 + 5, none⟩ = false := HL.out.frozen 5; clear hr hb hk) | ((with_reducible refine gate_store (t := 3) (p := 23) rfl ?_); refine se_ 3 23 (w101.setCell ⟨g, x5.toNat * 6 + 1, none⟩ (.int .i64 q0)) ?_; intro w102 hw; have n_ := am_ (HL.out.put 1 (by decide) rfl hw); have n0_ := am_ (HL.out.far HR0.out hw); clear HL HR0; clear hx_0 hf_0 hx_1 hf_1 hx_2 hf_2 hx_3 hf_3 hx_4 hf_4 hx_5 hf_5; have HL := n_; have HR0 := n0_; clear n_ n0_; have hx_0 : w102.cell? ⟨g, x5.toNat * 6, none⟩ = some (.slice A_0 (el.f0).length c_0) := HL.out.cell (j := 0) rfl; have hx_1 : w102.cell? ⟨g, x5.toNat * 6 + 1, none⟩ = some (.int .i64 q0) := HL.out.cell (j := 1) rfl; have hx_2 : w102.cell? ⟨g, x5.toNat * 6 + 2, none⟩ = some (.bool (el.f2)) := HL.out.cell (j := 2) rfl; have hx_3 : w102.cell? ⟨g, x5.toNat * 6 + 3, none⟩ = some (.int .i64 (el.f3)) := HL.out.cell (j := 3) rfl; have hx_4 : w102.cell? ⟨g, x5.toNat * 6 + 4, none⟩ = some (.int .i64 (el.f4)) := HL.out.cell (j := 4) rfl; have hx_5 : w102.cell? ⟨g, x5.toNat * 6 + 5, none⟩ = some (.int .i64 (el.f5)) := HL.out.cell (j := 5) rfl; have hf_0 : w102.frozen? ⟨g, x5.toNat * 6, none⟩ = false := HL.out.frozen 0; have hf_1 : w102.frozen? ⟨g, x5.toNat * 6 + 1, none⟩ = false := HL.out.frozen 1; have hf_2 : w102.frozen? ⟨g, x5.toNat * 6 + 2, none⟩ = false := HL.out.frozen 2; have hf_3 : w102.frozen? ⟨g, x5.toNat * 6 + 3, none⟩ = false := HL.out.frozen 3; have hf_4 : w102.frozen? ⟨g, x5.toNat * 6 + 4, none⟩ = false := HL.out.frozen 4; have hf_5 : w102.frozen? ⟨g, x5.toNat * 6 + 5, none⟩ = false := HL.out.frozen 5; clear hw) | ((with_reducible refine gate_store (t := 4) (p := 32) rfl ?_); refine se_ 4 32 (w102.setCell ⟨g, x5.toNat * 6 + 2, none⟩ (.bool (Int.tmod (wrap64 (q0 + 1)) 3 == 0))) ?_; intro w103 hw; have n_ := am_ (HL.out.put 2 (by decide) rfl hw); have n0_ := am_ (HL.out.far HR0.out hw); clear HL HR0; clear hx_0 hf_0 hx_1 hf_1 hx_2 hf_2 hx_3 hf_3 hx_4 hf_4 hx_5 hf_5; have HL := n_; have HR0 := n0_; clear n_ n0_; have hx_0 : w103.cell? ⟨g, x5.toNat * 6, none⟩ = some (.slice A_0 (el.f0).length c_0) := HL.out.cell (j := 0) rfl; have hx_1 : w103.cell? ⟨g, x5.toNat * 6 + 1, none⟩ = some (.int .i64 q0) := HL.out.cell (j := 1) rfl; have hx_2 : w103.cell? ⟨g, x5.toNat * 6 + 2, none⟩ = some (.bool (Int.tmod (wrap64 (q0 + 1)) 3 == 0)) := HL.out.cell (j := 2) rfl; have hx_3 : w103.cell? ⟨g, x5.toNat * 6 + 3, none⟩ = some (.int .i64 (el.f3)) := HL.out.cell (j := 3) rfl; have hx_4 : w103.cell? ⟨g, x5.toNat * 6 + 4, none⟩ = some (.int .i64 (el.f4)) := HL.out.cell (j := 4) rfl; have hx_5 : w103.cell? ⟨g, x5.toNat * 6 + 5, none⟩ = some (.int .i64 (el.f5)) := HL.out.cell (j := 5) rfl; have hf_0 : w103.frozen? ⟨g, x5.toNat * 6, none⟩ = false := HL.out.frozen 0; have hf_1 : w103.frozen? ⟨g, x5.toNat * 6 + 1, none⟩ = false := HL.out.frozen 1; have hf_2 : w103.frozen? ⟨g, x5.toNat * 6 + 2, none⟩ = false := HL.out.frozen 2; have hf_3 : w103.frozen? ⟨g, x5.toNat * 6 + 3, none⟩ = false := HL.out.frozen 3; have hf_4 : w103.frozen? ⟨g, x5.toNat * 6 + 4, none⟩ = false := HL.out.frozen 4; have hf_5 : w103.frozen? ⟨g, x5.toNat * 6 + 5, none⟩ = false := HL.out.frozen 5; clear hw) | ((with_reducible refine gate_store (t := 3) (p := 39) rfl ?_); refine se_ 3 39 (w103.setCell ⟨g, x5.toNat * 6 + 3, none⟩ (.int .i64 (wrap64 ((wrap64 (q0 + 1)) + 1)))) ?_; intro w104 hw; have n_ := am_ (HL.out.put 3 (by decide) rfl hw); have n0_ := am_ (HL.out.far HR0.out hw); clear HL HR0; clear hx_0 hf_0 hx_1 hf_1 hx_2 hf_2 hx_3 hf_3 hx_4 hf_4 hx_5 hf_5; have HL := n_; have HR0 := n0_; clear n_ n0_; have hx_0 : w104.cell? ⟨g, x5.toNat * 6, none⟩ = some (.slice A_0 (el.f0).length c_0) := HL.out.cell (j := 0) rfl; have hx_1 : w104.cell? ⟨g, x5.toNat * 6 + 1, none⟩ = some (.int .i64 q0) := HL.out.cell (j := 1) rfl; have hx_2 : w104.cell? ⟨g, x5.toNat * 6 + 2, none⟩ = some (.bool (Int.tmod (wrap64 (q0 + 1)) 3 == 0)) := HL.out.cell (j := 2) rfl; have hx_3 : w104.cell? ⟨g, x5.toNat * 6 + 3, none⟩ = some (.int .i64 (wrap64 ((wrap64 (q0 + 1)) + 1))) := HL.out.cell (j := 3) rfl; have hx_4 : w104.cell? ⟨g, x5.toNat * 6 + 4, none⟩ = some (.int .i64 (el.f4)) := HL.out.cell (j := 4) rfl; have hx_5 : w104.cell? ⟨g, x5.toNat * 6 + 5, none⟩ = some (.int .i64 (el.f5)) := HL.out.cell (j := 5) rfl; have hf_0 : w104.frozen? ⟨g, x5.toNat * 6, none⟩ = false := HL.out.frozen 0; have hf_1 : w104.frozen? ⟨g, x5.toNat * 6 + 1, none⟩ = false := HL.out.frozen 1; have hf_2 : w104.frozen? ⟨g, x5.toNat * 6 + 2, none⟩ = false := HL.out.frozen 2; have hf_3 : w104.frozen? ⟨g, x5.toNat * 6 + 3, none⟩ = false := HL.out.frozen 3; have hf_4 : w104.frozen? ⟨g, x5.toNat * 6 + 4, none⟩ = false := HL.out.frozen 4; have hf_5 : w104.frozen? ⟨g, x5.toNat * 6 + 5, none⟩ = false := HL.out.frozen 5; clear hw) | ((with_reducible refine gate_store (t := 3) (p := 46) rfl ?_); refine se_ 3 46 (w104.setCell ⟨g, x5.toNat * 6 + 4, none⟩ (.int .i64 (wrap64 ((wrap64 ((wrap64 (q0 + 1)) + 1)) + 1)))) ?_; intro w105 hw; have n_ := am_ (HL.out.put 4 (by decide) rfl hw); have n0_ := am_ (HL.out.far HR0.out hw); clear HL HR0; clear hx_0 hf_0 hx_1 hf_1 hx_2 hf_2 hx_3 hf_3 hx_4 hf_4 hx_5 hf_5; have HL := n_; have HR0 := n0_; clear n_ n0_; have hx_0 : w105.cell? ⟨g, x5.toNat * 6, none⟩ = some (.slice A_0 (el.f0).length c_0) := HL.out.cell (j := 0) rfl; have hx_1 : w105.cell? ⟨g, x5.toNat * 6 + 1, none⟩ = some (.int .i64 q0) := HL.out.cell (j := 1) rfl; have hx_2 : w105.cell? ⟨g, x5.toNat * 6 + 2, none⟩ = some (.bool (Int.tmod (wrap64 (q0 + 1)) 3 == 0)) := HL.out.cell (j := 2) rfl; have hx_3 : w105.cell? ⟨g, x5.toNat * 6 + 3, none⟩ = some (.int .i64 (wrap64 ((wrap64 (q0 + 1)) + 1))) := HL.out.cell (j := 3) rfl; have hx_4 : w105.cell? ⟨g, x5.toNat * 6 + 4, none⟩ = some (.int .i64 (wrap64 ((wrap64 ((wrap64 (q0 + 1)) + 1)) + 1))) := HL.out.cell (j := 4) rfl; have hx_5 : w105.cell? ⟨g, x5.toNat * 6 + 5, none⟩ = some (.int .i64 (el.f5)) := HL.out.cell (j := 5) rfl; have hf_0 : w105.frozen? ⟨g, x5.toNat * 6, none⟩ = false := HL.out.frozen 0; have hf_1 : w105.frozen? ⟨g, x5.toNat * 6 + 1, none⟩ = false := HL.out.frozen 1; have hf_2 : w105.frozen? ⟨g, x5.toNat * 6 + 2, none⟩ = false := HL.out.frozen 2; have hf_3 : w105.frozen? ⟨g, x5.toNat * 6 + 3, none⟩ = false := HL.out.frozen 3; have hf_4 : w105.frozen? ⟨g, x5.toNat * 6 + 4, none⟩ = false := HL.out.frozen 4; have hf_5 : w105.frozen? ⟨g, x5.toNat * 6 + 5, none⟩ = false := HL.out.frozen 5; clear hw) | ((with_reducible refine gate_store (t := 3) (p := 53) rfl ?_); refine se_ 3 53 (w105.setCell ⟨g, x5.toNat * 6 + 5, none⟩ (.int .i64 (wrap64 ((wrap64 ((wrap64 ((wrap64 (q0 + 1)) + 1)) + 1)) + 1)))) ?_; intro w106 hw; have n_ := am_ (HL.out.put 5 (by decide) rfl hw); have n0_ := am_ (HL.out.far HR0.out hw); clear HL HR0; clear hx_0 hf_0 hx_1 hf_1 hx_2 hf_2 hx_3 hf_3 hx_4 hf_4 hx_5 hf_5; have HL := n_; have HR0 := n0_; clear n_ n0_; have hx_0 : w106.cell? ⟨g, x5.toNat * 6, none⟩ = some (.slice A_0 (el.f0).length c_0) := HL.out.cell (j := 0) rfl; have hx_1 : w106.cell? ⟨g, x5.toNat * 6 + 1, none⟩ = some (.int .i64 q0) := HL.out.cell (j := 1) rfl; have hx_2 : w106.cell? ⟨g, x5.toNat * 6 + 2, none⟩ = some (.bool (Int.tmod (wrap64 (q0 + 1)) 3 == 0)) := HL.out.cell (j := 2) rfl; have hx_3 : w106.cell? ⟨g, x5.toNat * 6 + 3, none⟩ = some (.int .i64 (wrap64 ((wrap64 (q0 + 1)) + 1))) := HL.out.cell (j := 3) rfl; have hx_4 : w106.cell? ⟨g, x5.toNat * 6 + 4, none⟩ = some (.int .i64 (wrap64 ((wrap64 ((wrap64 (q0 + 1)) + 1)) + 1))) := HL.out.cell (j := 4) rfl; have hx_5 : w106.cell? ⟨g, x5.toNat * 6 + 5, none⟩ = some (.int .i64 (wrap64 ((wrap64 ((wrap64 ((wrap64 (q0 + 1)) + 1)) + 1)) + 1))) := HL.out.cell (j := 5) rfl; have hf_0 : w106.frozen? ⟨g, x5.toNat * 6, none⟩ = false := HL.out.frozen 0; have hf_1 : w106.frozen? ⟨g, x5.toNat * 6 + 1, none⟩ = false := HL.out.frozen 1; have hf_2 : w106.frozen? ⟨g, x5.toNat * 6 + 2, none⟩ = false := HL.out.frozen 2; have hf_3 : w106.frozen? ⟨g, x5.toNat * 6 + 3, none⟩ = false := HL.out.frozen 3; have hf_4 : w106.frozen? ⟨g, x5.toNat * 6 + 4, none⟩ = false := HL.out.frozen 4; have hf_5 : w106.frozen? ⟨g, x5.toNat * 6 + 5, none⟩ = false := HL.out.frozen 5; clear hw))
      go_roundg k2
      case measure => omega
      case rel => exact ⟨xs.set x5.toNat (⟨y0, q0, (Int.tmod (wrap64 (q0 + 1)) 3 == 0), (wrap64 ((wrap64 (q0 + 1)) + 1)), (wrap64 ((wrap64 ((wrap64 (q0 + 1)) + 1)) + 1)), (wrap64 ((wrap64 ((wrap64 ((wrap64 (q0 + 1)) + 1)) + 1)) + 1))⟩ : S32), _, _, i + 1, rfl, rfl, ⟨HW.out⟩, ⟨by have := HQ.out; omega⟩, HI2, ⟨HL.out.back (k32_mkM _ _ _ (⟨y0, q0, (Int.tmod (wrap64 (q0 + 1)) 3 == 0), (wrap64 ((wrap64 (q0 + 1)) + 1)), (wrap64 ((wrap64 ((wrap64 (q0 + 1)) + 1)) + 1)), (wrap64 ((wrap64 ((wrap64 ((wrap64 (q0 + 1)) + 1)) + 1)) + 1))⟩ : S32) HR0.out)⟩, ⟨HL.out.hk⟩, ⟨HL.out.hb⟩⟩
    · have c0b : decide (x5 < (xs.length : Int)) = false := decide_eq_false (by omega)
      obtain ⟨rfl, rfl⟩ := HI.out.stop hj
      obtain ⟨Ao, co, eo⟩ := Kd.S_slice HO.out
      subst eo
      clear hx hlen hsmall hj
      go_wp2
      go_ret
      exact ⟨rfl, HO.out, HB.out, HK.out⟩
theorem laws_markVoiceS.calls (k : Nat) (P0_ : Nat → Prop) (u9000_ : Value) (l0 : List (S32)) (a1 : Int) (r1 : Int) (r2 : List (S32)) (w0 w : World) (hB : Below w0.heap.size w0 w) (ho0 : Kd.S k32 32 w w0.heap.size P0_ u9000_ l0) (h : laws_markVoiceS.f k l0 a1 = some (r1, r2)) :
    Calls Try.prog 13 #[u9000_, .int .i64 a1] w fun e w' => e = .returned (.int .i64 r1) ∧ Kd.S k32 32 w' w0.heap.size (fun k_ => (P0_ k_ ∨ w.heap.size ≤ k_)) u9000_ r2 ∧ Below w0.heap.size w0 w' ∧ Kept w w' (fun k_ => P0_ k_) :=
  (laws_markVoiceS.callsP k P0_ u9000_ l0 a1 r1 r2 w0 w hB ho0 h).mono fun _ _ h_ => ⟨h_.1, Kd.S_mono h_.2.1 (fun _ hk => .inl hk), h_.2.2.1, h_.2.2.2⟩

/-! ### laws_heldIntS: function 32 -/
def laws_heldIntS.l0 : Nat → List Int → Int → Int → Option (Int)
 | 0, _, _, _ => none
 | k + 1, x0, x1, x5 => if x5 < (x0.length : Int) then (if 0 ≤ x5 then (if (rd x0 x5) = x1 then (laws_heldIntS.l0 k x0 (wrap64 (x1 + 1)) (wrap64 (x5 + 1))) else (some (-1))) else (none)) else (some x1)
def laws_heldIntS.f (k : Nat) (l0 : List Int) (a1 : Int) : Option (Int) := laws_heldIntS.l0 k l0 a1 0
theorem laws_heldIntS.mono_l : ∀ k, (∀ y0 y1 y2, LeO (laws_heldIntS.l0 k y0 y1 y2) (laws_heldIntS.l0 (k + 1) y0 y1 y2))
 | 0 => fun _ _ _ r h => by simp [laws_heldIntS.l0] at h
 | k + 1 => by
  have ih0 := laws_heldIntS.mono_l k
  ·intro y0 y1 y2
   unfold laws_heldIntS.l0
   repeat' first
   | (with_reducible exact ih0 _ _ _)
   | (with_reducible exact LeO.refl _)
   | (with_reducible exact LeO.none _)
   | (with_reducible refine LeO.ite ?_ ?_)
   | (with_reducible refine LeO.bind ?_ (fun _ => ?_))
   | exact ih0 _ _ _
   | exact LeO.none _
   | refine LeO.ite ?_ ?_
   | refine LeO.bind ?_ (fun _ => ?_)
theorem laws_heldIntS.mono : ∀ a0 a1 k, LeO (laws_heldIntS.f k a0 a1) (laws_heldIntS.f (k + 1) a0 a1) := by
 intro a0 a1 k
 have ih0 := laws_heldIntS.mono_l k
 unfold laws_heldIntS.f
 repeat' first
   | (with_reducible exact ih0 _ _ _)
   | (with_reducible exact LeO.refl _)
   | (with_reducible exact LeO.none _)
   | (with_reducible refine LeO.ite ?_ ?_)
   | (with_reducible refine LeO.bind ?_ (fun _ => ?_))
   | exact ih0 _ _ _
   | exact LeO.none _
   | refine LeO.ite ?_ ?_
   | refine LeO.bind ?_ (fun _ => ?_)
set_option maxHeartbeats 8000000 in
set_option maxRecDepth 100000 in
theorem laws_heldIntS.calls (k : Nat) (A0 : Option Addr) (c0 : Nat) (l0 : List Int) (a1 : Int) (r : Int) (w : World) (hr0 : Kd.C (Kd.int .i64) w A0 l0.length l0) (hc0 : l0.length ≤ c0) (h : laws_heldIntS.f k l0 a1 = some r) :
  Calls Try.prog 32 #[.slice A0 l0.length c0, .int .i64 a1] w fun e w' => e = .returned (.int .i64 r) ∧ Drawn0 w w' := by
 have HR0 := am_ hr0
 have HC0 := am_ hc0
 clear hr0 hc0
 have H : (laws_heldIntS.l0 k l0 a1 0) = some r := h
 clear h
 have H' := am_ H
 clear H
 go_enter Try.func32, Try.ntmps32
 go_wp2
 go_loopg [1, 5] k (fun kq v1 v5 w' => ∃ (x1_1 : Int) (x5_1 : Int), v1 = .int .i64 x1_1 ∧ v5 = .int .i64 x5_1 ∧ Aside0 (laws_heldIntS.l0 kq l0 x1_1 x5_1 = some r) ∧ Aside0 (kq ≤ k) ∧ Drawn0 w w')
 case atStart => exact ⟨(a1), (0), sq_, sq_, H', ⟨Nat.le_refl _⟩, by repeat (first | exact Drawn0.refl _ | apply Drawn0.step)⟩
 case round =>
  clear H'
  obtain ⟨x1_1, x5_1, rfl, rfl, HA, HK1, ⟨m1, rfl⟩⟩ := hrel
  cases gk with
  | zero => exact absurd HA.out (by simp [laws_heldIntS.l0])
  | succ k1 =>
   have H := HA.out
   clear HA
   simp only [laws_heldIntS.l0] at H
   by_cases c3 : x5_1 < (l0.length : Int)
   ·rw [if_pos c3] at H
    have c3b0 : decide (x5_1 < (l0.length : Int)) = true := decide_eq_true c3
    clear c3
    obtain ⟨c4, H⟩ := ifn_ H
    have c4b0 : decide (0 ≤ x5_1) = true := decide_eq_true c4
    clear c4
    by_cases c5 : (rd l0 x5_1) = x1_1
    ·rw [if_pos c5] at H
     have c5b0 : ((rd l0 x5_1) == x1_1) = true := beq_iff_eq.mpr c5
     have c5b1 : ((rd l0 x5_1) != x1_1) = false := bne_eq_false_iff_eq.mpr c5
     clear c5
     have H' := am_ H
     clear H
     have p138 : 0 ≤ (x5_1 : Int) := od_
     have q138 : x5_1 < (l0.length : Int) := od_
     obtain ⟨ad138, e138, hx138_0⟩ := Kd.at_int HR0.out x5_1 p138 q138
     cases e138
     replace p138 := eq_true p138
     replace q138 := eq_true q138
     go_wp2
     go_roundg k1
     case measure => have := HK1.out; omega
     case rel => exact ⟨(wrap64 (x1_1 + 1)), (wrap64 (x5_1 + 1)), sq_, sq_, H', ⟨by have := HK1.out; omega⟩, by repeat (first | exact Drawn0.refl _ | apply Drawn0.step)⟩
    ·rw [if_neg c5] at H
     have c5b0 : ((rd l0 x5_1) == x1_1) = false := beq_eq_false_iff_ne.mpr c5
     have c5b1 : ((rd l0 x5_1) != x1_1) = true := bne_iff_ne.mpr c5
     obtain rfl := Option.some.inj H
     have p138 : 0 ≤ (x5_1 : Int) := od_
     have q138 : x5_1 < (l0.length : Int) := od_
     obtain ⟨ad138, e138, hx138_0⟩ := Kd.at_int HR0.out x5_1 p138 q138
     cases e138
     replace p138 := eq_true p138
     replace q138 := eq_true q138
     go_wp2
     go_ret
     exact ⟨by first | rfl | (simp; done) | (simp [*]; done), by repeat (first | exact Drawn0.refl _ | apply Drawn0.step)⟩
   ·rw [if_neg c3] at H
    have c3b0 : decide (x5_1 < (l0.length : Int)) = false := decide_eq_false c3
    clear c3
    obtain rfl := Option.some.inj H
    go_wp2
    go_ret
    exact ⟨by first | rfl | (simp; done) | (simp [*]; done), by repeat (first | exact Drawn0.refl _ | apply Drawn0.step)⟩

end Go.Proofs.Ytbnbgmpkemlfbaa.XFnExactMixVoices
