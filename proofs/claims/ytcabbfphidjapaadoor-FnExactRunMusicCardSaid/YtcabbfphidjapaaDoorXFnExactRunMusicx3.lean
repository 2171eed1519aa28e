/- What the Go functions that this law comes to compute, each walked; written by a program of this session. -/
import Derived.Test.YtcabbfphidjapaaDoorXShort
import Derived.Test.YtcabbfphidjapaaDoorXMark
import Derived.Test.YtcabbfphidjapaaDoorXFnExactRunMusicx0
import Derived.Test.YtcabbfphidjapaaDoorXFnExactRunMusicx1
import Derived.Test.YtcabbfphidjapaaDoorXFnExactRunMusicx2
namespace Go.Proofs.YtcabbfphidjapaaDoor.XFnExactRunMusic
open Go.RowKit Go.Proofs.YtcabbfphidjapaaDoorW.PrintWords Go.Proofs.YtcabbfphidjapaaDoorW.PrintLast Go.Proofs.YtcabbfphidjapaaDoorW.PrintMore
attribute [local go_sem] str_geq max2_int min2_int max_two min_two max_three min_three max_four min_four   -- for this text's walks alone
set_option linter.unusedVariables false
set_option linter.unusedSimpArgs false

/-! ### spec_GoodMusic: function 20 -/
def spec_GoodMusic.f (k : Nat) (l0 : List (S49)) (a1_0 : ByteArray) (a1_1 : Int) (a1_2 : ByteArray) : Option (Bool) := (spec_l15Sections.f k l0).bind fun t125 => (if t125 = true then ((spec_l15Section.f k l0 a1_0).bind fun t126 => (if t126 ≥ 0 then (if 0 ≤ t126 then (if t126 < (l0.length : Int) then ((spec_l1In.f a1_1 0 (wrap64 (((rd_T49 l0 t126).f1) - 1))).bind fun t128 => (if t128 = true then (if a1_2.toList = ([] : List UInt8) then (some true) else ((spec_l15Section.f k l0 a1_2).bind fun t129 => (some (decide (t129 ≥ 0))))) else (some false))) else (none)) else (none)) else (some false))) else (some false))
theorem spec_GoodMusic.mono : ∀ a0 a1 a2 a3 k, LeO (spec_GoodMusic.f k a0 a1 a2 a3) (spec_GoodMusic.f (k + 1) a0 a1 a2 a3) := by
 intro a0 a1 a2 a3 k
 unfold spec_GoodMusic.f
 repeat' first
   | (with_reducible exact spec_l15Section.mono _ _ _)
   | (with_reducible exact spec_l15Sections.mono _ _)
   | (with_reducible exact LeO.refl _)
   | (with_reducible exact LeO.none _)
   | (with_reducible refine LeO.ite ?_ ?_)
   | (with_reducible refine LeO.bind ?_ (fun _ => ?_))
   | exact spec_l15Section.mono _ _ _
   | exact spec_l15Sections.mono _ _
   | exact LeO.none _
   | refine LeO.ite ?_ ?_
   | refine LeO.bind ?_ (fun _ => ?_)
def spec_GoodMusic.T4 : Bool × List (List Nat × List Nat) := (true, [([], []), ([0], [0]), ([1], [1]), ([2], [2]), ([3, 2], [2, 3]), ([2], [2]), ([2], [2]), ([5, 6, 2], [2, 5, 6]), ([7, 2], [2, 7]), ([8, 2], [2, 8]), ([9, 2], [2, 9]), ([4, 10, 2, 2], [2, 4, 10]), ([2, 11], [2, 11]), ([12, 11], [12]), ([13], [13]), ([14, 13], [13, 14]), ([15, 13], [13, 15]), ([16, 13, 13], [13, 16]), ([17], [17]), ([17], [17]), ([19, 17], [17, 19]), ([18, 20, 17, 17], [17, 18, 20]), ([21, 17], [17, 21]), ([17, 22, 13], [13, 17, 22]), ([13, 23], [13, 23]), ([24, 21, 0, 1, 2, 3, 4, 5, 6, 7, 8, 9, 10, 11, 12, 13, 14, 15, 16, 17, 18, 19, 20, 21, 22, 23, 24], [24])])
def spec_GoodMusic.B4 : List Nat := [0, 1, 3, 7, 15, 7, 7, 103, 231, 487, 999, 2047, 4095, 8191, 16383, 32767, 65535, 131071, 262143, 262143, 786431, 2097151, 4194303, 8388607, 16777215, 33554431]
theorem spec_GoodMusic.tab4 : rtab .any (opsOf Tryd.f20 4) = spec_GoodMusic.T4 := by kernel_rfl
theorem spec_GoodMusic.bits4 : waitsOk spec_GoodMusic.T4.2 spec_GoodMusic.B4 = true := by kernel_rfl
set_option maxHeartbeats 8000000 in
set_option maxRecDepth 100000 in
theorem spec_GoodMusic.calls (k : Nat) (A0 : Option Addr) (c0 : Nat) (l0 : List (S49)) (a1_0 : ByteArray) (a1_1 : Int) (a1_2 : ByteArray) (r : Bool) (w : World) (hr0 : Kd.C k49 w A0 l0.length l0) (hc0 : l0.length ≤ c0) (h : spec_GoodMusic.f k l0 a1_0 a1_1 a1_2 = some r) :
  Calls Tryd.prog 20 #[.slice A0 l0.length c0, .agg #[.string a1_0, .int .i64 a1_1, .string a1_2]] w fun e w' => e = .returned (.bool r) ∧ Below w.heap.size w w' := by
 have hu27 := Tryd.underlying27
 have HR0 := am_ hr0
 have HC0 := am_ hc0
 clear hr0 hc0
 have HB := am_ (Below.refl w.heap.size w)
 have H : ((spec_l15Sections.f k l0).bind fun t125 => (if t125 = true then ((spec_l15Section.f k l0 a1_0).bind fun t126 => (if t126 ≥ 0 then (if 0 ≤ t126 then (if t126 < (l0.length : Int) then ((spec_l1In.f a1_1 0 (wrap64 (((rd_T49 l0 t126).f1) - 1))).bind fun t128 => (if t128 = true then (if a1_2.toList = ([] : List UInt8) then (some true) else ((spec_l15Section.f k l0 a1_2).bind fun t129 => (some (decide (t129 ≥ 0))))) else (some false))) else (none)) else (none)) else (some false))) else (some false))) = some r := h
 clear h
 obtain ⟨t125, A30, H⟩ := bE_ H
 have A3 := am_ A30
 clear A30
 by_cases c4 : t125 = true
 ·subst c4
  replace H := it_ H rfl
  obtain ⟨t126, A50, H⟩ := bE_ H
  have A5 := am_ A50
  clear A50
  by_cases c6 : t126 ≥ 0
  ·rw [if_pos c6] at H
   have c6b0 : decide (0 ≤ t126) = true := decide_eq_true c6
   clear c6
   obtain ⟨c7, H⟩ := ifn_ H
   have c7b0 : decide (0 ≤ t126) = true := decide_eq_true c7
   clear c7
   obtain ⟨c8, H⟩ := ifn_ H
   have c8b0 : decide (t126 < (l0.length : Int)) = true := decide_eq_true c8
   clear c8
   obtain ⟨t128, A90, H⟩ := bE_ H
   have A9 := am_ A90
   clear A90
   by_cases c10 : t128 = true
   ·subst c10
    replace H := it_ H rfl
    by_cases c11 : a1_2.toList = ([] : List UInt8)
    ·rw [if_pos c11] at H
     have c11b0 : (a1_2.toList == ([] : List UInt8)) = true := beq_iff_eq.mpr c11
     have c11b1 : (a1_2.toList != ([] : List UInt8)) = false := bne_eq_false_iff_eq.mpr c11
     clear c11
     obtain rfl := Option.some.inj H
     go_enter Tryd.func20, Tryd.ntmps20
     try go_wp2_with (first | ((with_reducible refine gate_dst (N := 3) rfl ?_); refine bx_ 3 #[.string a1_0, .int .i64 a1_1, .string a1_2] 27 ?_; intro gb124 hg w12 hbox hb; have n0_ := am_ (below_step (bw_ HB.out) hb); have n1_ := am_ (hbox); have n2_ := am_ (gs_ hg (bw_ HB.out)); have n3_ := am_ (gs_ hg (bw_ HB.out)); replace HB := n0_; have BK124 := n1_; have GW124 := n2_; have GE124 := n3_; clear n0_ n1_ n2_ n3_; clear hb hbox hg) | ((with_reducible refine gate_callee (f := 40) rfl ?_); refine goesL_ (some 7) rfl rfl Tryd.func40 (by kernel_rfl) rfl #[.slice A0 l0.length c0] rfl (by (try simp only [List.map_toArray, List.map_cons, List.map_nil]); first | done | rfl | (simp only [List.length_drop, List.length_take]; rfl)) ?_; (with_reducible refine (spec_l15Sections.calls k _ _ l0 true _ ?side1 ?side2 A3.out).mono ?_); (case side1 => repeat (first | exact (Kd.C_below HR0.out HB.out) | (with_reducible refine Kd.C_alloc ?_ _) | (with_reducible refine Kd.C_drewN ?_ _) | (with_reducible refine Kd.C_drew ?_))); (case side2 => exact HC0.out); rintro e w13 ⟨rfl, hb⟩; refine ⟨_, rfl, ?_⟩; have n0_ := am_ (blk_below (bk_ BK124.out) hb); have n1_ := am_ (below_step (bw_ HB.out) hb); replace BK124 := n0_; replace HB := n1_; clear n0_ n1_; (try clear hb); (try clear hb2); (try clear hk); (try clear hi); have hcz14_0 := cz_ BK124.out 0; have hcz14_1 := cz_ BK124.out 1; have hcz14_2 := cz_ BK124.out 2; have hfz14_0 := blk_frozen BK124.out 0; have hfz14_1 := blk_frozen BK124.out 1; have hfz14_2 := blk_frozen BK124.out 2) | ((with_reducible refine gate_callee (f := 22) rfl ?_); refine goesL_ (some 12) rfl rfl Tryd.func22 (by kernel_rfl) rfl #[.slice A0 l0.length c0, .string a1_0] rfl (by (try simp only [List.map_toArray, List.map_cons, List.map_nil]); first | done | rfl | (simp only [List.length_drop, List.length_take]; rfl)) ?_; (with_reducible refine (spec_l15Section.calls k _ _ l0 a1_0 t126 _ ?side1 ?side2 A5.out).mono ?_); (case side1 => repeat (first | exact (Kd.C_below HR0.out HB.out) | (with_reducible refine Kd.C_alloc ?_ _) | (with_reducible refine Kd.C_drewN ?_ _) | (with_reducible refine Kd.C_drew ?_))); (case side2 => exact HC0.out); rintro e w15 ⟨rfl, hb⟩; refine ⟨_, rfl, ?_⟩; have n0_ := am_ (blk_below (bk_ BK124.out) hb); have n1_ := am_ (below_step (bw_ HB.out) hb); replace BK124 := n0_; replace HB := n1_; clear n0_ n1_; (try clear hb); (try clear hb2); (try clear hk); (try clear hi)))
     have n0_ := am_ (blk_drew BK124.out)
     have n1_ := am_ (below_drew1 HB.out)
     replace BK124 := n0_
     replace HB := n1_
     clear n0_ n1_
     have p127 : 0 ≤ (t126 : Int) := od_
     have q127 : t126 < (l0.length : Int) := od_
     obtain ⟨ad127, A127_2, c127_2, e127, hx127_0, hx127_1, hx127_2, hx127_3, hl127_2, hi127_2⟩ := at_T49 HR0.out t126 p127 q127
     have hw127_3 := hx127_3
     have hw127_2 := hx127_2
     have hw127_1 := hx127_1
     have hw127_0 := hx127_0
     cases e127
     (try replace hx127_0 := hc_ HB.out hx127_0)
     (try replace hx127_1 := hc_ HB.out hx127_1)
     (try replace hx127_2 := hc_ HB.out hx127_2)
     (try replace hx127_3 := hc_ HB.out hx127_3)
     have HR127_2 := am_ hi127_2
     have HC127_2 := am_ hl127_2
     clear hi127_2 hl127_2
     replace p127 := eq_true p127
     replace q127 := eq_true q127
     refine start_ (n := 26) (S := fun w' => w'.cell? ⟨gb124, 0, none⟩ = some (.string a1_0) ∧ w'.cell? ⟨gb124, 1, none⟩ = some (.int .i64 a1_1) ∧ w'.cell? ⟨gb124, 2, none⟩ = some (.string a1_2) ∧ w'.cell? (ad127.add ((t126).toNat * 4)) = some (.string ((rd_T49 l0 t126).f0)) ∧ w'.cell? ⟨(ad127.add ((t126).toNat * 4)).block, (ad127.add ((t126).toNat * 4)).off + 1, none⟩ = some (.int .i64 ((rd_T49 l0 t126).f1)) ∧ w'.cell? ⟨(ad127.add ((t126).toNat * 4)).block, (ad127.add ((t126).toNat * 4)).off + 2, none⟩ = some (.slice A127_2 ((rd_T49 l0 t126).f2).length c127_2) ∧ w'.cell? ⟨(ad127.add ((t126).toNat * 4)).block, (ad127.add ((t126).toNat * 4)).off + 3, none⟩ = some (.string ((rd_T49 l0 t126).f3))) (ds := []) (Array.replicate 26 false) (by kernel_rfl) rfl rfl ⟨cz_ BK124.out 0, cz_ BK124.out 1, cz_ BK124.out 2, ((HB.out.cell (World.block_lt_of_cell? w _ hw127_0)).trans hw127_0), ((HB.out.cell (World.block_lt_of_cell? w _ hw127_1)).trans hw127_1), ((HB.out.cell (World.block_lt_of_cell? w _ hw127_2)).trans hw127_2), ((HB.out.cell (World.block_lt_of_cell? w _ hw127_3)).trans hw127_3)⟩ (fun hHeld => ?_); refine with_tabW spec_GoodMusic.tab4 spec_GoodMusic.bits4 (fun HT_ HW_ => ?_)
     generalize w15.drew = w16 at BK124 HB HR127_2 hx127_0 hx127_1 hx127_2 hx127_3 hHeld ⊢
     refine pS_ 0 13 HT_ ?_
     refine pS_ 1 14 HT_ ?_
     refine pS_ 2 15 HT_ ?_
     refine pS_ 3 16 HT_ ?_
     refine pS_ 5 18 HT_ ?_
     refine pS_ 6 19 HT_ ?_
     refine pS_ 7 20 HT_ ?_
     refine pS_ 8 21 HT_ ?_
     refine tS_ 4 17 HT_ HW_ hHeld ?_
     refine tS_ 9 22 HT_ HW_ hHeld ?_
     refine pS_ 10 23 HT_ ?_
     refine oS_ 11 24 HT_ (fun K hK => ?_)
     refine goes_ Tryd.func21 (by kernel_rfl) rfl #[.int .i64 a1_1, .int .i64 0, .int .i64 (wrap64 (((rd_T49 l0 t126).f1) - 1))] (by rfl) rfl rfl (by (try simp only [List.map_toArray, List.map_cons, List.map_nil]); first | done | rfl | (simp only [List.length_drop, List.length_take]; rfl)) ?_
     with_reducible refine (spec_l1In.calls a1_1 0 (wrap64 (((rd_T49 l0 t126).f1) - 1)) true _ A9.out).mono ?_
     rintro e w' ⟨rfl, ⟨nd, rfl⟩⟩
     refine ⟨_, rfl, ?_⟩
     refine hK.out _ _ ⟨cz_ BK124.out 0, cz_ BK124.out 1, cz_ BK124.out 2, ((HB.out.cell (World.block_lt_of_cell? w _ hw127_0)).trans hw127_0), ((HB.out.cell (World.block_lt_of_cell? w _ hw127_1)).trans hw127_1), ((HB.out.cell (World.block_lt_of_cell? w _ hw127_2)).trans hw127_2), ((HB.out.cell (World.block_lt_of_cell? w _ hw127_3)).trans hw127_3)⟩ (fun hHeld => ?_)
     clear hK K
     refine nS_ ?_
     refine pS_ 12 25 HT_ ?_
     refine pS_ 13 26 HT_ ?_
     refine pS_ 14 27 HT_ ?_
     refine tS_ 15 28 HT_ HW_ hHeld ?_
     refine pS_ 16 29 HT_ ?_
     refine pS_ 17 30 HT_ ?_
     refine pU_ 18 31 HT_ ?_
     refine pU_ 19 32 HT_ ?_
     refine pU_ 20 33 HT_ ?_
     refine pU_ 21 34 HT_ ?_
     refine pU_ 22 35 HT_ ?_
     refine pS_ 23 36 HT_ ?_
     refine pS_ 24 37 HT_ ?_
     refine pS_ 25 4 HT_ ?_
     refine done_ (done_of HT_.out (by kernel_rfl)) ?_
     try go_wp2
     go_ret
     exact ⟨by first | rfl | (simp [errW_none, errW_some] <;> rfl) | (simp [*, errW_none, errW_some] <;> rfl), bw_ HB.out⟩
    ·rw [if_neg c11] at H
     have c11b0 : (a1_2.toList == ([] : List UInt8)) = false := beq_eq_false_iff_ne.mpr c11
     have c11b1 : (a1_2.toList != ([] : List UInt8)) = true := bne_iff_ne.mpr c11
     obtain ⟨t129, A170, H⟩ := bE_ H
     have A17 := am_ A170
     clear A170
     obtain rfl := Option.some.inj H
     go_enter Tryd.func20, Tryd.ntmps20
     try go_wp2_with (first | ((with_reducible refine gate_dst (N := 3) rfl ?_); refine bx_ 3 #[.string a1_0, .int .i64 a1_1, .string a1_2] 27 ?_; intro gb124 hg w18 hbox hb; have n0_ := am_ (below_step (bw_ HB.out) hb); have n1_ := am_ (hbox); have n2_ := am_ (gs_ hg (bw_ HB.out)); have n3_ := am_ (gs_ hg (bw_ HB.out)); replace HB := n0_; have BK124 := n1_; have GW124 := n2_; have GE124 := n3_; clear n0_ n1_ n2_ n3_; clear hb hbox hg) | ((with_reducible refine gate_callee (f := 40) rfl ?_); refine goesL_ (some 7) rfl rfl Tryd.func40 (by kernel_rfl) rfl #[.slice A0 l0.length c0] rfl (by (try simp only [List.map_toArray, List.map_cons, List.map_nil]); first | done | rfl | (simp only [List.length_drop, List.length_take]; rfl)) ?_; (with_reducible refine (spec_l15Sections.calls k _ _ l0 true _ ?side1 ?side2 A3.out).mono ?_); (case side1 => repeat (first | exact (Kd.C_below HR0.out HB.out) | (with_reducible refine Kd.C_alloc ?_ _) | (with_reducible refine Kd.C_drewN ?_ _) | (with_reducible refine Kd.C_drew ?_))); (case side2 => exact HC0.out); rintro e w19 ⟨rfl, hb⟩; refine ⟨_, rfl, ?_⟩; have n0_ := am_ (blk_below (bk_ BK124.out) hb); have n1_ := am_ (below_step (bw_ HB.out) hb); replace BK124 := n0_; replace HB := n1_; clear n0_ n1_; (try clear hb); (try clear hb2); (try clear hk); (try clear hi); have hcz20_0 := cz_ BK124.out 0; have hcz20_1 := cz_ BK124.out 1; have hcz20_2 := cz_ BK124.out 2; have hfz20_0 := blk_frozen BK124.out 0; have hfz20_1 := blk_frozen BK124.out 1; have hfz20_2 := blk_frozen BK124.out 2) | ((with_reducible refine gate_callee (f := 22) rfl ?_); refine goesL_ (some 12) rfl rfl Tryd.func22 (by kernel_rfl) rfl #[.slice A0 l0.length c0, .string a1_0] rfl (by (try simp only [List.map_toArray, List.map_cons, List.map_nil]); first | done | rfl | (simp only [List.length_drop, List.length_take]; rfl)) ?_; (with_reducible refine (spec_l15Section.calls k _ _ l0 a1_0 t126 _ ?side1 ?side2 A5.out).mono ?_); (case side1 => repeat (first | exact (Kd.C_below HR0.out HB.out) | (with_reducible refine Kd.C_alloc ?_ _) | (with_reducible refine Kd.C_drewN ?_ _) | (with_reducible refine Kd.C_drew ?_))); (case side2 => exact HC0.out); rintro e w21 ⟨rfl, hb⟩; refine ⟨_, rfl, ?_⟩; have n0_ := am_ (blk_below (bk_ BK124.out) hb); have n1_ := am_ (below_step (bw_ HB.out) hb); replace BK124 := n0_; replace HB := n1_; clear n0_ n1_; (try clear hb); (try clear hb2); (try clear hk); (try clear hi)))
     have n0_ := am_ (blk_drew BK124.out)
     have n1_ := am_ (below_drew1 HB.out)
     replace BK124 := n0_
     replace HB := n1_
     clear n0_ n1_
     have p127 : 0 ≤ (t126 : Int) := od_
     have q127 : t126 < (l0.length : Int) := od_
     obtain ⟨ad127, A127_2, c127_2, e127, hx127_0, hx127_1, hx127_2, hx127_3, hl127_2, hi127_2⟩ := at_T49 HR0.out t126 p127 q127
     have hw127_3 := hx127_3
     have hw127_2 := hx127_2
     have hw127_1 := hx127_1
     have hw127_0 := hx127_0
     cases e127
     (try replace hx127_0 := hc_ HB.out hx127_0)
     (try replace hx127_1 := hc_ HB.out hx127_1)
     (try replace hx127_2 := hc_ HB.out hx127_2)
     (try replace hx127_3 := hc_ HB.out hx127_3)
     have HR127_2 := am_ hi127_2
     have HC127_2 := am_ hl127_2
     clear hi127_2 hl127_2
     replace p127 := eq_true p127
     replace q127 := eq_true q127
     refine start_ (n := 26) (S := fun w' => w'.cell? ⟨gb124, 0, none⟩ = some (.string a1_0) ∧ w'.cell? ⟨gb124, 1, none⟩ = some (.int .i64 a1_1) ∧ w'.cell? ⟨gb124, 2, none⟩ = some (.string a1_2) ∧ w'.cell? (ad127.add ((t126).toNat * 4)) = some (.string ((rd_T49 l0 t126).f0)) ∧ w'.cell? ⟨(ad127.add ((t126).toNat * 4)).block, (ad127.add ((t126).toNat * 4)).off + 1, none⟩ = some (.int .i64 ((rd_T49 l0 t126).f1)) ∧ w'.cell? ⟨(ad127.add ((t126).toNat * 4)).block, (ad127.add ((t126).toNat * 4)).off + 2, none⟩ = some (.slice A127_2 ((rd_T49 l0 t126).f2).length c127_2) ∧ w'.cell? ⟨(ad127.add ((t126).toNat * 4)).block, (ad127.add ((t126).toNat * 4)).off + 3, none⟩ = some (.string ((rd_T49 l0 t126).f3))) (ds := []) (Array.replicate 26 false) (by kernel_rfl) rfl rfl ⟨cz_ BK124.out 0, cz_ BK124.out 1, cz_ BK124.out 2, ((HB.out.cell (World.block_lt_of_cell? w _ hw127_0)).trans hw127_0), ((HB.out.cell (World.block_lt_of_cell? w _ hw127_1)).trans hw127_1), ((HB.out.cell (World.block_lt_of_cell? w _ hw127_2)).trans hw127_2), ((HB.out.cell (World.block_lt_of_cell? w _ hw127_3)).trans hw127_3)⟩ (fun hHeld => ?_); refine with_tabW spec_GoodMusic.tab4 spec_GoodMusic.bits4 (fun HT_ HW_ => ?_)
     generalize w21.drew = w22 at BK124 HB HR127_2 hx127_0 hx127_1 hx127_2 hx127_3 hHeld ⊢
     refine pS_ 0 13 HT_ ?_
     refine pS_ 1 14 HT_ ?_
     refine pS_ 2 15 HT_ ?_
     refine pS_ 3 16 HT_ ?_
     refine pS_ 5 18 HT_ ?_
     refine pS_ 6 19 HT_ ?_
     refine pS_ 7 20 HT_ ?_
     refine pS_ 8 21 HT_ ?_
     refine tS_ 4 17 HT_ HW_ hHeld ?_
     refine tS_ 9 22 HT_ HW_ hHeld ?_
     refine pS_ 10 23 HT_ ?_
     refine oS_ 11 24 HT_ (fun K hK => ?_)
     refine goes_ Tryd.func21 (by kernel_rfl) rfl #[.int .i64 a1_1, .int .i64 0, .int .i64 (wrap64 (((rd_T49 l0 t126).f1) - 1))] (by rfl) rfl rfl (by (try simp only [List.map_toArray, List.map_cons, List.map_nil]); first | done | rfl | (simp only [List.length_drop, List.length_take]; rfl)) ?_
     with_reducible refine (spec_l1In.calls a1_1 0 (wrap64 (((rd_T49 l0 t126).f1) - 1)) true _ A9.out).mono ?_
     rintro e w' ⟨rfl, ⟨nd, rfl⟩⟩
     refine ⟨_, rfl, ?_⟩
     refine hK.out _ _ ⟨cz_ BK124.out 0, cz_ BK124.out 1, cz_ BK124.out 2, ((HB.out.cell (World.block_lt_of_cell? w _ hw127_0)).trans hw127_0), ((HB.out.cell (World.block_lt_of_cell? w _ hw127_1)).trans hw127_1), ((HB.out.cell (World.block_lt_of_cell? w _ hw127_2)).trans hw127_2), ((HB.out.cell (World.block_lt_of_cell? w _ hw127_3)).trans hw127_3)⟩ (fun hHeld => ?_)
     clear hK K
     refine nS_ ?_
     refine pS_ 12 25 HT_ ?_
     refine pS_ 13 26 HT_ ?_
     refine pS_ 14 27 HT_ ?_
     refine tS_ 15 28 HT_ HW_ hHeld ?_
     refine pS_ 16 29 HT_ ?_
     refine pS_ 17 30 HT_ ?_
     refine pS_ 18 31 HT_ ?_
     refine pS_ 19 32 HT_ ?_
     refine tS_ 20 33 HT_ HW_ hHeld ?_
     refine oS_ 21 34 HT_ (fun K hK => ?_)
     refine goes_ Tryd.func22 (by kernel_rfl) rfl #[.slice (some ad127) l0.length c0, .string a1_2] (by rfl) rfl rfl (by (try simp only [List.map_toArray, List.map_cons, List.map_nil]); first | done | rfl | (simp only [List.length_drop, List.length_take]; rfl)) ?_
     with_reducible refine (spec_l15Section.calls k _ _ l0 a1_2 t129 _ ?side1 ?side2 A17.out).mono ?_
     (case side1 => repeat (first | exact (Kd.C_below HR0.out (bw_ HB.out)) | (with_reducible refine Kd.C_alloc ?_ _) | (with_reducible refine Kd.C_drewN ?_ _) | (with_reducible refine Kd.C_drew ?_)))
     (case side2 => exact HC0.out)
     rintro e w23 ⟨rfl, hb⟩
     refine ⟨_, rfl, ?_⟩
     have n0_ := am_ (blk_below (bk_ BK124.out) hb)
     have n1_ := am_ (below_step (bw_ HB.out) hb)
     replace BK124 := n0_
     replace HB := n1_
     clear n0_ n1_
     (try clear hb)
     (try clear hb2)
     (try clear hk)
     (try clear hi)
     refine hK.out _ _ ⟨cz_ BK124.out 0, cz_ BK124.out 1, cz_ BK124.out 2, ((HB.out.cell (World.block_lt_of_cell? w _ hw127_0)).trans hw127_0), ((HB.out.cell (World.block_lt_of_cell? w _ hw127_1)).trans hw127_1), ((HB.out.cell (World.block_lt_of_cell? w _ hw127_2)).trans hw127_2), ((HB.out.cell (World.block_lt_of_cell? w _ hw127_3)).trans hw127_3)⟩ (fun hHeld => ?_)
     clear hK K
     refine nS_ ?_
     refine pS_ 22 35 HT_ ?_
     refine pS_ 23 36 HT_ ?_
     refine pS_ 24 37 HT_ ?_
     refine pS_ 25 4 HT_ ?_
     refine done_ (done_of HT_.out (by kernel_rfl)) ?_
     try go_wp2
     go_ret
     exact ⟨by first | rfl | (simp [errW_none, errW_some] <;> rfl) | (simp [*, errW_none, errW_some] <;> rfl), bw_ HB.out⟩
   ·replace c10 := Bool.eq_false_iff.mpr c10
    subst c10
    replace H := if_ H Bool.false_ne_true
    obtain rfl := Option.some.inj H
    go_enter Tryd.func20, Tryd.ntmps20
    try go_wp2_with (first | ((with_reducible refine gate_dst (N := 3) rfl ?_); refine bx_ 3 #[.string a1_0, .int .i64 a1_1, .string a1_2] 27 ?_; intro gb124 hg w24 hbox hb; have n0_ := am_ (below_step (bw_ HB.out) hb); have n1_ := am_ (hbox); have n2_ := am_ (gs_ hg (bw_ HB.out)); have n3_ := am_ (gs_ hg (bw_ HB.out)); replace HB := n0_; have BK124 := n1_; have GW124 := n2_; have GE124 := n3_; clear n0_ n1_ n2_ n3_; clear hb hbox hg) | ((with_reducible refine gate_callee (f := 40) rfl ?_); refine goesL_ (some 7) rfl rfl Tryd.func40 (by kernel_rfl) rfl #[.slice A0 l0.length c0] rfl (by (try simp only [List.map_toArray, List.map_cons, List.map_nil]); first | done | rfl | (simp only [List.length_drop, List.length_take]; rfl)) ?_; (with_reducible refine (spec_l15Sections.calls k _ _ l0 true _ ?side1 ?side2 A3.out).mono ?_); (case side1 => repeat (first | exact (Kd.C_below HR0.out HB.out) | (with_reducible refine Kd.C_alloc ?_ _) | (with_reducible refine Kd.C_drewN ?_ _) | (with_reducible refine Kd.C_drew ?_))); (case side2 => exact HC0.out); rintro e w25 ⟨rfl, hb⟩; refine ⟨_, rfl, ?_⟩; have n0_ := am_ (blk_below (bk_ BK124.out) hb); have n1_ := am_ (below_step (bw_ HB.out) hb); replace BK124 := n0_; replace HB := n1_; clear n0_ n1_; (try clear hb); (try clear hb2); (try clear hk); (try clear hi); have hcz26_0 := cz_ BK124.out 0; have hcz26_1 := cz_ BK124.out 1; have hcz26_2 := cz_ BK124.out 2; have hfz26_0 := blk_frozen BK124.out 0; have hfz26_1 := blk_frozen BK124.out 1; have hfz26_2 := blk_frozen BK124.out 2) | ((with_reducible refine gate_callee (f := 22) rfl ?_); refine goesL_ (some 12) rfl rfl Tryd.func22 (by kernel_rfl) rfl #[.slice A0 l0.length c0, .string a1_0] rfl (by (try simp only [List.map_toArray, List.map_cons, List.map_nil]); first | done | rfl | (simp only [List.length_drop, List.length_take]; rfl)) ?_; (with_reducible refine (spec_l15Section.calls k _ _ l0 a1_0 t126 _ ?side1 ?side2 A5.out).mono ?_); (case side1 => repeat (first | exact (Kd.C_below HR0.out HB.out) | (with_reducible refine Kd.C_alloc ?_ _) | (with_reducible refine Kd.C_drewN ?_ _) | (with_reducible refine Kd.C_drew ?_))); (case side2 => exact HC0.out); rintro e w27 ⟨rfl, hb⟩; refine ⟨_, rfl, ?_⟩; have n0_ := am_ (blk_below (bk_ BK124.out) hb); have n1_ := am_ (below_step (bw_ HB.out) hb); replace BK124 := n0_; replace HB := n1_; clear n0_ n1_; (try clear hb); (try clear hb2); (try clear hk); (try clear hi)))
    have n0_ := am_ (blk_drew BK124.out)
    have n1_ := am_ (below_drew1 HB.out)
    replace BK124 := n0_
    replace HB := n1_
    clear n0_ n1_
    have p127 : 0 ≤ (t126 : Int) := od_
    have q127 : t126 < (l0.length : Int) := od_
    obtain ⟨ad127, A127_2, c127_2, e127, hx127_0, hx127_1, hx127_2, hx127_3, hl127_2, hi127_2⟩ := at_T49 HR0.out t126 p127 q127
    have hw127_3 := hx127_3
    have hw127_2 := hx127_2
    have hw127_1 := hx127_1
    have hw127_0 := hx127_0
    cases e127
    (try replace hx127_0 := hc_ HB.out hx127_0)
    (try replace hx127_1 := hc_ HB.out hx127_1)
    (try replace hx127_2 := hc_ HB.out hx127_2)
    (try replace hx127_3 := hc_ HB.out hx127_3)
    have HR127_2 := am_ hi127_2
    have HC127_2 := am_ hl127_2
    clear hi127_2 hl127_2
    replace p127 := eq_true p127
    replace q127 := eq_true q127
    refine start_ (n := 26) (S := fun w' => w'.cell? ⟨gb124, 0, none⟩ = some (.string a1_0) ∧ w'.cell? ⟨gb124, 1, none⟩ = some (.int .i64 a1_1) ∧ w'.cell? ⟨gb124, 2, none⟩ = some (.string a1_2) ∧ w'.cell? (ad127.add ((t126).toNat * 4)) = some (.string ((rd_T49 l0 t126).f0)) ∧ w'.cell? ⟨(ad127.add ((t126).toNat * 4)).block, (ad127.add ((t126).toNat * 4)).off + 1, none⟩ = some (.int .i64 ((rd_T49 l0 t126).f1)) ∧ w'.cell? ⟨(ad127.add ((t126).toNat * 4)).block, (ad127.add ((t126).toNat * 4)).off + 2, none⟩ = some (.slice A127_2 ((rd_T49 l0 t126).f2).length c127_2) ∧ w'.cell? ⟨(ad127.add ((t126).toNat * 4)).block, (ad127.add ((t126).toNat * 4)).off + 3, none⟩ = some (.string ((rd_T49 l0 t126).f3))) (ds := []) (Array.replicate 26 false) (by kernel_rfl) rfl rfl ⟨cz_ BK124.out 0, cz_ BK124.out 1, cz_ BK124.out 2, ((HB.out.cell (World.block_lt_of_cell? w _ hw127_0)).trans hw127_0), ((HB.out.cell (World.block_lt_of_cell? w _ hw127_1)).trans hw127_1), ((HB.out.cell (World.block_lt_of_cell? w _ hw127_2)).trans hw127_2), ((HB.out.cell (World.block_lt_of_cell? w _ hw127_3)).trans hw127_3)⟩ (fun hHeld => ?_); refine with_tabW spec_GoodMusic.tab4 spec_GoodMusic.bits4 (fun HT_ HW_ => ?_)
    generalize w27.drew = w28 at BK124 HB HR127_2 hx127_0 hx127_1 hx127_2 hx127_3 hHeld ⊢
    refine pS_ 0 13 HT_ ?_
    refine pS_ 1 14 HT_ ?_
    refine pS_ 2 15 HT_ ?_
    refine pS_ 3 16 HT_ ?_
    refine pS_ 5 18 HT_ ?_
    refine pS_ 6 19 HT_ ?_
    refine pS_ 7 20 HT_ ?_
    refine pS_ 8 21 HT_ ?_
    refine tS_ 4 17 HT_ HW_ hHeld ?_
    refine tS_ 9 22 HT_ HW_ hHeld ?_
    refine pS_ 10 23 HT_ ?_
    refine oS_ 11 24 HT_ (fun K hK => ?_)
    refine goes_ Tryd.func21 (by kernel_rfl) rfl #[.int .i64 a1_1, .int .i64 0, .int .i64 (wrap64 (((rd_T49 l0 t126).f1) - 1))] (by rfl) rfl rfl (by (try simp only [List.map_toArray, List.map_cons, List.map_nil]); first | done | rfl | (simp only [List.length_drop, List.length_take]; rfl)) ?_
    with_reducible refine (spec_l1In.calls a1_1 0 (wrap64 (((rd_T49 l0 t126).f1) - 1)) false _ A9.out).mono ?_
    rintro e w' ⟨rfl, ⟨nd, rfl⟩⟩
    refine ⟨_, rfl, ?_⟩
    refine hK.out _ _ ⟨cz_ BK124.out 0, cz_ BK124.out 1, cz_ BK124.out 2, ((HB.out.cell (World.block_lt_of_cell? w _ hw127_0)).trans hw127_0), ((HB.out.cell (World.block_lt_of_cell? w _ hw127_1)).trans hw127_1), ((HB.out.cell (World.block_lt_of_cell? w _ hw127_2)).trans hw127_2), ((HB.out.cell (World.block_lt_of_cell? w _ hw127_3)).trans hw127_3)⟩ (fun hHeld => ?_)
    clear hK K
    refine nS_ ?_
    refine pS_ 12 25 HT_ ?_
    refine pS_ 13 26 HT_ ?_
    refine pU_ 14 27 HT_ ?_
    refine pU_ 15 28 HT_ ?_
    refine pU_ 16 29 HT_ ?_
    refine pU_ 17 30 HT_ ?_
    refine pU_ 18 31 HT_ ?_
    refine pU_ 19 32 HT_ ?_
    refine pU_ 20 33 HT_ ?_
    refine pU_ 21 34 HT_ ?_
    refine pU_ 22 35 HT_ ?_
    refine pU_ 23 36 HT_ ?_
    refine pS_ 24 37 HT_ ?_
    refine pS_ 25 4 HT_ ?_
    refine done_ (done_of HT_.out (by kernel_rfl)) ?_
    try go_wp2
    go_ret
    exact ⟨by first | rfl | (simp [errW_none, errW_some] <;> rfl) | (simp [*, errW_none, errW_some] <;> rfl), bw_ HB.out⟩
  ·rw [if_neg c6] at H
   have c6b0 : decide (0 ≤ t126) = false := decide_eq_false c6
   clear c6
   obtain rfl := Option.some.inj H
   go_enter Tryd.func20, Tryd.ntmps20
   try go_wp2_with (first | ((with_reducible refine gate_dst (N := 3) rfl ?_); refine bx_ 3 #[.string a1_0, .int .i64 a1_1, .string a1_2] 27 ?_; intro gb124 hg w29 hbox hb; have n0_ := am_ (below_step (bw_ HB.out) hb); have n1_ := am_ (hbox); have n2_ := am_ (gs_ hg (bw_ HB.out)); have n3_ := am_ (gs_ hg (bw_ HB.out)); replace HB := n0_; have BK124 := n1_; have GW124 := n2_; have GE124 := n3_; clear n0_ n1_ n2_ n3_; clear hb hbox hg) | ((with_reducible refine gate_callee (f := 40) rfl ?_); refine goesL_ (some 7) rfl rfl Tryd.func40 (by kernel_rfl) rfl #[.slice A0 l0.length c0] rfl (by (try simp only [List.map_toArray, List.map_cons, List.map_nil]); first | done | rfl | (simp only [List.length_drop, List.length_take]; rfl)) ?_; (with_reducible refine (spec_l15Sections.calls k _ _ l0 true _ ?side1 ?side2 A3.out).mono ?_); (case side1 => repeat (first | exact (Kd.C_below HR0.out HB.out) | (with_reducible refine Kd.C_alloc ?_ _) | (with_reducible refine Kd.C_drewN ?_ _) | (with_reducible refine Kd.C_drew ?_))); (case side2 => exact HC0.out); rintro e w30 ⟨rfl, hb⟩; refine ⟨_, rfl, ?_⟩; have n0_ := am_ (blk_below (bk_ BK124.out) hb); have n1_ := am_ (below_step (bw_ HB.out) hb); replace BK124 := n0_; replace HB := n1_; clear n0_ n1_; (try clear hb); (try clear hb2); (try clear hk); (try clear hi); have hcz31_0 := cz_ BK124.out 0; have hcz31_1 := cz_ BK124.out 1; have hcz31_2 := cz_ BK124.out 2; have hfz31_0 := blk_frozen BK124.out 0; have hfz31_1 := blk_frozen BK124.out 1; have hfz31_2 := blk_frozen BK124.out 2) | ((with_reducible refine gate_callee (f := 22) rfl ?_); refine goesL_ (some 12) rfl rfl Tryd.func22 (by kernel_rfl) rfl #[.slice A0 l0.length c0, .string a1_0] rfl (by (try simp only [List.map_toArray, List.map_cons, List.map_nil]); first | done | rfl | (simp only [List.length_drop, List.length_take]; rfl)) ?_; (with_reducible refine (spec_l15Section.calls k _ _ l0 a1_0 t126 _ ?side1 ?side2 A5.out).mono ?_); (case side1 => repeat (first | exact (Kd.C_below HR0.out HB.out) | (with_reducible refine Kd.C_alloc ?_ _) | (with_reducible refine Kd.C_drewN ?_ _) | (with_reducible refine Kd.C_drew ?_))); (case side2 => exact HC0.out); rintro e w32 ⟨rfl, hb⟩; refine ⟨_, rfl, ?_⟩; have n0_ := am_ (blk_below (bk_ BK124.out) hb); have n1_ := am_ (below_step (bw_ HB.out) hb); replace BK124 := n0_; replace HB := n1_; clear n0_ n1_; (try clear hb); (try clear hb2); (try clear hk); (try clear hi)))
   have n0_ := am_ (blk_drew BK124.out)
   have n1_ := am_ (below_drew1 HB.out)
   replace BK124 := n0_
   replace HB := n1_
   clear n0_ n1_
   refine start_ (n := 26) (S := fun w' => True) (ds := []) (Array.replicate 26 false) (by kernel_rfl) rfl rfl trivial (fun hHeld => ?_); refine with_tabW spec_GoodMusic.tab4 spec_GoodMusic.bits4 (fun HT_ HW_ => ?_)
   generalize w32.drew = w33 at BK124 HB hHeld ⊢
   refine pS_ 0 13 HT_ ?_
   refine pS_ 1 14 HT_ ?_
   refine pS_ 2 15 HT_ ?_
   refine pU_ 3 16 HT_ ?_
   refine pU_ 4 17 HT_ ?_
   refine pU_ 5 18 HT_ ?_
   refine pU_ 6 19 HT_ ?_
   refine pU_ 7 20 HT_ ?_
   refine pU_ 8 21 HT_ ?_
   refine pU_ 9 22 HT_ ?_
   refine pU_ 10 23 HT_ ?_
   refine pU_ 11 24 HT_ ?_
   refine pS_ 12 25 HT_ ?_
   refine pS_ 13 26 HT_ ?_
   refine pU_ 14 27 HT_ ?_
   refine pU_ 15 28 HT_ ?_
   refine pU_ 16 29 HT_ ?_
   refine pU_ 17 30 HT_ ?_
   refine pU_ 18 31 HT_ ?_
   refine pU_ 19 32 HT_ ?_
   refine pU_ 20 33 HT_ ?_
   refine pU_ 21 34 HT_ ?_
   refine pU_ 22 35 HT_ ?_
   refine pU_ 23 36 HT_ ?_
   refine pS_ 24 37 HT_ ?_
   refine pS_ 25 4 HT_ ?_
   refine done_ (done_of HT_.out (by kernel_rfl)) ?_
   try go_wp2
   go_ret
   exact ⟨by first | rfl | (simp [errW_none, errW_some] <;> rfl) | (simp [*, errW_none, errW_some] <;> rfl), bw_ HB.out⟩
 ·replace c4 := Bool.eq_false_iff.mpr c4
  subst c4
  replace H := if_ H Bool.false_ne_true
  obtain rfl := Option.some.inj H
  go_enter Tryd.func20, Tryd.ntmps20
  go_wp2_with (first | ((with_reducible refine gate_dst (N := 3) rfl ?_); refine bx_ 3 #[.string a1_0, .int .i64 a1_1, .string a1_2] 27 ?_; intro gb124 hg w34 hbox hb; have n0_ := am_ (below_step (bw_ HB.out) hb); have n1_ := am_ (hbox); have n2_ := am_ (gs_ hg (bw_ HB.out)); have n3_ := am_ (gs_ hg (bw_ HB.out)); replace HB := n0_; have BK124 := n1_; have GW124 := n2_; have GE124 := n3_; clear n0_ n1_ n2_ n3_; clear hb hbox hg) | ((with_reducible refine gate_callee (f := 40) rfl ?_); refine goesL_ (some 7) rfl rfl Tryd.func40 (by kernel_rfl) rfl #[.slice A0 l0.length c0] rfl (by (try simp only [List.map_toArray, List.map_cons, List.map_nil]); first | done | rfl | (simp only [List.length_drop, List.length_take]; rfl)) ?_; (with_reducible refine (spec_l15Sections.calls k _ _ l0 false _ ?side1 ?side2 A3.out).mono ?_); (case side1 => repeat (first | exact (Kd.C_below HR0.out HB.out) | (with_reducible refine Kd.C_alloc ?_ _) | (with_reducible refine Kd.C_drewN ?_ _) | (with_reducible refine Kd.C_drew ?_))); (case side2 => exact HC0.out); rintro e w35 ⟨rfl, hb⟩; refine ⟨_, rfl, ?_⟩; have n0_ := am_ (blk_below (bk_ BK124.out) hb); have n1_ := am_ (below_step (bw_ HB.out) hb); replace BK124 := n0_; replace HB := n1_; clear n0_ n1_; (try clear hb); (try clear hb2); (try clear hk); (try clear hi)))
  go_ret
  exact ⟨by first | rfl | (simp [errW_none, errW_some] <;> rfl) | (simp [*, errW_none, errW_some] <;> rfl), bw_ HB.out⟩

end Go.Proofs.YtcabbfphidjapaaDoor.XFnExactRunMusic
