/- What the Go functions that this law comes to compute, each walked; written by a program of this session. -/
import Derived.Test.YtcabbfphidjapaaDoorXShort
import Derived.Test.YtcabbfphidjapaaDoorXMark
import Derived.Test.YtcabbfphidjapaaDoorXFnExactRunMusicx0
import Derived.Test.YtcabbfphidjapaaDoorXFnExactRunMusicx6
import Derived.Test.YtcabbfphidjapaaDoorXFnExactRunMusicx7
namespace Go.Proofs.YtcabbfphidjapaaDoor.XFnExactRunMusic
open Go.RowKit Go.Proofs.YtcabbfphidjapaaDoorW.PrintWords Go.Proofs.YtcabbfphidjapaaDoorW.PrintLast Go.Proofs.YtcabbfphidjapaaDoorW.PrintMore
attribute [local go_sem] str_geq max2_int min2_int max_two min_two max_three min_three max_four min_four   -- for this text's walks alone
set_option linter.unusedVariables false
set_option linter.unusedSimpArgs false

/-! ### impl_GoodMusic: function 26 -/
def impl_GoodMusic.f (k : Nat) (l0 : List (S49)) (a1_0 : ByteArray) (a1_1 : Int) (a1_2 : ByteArray) : Option (Bool) := (impl_sectionAt.f k l0 a1_0).bind fun t202 => ((impl_areSections.f k l0).bind fun t203 => (if t203 = true then (if t202 ≥ 0 then (if 0 ≤ t202 then (if t202 < (l0.length : Int) then ((impl_inRange.f a1_1 0 (wrap64 (((rd_T49 l0 t202).f1) - 1))).bind fun t205 => (if t205 = true then (if a1_2.toList = ([] : List UInt8) then (some true) else ((impl_sectionAt.f k l0 a1_2).bind fun t206 => (some (decide (t206 ≥ 0))))) else (some false))) else (none)) else (none)) else (some false)) else (some false)))
theorem impl_GoodMusic.mono : ∀ a0 a1 a2 a3 k, LeO (impl_GoodMusic.f k a0 a1 a2 a3) (impl_GoodMusic.f (k + 1) a0 a1 a2 a3) := by
 intro a0 a1 a2 a3 k
 unfold impl_GoodMusic.f
 repeat' first
   | (with_reducible exact impl_areSections.mono _ _)
   | (with_reducible exact impl_sectionAt.mono _ _ _)
   | (with_reducible exact LeO.refl _)
   | (with_reducible exact LeO.none _)
   | (with_reducible refine LeO.ite ?_ ?_)
   | (with_reducible refine LeO.bind ?_ (fun _ => ?_))
   | exact impl_areSections.mono _ _
   | exact impl_sectionAt.mono _ _ _
   | exact LeO.none _
   | refine LeO.ite ?_ ?_
   | refine LeO.bind ?_ (fun _ => ?_)
def impl_GoodMusic.T2 : Bool × List (List Nat × List Nat) := (true, [([], []), ([0], [0]), ([1, 1], [1]), ([2], [2]), ([3, 2], [2, 3]), ([2, 4], [2, 4]), ([5, 2], [5]), ([6], [6]), ([7, 6], [6, 7]), ([6], [6]), ([6], [6]), ([9, 10, 6], [6, 9, 10]), ([11, 6], [6, 11]), ([12, 6], [6, 12]), ([13, 6], [6, 13]), ([8, 14, 6, 6], [6, 8, 14]), ([6, 15], [6, 15]), ([16, 15], [16]), ([17], [17]), ([18, 17], [17, 18]), ([19, 17], [17, 19]), ([20, 17, 17], [17, 20]), ([21], [21]), ([21], [21]), ([23, 21], [21, 23]), ([22, 24, 21, 21], [21, 22, 24]), ([25, 21], [21, 25]), ([21, 26, 17], [17, 21, 26]), ([17, 27], [17, 27]), ([28, 25, 0, 1, 2, 3, 4, 5, 6, 7, 8, 9, 10, 11, 12, 13, 14, 15, 16, 17, 18, 19, 20, 21, 22, 23, 24, 25, 26, 27, 28], [28])])
def impl_GoodMusic.B2 : List Nat := [0, 1, 3, 7, 15, 31, 63, 127, 255, 127, 127, 1663, 3711, 7807, 15999, 32767, 65535, 131071, 262143, 524287, 1048575, 2097151, 4194303, 4194303, 12582911, 33554431, 67108863, 134217727, 268435455, 536870911]
theorem impl_GoodMusic.tab2 : rtab .any (opsOf Tryd.f26 2) = impl_GoodMusic.T2 := by kernel_rfl
theorem impl_GoodMusic.bits2 : waitsOk impl_GoodMusic.T2.2 impl_GoodMusic.B2 = true := by kernel_rfl
set_option maxHeartbeats 8000000 in
set_option maxRecDepth 100000 in
theorem impl_GoodMusic.calls (k : Nat) (A0 : Option Addr) (c0 : Nat) (l0 : List (S49)) (a1_0 : ByteArray) (a1_1 : Int) (a1_2 : ByteArray) (r : Bool) (w : World) (hr0 : Kd.C k49 w A0 l0.length l0) (hc0 : l0.length ≤ c0) (h : impl_GoodMusic.f k l0 a1_0 a1_1 a1_2 = some r) :
  Calls Tryd.prog 26 #[.slice A0 l0.length c0, .agg #[.string a1_0, .int .i64 a1_1, .string a1_2]] w fun e w' => e = .returned (.bool r) ∧ Below w.heap.size w w' := by
 have hu27 := Tryd.underlying27
 have HR0 := am_ hr0
 have HC0 := am_ hc0
 clear hr0 hc0
 have HB := am_ (Below.refl w.heap.size w)
 have H : ((impl_sectionAt.f k l0 a1_0).bind fun t202 => ((impl_areSections.f k l0).bind fun t203 => (if t203 = true then (if t202 ≥ 0 then (if 0 ≤ t202 then (if t202 < (l0.length : Int) then ((impl_inRange.f a1_1 0 (wrap64 (((rd_T49 l0 t202).f1) - 1))).bind fun t205 => (if t205 = true then (if a1_2.toList = ([] : List UInt8) then (some true) else ((impl_sectionAt.f k l0 a1_2).bind fun t206 => (some (decide (t206 ≥ 0))))) else (some false))) else (none)) else (none)) else (some false)) else (some false)))) = some r := h
 clear h
 obtain ⟨t202, A30, H⟩ := bE_ H
 have A3 := am_ A30
 clear A30
 obtain ⟨t203, A40, H⟩ := bE_ H
 have A4 := am_ A40
 clear A40
 by_cases c5 : t203 = true
 ·subst c5
  replace H := it_ H rfl
  by_cases c6 : t202 ≥ 0
  ·rw [if_pos c6] at H
   have c6b0 : decide (0 ≤ t202) = true := decide_eq_true c6
   clear c6
   obtain ⟨c7, H⟩ := ifn_ H
   have c7b0 : decide (0 ≤ t202) = true := decide_eq_true c7
   clear c7
   obtain ⟨c8, H⟩ := ifn_ H
   have c8b0 : decide (t202 < (l0.length : Int)) = true := decide_eq_true c8
   clear c8
   obtain ⟨t205, A90, H⟩ := bE_ H
   have A9 := am_ A90
   clear A90
   by_cases c10 : t205 = true
   ·subst c10
    replace H := it_ H rfl
    by_cases c11 : a1_2.toList = ([] : List UInt8)
    ·rw [if_pos c11] at H
     have c11b0 : (a1_2.toList == ([] : List UInt8)) = true := beq_iff_eq.mpr c11
     have c11b1 : (a1_2.toList != ([] : List UInt8)) = false := bne_eq_false_iff_eq.mpr c11
     clear c11
     obtain rfl := Option.some.inj H
     go_enter Tryd.func26, Tryd.ntmps26
     try go_wp2_with (first | ((with_reducible refine gate_dst (N := 3) rfl ?_); refine bx_ 3 #[.string a1_0, .int .i64 a1_1, .string a1_2] 27 ?_; intro gb201 hg w12 hbox hb; have n0_ := am_ (below_step (bw_ HB.out) hb); have n1_ := am_ (hbox); have n2_ := am_ (gs_ hg (bw_ HB.out)); have n3_ := am_ (gs_ hg (bw_ HB.out)); replace HB := n0_; have BK201 := n1_; have GW201 := n2_; have GE201 := n3_; clear n0_ n1_ n2_ n3_; clear hb hbox hg; have hcz13_0 := cz_ BK201.out 0; have hcz13_1 := cz_ BK201.out 1; have hcz13_2 := cz_ BK201.out 2; have hfz13_0 := blk_frozen BK201.out 0; have hfz13_1 := blk_frozen BK201.out 1; have hfz13_2 := blk_frozen BK201.out 2) | ((with_reducible refine gate_callee (f := 28) rfl ?_); refine goesL_ (some 9) rfl rfl Tryd.func28 (by kernel_rfl) rfl #[.slice A0 l0.length c0, .string a1_0] rfl (by (try simp only [List.map_toArray, List.map_cons, List.map_nil]); first | done | rfl | (simp only [List.length_drop, List.length_take]; rfl)) ?_; (with_reducible refine (impl_sectionAt.calls k _ _ l0 a1_0 t202 _ ?side1 ?side2 A3.out).mono ?_); (case side1 => repeat (first | exact (Kd.C_below HR0.out HB.out) | (with_reducible refine Kd.C_alloc ?_ _) | (with_reducible refine Kd.C_drewN ?_ _) | (with_reducible refine Kd.C_drew ?_))); (case side2 => exact HC0.out); rintro e w14 ⟨rfl, hb⟩; refine ⟨_, rfl, ?_⟩; have n0_ := am_ (blk_below (bk_ BK201.out) hb); have n1_ := am_ (below_step (bw_ HB.out) hb); replace BK201 := n0_; replace HB := n1_; clear n0_ n1_; (try clear hb); (try clear hb2); (try clear hk); (try clear hi)))
     have n0_ := am_ (blk_drew BK201.out)
     have n1_ := am_ (below_drew1 HB.out)
     replace BK201 := n0_
     replace HB := n1_
     clear n0_ n1_
     have p204 : 0 ≤ (t202 : Int) := od_
     have q204 : t202 < (l0.length : Int) := od_
     obtain ⟨ad204, A204_2, c204_2, e204, hx204_0, hx204_1, hx204_2, hx204_3, hl204_2, hi204_2⟩ := at_T49 HR0.out t202 p204 q204
     have hw204_3 := hx204_3
     have hw204_2 := hx204_2
     have hw204_1 := hx204_1
     have hw204_0 := hx204_0
     cases e204
     (try replace hx204_0 := hc_ HB.out hx204_0)
     (try replace hx204_1 := hc_ HB.out hx204_1)
     (try replace hx204_2 := hc_ HB.out hx204_2)
     (try replace hx204_3 := hc_ HB.out hx204_3)
     have HR204_2 := am_ hi204_2
     have HC204_2 := am_ hl204_2
     clear hi204_2 hl204_2
     replace p204 := eq_true p204
     replace q204 := eq_true q204
     refine start_ (n := 30) (S := fun w' => w'.cell? ⟨gb201, 0, none⟩ = some (.string a1_0) ∧ w'.cell? ⟨gb201, 1, none⟩ = some (.int .i64 a1_1) ∧ w'.cell? ⟨gb201, 2, none⟩ = some (.string a1_2) ∧ w'.cell? (ad204.add ((t202).toNat * 4)) = some (.string ((rd_T49 l0 t202).f0)) ∧ w'.cell? ⟨(ad204.add ((t202).toNat * 4)).block, (ad204.add ((t202).toNat * 4)).off + 1, none⟩ = some (.int .i64 ((rd_T49 l0 t202).f1)) ∧ w'.cell? ⟨(ad204.add ((t202).toNat * 4)).block, (ad204.add ((t202).toNat * 4)).off + 2, none⟩ = some (.slice A204_2 ((rd_T49 l0 t202).f2).length c204_2) ∧ w'.cell? ⟨(ad204.add ((t202).toNat * 4)).block, (ad204.add ((t202).toNat * 4)).off + 3, none⟩ = some (.string ((rd_T49 l0 t202).f3))) (ds := []) (Array.replicate 30 false) (by kernel_rfl) rfl rfl ⟨cz_ BK201.out 0, cz_ BK201.out 1, cz_ BK201.out 2, ((HB.out.cell (World.block_lt_of_cell? w _ hw204_0)).trans hw204_0), ((HB.out.cell (World.block_lt_of_cell? w _ hw204_1)).trans hw204_1), ((HB.out.cell (World.block_lt_of_cell? w _ hw204_2)).trans hw204_2), ((HB.out.cell (World.block_lt_of_cell? w _ hw204_3)).trans hw204_3)⟩ (fun hHeld => ?_); refine with_tabW impl_GoodMusic.tab2 impl_GoodMusic.bits2 (fun HT_ HW_ => ?_)
     generalize w14.drew = w15 at BK201 HB HR204_2 hx204_0 hx204_1 hx204_2 hx204_3 hHeld ⊢
     refine pS_ 0 10 HT_ ?_
     refine oS_ 1 11 HT_ (fun K hK => ?_)
     refine goes_ Tryd.func42 (by kernel_rfl) rfl #[.slice (some ad204) l0.length c0] (by rfl) rfl rfl (by (try simp only [List.map_toArray, List.map_cons, List.map_nil]); first | done | rfl | (simp only [List.length_drop, List.length_take]; rfl)) ?_
     with_reducible refine (impl_areSections.calls k _ _ l0 true _ ?side1 ?side2 A4.out).mono ?_
     (case side1 => repeat (first | exact (Kd.C_below HR0.out HB.out) | (with_reducible refine Kd.C_alloc ?_ _) | (with_reducible refine Kd.C_drewN ?_ _) | (with_reducible refine Kd.C_drew ?_)))
     (case side2 => exact HC0.out)
     rintro e w16 ⟨rfl, hb⟩
     refine ⟨_, rfl, ?_⟩
     have n0_ := am_ (blk_below (bk_ BK201.out) hb)
     have n1_ := am_ (below_step (bw_ HB.out) hb)
     replace BK201 := n0_
     replace HB := n1_
     clear n0_ n1_
     (try clear hb)
     (try clear hb2)
     (try clear hk)
     (try clear hi)
     refine hK.out _ _ ⟨cz_ BK201.out 0, cz_ BK201.out 1, cz_ BK201.out 2, ((HB.out.cell (World.block_lt_of_cell? w _ hw204_0)).trans hw204_0), ((HB.out.cell (World.block_lt_of_cell? w _ hw204_1)).trans hw204_1), ((HB.out.cell (World.block_lt_of_cell? w _ hw204_2)).trans hw204_2), ((HB.out.cell (World.block_lt_of_cell? w _ hw204_3)).trans hw204_3)⟩ (fun hHeld => ?_)
     clear hK K
     refine nS_ ?_
     refine pS_ 2 12 HT_ ?_
     refine pS_ 3 13 HT_ ?_
     refine pS_ 4 14 HT_ ?_
     refine pS_ 5 15 HT_ ?_
     refine pS_ 6 16 HT_ ?_
     refine pS_ 7 17 HT_ ?_
     refine pS_ 9 19 HT_ ?_
     refine pS_ 10 20 HT_ ?_
     refine pS_ 11 21 HT_ ?_
     refine pS_ 12 22 HT_ ?_
     refine tS_ 8 18 HT_ HW_ hHeld ?_
     refine tS_ 13 23 HT_ HW_ hHeld ?_
     refine pS_ 14 24 HT_ ?_
     refine oS_ 15 25 HT_ (fun K hK => ?_)
     refine goes_ Tryd.func27 (by kernel_rfl) rfl #[.int .i64 a1_1, .int .i64 0, .int .i64 (wrap64 (((rd_T49 l0 t202).f1) - 1))] (by rfl) rfl rfl (by (try simp only [List.map_toArray, List.map_cons, List.map_nil]); first | done | rfl | (simp only [List.length_drop, List.length_take]; rfl)) ?_
     with_reducible refine (impl_inRange.calls a1_1 0 (wrap64 (((rd_T49 l0 t202).f1) - 1)) true _ A9.out).mono ?_
     rintro e w' ⟨rfl, ⟨nd, rfl⟩⟩
     refine ⟨_, rfl, ?_⟩
     refine hK.out _ _ ⟨cz_ BK201.out 0, cz_ BK201.out 1, cz_ BK201.out 2, ((HB.out.cell (World.block_lt_of_cell? w _ hw204_0)).trans hw204_0), ((HB.out.cell (World.block_lt_of_cell? w _ hw204_1)).trans hw204_1), ((HB.out.cell (World.block_lt_of_cell? w _ hw204_2)).trans hw204_2), ((HB.out.cell (World.block_lt_of_cell? w _ hw204_3)).trans hw204_3)⟩ (fun hHeld => ?_)
     clear hK K
     refine nS_ ?_
     refine pS_ 16 26 HT_ ?_
     refine pS_ 17 27 HT_ ?_
     refine pS_ 18 28 HT_ ?_
     refine tS_ 19 29 HT_ HW_ hHeld ?_
     refine pS_ 20 30 HT_ ?_
     refine pS_ 21 31 HT_ ?_
     refine pU_ 22 32 HT_ ?_
     refine pU_ 23 33 HT_ ?_
     refine pU_ 24 34 HT_ ?_
     refine pU_ 25 35 HT_ ?_
     refine pU_ 26 36 HT_ ?_
     refine pS_ 27 37 HT_ ?_
     refine pS_ 28 38 HT_ ?_
     refine pS_ 29 4 HT_ ?_
     refine done_ (done_of HT_.out (by kernel_rfl)) ?_
     try go_wp2
     go_ret
     exact ⟨by first | rfl | (simp [errW_none, errW_some] <;> rfl) | (simp [*, errW_none, errW_some] <;> rfl), bw_ HB.out⟩
    ·rw [if_neg c11] at H
     have c11b0 : (a1_2.toList == ([] : List UInt8)) = false := beq_eq_false_iff_ne.mpr c11
     have c11b1 : (a1_2.toList != ([] : List UInt8)) = true := bne_iff_ne.mpr c11
     obtain ⟨t206, A170, H⟩ := bE_ H
     have A17 := am_ A170
     clear A170
     obtain rfl := Option.some.inj H
     go_enter Tryd.func26, Tryd.ntmps26
     try go_wp2_with (first | ((with_reducible refine gate_dst (N := 3) rfl ?_); refine bx_ 3 #[.string a1_0, .int .i64 a1_1, .string a1_2] 27 ?_; intro gb201 hg w18 hbox hb; have n0_ := am_ (below_step (bw_ HB.out) hb); have n1_ := am_ (hbox); have n2_ := am_ (gs_ hg (bw_ HB.out)); have n3_ := am_ (gs_ hg (bw_ HB.out)); replace HB := n0_; have BK201 := n1_; have GW201 := n2_; have GE201 := n3_; clear n0_ n1_ n2_ n3_; clear hb hbox hg; have hcz19_0 := cz_ BK201.out 0; have hcz19_1 := cz_ BK201.out 1; have hcz19_2 := cz_ BK201.out 2; have hfz19_0 := blk_frozen BK201.out 0; have hfz19_1 := blk_frozen BK201.out 1; have hfz19_2 := blk_frozen BK201.out 2) | ((with_reducible refine gate_callee (f := 28) rfl ?_); refine goesL_ (some 9) rfl rfl Tryd.func28 (by kernel_rfl) rfl #[.slice A0 l0.length c0, .string a1_0] rfl (by (try simp only [List.map_toArray, List.map_cons, List.map_nil]); first | done | rfl | (simp only [List.length_drop, List.length_take]; rfl)) ?_; (with_reducible refine (impl_sectionAt.calls k _ _ l0 a1_0 t202 _ ?side1 ?side2 A3.out).mono ?_); (case side1 => repeat (first | exact (Kd.C_below HR0.out HB.out) | (with_reducible refine Kd.C_alloc ?_ _) | (with_reducible refine Kd.C_drewN ?_ _) | (with_reducible refine Kd.C_drew ?_))); (case side2 => exact HC0.out); rintro e w20 ⟨rfl, hb⟩; refine ⟨_, rfl, ?_⟩; have n0_ := am_ (blk_below (bk_ BK201.out) hb); have n1_ := am_ (below_step (bw_ HB.out) hb); replace BK201 := n0_; replace HB := n1_; clear n0_ n1_; (try clear hb); (try clear hb2); (try clear hk); (try clear hi)))
     have n0_ := am_ (blk_drew BK201.out)
     have n1_ := am_ (below_drew1 HB.out)
     replace BK201 := n0_
     replace HB := n1_
     clear n0_ n1_
     have p204 : 0 ≤ (t202 : Int) := od_
     have q204 : t202 < (l0.length : Int) := od_
     obtain ⟨ad204, A204_2, c204_2, e204, hx204_0, hx204_1, hx204_2, hx204_3, hl204_2, hi204_2⟩ := at_T49 HR0.out t202 p204 q204
     have hw204_3 := hx204_3
     have hw204_2 := hx204_2
     have hw204_1 := hx204_1
     have hw204_0 := hx204_0
     cases e204
     (try replace hx204_0 := hc_ HB.out hx204_0)
     (try replace hx204_1 := hc_ HB.out hx204_1)
     (try replace hx204_2 := hc_ HB.out hx204_2)
     (try replace hx204_3 := hc_ HB.out hx204_3)
     have HR204_2 := am_ hi204_2
     have HC204_2 := am_ hl204_2
     clear hi204_2 hl204_2
     replace p204 := eq_true p204
     replace q204 := eq_true q204
     refine start_ (n := 30) (S := fun w' => w'.cell? ⟨gb201, 0, none⟩ = some (.string a1_0) ∧ w'.cell? ⟨gb201, 1, none⟩ = some (.int .i64 a1_1) ∧ w'.cell? ⟨gb201, 2, none⟩ = some (.string a1_2) ∧ w'.cell? (ad204.add ((t202).toNat * 4)) = some (.string ((rd_T49 l0 t202).f0)) ∧ w'.cell? ⟨(ad204.add ((t202).toNat * 4)).block, (ad204.add ((t202).toNat * 4)).off + 1, none⟩ = some (.int .i64 ((rd_T49 l0 t202).f1)) ∧ w'.cell? ⟨(ad204.add ((t202).toNat * 4)).block, (ad204.add ((t202).toNat * 4)).off + 2, none⟩ = some (.slice A204_2 ((rd_T49 l0 t202).f2).length c204_2) ∧ w'.cell? ⟨(ad204.add ((t202).toNat * 4)).block, (ad204.add ((t202).toNat * 4)).off + 3, none⟩ = some (.string ((rd_T49 l0 t202).f3))) (ds := []) (Array.replicate 30 false) (by kernel_rfl) rfl rfl ⟨cz_ BK201.out 0, cz_ BK201.out 1, cz_ BK201.out 2, ((HB.out.cell (World.block_lt_of_cell? w _ hw204_0)).trans hw204_0), ((HB.out.cell (World.block_lt_of_cell? w _ hw204_1)).trans hw204_1), ((HB.out.cell (World.block_lt_of_cell? w _ hw204_2)).trans hw204_2), ((HB.out.cell (World.block_lt_of_cell? w _ hw204_3)).trans hw204_3)⟩ (fun hHeld => ?_); refine with_tabW impl_GoodMusic.tab2 impl_GoodMusic.bits2 (fun HT_ HW_ => ?_)
     generalize w20.drew = w21 at BK201 HB HR204_2 hx204_0 hx204_1 hx204_2 hx204_3 hHeld ⊢
     refine pS_ 0 10 HT_ ?_
     refine oS_ 1 11 HT_ (fun K hK => ?_)
     refine goes_ Tryd.func42 (by kernel_rfl) rfl #[.slice (some ad204) l0.length c0] (by rfl) rfl rfl (by (try simp only [List.map_toArray, List.map_cons, List.map_nil]); first | done | rfl | (simp only [List.length_drop, List.length_take]; rfl)) ?_
     with_reducible refine (impl_areSections.calls k _ _ l0 true _ ?side1 ?side2 A4.out).mono ?_
     (case side1 => repeat (first | exact (Kd.C_below HR0.out HB.out) | (with_reducible refine Kd.C_alloc ?_ _) | (with_reducible refine Kd.C_drewN ?_ _) | (with_reducible refine Kd.C_drew ?_)))
     (case side2 => exact HC0.out)
     rintro e w22 ⟨rfl, hb⟩
     refine ⟨_, rfl, ?_⟩
     have n0_ := am_ (blk_below (bk_ BK201.out) hb)
     have n1_ := am_ (below_step (bw_ HB.out) hb)
     replace BK201 := n0_
     replace HB := n1_
     clear n0_ n1_
     (try clear hb)
     (try clear hb2)
     (try clear hk)
     (try clear hi)
     refine hK.out _ _ ⟨cz_ BK201.out 0, cz_ BK201.out 1, cz_ BK201.out 2, ((HB.out.cell (World.block_lt_of_cell? w _ hw204_0)).trans hw204_0), ((HB.out.cell (World.block_lt_of_cell? w _ hw204_1)).trans hw204_1), ((HB.out.cell (World.block_lt_of_cell? w _ hw204_2)).trans hw204_2), ((HB.out.cell (World.block_lt_of_cell? w _ hw204_3)).trans hw204_3)⟩ (fun hHeld => ?_)
     clear hK K
     refine nS_ ?_
     refine pS_ 2 12 HT_ ?_
     refine pS_ 3 13 HT_ ?_
     refine pS_ 4 14 HT_ ?_
     refine pS_ 5 15 HT_ ?_
     refine pS_ 6 16 HT_ ?_
     refine pS_ 7 17 HT_ ?_
     refine pS_ 9 19 HT_ ?_
     refine pS_ 10 20 HT_ ?_
     refine pS_ 11 21 HT_ ?_
     refine pS_ 12 22 HT_ ?_
     refine tS_ 8 18 HT_ HW_ hHeld ?_
     refine tS_ 13 23 HT_ HW_ hHeld ?_
     refine pS_ 14 24 HT_ ?_
     refine oS_ 15 25 HT_ (fun K hK => ?_)
     refine goes_ Tryd.func27 (by kernel_rfl) rfl #[.int .i64 a1_1, .int .i64 0, .int .i64 (wrap64 (((rd_T49 l0 t202).f1) - 1))] (by rfl) rfl rfl (by (try simp only [List.map_toArray, List.map_cons, List.map_nil]); first | done | rfl | (simp only [List.length_drop, List.length_take]; rfl)) ?_
     with_reducible refine (impl_inRange.calls a1_1 0 (wrap64 (((rd_T49 l0 t202).f1) - 1)) true _ A9.out).mono ?_
     rintro e w' ⟨rfl, ⟨nd, rfl⟩⟩
     refine ⟨_, rfl, ?_⟩
     refine hK.out _ _ ⟨cz_ BK201.out 0, cz_ BK201.out 1, cz_ BK201.out 2, ((HB.out.cell (World.block_lt_of_cell? w _ hw204_0)).trans hw204_0), ((HB.out.cell (World.block_lt_of_cell? w _ hw204_1)).trans hw204_1), ((HB.out.cell (World.block_lt_of_cell? w _ hw204_2)).trans hw204_2), ((HB.out.cell (World.block_lt_of_cell? w _ hw204_3)).trans hw204_3)⟩ (fun hHeld => ?_)
     clear hK K
     refine nS_ ?_
     refine pS_ 16 26 HT_ ?_
     refine pS_ 17 27 HT_ ?_
     refine pS_ 18 28 HT_ ?_
     refine tS_ 19 29 HT_ HW_ hHeld ?_
     refine pS_ 20 30 HT_ ?_
     refine pS_ 21 31 HT_ ?_
     refine pS_ 22 32 HT_ ?_
     refine pS_ 23 33 HT_ ?_
     refine tS_ 24 34 HT_ HW_ hHeld ?_
     refine oS_ 25 35 HT_ (fun K hK => ?_)
     refine goes_ Tryd.func28 (by kernel_rfl) rfl #[.slice (some ad204) l0.length c0, .string a1_2] (by rfl) rfl rfl (by (try simp only [List.map_toArray, List.map_cons, List.map_nil]); first | done | rfl | (simp only [List.length_drop, List.length_take]; rfl)) ?_
     with_reducible refine (impl_sectionAt.calls k _ _ l0 a1_2 t206 _ ?side1 ?side2 A17.out).mono ?_
     (case side1 => repeat (first | exact (Kd.C_below HR0.out (bw_ HB.out)) | (with_reducible refine Kd.C_alloc ?_ _) | (with_reducible refine Kd.C_drewN ?_ _) | (with_reducible refine Kd.C_drew ?_)))
     (case side2 => exact HC0.out)
     rintro e w23 ⟨rfl, hb⟩
     refine ⟨_, rfl, ?_⟩
     have n0_ := am_ (blk_below (bk_ BK201.out) hb)
     have n1_ := am_ (below_step (bw_ HB.out) hb)
     replace BK201 := n0_
     replace HB := n1_
     clear n0_ n1_
     (try clear hb)
     (try clear hb2)
     (try clear hk)
     (try clear hi)
     refine hK.out _ _ ⟨cz_ BK201.out 0, cz_ BK201.out 1, cz_ BK201.out 2, ((HB.out.cell (World.block_lt_of_cell? w _ hw204_0)).trans hw204_0), ((HB.out.cell (World.block_lt_of_cell? w _ hw204_1)).trans hw204_1), ((HB.out.cell (World.block_lt_of_cell? w _ hw204_2)).trans hw204_2), ((HB.out.cell (World.block_lt_of_cell? w _ hw204_3)).trans hw204_3)⟩ (fun hHeld => ?_)
     clear hK K
     refine nS_ ?_
     refine pS_ 26 36 HT_ ?_
     refine pS_ 27 37 HT_ ?_
     refine pS_ 28 38 HT_ ?_
     refine pS_ 29 4 HT_ ?_
     refine done_ (done_of HT_.out (by kernel_rfl)) ?_
     try go_wp2
     go_ret
     exact ⟨by first | rfl | (simp [errW_none, errW_some] <;> rfl) | (simp [*, errW_none, errW_some] <;> rfl), bw_ HB.out⟩
   ·replace c10 := Bool.eq_false_iff.mpr c10
    subst c10
    replace H := if_ H Bool.false_ne_true
    obtain rfl := Option.some.inj H
    go_enter Tryd.func26, Tryd.ntmps26
    try go_wp2_with (first | ((with_reducible refine gate_dst (N := 3) rfl ?_); refine bx_ 3 #[.string a1_0, .int .i64 a1_1, .string a1_2] 27 ?_; intro gb201 hg w24 hbox hb; have n0_ := am_ (below_step (bw_ HB.out) hb); have n1_ := am_ (hbox); have n2_ := am_ (gs_ hg (bw_ HB.out)); have n3_ := am_ (gs_ hg (bw_ HB.out)); replace HB := n0_; have BK201 := n1_; have GW201 := n2_; have GE201 := n3_; clear n0_ n1_ n2_ n3_; clear hb hbox hg; have hcz25_0 := cz_ BK201.out 0; have hcz25_1 := cz_ BK201.out 1; have hcz25_2 := cz_ BK201.out 2; have hfz25_0 := blk_frozen BK201.out 0; have hfz25_1 := blk_frozen BK201.out 1; have hfz25_2 := blk_frozen BK201.out 2) | ((with_reducible refine gate_callee (f := 28) rfl ?_); refine goesL_ (some 9) rfl rfl Tryd.func28 (by kernel_rfl) rfl #[.slice A0 l0.length c0, .string a1_0] rfl (by (try simp only [List.map_toArray, List.map_cons, List.map_nil]); first | done | rfl | (simp only [List.length_drop, List.length_take]; rfl)) ?_; (with_reducible refine (impl_sectionAt.calls k _ _ l0 a1_0 t202 _ ?side1 ?side2 A3.out).mono ?_); (case side1 => repeat (first | exact (Kd.C_below HR0.out HB.out) | (with_reducible refine Kd.C_alloc ?_ _) | (with_reducible refine Kd.C_drewN ?_ _) | (with_reducible refine Kd.C_drew ?_))); (case side2 => exact HC0.out); rintro e w26 ⟨rfl, hb⟩; refine ⟨_, rfl, ?_⟩; have n0_ := am_ (blk_below (bk_ BK201.out) hb); have n1_ := am_ (below_step (bw_ HB.out) hb); replace BK201 := n0_; replace HB := n1_; clear n0_ n1_; (try clear hb); (try clear hb2); (try clear hk); (try clear hi)))
    have n0_ := am_ (blk_drew BK201.out)
    have n1_ := am_ (below_drew1 HB.out)
    replace BK201 := n0_
    replace HB := n1_
    clear n0_ n1_
    have p204 : 0 ≤ (t202 : Int) := od_
    have q204 : t202 < (l0.length : Int) := od_
    obtain ⟨ad204, A204_2, c204_2, e204, hx204_0, hx204_1, hx204_2, hx204_3, hl204_2, hi204_2⟩ := at_T49 HR0.out t202 p204 q204
    have hw204_3 := hx204_3
    have hw204_2 := hx204_2
    have hw204_1 := hx204_1
    have hw204_0 := hx204_0
    cases e204
    (try replace hx204_0 := hc_ HB.out hx204_0)
    (try replace hx204_1 := hc_ HB.out hx204_1)
    (try replace hx204_2 := hc_ HB.out hx204_2)
    (try replace hx204_3 := hc_ HB.out hx204_3)
    have HR204_2 := am_ hi204_2
    have HC204_2 := am_ hl204_2
    clear hi204_2 hl204_2
    replace p204 := eq_true p204
    replace q204 := eq_true q204
    refine start_ (n := 30) (S := fun w' => w'.cell? ⟨gb201, 0, none⟩ = some (.string a1_0) ∧ w'.cell? ⟨gb201, 1, none⟩ = some (.int .i64 a1_1) ∧ w'.cell? ⟨gb201, 2, none⟩ = some (.string a1_2) ∧ w'.cell? (ad204.add ((t202).toNat * 4)) = some (.string ((rd_T49 l0 t202).f0)) ∧ w'.cell? ⟨(ad204.add ((t202).toNat * 4)).block, (ad204.add ((t202).toNat * 4)).off + 1, none⟩ = some (.int .i64 ((rd_T49 l0 t202).f1)) ∧ w'.cell? ⟨(ad204.add ((t202).toNat * 4)).block, (ad204.add ((t202).toNat * 4)).off + 2, none⟩ = some (.slice A204_2 ((rd_T49 l0 t202).f2).length c204_2) ∧ w'.cell? ⟨(ad204.add ((t202).toNat * 4)).block, (ad204.add ((t202).toNat * 4)).off + 3, none⟩ = some (.string ((rd_T49 l0 t202).f3))) (ds := []) (Array.replicate 30 false) (by kernel_rfl) rfl rfl ⟨cz_ BK201.out 0, cz_ BK201.out 1, cz_ BK201.out 2, ((HB.out.cell (World.block_lt_of_cell? w _ hw204_0)).trans hw204_0), ((HB.out.cell (World.block_lt_of_cell? w _ hw204_1)).trans hw204_1), ((HB.out.cell (World.block_lt_of_cell? w _ hw204_2)).trans hw204_2), ((HB.out.cell (World.block_lt_of_cell? w _ hw204_3)).trans hw204_3)⟩ (fun hHeld => ?_); refine with_tabW impl_GoodMusic.tab2 impl_GoodMusic.bits2 (fun HT_ HW_ => ?_)
    generalize w26.drew = w27 at BK201 HB HR204_2 hx204_0 hx204_1 hx204_2 hx204_3 hHeld ⊢
    refine pS_ 0 10 HT_ ?_
    refine oS_ 1 11 HT_ (fun K hK => ?_)
    refine goes_ Tryd.func42 (by kernel_rfl) rfl #[.slice (some ad204) l0.length c0] (by rfl) rfl rfl (by (try simp only [List.map_toArray, List.map_cons, List.map_nil]); first | done | rfl | (simp only [List.length_drop, List.length_take]; rfl)) ?_
    with_reducible refine (impl_areSections.calls k _ _ l0 true _ ?side1 ?side2 A4.out).mono ?_
    (case side1 => repeat (first | exact (Kd.C_below HR0.out HB.out) | (with_reducible refine Kd.C_alloc ?_ _) | (with_reducible refine Kd.C_drewN ?_ _) | (with_reducible refine Kd.C_drew ?_)))
    (case side2 => exact HC0.out)
    rintro e w28 ⟨rfl, hb⟩
    refine ⟨_, rfl, ?_⟩
    have n0_ := am_ (blk_below (bk_ BK201.out) hb)
    have n1_ := am_ (below_step (bw_ HB.out) hb)
    replace BK201 := n0_
    replace HB := n1_
    clear n0_ n1_
    (try clear hb)
    (try clear hb2)
    (try clear hk)
    (try clear hi)
    refine hK.out _ _ ⟨cz_ BK201.out 0, cz_ BK201.out 1, cz_ BK201.out 2, ((HB.out.cell (World.block_lt_of_cell? w _ hw204_0)).trans hw204_0), ((HB.out.cell (World.block_lt_of_cell? w _ hw204_1)).trans hw204_1), ((HB.out.cell (World.block_lt_of_cell? w _ hw204_2)).trans hw204_2), ((HB.out.cell (World.block_lt_of_cell? w _ hw204_3)).trans hw204_3)⟩ (fun hHeld => ?_)
    clear hK K
    refine nS_ ?_
    refine pS_ 2 12 HT_ ?_
    refine pS_ 3 13 HT_ ?_
    refine pS_ 4 14 HT_ ?_
    refine pS_ 5 15 HT_ ?_
    refine pS_ 6 16 HT_ ?_
    refine pS_ 7 17 HT_ ?_
    refine pS_ 9 19 HT_ ?_
    refine pS_ 10 20 HT_ ?_
    refine pS_ 11 21 HT_ ?_
    refine pS_ 12 22 HT_ ?_
    refine tS_ 8 18 HT_ HW_ hHeld ?_
    refine tS_ 13 23 HT_ HW_ hHeld ?_
    refine pS_ 14 24 HT_ ?_
    refine oS_ 15 25 HT_ (fun K hK => ?_)
    refine goes_ Tryd.func27 (by kernel_rfl) rfl #[.int .i64 a1_1, .int .i64 0, .int .i64 (wrap64 (((rd_T49 l0 t202).f1) - 1))] (by rfl) rfl rfl (by (try simp only [List.map_toArray, List.map_cons, List.map_nil]); first | done | rfl | (simp only [List.length_drop, List.length_take]; rfl)) ?_
    with_reducible refine (impl_inRange.calls a1_1 0 (wrap64 (((rd_T49 l0 t202).f1) - 1)) false _ A9.out).mono ?_
    rintro e w' ⟨rfl, ⟨nd, rfl⟩⟩
    refine ⟨_, rfl, ?_⟩
    refine hK.out _ _ ⟨cz_ BK201.out 0, cz_ BK201.out 1, cz_ BK201.out 2, ((HB.out.cell (World.block_lt_of_cell? w _ hw204_0)).trans hw204_0), ((HB.out.cell (World.block_lt_of_cell? w _ hw204_1)).trans hw204_1), ((HB.out.cell (World.block_lt_of_cell? w _ hw204_2)).trans hw204_2), ((HB.out.cell (World.block_lt_of_cell? w _ hw204_3)).trans hw204_3)⟩ (fun hHeld => ?_)
    clear hK K
    refine nS_ ?_
    refine pS_ 16 26 HT_ ?_
    refine pS_ 17 27 HT_ ?_
    refine pU_ 18 28 HT_ ?_
    refine pU_ 19 29 HT_ ?_
    refine pU_ 20 30 HT_ ?_
    refine pU_ 21 31 HT_ ?_
    refine pU_ 22 32 HT_ ?_
    refine pU_ 23 33 HT_ ?_
    refine pU_ 24 34 HT_ ?_
    refine pU_ 25 35 HT_ ?_
    refine pU_ 26 36 HT_ ?_
    refine pU_ 27 37 HT_ ?_
    refine pS_ 28 38 HT_ ?_
    refine pS_ 29 4 HT_ ?_
    refine done_ (done_of HT_.out (by kernel_rfl)) ?_
    try go_wp2
    go_ret
    exact ⟨by first | rfl | (simp [errW_none, errW_some] <;> rfl) | (simp [*, errW_none, errW_some] <;> rfl), bw_ HB.out⟩
  ·rw [if_neg c6] at H
   have c6b0 : decide (0 ≤ t202) = false := decide_eq_false c6
   clear c6
   obtain rfl := Option.some.inj H
   go_enter Tryd.func26, Tryd.ntmps26
   try go_wp2_with (first | ((with_reducible refine gate_dst (N := 3) rfl ?_); refine bx_ 3 #[.string a1_0, .int .i64 a1_1, .string a1_2] 27 ?_; intro gb201 hg w29 hbox hb; have n0_ := am_ (below_step (bw_ HB.out) hb); have n1_ := am_ (hbox); have n2_ := am_ (gs_ hg (bw_ HB.out)); have n3_ := am_ (gs_ hg (bw_ HB.out)); replace HB := n0_; have BK201 := n1_; have GW201 := n2_; have GE201 := n3_; clear n0_ n1_ n2_ n3_; clear hb hbox hg; have hcz30_0 := cz_ BK201.out 0; have hcz30_1 := cz_ BK201.out 1; have hcz30_2 := cz_ BK201.out 2; have hfz30_0 := blk_frozen BK201.out 0; have hfz30_1 := blk_frozen BK201.out 1; have hfz30_2 := blk_frozen BK201.out 2) | ((with_reducible refine gate_callee (f := 28) rfl ?_); refine goesL_ (some 9) rfl rfl Tryd.func28 (by kernel_rfl) rfl #[.slice A0 l0.length c0, .string a1_0] rfl (by (try simp only [List.map_toArray, List.map_cons, List.map_nil]); first | done | rfl | (simp only [List.length_drop, List.length_take]; rfl)) ?_; (with_reducible refine (impl_sectionAt.calls k _ _ l0 a1_0 t202 _ ?side1 ?side2 A3.out).mono ?_); (case side1 => repeat (first | exact (Kd.C_below HR0.out HB.out) | (with_reducible refine Kd.C_alloc ?_ _) | (with_reducible refine Kd.C_drewN ?_ _) | (with_reducible refine Kd.C_drew ?_))); (case side2 => exact HC0.out); rintro e w31 ⟨rfl, hb⟩; refine ⟨_, rfl, ?_⟩; have n0_ := am_ (blk_below (bk_ BK201.out) hb); have n1_ := am_ (below_step (bw_ HB.out) hb); replace BK201 := n0_; replace HB := n1_; clear n0_ n1_; (try clear hb); (try clear hb2); (try clear hk); (try clear hi)))
   have n0_ := am_ (blk_drew BK201.out)
   have n1_ := am_ (below_drew1 HB.out)
   replace BK201 := n0_
   replace HB := n1_
   clear n0_ n1_
   refine start_ (n := 30) (S := fun w' => True) (ds := []) (Array.replicate 30 false) (by kernel_rfl) rfl rfl trivial (fun hHeld => ?_); refine with_tabW impl_GoodMusic.tab2 impl_GoodMusic.bits2 (fun HT_ HW_ => ?_)
   generalize w31.drew = w32 at BK201 HB hHeld ⊢
   refine pS_ 0 10 HT_ ?_
   refine oS_ 1 11 HT_ (fun K hK => ?_)
   refine goes_ Tryd.func42 (by kernel_rfl) rfl #[.slice A0 l0.length c0] (by rfl) rfl rfl (by (try simp only [List.map_toArray, List.map_cons, List.map_nil]); first | done | rfl | (simp only [List.length_drop, List.length_take]; rfl)) ?_
   with_reducible refine (impl_areSections.calls k _ _ l0 true _ ?side1 ?side2 A4.out).mono ?_
   (case side1 => repeat (first | exact (Kd.C_below HR0.out HB.out) | (with_reducible refine Kd.C_alloc ?_ _) | (with_reducible refine Kd.C_drewN ?_ _) | (with_reducible refine Kd.C_drew ?_)))
   (case side2 => exact HC0.out)
   rintro e w33 ⟨rfl, hb⟩
   refine ⟨_, rfl, ?_⟩
   have n0_ := am_ (blk_below (bk_ BK201.out) hb)
   have n1_ := am_ (below_step (bw_ HB.out) hb)
   replace BK201 := n0_
   replace HB := n1_
   clear n0_ n1_
   (try clear hb)
   (try clear hb2)
   (try clear hk)
   (try clear hi)
   refine hK.out _ _ trivial (fun hHeld => ?_)
   clear hK K
   refine nS_ ?_
   refine pS_ 2 12 HT_ ?_
   refine pS_ 3 13 HT_ ?_
   refine pS_ 4 14 HT_ ?_
   refine pS_ 5 15 HT_ ?_
   refine pS_ 6 16 HT_ ?_
   refine pU_ 7 17 HT_ ?_
   refine pU_ 8 18 HT_ ?_
   refine pU_ 9 19 HT_ ?_
   refine pU_ 10 20 HT_ ?_
   refine pU_ 11 21 HT_ ?_
   refine pU_ 12 22 HT_ ?_
   refine pU_ 13 23 HT_ ?_
   refine pU_ 14 24 HT_ ?_
   refine pU_ 15 25 HT_ ?_
   refine pS_ 16 26 HT_ ?_
   refine pS_ 17 27 HT_ ?_
   refine pU_ 18 28 HT_ ?_
   refine pU_ 19 29 HT_ ?_
   refine pU_ 20 30 HT_ ?_
   refine pU_ 21 31 HT_ ?_
   refine pU_ 22 32 HT_ ?_
   refine pU_ 23 33 HT_ ?_
   refine pU_ 24 34 HT_ ?_
   refine pU_ 25 35 HT_ ?_
   refine pU_ 26 36 HT_ ?_
   refine pU_ 27 37 HT_ ?_
   refine pS_ 28 38 HT_ ?_
   refine pS_ 29 4 HT_ ?_
   refine done_ (done_of HT_.out (by kernel_rfl)) ?_
   try go_wp2
   go_ret
   exact ⟨by first | rfl | (simp [errW_none, errW_some] <;> rfl) | (simp [*, errW_none, errW_some] <;> rfl), bw_ HB.out⟩
 ·replace c5 := Bool.eq_false_iff.mpr c5
  subst c5
  replace H := if_ H Bool.false_ne_true
  obtain rfl := Option.some.inj H
  go_enter Tryd.func26, Tryd.ntmps26
  try go_wp2_with (first | ((with_reducible refine gate_dst (N := 3) rfl ?_); refine bx_ 3 #[.string a1_0, .int .i64 a1_1, .string a1_2] 27 ?_; intro gb201 hg w34 hbox hb; have n0_ := am_ (below_step (bw_ HB.out) hb); have n1_ := am_ (hbox); have n2_ := am_ (gs_ hg (bw_ HB.out)); have n3_ := am_ (gs_ hg (bw_ HB.out)); replace HB := n0_; have BK201 := n1_; have GW201 := n2_; have GE201 := n3_; clear n0_ n1_ n2_ n3_; clear hb hbox hg; have hcz35_0 := cz_ BK201.out 0; have hcz35_1 := cz_ BK201.out 1; have hcz35_2 := cz_ BK201.out 2; have hfz35_0 := blk_frozen BK201.out 0; have hfz35_1 := blk_frozen BK201.out 1; have hfz35_2 := blk_frozen BK201.out 2) | ((with_reducible refine gate_callee (f := 28) rfl ?_); refine goesL_ (some 9) rfl rfl Tryd.func28 (by kernel_rfl) rfl #[.slice A0 l0.length c0, .string a1_0] rfl (by (try simp only [List.map_toArray, List.map_cons, List.map_nil]); first | done | rfl | (simp only [List.length_drop, List.length_take]; rfl)) ?_; (with_reducible refine (impl_sectionAt.calls k _ _ l0 a1_0 t202 _ ?side1 ?side2 A3.out).mono ?_); (case side1 => repeat (first | exact (Kd.C_below HR0.out HB.out) | (with_reducible refine Kd.C_alloc ?_ _) | (with_reducible refine Kd.C_drewN ?_ _) | (with_reducible refine Kd.C_drew ?_))); (case side2 => exact HC0.out); rintro e w36 ⟨rfl, hb⟩; refine ⟨_, rfl, ?_⟩; have n0_ := am_ (blk_below (bk_ BK201.out) hb); have n1_ := am_ (below_step (bw_ HB.out) hb); replace BK201 := n0_; replace HB := n1_; clear n0_ n1_; (try clear hb); (try clear hb2); (try clear hk); (try clear hi)))
  have n0_ := am_ (blk_drew BK201.out)
  have n1_ := am_ (below_drew1 HB.out)
  replace BK201 := n0_
  replace HB := n1_
  clear n0_ n1_
  refine start_ (n := 30) (S := fun w' => True) (ds := []) (Array.replicate 30 false) (by kernel_rfl) rfl rfl trivial (fun hHeld => ?_); refine with_tabW impl_GoodMusic.tab2 impl_GoodMusic.bits2 (fun HT_ HW_ => ?_)
  generalize w36.drew = w37 at BK201 HB hHeld ⊢
  refine pS_ 0 10 HT_ ?_
  refine oS_ 1 11 HT_ (fun K hK => ?_)
  refine goes_ Tryd.func42 (by kernel_rfl) rfl #[.slice A0 l0.length c0] (by rfl) rfl rfl (by (try simp only [List.map_toArray, List.map_cons, List.map_nil]); first | done | rfl | (simp only [List.length_drop, List.length_take]; rfl)) ?_
  with_reducible refine (impl_areSections.calls k _ _ l0 false _ ?side1 ?side2 A4.out).mono ?_
  (case side1 => repeat (first | exact (Kd.C_below HR0.out HB.out) | (with_reducible refine Kd.C_alloc ?_ _) | (with_reducible refine Kd.C_drewN ?_ _) | (with_reducible refine Kd.C_drew ?_)))
  (case side2 => exact HC0.out)
  rintro e w38 ⟨rfl, hb⟩
  refine ⟨_, rfl, ?_⟩
  have n0_ := am_ (blk_below (bk_ BK201.out) hb)
  have n1_ := am_ (below_step (bw_ HB.out) hb)
  replace BK201 := n0_
  replace HB := n1_
  clear n0_ n1_
  (try clear hb)
  (try clear hb2)
  (try clear hk)
  (try clear hi)
  refine hK.out _ _ trivial (fun hHeld => ?_)
  clear hK K
  refine nS_ ?_
  refine pS_ 2 12 HT_ ?_
  refine pU_ 3 13 HT_ ?_
  refine pU_ 4 14 HT_ ?_
  refine pS_ 5 15 HT_ ?_
  refine pS_ 6 16 HT_ ?_
  refine pU_ 7 17 HT_ ?_
  refine pU_ 8 18 HT_ ?_
  refine pU_ 9 19 HT_ ?_
  refine pU_ 10 20 HT_ ?_
  refine pU_ 11 21 HT_ ?_
  refine pU_ 12 22 HT_ ?_
  refine pU_ 13 23 HT_ ?_
  refine pU_ 14 24 HT_ ?_
  refine pU_ 15 25 HT_ ?_
  refine pS_ 16 26 HT_ ?_
  refine pS_ 17 27 HT_ ?_
  refine pU_ 18 28 HT_ ?_
  refine pU_ 19 29 HT_ ?_
  refine pU_ 20 30 HT_ ?_
  refine pU_ 21 31 HT_ ?_
  refine pU_ 22 32 HT_ ?_
  refine pU_ 23 33 HT_ ?_
  refine pU_ 24 34 HT_ ?_
  refine pU_ 25 35 HT_ ?_
  refine pU_ 26 36 HT_ ?_
  refine pU_ 27 37 HT_ ?_
  refine pS_ 28 38 HT_ ?_
  refine pS_ 29 4 HT_ ?_
  refine done_ (done_of HT_.out (by kernel_rfl)) ?_
  try go_wp2
  go_ret
  exact ⟨by first | rfl | (simp [errW_none, errW_some] <;> rfl) | (simp [*, errW_none, errW_some] <;> rfl), bw_ HB.out⟩

end Go.Proofs.YtcabbfphidjapaaDoor.XFnExactRunMusic
