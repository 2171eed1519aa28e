/- What the Go functions that this law comes to compute, each walked; written by a program of this session. -/
import Derived.Test.YtfgdfnnddoncjaaXShort
import Derived.Test.YtfgdfnnddoncjaaXMark
import Derived.Test.YtfgdfnnddoncjaaXFnExactMeantByx0
import Derived.Test.YtfgdfnnddoncjaaXFnExactMeantByx8
import Derived.Test.YtfgdfnnddoncjaaXFnExactMeantByx9
namespace Go.Proofs.Ytfgdfnnddoncjaa.XFnExactMeantBy
open Go.RowKit Go.Proofs.YtfgdfnnddoncjaaW.PrintWords Go.Proofs.YtfgdfnnddoncjaaW.PrintLast Go.Proofs.YtfgdfnnddoncjaaW.PrintMore
attribute [local go_sem] str_geq max2_int min2_int max_two min_two max_three min_three max_four min_four   -- for this text's walks alone
set_option linter.unusedVariables false
set_option linter.unusedSimpArgs false

/-! ### impl_GoodBinds: function 30 -/
def impl_GoodBinds.l0 : Nat → List (S53) → List (S53) → Int → Int → Option (Bool)
 | 0, _, _, _, _ => none
 | k + 1, x0, x5, x6, x7 => if x7 < x6 then (if 0 ≤ x7 then (if x7 < (x5.length : Int) then ((impl_GoodName.f k ((rd_T53 x5 x7).f0)).bind fun t272 => (if t272 = true then (if x7 > 0 then (if 0 ≤ (wrap64 (x7 - 1)) then (if (wrap64 (x7 - 1)) < (x0.length : Int) then (if ((Op.bytesLess (((rd_T53 x0 (wrap64 (x7 - 1))).f0).toList) (((rd_T53 x5 x7).f0).toList)) = true) then ((impl_isChord.f k ((rd_T53 x5 x7).f1)).bind fun t274 => (if t274 = true then ((impl_chordPlace.f k x0 ((rd_T53 x5 x7).f1)).bind fun t275 => (if t275 = x7 then (impl_GoodBinds.l0 k x0 x5 x6 (wrap64 (x7 + 1))) else (some false))) else (some false))) else (some false)) else (none)) else (none)) else ((impl_isChord.f k ((rd_T53 x5 x7).f1)).bind fun t276 => (if t276 = true then ((impl_chordPlace.f k x0 ((rd_T53 x5 x7).f1)).bind fun t277 => (if t277 = x7 then (impl_GoodBinds.l0 k x0 x5 x6 (wrap64 (x7 + 1))) else (some false))) else (some false)))) else (some false))) else (none)) else (none)) else (some (decide ((x0.length : Int) ≤ 20)))
def impl_GoodBinds.f (k : Nat) (l0 : List (S53)) : Option (Bool) := impl_GoodBinds.l0 k l0 l0 (l0.length : Int) 0
theorem impl_GoodBinds.mono_l : ∀ k, (∀ y0 y1 y2 y3, LeO (impl_GoodBinds.l0 k y0 y1 y2 y3) (impl_GoodBinds.l0 (k + 1) y0 y1 y2 y3))
 | 0 => fun _ _ _ _ r h => by simp [impl_GoodBinds.l0] at h
 | k + 1 => by
  have ih0 := impl_GoodBinds.mono_l k
  ·intro y0 y1 y2 y3
   unfold impl_GoodBinds.l0
   repeat' first
   | (with_reducible exact ih0 _ _ _ _)
   | (with_reducible exact impl_GoodName.mono _ _)
   | (with_reducible exact impl_chordPlace.mono _ _ _)
   | (with_reducible exact impl_isChord.mono _ _)
   | (with_reducible exact LeO.refl _)
   | (with_reducible exact LeO.none _)
   | (with_reducible refine LeO.ite ?_ ?_)
   | (with_reducible refine LeO.bind ?_ (fun _ => ?_))
   | exact ih0 _ _ _ _
   | exact impl_GoodName.mono _ _
   | exact impl_chordPlace.mono _ _ _
   | exact impl_isChord.mono _ _
   | exact LeO.none _
   | refine LeO.ite ?_ ?_
   | refine LeO.bind ?_ (fun _ => ?_)
theorem impl_GoodBinds.mono : ∀ a0 k, LeO (impl_GoodBinds.f k a0) (impl_GoodBinds.f (k + 1) a0) := by
 intro a0 k
 have ih0 := impl_GoodBinds.mono_l k
 unfold impl_GoodBinds.f
 repeat' first
   | (with_reducible exact ih0 _ _ _ _)
   | (with_reducible exact impl_GoodName.mono _ _)
   | (with_reducible exact impl_chordPlace.mono _ _ _)
   | (with_reducible exact impl_isChord.mono _ _)
   | (with_reducible exact LeO.refl _)
   | (with_reducible exact LeO.none _)
   | (with_reducible refine LeO.ite ?_ ?_)
   | (with_reducible refine LeO.bind ?_ (fun _ => ?_))
   | exact ih0 _ _ _ _
   | exact impl_GoodName.mono _ _
   | exact impl_chordPlace.mono _ _ _
   | exact impl_isChord.mono _ _
   | exact LeO.none _
   | refine LeO.ite ?_ ?_
   | refine LeO.bind ?_ (fun _ => ?_)
def impl_GoodBinds.T4 : Bool × List (List Nat × List Nat) := (true, [([], []), ([0], [0]), ([1], [1]), ([2], [2]), ([3, 2], [3]), ([4], [4]), ([5, 4], [4, 5]), ([6, 4, 4], [4, 6]), ([7], [7]), ([7], [7]), ([9, 7], [7, 9]), ([8, 10, 7], [7, 8, 10]), ([11, 7], [7, 11]), ([12, 7], [7, 12]), ([7], [7]), ([14, 7], [7, 14]), ([13, 15, 7], [7, 13, 15]), ([7, 16, 4], [4, 7, 16]), ([4, 17], [4, 17]), ([18, 7], [18]), ([19], [19]), ([20, 19], [19, 20]), ([21, 19, 19], [19, 21]), ([22, 19], [19, 22]), ([19, 23], [19, 23]), ([24, 22], [24]), ([25], [25]), ([25], [25]), ([27, 25], [25, 27]), ([26, 28, 25, 25], [25, 26, 28]), ([25], [25]), ([29, 30, 25], [25, 29, 30]), ([25, 31], [25, 31])])
def impl_GoodBinds.B4 : List Nat := [0, 1, 3, 7, 15, 31, 63, 127, 255, 255, 767, 2047, 4095, 8191, 255, 16639, 65535, 131071, 262143, 524287, 1048575, 2097151, 4194303, 8388607, 16777215, 33554431, 67108863, 67108863, 201326591, 536870911, 67108863, 2147483647, 4294967295]
theorem impl_GoodBinds.tab4 : rtab .any (opsOf Try.f30 4) = impl_GoodBinds.T4 := by kernel_rfl
theorem impl_GoodBinds.bits4 : waitsOk impl_GoodBinds.T4.2 impl_GoodBinds.B4 = true := by kernel_rfl
set_option maxHeartbeats 8000000 in
set_option maxRecDepth 100000 in
theorem impl_GoodBinds.calls (k : Nat) (A0 : Option Addr) (c0 : Nat) (l0 : List (S53)) (r : Bool) (w : World) (hr0 : Kd.C k53 w A0 l0.length l0) (hc0 : l0.length ≤ c0) (h : impl_GoodBinds.f k l0 = some r) :
  Calls Try.prog 30 #[.slice A0 l0.length c0] w fun e w' => e = .returned (.bool r) ∧ Below w.heap.size w w' := by
 have hu53 := Try.underlying53
 have HR0 := am_ hr0
 have HC0 := am_ hc0
 clear hr0 hc0
 have HB := am_ (Below.refl w.heap.size w)
 have H : (impl_GoodBinds.l0 k l0 l0 (l0.length : Int) 0) = some r := h
 clear h
 have H' := am_ H
 clear H
 go_enter Try.func30, Try.ntmps30
 go_wp2
 go_loopg [7] k (fun kq v7 w' => ∃ (x7_1 : Int), v7 = .int .i64 x7_1 ∧ Aside0 (impl_GoodBinds.l0 kq l0 l0 (l0.length : Int) x7_1 = some r) ∧ Aside0 (kq ≤ k) ∧ Aside0 (Below w.heap.size w w'))
 case atStart => exact ⟨(0), sq_, H', ⟨Nat.le_refl _⟩, ⟨bw_ HB.out⟩⟩
 case round =>
  clear H'
  obtain ⟨x7_1, rfl, HA, HK1, HB⟩ := hrel
  cases gk with
  | zero => exact absurd HA.out (by simp [impl_GoodBinds.l0])
  | succ k1 =>
   have H := HA.out
   clear HA
   simp only [impl_GoodBinds.l0] at H
   by_cases c2 : x7_1 < (l0.length : Int)
   ·rw [if_pos c2] at H
    have c2b0 : decide (x7_1 < (l0.length : Int)) = true := decide_eq_true c2
    clear c2
    obtain ⟨c3, H⟩ := ifn_ H
    have c3b0 : decide (0 ≤ x7_1) = true := decide_eq_true c3
    clear c3
    obtain ⟨c4, H⟩ := ifn_ H
    have c4b0 : decide (x7_1 < (l0.length : Int)) = true := decide_eq_true c4
    clear c4
    obtain ⟨t272, A50, H⟩ := bE_ H
    have A5 := am_ A50
    clear A50
    by_cases c6 : t272 = true
    ·subst c6
     replace H := it_ H rfl
     by_cases c7 : x7_1 > 0
     ·rw [if_pos c7] at H
      have c7b0 : decide (0 < x7_1) = true := decide_eq_true c7
      clear c7
      obtain ⟨ji8, hji8⟩ : ∃ j_ : Int, (wrap64 (x7_1 - 1)) = j_ := ⟨_, rfl⟩
      replace H : (if 0 ≤ (ji8) then (if (ji8) < (l0.length : Int) then (if ((Op.bytesLess (((rd_T53 l0 (ji8)).f0).toList) (((rd_T53 l0 x7_1).f0).toList)) = true) then ((impl_isChord.f k1 ((rd_T53 l0 x7_1).f1)).bind fun t274 => (if t274 = true then ((impl_chordPlace.f k1 l0 ((rd_T53 l0 x7_1).f1)).bind fun t275 => (if t275 = x7_1 then (impl_GoodBinds.l0 k1 l0 l0 (l0.length : Int) (wrap64 (x7_1 + 1))) else (some false))) else (some false))) else (some false)) else (none)) else (none)) = some r := by first | (rw [hji8] at H; exact H) | (simp only [hji8] at H ⊢; exact H)
      (try rw [hji8] at A5)
      have hji8w : (IntKind.i64.wrap (x7_1 - 1)) = ji8 := (i64_w _).trans hji8
      obtain ⟨c9, H⟩ := ifn_ H
      have c9b0 : decide (0 ≤ (ji8)) = true := decide_eq_true c9
      clear c9
      obtain ⟨c10, H⟩ := ifn_ H
      have c10b0 : decide ((ji8) < (l0.length : Int)) = true := decide_eq_true c10
      clear c10
      by_cases c11 : ((Op.bytesLess (((rd_T53 l0 (ji8)).f0).toList) (((rd_T53 l0 x7_1).f0).toList)) = true)
      ·rw [if_pos c11] at H
       have c11b0 : (Op.bytesLess (((rd_T53 l0 (ji8)).f0).toList) (((rd_T53 l0 x7_1).f0).toList)) = true := c11
       clear c11
       obtain ⟨t274, A120, H⟩ := bE_ H
       have A12 := am_ A120
       clear A120
       by_cases c13 : t274 = true
       ·subst c13
        replace H := it_ H rfl
        obtain ⟨t275, A140, H⟩ := bE_ H
        have A14 := am_ A140
        clear A140
        by_cases c15 : t275 = x7_1
        ·rw [if_pos c15] at H
         have c15b0 : (t275 == x7_1) = true := beq_iff_eq.mpr c15
         have c15b1 : (t275 != x7_1) = false := bne_eq_false_iff_eq.mpr c15
         clear c15
         have H' := am_ H
         clear H
         have p270 : 0 ≤ (x7_1 : Int) := od_
         have q270 : x7_1 < (l0.length : Int) := od_
         obtain ⟨ad270, A270_1, c270_1, e270, hx270_0, hx270_1, hl270_1, hi270_1⟩ := at_T53 HR0.out x7_1 p270 q270
         cases e270
         (try replace hx270_0 := hc_ HB.out hx270_0)
         (try replace hx270_1 := hc_ HB.out hx270_1)
         have HR270_1 := am_ hi270_1
         have HC270_1 := am_ hl270_1
         clear hi270_1 hl270_1
         replace p270 := eq_true p270
         replace q270 := eq_true q270
         try go_wp2_with (first | ((with_reducible refine gate_dst (N := 4) rfl ?_); refine bx_ 4 #[.string (⟨#[]⟩ : ByteArray), .slice none 0 0] 53 ?_; intro gb271 hg w16 hbox hb; have n0_ := am_ (below_step (bw_ HB.out) hb); have n1_ := am_ (hbox); have n2_ := am_ (gs_ hg (bw_ HB.out)); have n3_ := am_ (gs_ hg (bw_ HB.out)); replace HB := n0_; have BK271 := n1_; have GW271 := n2_; have GE271 := n3_; clear n0_ n1_ n2_ n3_; clear hb hbox hg; have hcz17_0 := cz_ BK271.out 0; have hcz17_1 := cz_ BK271.out 1; have hfz17_0 := blk_frozen BK271.out 0; have hfz17_1 := blk_frozen BK271.out 1))
         have n0_ : Aside0 (((w16.setCell ⟨gb271, 0, none⟩ (.string ((rd_T53 l0 x7_1).f0))).setCell ⟨gb271, 1, none⟩ (.slice A270_1 ((rd_T53 l0 x7_1).f1).length c270_1)).heap[gb271]? = some (.cells #[.string ((rd_T53 l0 x7_1).f0), .slice A270_1 ((rd_T53 l0 x7_1).f1).length c270_1] 53 (0, 0))) := ⟨by (with_reducible repeat (first | refine blk_drewN ?_ _ | refine blk_drew ?_ | refine blk_alloc ?_ _)); refine blk_put (cs := #[.string ((rd_T53 l0 x7_1).f0), .slice none 0 0]) ?_ 1 _ rfl; (with_reducible repeat (first | refine blk_drewN ?_ _ | refine blk_drew ?_ | refine blk_alloc ?_ _)); refine blk_put (cs := #[.string (⟨#[]⟩ : ByteArray), .slice none 0 0]) ?_ 0 _ rfl; (with_reducible repeat (first | refine blk_drewN ?_ _ | refine blk_drew ?_ | refine blk_alloc ?_ _)); exact BK271.out⟩
         have n1_ : Aside0 (Below w.heap.size w ((w16.setCell ⟨gb271, 0, none⟩ (.string ((rd_T53 l0 x7_1).f0))).setCell ⟨gb271, 1, none⟩ (.slice A270_1 ((rd_T53 l0 x7_1).f1).length c270_1))) := ⟨bw_ HB.out⟩
         (try clear BK271)
         (try clear HB)
         generalize ((w16.setCell ⟨gb271, 0, none⟩ (.string ((rd_T53 l0 x7_1).f0))).setCell ⟨gb271, 1, none⟩ (.slice A270_1 ((rd_T53 l0 x7_1).f1).length c270_1)) = w18 at n0_ n1_ ⊢
         have BK271 := n0_
         have HB := n1_
         clear n0_ n1_
         have n0_ := am_ (blk_drew BK271.out)
         have n1_ := am_ (below_drew1 HB.out)
         replace BK271 := n0_
         replace HB := n1_
         clear n0_ n1_
         have p273 : 0 ≤ ((ji8) : Int) := od_
         have q273 : (ji8) < (l0.length : Int) := od_
         obtain ⟨ad273, A273_1, c273_1, e273, hx273_0, hx273_1, hl273_1, hi273_1⟩ := at_T53 HR0.out (ji8) p273 q273
         have hw273_1 := hx273_1
         have hw273_0 := hx273_0
         obtain rfl : ad270 = ad273 := (by injection e273)
         (try replace hx273_0 := hc_ HB.out hx273_0)
         (try replace hx273_1 := hc_ HB.out hx273_1)
         have HR273_1 := am_ hi273_1
         have HC273_1 := am_ hl273_1
         clear hi273_1 hl273_1
         replace p273 := eq_true p273
         replace q273 := eq_true q273
         refine start_ (n := 33) (S := fun w' => w'.cell? ⟨gb271, 0, none⟩ = some (.string ((rd_T53 l0 x7_1).f0)) ∧ w'.cell? ⟨gb271, 1, none⟩ = some (.slice A270_1 ((rd_T53 l0 x7_1).f1).length c270_1) ∧ w'.cell? (ad270.add (((ji8)).toNat * 2)) = some (.string ((rd_T53 l0 (ji8)).f0)) ∧ w'.cell? ⟨(ad270.add (((ji8)).toNat * 2)).block, (ad270.add (((ji8)).toNat * 2)).off + 1, none⟩ = some (.slice A273_1 ((rd_T53 l0 (ji8)).f1).length c273_1)) (ds := []) (Array.replicate 33 false) (by kernel_rfl) rfl rfl ⟨cz_ BK271.out 0, cz_ BK271.out 1, ((HB.out.cell (World.block_lt_of_cell? w _ hw273_0)).trans hw273_0), ((HB.out.cell (World.block_lt_of_cell? w _ hw273_1)).trans hw273_1)⟩ (fun hHeld => ?_); refine with_tabW impl_GoodBinds.tab4 impl_GoodBinds.bits4 (fun HT_ HW_ => ?_)
         generalize w18.drew = w19 at BK271 HB HR273_1 hx273_0 hx273_1 hHeld ⊢
         refine pS_ 0 12 HT_ ?_
         refine tS_ 1 13 HT_ HW_ hHeld ?_
         refine oS_ 2 14 HT_ (fun K hK => ?_)
         refine goes_ Try.func31 (by kernel_rfl) rfl #[.string ((rd_T53 l0 x7_1).f0)] (by rfl) rfl rfl (by (try simp only [List.map_toArray, List.map_cons, List.map_nil]); first | done | rfl | (simp only [List.length_drop, List.length_take]; rfl)) ?_
         with_reducible refine (impl_GoodName.calls k1 ((rd_T53 l0 x7_1).f0) true _ A5.out).mono ?_
         rintro e w' ⟨rfl, ⟨nd, rfl⟩⟩
         refine ⟨_, rfl, ?_⟩
         refine hK.out _ _ ⟨cz_ BK271.out 0, cz_ BK271.out 1, ((HB.out.cell (World.block_lt_of_cell? w _ hw273_0)).trans hw273_0), ((HB.out.cell (World.block_lt_of_cell? w _ hw273_1)).trans hw273_1)⟩ (fun hHeld => ?_)
         clear hK K
         refine nD_ 14 ?_
         refine pS_ 3 15 HT_ ?_
         refine pS_ 4 16 HT_ ?_
         refine pS_ 5 17 HT_ ?_
         refine pS_ 6 18 HT_ ?_
         refine pS_ 7 19 HT_ ?_
         refine pS_ 8 20 HT_ ?_
         refine pS_ 9 21 HT_ ?_
         refine pS_ 10 22 HT_ ?_
         refine pS_ 11 23 HT_ ?_
         refine pS_ 12 24 HT_ ?_
         refine pS_ 14 26 HT_ ?_
         refine tS_ 13 25 HT_ HW_ hHeld ?_
         refine tS_ 15 27 HT_ HW_ hHeld ?_
         refine pS_ 16 28 HT_ ?_
         refine pS_ 17 29 HT_ ?_
         refine pS_ 18 30 HT_ ?_
         refine pS_ 19 31 HT_ ?_
         refine pS_ 20 32 HT_ ?_
         refine tS_ 21 33 HT_ HW_ hHeld ?_
         refine oS_ 22 34 HT_ (fun K hK => ?_)
         refine goes_ Try.func32 (by kernel_rfl) rfl #[.slice A270_1 ((rd_T53 l0 x7_1).f1).length c270_1] (by rfl) rfl rfl (by (try simp only [List.map_toArray, List.map_cons, List.map_nil]); first | done | rfl | (simp only [List.length_drop, List.length_take]; rfl)) ?_
         with_reducible refine (impl_isChord.calls k1 _ _ ((rd_T53 l0 x7_1).f1) true _ ?side1 ?side2 A12.out).mono ?_
         (case side1 => repeat (first | exact (Kd.C_below HR270_1.out (bw_ HB.out)) | (with_reducible refine Kd.C_alloc ?_ _) | (with_reducible refine Kd.C_drewN ?_ _) | (with_reducible refine Kd.C_drew ?_)))
         (case side2 => exact HC270_1.out)
         rintro e w' ⟨rfl, ⟨nd, rfl⟩⟩
         refine ⟨_, rfl, ?_⟩
         refine hK.out _ _ ⟨cz_ BK271.out 0, cz_ BK271.out 1, ((HB.out.cell (World.block_lt_of_cell? w _ hw273_0)).trans hw273_0), ((HB.out.cell (World.block_lt_of_cell? w _ hw273_1)).trans hw273_1)⟩ (fun hHeld => ?_)
         clear hK K
         refine nD_ 34 ?_
         refine pS_ 23 35 HT_ ?_
         refine pS_ 24 36 HT_ ?_
         refine pS_ 25 37 HT_ ?_
         refine pS_ 26 38 HT_ ?_
         refine pS_ 27 39 HT_ ?_
         refine pS_ 30 42 HT_ ?_
         refine tS_ 28 40 HT_ HW_ hHeld ?_
         refine oS_ 29 41 HT_ (fun K hK => ?_)
         refine goes_ Try.func54 (by kernel_rfl) rfl #[.slice (some ad270) l0.length c0, .slice A270_1 ((rd_T53 l0 x7_1).f1).length c270_1] (by rfl) rfl rfl (by (try simp only [List.map_toArray, List.map_cons, List.map_nil]); first | done | rfl | (simp only [List.length_drop, List.length_take]; rfl)) ?_
         with_reducible refine (impl_chordPlace.calls k1 _ _ l0 _ _ ((rd_T53 l0 x7_1).f1) t275 _ ?side1 ?side2 ?side3 ?side4 A14.out).mono ?_
         (case side1 => repeat (first | exact (Kd.C_below HR0.out (bw_ HB.out)) | (with_reducible refine Kd.C_alloc ?_ _) | (with_reducible refine Kd.C_drewN ?_ _) | (with_reducible refine Kd.C_drew ?_)))
         (case side2 => exact HC0.out)
         (case side3 => repeat (first | exact (Kd.C_below HR270_1.out (bw_ HB.out)) | (with_reducible refine Kd.C_alloc ?_ _) | (with_reducible refine Kd.C_drewN ?_ _) | (with_reducible refine Kd.C_drew ?_)))
         (case side4 => exact HC270_1.out)
         rintro e w20 ⟨rfl, hb⟩
         refine ⟨_, rfl, ?_⟩
         have n0_ := am_ (blk_below (bk_ BK271.out) hb)
         have n1_ := am_ (below_step (bw_ HB.out) hb)
         replace BK271 := n0_
         replace HB := n1_
         clear n0_ n1_
         (try clear hb)
         (try clear hb2)
         (try clear hk)
         (try clear hi)
         refine hK.out _ _ ⟨cz_ BK271.out 0, cz_ BK271.out 1, ((HB.out.cell (World.block_lt_of_cell? w _ hw273_0)).trans hw273_0), ((HB.out.cell (World.block_lt_of_cell? w _ hw273_1)).trans hw273_1)⟩ (fun hHeld => ?_)
         clear hK K
         refine nD_ 41 ?_
         refine pS_ 31 43 HT_ ?_
         refine pS_ 32 44 HT_ ?_
         refine done_ (done_of HT_.out (by kernel_rfl)) ?_
         try go_wp2
         go_roundg k1
         case measure => have := HK1.out; omega
         case rel => exact ⟨(wrap64 (x7_1 + 1)), sq_, H', ⟨by have := HK1.out; omega⟩, ⟨bw_ HB.out⟩⟩
        ·rw [if_neg c15] at H
         have c15b0 : (t275 == x7_1) = false := beq_eq_false_iff_ne.mpr c15
         have c15b1 : (t275 != x7_1) = true := bne_iff_ne.mpr c15
         obtain rfl := Option.some.inj H
         have p270 : 0 ≤ (x7_1 : Int) := od_
         have q270 : x7_1 < (l0.length : Int) := od_
         obtain ⟨ad270, A270_1, c270_1, e270, hx270_0, hx270_1, hl270_1, hi270_1⟩ := at_T53 HR0.out x7_1 p270 q270
         cases e270
         (try replace hx270_0 := hc_ HB.out hx270_0)
         (try replace hx270_1 := hc_ HB.out hx270_1)
         have HR270_1 := am_ hi270_1
         have HC270_1 := am_ hl270_1
         clear hi270_1 hl270_1
         replace p270 := eq_true p270
         replace q270 := eq_true q270
         try go_wp2_with (first | ((with_reducible refine gate_dst (N := 4) rfl ?_); refine bx_ 4 #[.string (⟨#[]⟩ : ByteArray), .slice none 0 0] 53 ?_; intro gb271 hg w21 hbox hb; have n0_ := am_ (below_step (bw_ HB.out) hb); have n1_ := am_ (hbox); have n2_ := am_ (gs_ hg (bw_ HB.out)); have n3_ := am_ (gs_ hg (bw_ HB.out)); replace HB := n0_; have BK271 := n1_; have GW271 := n2_; have GE271 := n3_; clear n0_ n1_ n2_ n3_; clear hb hbox hg; have hcz22_0 := cz_ BK271.out 0; have hcz22_1 := cz_ BK271.out 1; have hfz22_0 := blk_frozen BK271.out 0; have hfz22_1 := blk_frozen BK271.out 1))
         have n0_ : Aside0 (((w21.setCell ⟨gb271, 0, none⟩ (.string ((rd_T53 l0 x7_1).f0))).setCell ⟨gb271, 1, none⟩ (.slice A270_1 ((rd_T53 l0 x7_1).f1).length c270_1)).heap[gb271]? = some (.cells #[.string ((rd_T53 l0 x7_1).f0), .slice A270_1 ((rd_T53 l0 x7_1).f1).length c270_1] 53 (0, 0))) := ⟨by (with_reducible repeat (first | refine blk_drewN ?_ _ | refine blk_drew ?_ | refine blk_alloc ?_ _)); refine blk_put (cs := #[.string ((rd_T53 l0 x7_1).f0), .slice none 0 0]) ?_ 1 _ rfl; (with_reducible repeat (first | refine blk_drewN ?_ _ | refine blk_drew ?_ | refine blk_alloc ?_ _)); refine blk_put (cs := #[.string (⟨#[]⟩ : ByteArray), .slice none 0 0]) ?_ 0 _ rfl; (with_reducible repeat (first | refine blk_drewN ?_ _ | refine blk_drew ?_ | refine blk_alloc ?_ _)); exact BK271.out⟩
         have n1_ : Aside0 (Below w.heap.size w ((w21.setCell ⟨gb271, 0, none⟩ (.string ((rd_T53 l0 x7_1).f0))).setCell ⟨gb271, 1, none⟩ (.slice A270_1 ((rd_T53 l0 x7_1).f1).length c270_1))) := ⟨bw_ HB.out⟩
         (try clear BK271)
         (try clear HB)
         generalize ((w21.setCell ⟨gb271, 0, none⟩ (.string ((rd_T53 l0 x7_1).f0))).setCell ⟨gb271, 1, none⟩ (.slice A270_1 ((rd_T53 l0 x7_1).f1).length c270_1)) = w23 at n0_ n1_ ⊢
         have BK271 := n0_
         have HB := n1_
         clear n0_ n1_
         have n0_ := am_ (blk_drew BK271.out)
         have n1_ := am_ (below_drew1 HB.out)
         replace BK271 := n0_
         replace HB := n1_
         clear n0_ n1_
         have p273 : 0 ≤ ((ji8) : Int) := od_
         have q273 : (ji8) < (l0.length : Int) := od_
         obtain ⟨ad273, A273_1, c273_1, e273, hx273_0, hx273_1, hl273_1, hi273_1⟩ := at_T53 HR0.out (ji8) p273 q273
         have hw273_1 := hx273_1
         have hw273_0 := hx273_0
         obtain rfl : ad270 = ad273 := (by injection e273)
         (try replace hx273_0 := hc_ HB.out hx273_0)
         (try replace hx273_1 := hc_ HB.out hx273_1)
         have HR273_1 := am_ hi273_1
         have HC273_1 := am_ hl273_1
         clear hi273_1 hl273_1
         replace p273 := eq_true p273
         replace q273 := eq_true q273
         refine start_ (n := 33) (S := fun w' => w'.cell? ⟨gb271, 0, none⟩ = some (.string ((rd_T53 l0 x7_1).f0)) ∧ w'.cell? ⟨gb271, 1, none⟩ = some (.slice A270_1 ((rd_T53 l0 x7_1).f1).length c270_1) ∧ w'.cell? (ad270.add (((ji8)).toNat * 2)) = some (.string ((rd_T53 l0 (ji8)).f0)) ∧ w'.cell? ⟨(ad270.add (((ji8)).toNat * 2)).block, (ad270.add (((ji8)).toNat * 2)).off + 1, none⟩ = some (.slice A273_1 ((rd_T53 l0 (ji8)).f1).length c273_1)) (ds := []) (Array.replicate 33 false) (by kernel_rfl) rfl rfl ⟨cz_ BK271.out 0, cz_ BK271.out 1, ((HB.out.cell (World.block_lt_of_cell? w _ hw273_0)).trans hw273_0), ((HB.out.cell (World.block_lt_of_cell? w _ hw273_1)).trans hw273_1)⟩ (fun hHeld => ?_); refine with_tabW impl_GoodBinds.tab4 impl_GoodBinds.bits4 (fun HT_ HW_ => ?_)
         generalize w23.drew = w24 at BK271 HB HR273_1 hx273_0 hx273_1 hHeld ⊢
         refine pS_ 0 12 HT_ ?_
         refine tS_ 1 13 HT_ HW_ hHeld ?_
         refine oS_ 2 14 HT_ (fun K hK => ?_)
         refine goes_ Try.func31 (by kernel_rfl) rfl #[.string ((rd_T53 l0 x7_1).f0)] (by rfl) rfl rfl (by (try simp only [List.map_toArray, List.map_cons, List.map_nil]); first | done | rfl | (simp only [List.length_drop, List.length_take]; rfl)) ?_
         with_reducible refine (impl_GoodName.calls k1 ((rd_T53 l0 x7_1).f0) true _ A5.out).mono ?_
         rintro e w' ⟨rfl, ⟨nd, rfl⟩⟩
         refine ⟨_, rfl, ?_⟩
         refine hK.out _ _ ⟨cz_ BK271.out 0, cz_ BK271.out 1, ((HB.out.cell (World.block_lt_of_cell? w _ hw273_0)).trans hw273_0), ((HB.out.cell (World.block_lt_of_cell? w _ hw273_1)).trans hw273_1)⟩ (fun hHeld => ?_)
         clear hK K
         refine nD_ 14 ?_
         refine pS_ 3 15 HT_ ?_
         refine pS_ 4 16 HT_ ?_
         refine pS_ 5 17 HT_ ?_
         refine pS_ 6 18 HT_ ?_
         refine pS_ 7 19 HT_ ?_
         refine pS_ 8 20 HT_ ?_
         refine pS_ 9 21 HT_ ?_
         refine pS_ 10 22 HT_ ?_
         refine pS_ 11 23 HT_ ?_
         refine pS_ 12 24 HT_ ?_
         refine pS_ 14 26 HT_ ?_
         refine tS_ 13 25 HT_ HW_ hHeld ?_
         refine tS_ 15 27 HT_ HW_ hHeld ?_
         refine pS_ 16 28 HT_ ?_
         refine pS_ 17 29 HT_ ?_
         refine pS_ 18 30 HT_ ?_
         refine pS_ 19 31 HT_ ?_
         refine pS_ 20 32 HT_ ?_
         refine tS_ 21 33 HT_ HW_ hHeld ?_
         refine oS_ 22 34 HT_ (fun K hK => ?_)
         refine goes_ Try.func32 (by kernel_rfl) rfl #[.slice A270_1 ((rd_T53 l0 x7_1).f1).length c270_1] (by rfl) rfl rfl (by (try simp only [List.map_toArray, List.map_cons, List.map_nil]); first | done | rfl | (simp only [List.length_drop, List.length_take]; rfl)) ?_
         with_reducible refine (impl_isChord.calls k1 _ _ ((rd_T53 l0 x7_1).f1) true _ ?side1 ?side2 A12.out).mono ?_
         (case side1 => repeat (first | exact (Kd.C_below HR270_1.out (bw_ HB.out)) | (with_reducible refine Kd.C_alloc ?_ _) | (with_reducible refine Kd.C_drewN ?_ _) | (with_reducible refine Kd.C_drew ?_)))
         (case side2 => exact HC270_1.out)
         rintro e w' ⟨rfl, ⟨nd, rfl⟩⟩
         refine ⟨_, rfl, ?_⟩
         refine hK.out _ _ ⟨cz_ BK271.out 0, cz_ BK271.out 1, ((HB.out.cell (World.block_lt_of_cell? w _ hw273_0)).trans hw273_0), ((HB.out.cell (World.block_lt_of_cell? w _ hw273_1)).trans hw273_1)⟩ (fun hHeld => ?_)
         clear hK K
         refine nD_ 34 ?_
         refine pS_ 23 35 HT_ ?_
         refine pS_ 24 36 HT_ ?_
         refine pS_ 25 37 HT_ ?_
         refine pS_ 26 38 HT_ ?_
         refine pS_ 27 39 HT_ ?_
         refine pS_ 30 42 HT_ ?_
         refine tS_ 28 40 HT_ HW_ hHeld ?_
         refine oS_ 29 41 HT_ (fun K hK => ?_)
         refine goes_ Try.func54 (by kernel_rfl) rfl #[.slice (some ad270) l0.length c0, .slice A270_1 ((rd_T53 l0 x7_1).f1).length c270_1] (by rfl) rfl rfl (by (try simp only [List.map_toArray, List.map_cons, List.map_nil]); first | done | rfl | (simp only [List.length_drop, List.length_take]; rfl)) ?_
         with_reducible refine (impl_chordPlace.calls k1 _ _ l0 _ _ ((rd_T53 l0 x7_1).f1) t275 _ ?side1 ?side2 ?side3 ?side4 A14.out).mono ?_
         (case side1 => repeat (first | exact (Kd.C_below HR0.out (bw_ HB.out)) | (with_reducible refine Kd.C_alloc ?_ _) | (with_reducible refine Kd.C_drewN ?_ _) | (with_reducible refine Kd.C_drew ?_)))
         (case side2 => exact HC0.out)
         (case side3 => repeat (first | exact (Kd.C_below HR270_1.out (bw_ HB.out)) | (with_reducible refine Kd.C_alloc ?_ _) | (with_reducible refine Kd.C_drewN ?_ _) | (with_reducible refine Kd.C_drew ?_)))
         (case side4 => exact HC270_1.out)
         rintro e w25 ⟨rfl, hb⟩
         refine ⟨_, rfl, ?_⟩
         have n0_ := am_ (blk_below (bk_ BK271.out) hb)
         have n1_ := am_ (below_step (bw_ HB.out) hb)
         replace BK271 := n0_
         replace HB := n1_
         clear n0_ n1_
         (try clear hb)
         (try clear hb2)
         (try clear hk)
         (try clear hi)
         refine hK.out _ _ ⟨cz_ BK271.out 0, cz_ BK271.out 1, ((HB.out.cell (World.block_lt_of_cell? w _ hw273_0)).trans hw273_0), ((HB.out.cell (World.block_lt_of_cell? w _ hw273_1)).trans hw273_1)⟩ (fun hHeld => ?_)
         clear hK K
         refine nD_ 41 ?_
         refine pS_ 31 43 HT_ ?_
         refine pS_ 32 44 HT_ ?_
         refine done_ (done_of HT_.out (by kernel_rfl)) ?_
         try go_wp2
         go_ret
         exact ⟨by first | rfl | (simp [errW_none, errW_some] <;> rfl) | (simp only [← hji8]; first | rfl | (simp [errW_none, errW_some] <;> rfl)) | (simp [*, errW_none, errW_some] <;> rfl), bw_ HB.out⟩
       ·replace c13 := Bool.eq_false_iff.mpr c13
        subst c13
        replace H := if_ H Bool.false_ne_true
        obtain rfl := Option.some.inj H
        have p270 : 0 ≤ (x7_1 : Int) := od_
        have q270 : x7_1 < (l0.length : Int) := od_
        obtain ⟨ad270, A270_1, c270_1, e270, hx270_0, hx270_1, hl270_1, hi270_1⟩ := at_T53 HR0.out x7_1 p270 q270
        cases e270
        (try replace hx270_0 := hc_ HB.out hx270_0)
        (try replace hx270_1 := hc_ HB.out hx270_1)
        have HR270_1 := am_ hi270_1
        have HC270_1 := am_ hl270_1
        clear hi270_1 hl270_1
        replace p270 := eq_true p270
        replace q270 := eq_true q270
        try go_wp2_with (first | ((with_reducible refine gate_dst (N := 4) rfl ?_); refine bx_ 4 #[.string (⟨#[]⟩ : ByteArray), .slice none 0 0] 53 ?_; intro gb271 hg w26 hbox hb; have n0_ := am_ (below_step (bw_ HB.out) hb); have n1_ := am_ (hbox); have n2_ := am_ (gs_ hg (bw_ HB.out)); have n3_ := am_ (gs_ hg (bw_ HB.out)); replace HB := n0_; have BK271 := n1_; have GW271 := n2_; have GE271 := n3_; clear n0_ n1_ n2_ n3_; clear hb hbox hg; have hcz27_0 := cz_ BK271.out 0; have hcz27_1 := cz_ BK271.out 1; have hfz27_0 := blk_frozen BK271.out 0; have hfz27_1 := blk_frozen BK271.out 1))
        have n0_ : Aside0 (((w26.setCell ⟨gb271, 0, none⟩ (.string ((rd_T53 l0 x7_1).f0))).setCell ⟨gb271, 1, none⟩ (.slice A270_1 ((rd_T53 l0 x7_1).f1).length c270_1)).heap[gb271]? = some (.cells #[.string ((rd_T53 l0 x7_1).f0), .slice A270_1 ((rd_T53 l0 x7_1).f1).length c270_1] 53 (0, 0))) := ⟨by (with_reducible repeat (first | refine blk_drewN ?_ _ | refine blk_drew ?_ | refine blk_alloc ?_ _)); refine blk_put (cs := #[.string ((rd_T53 l0 x7_1).f0), .slice none 0 0]) ?_ 1 _ rfl; (with_reducible repeat (first | refine blk_drewN ?_ _ | refine blk_drew ?_ | refine blk_alloc ?_ _)); refine blk_put (cs := #[.string (⟨#[]⟩ : ByteArray), .slice none 0 0]) ?_ 0 _ rfl; (with_reducible repeat (first | refine blk_drewN ?_ _ | refine blk_drew ?_ | refine blk_alloc ?_ _)); exact BK271.out⟩
        have n1_ : Aside0 (Below w.heap.size w ((w26.setCell ⟨gb271, 0, none⟩ (.string ((rd_T53 l0 x7_1).f0))).setCell ⟨gb271, 1, none⟩ (.slice A270_1 ((rd_T53 l0 x7_1).f1).length c270_1))) := ⟨bw_ HB.out⟩
        (try clear BK271)
        (try clear HB)
        generalize ((w26.setCell ⟨gb271, 0, none⟩ (.string ((rd_T53 l0 x7_1).f0))).setCell ⟨gb271, 1, none⟩ (.slice A270_1 ((rd_T53 l0 x7_1).f1).length c270_1)) = w28 at n0_ n1_ ⊢
        have BK271 := n0_
        have HB := n1_
        clear n0_ n1_
        have n0_ := am_ (blk_drew BK271.out)
        have n1_ := am_ (below_drew1 HB.out)
        replace BK271 := n0_
        replace HB := n1_
        clear n0_ n1_
        have p273 : 0 ≤ ((ji8) : Int) := od_
        have q273 : (ji8) < (l0.length : Int) := od_
        obtain ⟨ad273, A273_1, c273_1, e273, hx273_0, hx273_1, hl273_1, hi273_1⟩ := at_T53 HR0.out (ji8) p273 q273
        have hw273_1 := hx273_1
        have hw273_0 := hx273_0
        obtain rfl : ad270 = ad273 := (by injection e273)
        (try replace hx273_0 := hc_ HB.out hx273_0)
        (try replace hx273_1 := hc_ HB.out hx273_1)
        have HR273_1 := am_ hi273_1
        have HC273_1 := am_ hl273_1
        clear hi273_1 hl273_1
        replace p273 := eq_true p273
        replace q273 := eq_true q273
        refine start_ (n := 33) (S := fun w' => w'.cell? ⟨gb271, 0, none⟩ = some (.string ((rd_T53 l0 x7_1).f0)) ∧ w'.cell? ⟨gb271, 1, none⟩ = some (.slice A270_1 ((rd_T53 l0 x7_1).f1).length c270_1) ∧ w'.cell? (ad270.add (((ji8)).toNat * 2)) = some (.string ((rd_T53 l0 (ji8)).f0)) ∧ w'.cell? ⟨(ad270.add (((ji8)).toNat * 2)).block, (ad270.add (((ji8)).toNat * 2)).off + 1, none⟩ = some (.slice A273_1 ((rd_T53 l0 (ji8)).f1).length c273_1)) (ds := []) (Array.replicate 33 false) (by kernel_rfl) rfl rfl ⟨cz_ BK271.out 0, cz_ BK271.out 1, ((HB.out.cell (World.block_lt_of_cell? w _ hw273_0)).trans hw273_0), ((HB.out.cell (World.block_lt_of_cell? w _ hw273_1)).trans hw273_1)⟩ (fun hHeld => ?_); refine with_tabW impl_GoodBinds.tab4 impl_GoodBinds.bits4 (fun HT_ HW_ => ?_)
        generalize w28.drew = w29 at BK271 HB HR273_1 hx273_0 hx273_1 hHeld ⊢
        refine pS_ 0 12 HT_ ?_
        refine tS_ 1 13 HT_ HW_ hHeld ?_
        refine oS_ 2 14 HT_ (fun K hK => ?_)
        refine goes_ Try.func31 (by kernel_rfl) rfl #[.string ((rd_T53 l0 x7_1).f0)] (by rfl) rfl rfl (by (try simp only [List.map_toArray, List.map_cons, List.map_nil]); first | done | rfl | (simp only [List.length_drop, List.length_take]; rfl)) ?_
        with_reducible refine (impl_GoodName.calls k1 ((rd_T53 l0 x7_1).f0) true _ A5.out).mono ?_
        rintro e w' ⟨rfl, ⟨nd, rfl⟩⟩
        refine ⟨_, rfl, ?_⟩
        refine hK.out _ _ ⟨cz_ BK271.out 0, cz_ BK271.out 1, ((HB.out.cell (World.block_lt_of_cell? w _ hw273_0)).trans hw273_0), ((HB.out.cell (World.block_lt_of_cell? w _ hw273_1)).trans hw273_1)⟩ (fun hHeld => ?_)
        clear hK K
        refine nD_ 14 ?_
        refine pS_ 3 15 HT_ ?_
        refine pS_ 4 16 HT_ ?_
        refine pS_ 5 17 HT_ ?_
        refine pS_ 6 18 HT_ ?_
        refine pS_ 7 19 HT_ ?_
        refine pS_ 8 20 HT_ ?_
        refine pS_ 9 21 HT_ ?_
        refine pS_ 10 22 HT_ ?_
        refine pS_ 11 23 HT_ ?_
        refine pS_ 12 24 HT_ ?_
        refine pS_ 14 26 HT_ ?_
        refine tS_ 13 25 HT_ HW_ hHeld ?_
        refine tS_ 15 27 HT_ HW_ hHeld ?_
        refine pS_ 16 28 HT_ ?_
        refine pS_ 17 29 HT_ ?_
        refine pS_ 18 30 HT_ ?_
        refine pS_ 19 31 HT_ ?_
        refine pS_ 20 32 HT_ ?_
        refine tS_ 21 33 HT_ HW_ hHeld ?_
        refine oS_ 22 34 HT_ (fun K hK => ?_)
        refine goes_ Try.func32 (by kernel_rfl) rfl #[.slice A270_1 ((rd_T53 l0 x7_1).f1).length c270_1] (by rfl) rfl rfl (by (try simp only [List.map_toArray, List.map_cons, List.map_nil]); first | done | rfl | (simp only [List.length_drop, List.length_take]; rfl)) ?_
        with_reducible refine (impl_isChord.calls k1 _ _ ((rd_T53 l0 x7_1).f1) false _ ?side1 ?side2 A12.out).mono ?_
        (case side1 => repeat (first | exact (Kd.C_below HR270_1.out (bw_ HB.out)) | (with_reducible refine Kd.C_alloc ?_ _) | (with_reducible refine Kd.C_drewN ?_ _) | (with_reducible refine Kd.C_drew ?_)))
        (case side2 => exact HC270_1.out)
        rintro e w' ⟨rfl, ⟨nd, rfl⟩⟩
        refine ⟨_, rfl, ?_⟩
        refine hK.out _ _ ⟨cz_ BK271.out 0, cz_ BK271.out 1, ((HB.out.cell (World.block_lt_of_cell? w _ hw273_0)).trans hw273_0), ((HB.out.cell (World.block_lt_of_cell? w _ hw273_1)).trans hw273_1)⟩ (fun hHeld => ?_)
        clear hK K
        refine nD_ 34 ?_
        refine pS_ 23 35 HT_ ?_
        refine pS_ 24 36 HT_ ?_
        refine pS_ 25 37 HT_ ?_
        refine pU_ 26 38 HT_ ?_
        refine pU_ 27 39 HT_ ?_
        refine pU_ 28 40 HT_ ?_
        refine pU_ 29 41 HT_ ?_
        refine pU_ 30 42 HT_ ?_
        refine pU_ 31 43 HT_ ?_
        refine pS_ 32 44 HT_ ?_
        refine done_ (done_of HT_.out (by kernel_rfl)) ?_
        try go_wp2
        go_ret
        exact ⟨by first | rfl | (simp [errW_none, errW_some] <;> rfl) | (simp only [← hji8]; first | rfl | (simp [errW_none, errW_some] <;> rfl)) | (simp [*, errW_none, errW_some] <;> rfl), bw_ HB.out⟩
      ·rw [if_neg c11] at H
       have c11b0 : (Op.bytesLess (((rd_T53 l0 (ji8)).f0).toList) (((rd_T53 l0 x7_1).f0).toList)) = false := by simpa using c11
       clear c11
       obtain rfl := Option.some.inj H
       have p270 : 0 ≤ (x7_1 : Int) := od_
       have q270 : x7_1 < (l0.length : Int) := od_
       obtain ⟨ad270, A270_1, c270_1, e270, hx270_0, hx270_1, hl270_1, hi270_1⟩ := at_T53 HR0.out x7_1 p270 q270
       cases e270
       (try replace hx270_0 := hc_ HB.out hx270_0)
       (try replace hx270_1 := hc_ HB.out hx270_1)
       have HR270_1 := am_ hi270_1
       have HC270_1 := am_ hl270_1
       clear hi270_1 hl270_1
       replace p270 := eq_true p270
       replace q270 := eq_true q270
       try go_wp2_with (first | ((with_reducible refine gate_dst (N := 4) rfl ?_); refine bx_ 4 #[.string (⟨#[]⟩ : ByteArray), .slice none 0 0] 53 ?_; intro gb271 hg w30 hbox hb; have n0_ := am_ (below_step (bw_ HB.out) hb); have n1_ := am_ (hbox); have n2_ := am_ (gs_ hg (bw_ HB.out)); have n3_ := am_ (gs_ hg (bw_ HB.out)); replace HB := n0_; have BK271 := n1_; have GW271 := n2_; have GE271 := n3_; clear n0_ n1_ n2_ n3_; clear hb hbox hg; have hcz31_0 := cz_ BK271.out 0; have hcz31_1 := cz_ BK271.out 1; have hfz31_0 := blk_frozen BK271.out 0; have hfz31_1 := blk_frozen BK271.out 1))
       have n0_ : Aside0 (((w30.setCell ⟨gb271, 0, none⟩ (.string ((rd_T53 l0 x7_1).f0))).setCell ⟨gb271, 1, none⟩ (.slice A270_1 ((rd_T53 l0 x7_1).f1).length c270_1)).heap[gb271]? = some (.cells #[.string ((rd_T53 l0 x7_1).f0), .slice A270_1 ((rd_T53 l0 x7_1).f1).length c270_1] 53 (0, 0))) := ⟨by (with_reducible repeat (first | refine blk_drewN ?_ _ | refine blk_drew ?_ | refine blk_alloc ?_ _)); refine blk_put (cs := #[.string ((rd_T53 l0 x7_1).f0), .slice none 0 0]) ?_ 1 _ rfl; (with_reducible repeat (first | refine blk_drewN ?_ _ | refine blk_drew ?_ | refine blk_alloc ?_ _)); refine blk_put (cs := #[.string (⟨#[]⟩ : ByteArray), .slice none 0 0]) ?_ 0 _ rfl; (with_reducible repeat (first | refine blk_drewN ?_ _ | refine blk_drew ?_ | refine blk_alloc ?_ _)); exact BK271.out⟩
       have n1_ : Aside0 (Below w.heap.size w ((w30.setCell ⟨gb271, 0, none⟩ (.string ((rd_T53 l0 x7_1).f0))).setCell ⟨gb271, 1, none⟩ (.slice A270_1 ((rd_T53 l0 x7_1).f1).length c270_1))) := ⟨bw_ HB.out⟩
       (try clear BK271)
       (try clear HB)
       generalize ((w30.setCell ⟨gb271, 0, none⟩ (.string ((rd_T53 l0 x7_1).f0))).setCell ⟨gb271, 1, none⟩ (.slice A270_1 ((rd_T53 l0 x7_1).f1).length c270_1)) = w32 at n0_ n1_ ⊢
       have BK271 := n0_
       have HB := n1_
       clear n0_ n1_
       have n0_ := am_ (blk_drew BK271.out)
       have n1_ := am_ (below_drew1 HB.out)
       replace BK271 := n0_
       replace HB := n1_
       clear n0_ n1_
       have p273 : 0 ≤ ((ji8) : Int) := od_
       have q273 : (ji8) < (l0.length : Int) := od_
       obtain ⟨ad273, A273_1, c273_1, e273, hx273_0, hx273_1, hl273_1, hi273_1⟩ := at_T53 HR0.out (ji8) p273 q273
       have hw273_1 := hx273_1
       have hw273_0 := hx273_0
       obtain rfl : ad270 = ad273 := (by injection e273)
       (try replace hx273_0 := hc_ HB.out hx273_0)
       (try replace hx273_1 := hc_ HB.out hx273_1)
       have HR273_1 := am_ hi273_1
       have HC273_1 := am_ hl273_1
       clear hi273_1 hl273_1
       replace p273 := eq_true p273
       replace q273 := eq_true q273
       refine start_ (n := 33) (S := fun w' => w'.cell? ⟨gb271, 0, none⟩ = some (.string ((rd_T53 l0 x7_1).f0)) ∧ w'.cell? ⟨gb271, 1, none⟩ = some (.slice A270_1 ((rd_T53 l0 x7_1).f1).length c270_1) ∧ w'.cell? (ad270.add (((ji8)).toNat * 2)) = some (.string ((rd_T53 l0 (ji8)).f0)) ∧ w'.cell? ⟨(ad270.add (((ji8)).toNat * 2)).block, (ad270.add (((ji8)).toNat * 2)).off + 1, none⟩ = some (.slice A273_1 ((rd_T53 l0 (ji8)).f1).length c273_1)) (ds := []) (Array.replicate 33 false) (by kernel_rfl) rfl rfl ⟨cz_ BK271.out 0, cz_ BK271.out 1, ((HB.out.cell (World.block_lt_of_cell? w _ hw273_0)).trans hw273_0), ((HB.out.cell (World.block_lt_of_cell? w _ hw273_1)).trans hw273_1)⟩ (fun hHeld => ?_); refine with_tabW impl_GoodBinds.tab4 impl_GoodBinds.bits4 (fun HT_ HW_ => ?_)
       generalize w32.drew = w33 at BK271 HB HR273_1 hx273_0 hx273_1 hHeld ⊢
       refine pS_ 0 12 HT_ ?_
       refine tS_ 1 13 HT_ HW_ hHeld ?_
       refine oS_ 2 14 HT_ (fun K hK => ?_)
       refine goes_ Try.func31 (by kernel_rfl) rfl #[.string ((rd_T53 l0 x7_1).f0)] (by rfl) rfl rfl (by (try simp only [List.map_toArray, List.map_cons, List.map_nil]); first | done | rfl | (simp only [List.length_drop, List.length_take]; rfl)) ?_
       with_reducible refine (impl_GoodName.calls k1 ((rd_T53 l0 x7_1).f0) true _ A5.out).mono ?_
       rintro e w' ⟨rfl, ⟨nd, rfl⟩⟩
       refine ⟨_, rfl, ?_⟩
       refine hK.out _ _ ⟨cz_ BK271.out 0, cz_ BK271.out 1, ((HB.out.cell (World.block_lt_of_cell? w _ hw273_0)).trans hw273_0), ((HB.out.cell (World.block_lt_of_cell? w _ hw273_1)).trans hw273_1)⟩ (fun hHeld => ?_)
       clear hK K
       refine nD_ 14 ?_
       refine pS_ 3 15 HT_ ?_
       refine pS_ 4 16 HT_ ?_
       refine pS_ 5 17 HT_ ?_
       refine pS_ 6 18 HT_ ?_
       refine pS_ 7 19 HT_ ?_
       refine pS_ 8 20 HT_ ?_
       refine pS_ 9 21 HT_ ?_
       refine pS_ 10 22 HT_ ?_
       refine pS_ 11 23 HT_ ?_
       refine pS_ 12 24 HT_ ?_
       refine pS_ 14 26 HT_ ?_
       refine tS_ 13 25 HT_ HW_ hHeld ?_
       refine tS_ 15 27 HT_ HW_ hHeld ?_
       refine pS_ 16 28 HT_ ?_
       refine pS_ 17 29 HT_ ?_
       refine pS_ 18 30 HT_ ?_
       refine pS_ 19 31 HT_ ?_
       refine pU_ 20 32 HT_ ?_
       refine pU_ 21 33 HT_ ?_
       refine pU_ 22 34 HT_ ?_
       refine pU_ 23 35 HT_ ?_
       refine pS_ 24 36 HT_ ?_
       refine pS_ 25 37 HT_ ?_
       refine pU_ 26 38 HT_ ?_
       refine pU_ 27 39 HT_ ?_
       refine pU_ 28 40 HT_ ?_
       refine pU_ 29 41 HT_ ?_
       refine pU_ 30 42 HT_ ?_
       refine pU_ 31 43 HT_ ?_
       refine pS_ 32 44 HT_ ?_
       refine done_ (done_of HT_.out (by kernel_rfl)) ?_
       try go_wp2
       go_ret
       exact ⟨by first | rfl | (simp [errW_none, errW_some] <;> rfl) | (simp only [← hji8]; first | rfl | (simp [errW_none, errW_some] <;> rfl)) | (simp [*, errW_none, errW_some] <;> rfl), bw_ HB.out⟩
     ·rw [if_neg c7] at H
      have c7b0 : decide (0 < x7_1) = false := decide_eq_false c7
      clear c7
      obtain ⟨t276, A340, H⟩ := bE_ H
      have A34 := am_ A340
      clear A340
      by_cases c35 : t276 = true
      ·subst c35
       replace H := it_ H rfl
       obtain ⟨t277, A360, H⟩ := bE_ H
       have A36 := am_ A360
       clear A360
       by_cases c37 : t277 = x7_1
       ·rw [if_pos c37] at H
        have c37b0 : (t277 == x7_1) = true := beq_iff_eq.mpr c37
        have c37b1 : (t277 != x7_1) = false := bne_eq_false_iff_eq.mpr c37
        clear c37
        have H' := am_ H
        clear H
        have p270 : 0 ≤ (x7_1 : Int) := od_
        have q270 : x7_1 < (l0.length : Int) := od_
        obtain ⟨ad270, A270_1, c270_1, e270, hx270_0, hx270_1, hl270_1, hi270_1⟩ := at_T53 HR0.out x7_1 p270 q270
        cases e270
        (try replace hx270_0 := hc_ HB.out hx270_0)
        (try replace hx270_1 := hc_ HB.out hx270_1)
        have HR270_1 := am_ hi270_1
        have HC270_1 := am_ hl270_1
        clear hi270_1 hl270_1
        replace p270 := eq_true p270
        replace q270 := eq_true q270
        try go_wp2_with (first | ((with_reducible refine gate_dst (N := 4) rfl ?_); refine bx_ 4 #[.string (⟨#[]⟩ : ByteArray), .slice none 0 0] 53 ?_; intro gb271 hg w38 hbox hb; have n0_ := am_ (below_step (bw_ HB.out) hb); have n1_ := am_ (hbox); have n2_ := am_ (gs_ hg (bw_ HB.out)); have n3_ := am_ (gs_ hg (bw_ HB.out)); replace HB := n0_; have BK271 := n1_; have GW271 := n2_; have GE271 := n3_; clear n0_ n1_ n2_ n3_; clear hb hbox hg; have hcz39_0 := cz_ BK271.out 0; have hcz39_1 := cz_ BK271.out 1; have hfz39_0 := blk_frozen BK271.out 0; have hfz39_1 := blk_frozen BK271.out 1))
        have n0_ : Aside0 (((w38.setCell ⟨gb271, 0, none⟩ (.string ((rd_T53 l0 x7_1).f0))).setCell ⟨gb271, 1, none⟩ (.slice A270_1 ((rd_T53 l0 x7_1).f1).length c270_1)).heap[gb271]? = some (.cells #[.string ((rd_T53 l0 x7_1).f0), .slice A270_1 ((rd_T53 l0 x7_1).f1).length c270_1] 53 (0, 0))) := ⟨by (with_reducible repeat (first | refine blk_drewN ?_ _ | refine blk_drew ?_ | refine blk_alloc ?_ _)); refine blk_put (cs := #[.string ((rd_T53 l0 x7_1).f0), .slice none 0 0]) ?_ 1 _ rfl; (with_reducible repeat (first | refine blk_drewN ?_ _ | refine blk_drew ?_ | refine blk_alloc ?_ _)); refine blk_put (cs := #[.string (⟨#[]⟩ : ByteArray), .slice none 0 0]) ?_ 0 _ rfl; (with_reducible repeat (first | refine blk_drewN ?_ _ | refine blk_drew ?_ | refine blk_alloc ?_ _)); exact BK271.out⟩
        have n1_ : Aside0 (Below w.heap.size w ((w38.setCell ⟨gb271, 0, none⟩ (.string ((rd_T53 l0 x7_1).f0))).setCell ⟨gb271, 1, none⟩ (.slice A270_1 ((rd_T53 l0 x7_1).f1).length c270_1))) := ⟨bw_ HB.out⟩
        (try clear BK271)
        (try clear HB)
        generalize ((w38.setCell ⟨gb271, 0, none⟩ (.string ((rd_T53 l0 x7_1).f0))).setCell ⟨gb271, 1, none⟩ (.slice A270_1 ((rd_T53 l0 x7_1).f1).length c270_1)) = w40 at n0_ n1_ ⊢
        have BK271 := n0_
        have HB := n1_
        clear n0_ n1_
        have n0_ := am_ (blk_drew BK271.out)
        have n1_ := am_ (below_drew1 HB.out)
        replace BK271 := n0_
        replace HB := n1_
        clear n0_ n1_
        refine start_ (n := 33) (S := fun w' => w'.cell? ⟨gb271, 0, none⟩ = some (.string ((rd_T53 l0 x7_1).f0)) ∧ w'.cell? ⟨gb271, 1, none⟩ = some (.slice A270_1 ((rd_T53 l0 x7_1).f1).length c270_1)) (ds := []) (Array.replicate 33 false) (by kernel_rfl) rfl rfl ⟨cz_ BK271.out 0, cz_ BK271.out 1⟩ (fun hHeld => ?_); refine with_tabW impl_GoodBinds.tab4 impl_GoodBinds.bits4 (fun HT_ HW_ => ?_)
        generalize w40.drew = w41 at BK271 HB hHeld ⊢
        refine pS_ 0 12 HT_ ?_
        refine tS_ 1 13 HT_ HW_ hHeld ?_
        refine oS_ 2 14 HT_ (fun K hK => ?_)
        refine goes_ Try.func31 (by kernel_rfl) rfl #[.string ((rd_T53 l0 x7_1).f0)] (by rfl) rfl rfl (by (try simp only [List.map_toArray, List.map_cons, List.map_nil]); first | done | rfl | (simp only [List.length_drop, List.length_take]; rfl)) ?_
        with_reducible refine (impl_GoodName.calls k1 ((rd_T53 l0 x7_1).f0) true _ A5.out).mono ?_
        rintro e w' ⟨rfl, ⟨nd, rfl⟩⟩
        refine ⟨_, rfl, ?_⟩
        refine hK.out _ _ ⟨cz_ BK271.out 0, cz_ BK271.out 1⟩ (fun hHeld => ?_)
        clear hK K
        refine nD_ 14 ?_
        refine pS_ 3 15 HT_ ?_
        refine pS_ 4 16 HT_ ?_
        refine pS_ 5 17 HT_ ?_
        refine pS_ 6 18 HT_ ?_
        refine pS_ 7 19 HT_ ?_
        refine pU_ 8 20 HT_ ?_
        refine pU_ 9 21 HT_ ?_
        refine pU_ 10 22 HT_ ?_
        refine pU_ 11 23 HT_ ?_
        refine pU_ 12 24 HT_ ?_
        refine pU_ 13 25 HT_ ?_
        refine pU_ 14 26 HT_ ?_
        refine pU_ 15 27 HT_ ?_
        refine pU_ 16 28 HT_ ?_
        refine pS_ 17 29 HT_ ?_
        refine pS_ 18 30 HT_ ?_
        refine pS_ 19 31 HT_ ?_
        refine pS_ 20 32 HT_ ?_
        refine tS_ 21 33 HT_ HW_ hHeld ?_
        refine oS_ 22 34 HT_ (fun K hK => ?_)
        refine goes_ Try.func32 (by kernel_rfl) rfl #[.slice A270_1 ((rd_T53 l0 x7_1).f1).length c270_1] (by rfl) rfl rfl (by (try simp only [List.map_toArray, List.map_cons, List.map_nil]); first | done | rfl | (simp only [List.length_drop, List.length_take]; rfl)) ?_
        with_reducible refine (impl_isChord.calls k1 _ _ ((rd_T53 l0 x7_1).f1) true _ ?side1 ?side2 A34.out).mono ?_
        (case side1 => repeat (first | exact (Kd.C_below HR270_1.out (bw_ HB.out)) | (with_reducible refine Kd.C_alloc ?_ _) | (with_reducible refine Kd.C_drewN ?_ _) | (with_reducible refine Kd.C_drew ?_)))
        (case side2 => exact HC270_1.out)
        rintro e w' ⟨rfl, ⟨nd, rfl⟩⟩
        refine ⟨_, rfl, ?_⟩
        refine hK.out _ _ ⟨cz_ BK271.out 0, cz_ BK271.out 1⟩ (fun hHeld => ?_)
        clear hK K
        refine nD_ 34 ?_
        refine pS_ 23 35 HT_ ?_
        refine pS_ 24 36 HT_ ?_
        refine pS_ 25 37 HT_ ?_
        refine pS_ 26 38 HT_ ?_
        refine pS_ 27 39 HT_ ?_
        refine pS_ 30 42 HT_ ?_
        refine tS_ 28 40 HT_ HW_ hHeld ?_
        refine oS_ 29 41 HT_ (fun K hK => ?_)
        refine goes_ Try.func54 (by kernel_rfl) rfl #[.slice (some ad270) l0.length c0, .slice A270_1 ((rd_T53 l0 x7_1).f1).length c270_1] (by rfl) rfl rfl (by (try simp only [List.map_toArray, List.map_cons, List.map_nil]); first | done | rfl | (simp only [List.length_drop, List.length_take]; rfl)) ?_
        with_reducible refine (impl_chordPlace.calls k1 _ _ l0 _ _ ((rd_T53 l0 x7_1).f1) t277 _ ?side1 ?side2 ?side3 ?side4 A36.out).mono ?_
        (case side1 => repeat (first | exact (Kd.C_below HR0.out (bw_ HB.out)) | (with_reducible refine Kd.C_alloc ?_ _) | (with_reducible refine Kd.C_drewN ?_ _) | (with_reducible refine Kd.C_drew ?_)))
        (case side2 => exact HC0.out)
        (case side3 => repeat (first | exact (Kd.C_below HR270_1.out (bw_ HB.out)) | (with_reducible refine Kd.C_alloc ?_ _) | (with_reducible refine Kd.C_drewN ?_ _) | (with_reducible refine Kd.C_drew ?_)))
        (case side4 => exact HC270_1.out)
        rintro e w42 ⟨rfl, hb⟩
        refine ⟨_, rfl, ?_⟩
        have n0_ := am_ (blk_below (bk_ BK271.out) hb)
        have n1_ := am_ (below_step (bw_ HB.out) hb)
        replace BK271 := n0_
        replace HB := n1_
        clear n0_ n1_
        (try clear hb)
        (try clear hb2)
        (try clear hk)
        (try clear hi)
        refine hK.out _ _ ⟨cz_ BK271.out 0, cz_ BK271.out 1⟩ (fun hHeld => ?_)
        clear hK K
        refine nD_ 41 ?_
        refine pS_ 31 43 HT_ ?_
        refine pS_ 32 44 HT_ ?_
        refine done_ (done_of HT_.out (by kernel_rfl)) ?_
        try go_wp2
        go_roundg k1
        case measure => have := HK1.out; omega
        case rel => exact ⟨(wrap64 (x7_1 + 1)), sq_, H', ⟨by have := HK1.out; omega⟩, ⟨bw_ HB.out⟩⟩
       ·rw [if_neg c37] at H
        have c37b0 : (t277 == x7_1) = false := beq_eq_false_iff_ne.mpr c37
        have c37b1 : (t277 != x7_1) = true := bne_iff_ne.mpr c37
        obtain rfl := Option.some.inj H
        have p270 : 0 ≤ (x7_1 : Int) := od_
        have q270 : x7_1 < (l0.length : Int) := od_
        obtain ⟨ad270, A270_1, c270_1, e270, hx270_0, hx270_1, hl270_1, hi270_1⟩ := at_T53 HR0.out x7_1 p270 q270
        cases e270
        (try replace hx270_0 := hc_ HB.out hx270_0)
        (try replace hx270_1 := hc_ HB.out hx270_1)
        have HR270_1 := am_ hi270_1
        have HC270_1 := am_ hl270_1
        clear hi270_1 hl270_1
        replace p270 := eq_true p270
        replace q270 := eq_true q270
        try go_wp2_with (first | ((with_reducible refine gate_dst (N := 4) rfl ?_); refine bx_ 4 #[.string (⟨#[]⟩ : ByteArray), .slice none 0 0] 53 ?_; intro gb271 hg w43 hbox hb; have n0_ := am_ (below_step (bw_ HB.out) hb); have n1_ := am_ (hbox); have n2_ := am_ (gs_ hg (bw_ HB.out)); have n3_ := am_ (gs_ hg (bw_ HB.out)); replace HB := n0_; have BK271 := n1_; have GW271 := n2_; have GE271 := n3_; clear n0_ n1_ n2_ n3_; clear hb hbox hg; have hcz44_0 := cz_ BK271.out 0; have hcz44_1 := cz_ BK271.out 1; have hfz44_0 := blk_frozen BK271.out 0; have hfz44_1 := blk_frozen BK271.out 1))
        have n0_ : Aside0 (((w43.setCell ⟨gb271, 0, none⟩ (.string ((rd_T53 l0 x7_1).f0))).setCell ⟨gb271, 1, none⟩ (.slice A270_1 ((rd_T53 l0 x7_1).f1).length c270_1)).heap[gb271]? = some (.cells #[.string ((rd_T53 l0 x7_1).f0), .slice A270_1 ((rd_T53 l0 x7_1).f1).length c270_1] 53 (0, 0))) := ⟨by (with_reducible repeat (first | refine blk_drewN ?_ _ | refine blk_drew ?_ | refine blk_alloc ?_ _)); refine blk_put (cs := #[.string ((rd_T53 l0 x7_1).f0), .slice none 0 0]) ?_ 1 _ rfl; (with_reducible repeat (first | refine blk_drewN ?_ _ | refine blk_drew ?_ | refine blk_alloc ?_ _)); refine blk_put (cs := #[.string (⟨#[]⟩ : ByteArray), .slice none 0 0]) ?_ 0 _ rfl; (with_reducible repeat (first | refine blk_drewN ?_ _ | refine blk_drew ?_ | refine blk_alloc ?_ _)); exact BK271.out⟩
        have n1_ : Aside0 (Below w.heap.size w ((w43.setCell ⟨gb271, 0, none⟩ (.string ((rd_T53 l0 x7_1).f0))).setCell ⟨gb271, 1, none⟩ (.slice A270_1 ((rd_T53 l0 x7_1).f1).length c270_1))) := ⟨bw_ HB.out⟩
        (try clear BK271)
        (try clear HB)
        generalize ((w43.setCell ⟨gb271, 0, none⟩ (.string ((rd_T53 l0 x7_1).f0))).setCell ⟨gb271, 1, none⟩ (.slice A270_1 ((rd_T53 l0 x7_1).f1).length c270_1)) = w45 at n0_ n1_ ⊢
        have BK271 := n0_
        have HB := n1_
        clear n0_ n1_
        have n0_ := am_ (blk_drew BK271.out)
        have n1_ := am_ (below_drew1 HB.out)
        replace BK271 := n0_
        replace HB := n1_
        clear n0_ n1_
        refine start_ (n := 33) (S := fun w' => w'.cell? ⟨gb271, 0, none⟩ = some (.string ((rd_T53 l0 x7_1).f0)) ∧ w'.cell? ⟨gb271, 1, none⟩ = some (.slice A270_1 ((rd_T53 l0 x7_1).f1).length c270_1)) (ds := []) (Array.replicate 33 false) (by kernel_rfl) rfl rfl ⟨cz_ BK271.out 0, cz_ BK271.out 1⟩ (fun hHeld => ?_); refine with_tabW impl_GoodBinds.tab4 impl_GoodBinds.bits4 (fun HT_ HW_ => ?_)
        generalize w45.drew = w46 at BK271 HB hHeld ⊢
        refine pS_ 0 12 HT_ ?_
        refine tS_ 1 13 HT_ HW_ hHeld ?_
        refine oS_ 2 14 HT_ (fun K hK => ?_)
        refine goes_ Try.func31 (by kernel_rfl) rfl #[.string ((rd_T53 l0 x7_1).f0)] (by rfl) rfl rfl (by (try simp only [List.map_toArray, List.map_cons, List.map_nil]); first | done | rfl | (simp only [List.length_drop, List.length_take]; rfl)) ?_
        with_reducible refine (impl_GoodName.calls k1 ((rd_T53 l0 x7_1).f0) true _ A5.out).mono ?_
        rintro e w' ⟨rfl, ⟨nd, rfl⟩⟩
        refine ⟨_, rfl, ?_⟩
        refine hK.out _ _ ⟨cz_ BK271.out 0, cz_ BK271.out 1⟩ (fun hHeld => ?_)
        clear hK K
        refine nD_ 14 ?_
        refine pS_ 3 15 HT_ ?_
        refine pS_ 4 16 HT_ ?_
        refine pS_ 5 17 HT_ ?_
        refine pS_ 6 18 HT_ ?_
        refine pS_ 7 19 HT_ ?_
        refine pU_ 8 20 HT_ ?_
        refine pU_ 9 21 HT_ ?_
        refine pU_ 10 22 HT_ ?_
        refine pU_ 11 23 HT_ ?_
        refine pU_ 12 24 HT_ ?_
        refine pU_ 13 25 HT_ ?_
        refine pU_ 14 26 HT_ ?_
        refine pU_ 15 27 HT_ ?_
        refine pU_ 16 28 HT_ ?_
        refine pS_ 17 29 HT_ ?_
        refine pS_ 18 30 HT_ ?_
        refine pS_ 19 31 HT_ ?_
        refine pS_ 20 32 HT_ ?_
        refine tS_ 21 33 HT_ HW_ hHeld ?_
        refine oS_ 22 34 HT_ (fun K hK => ?_)
        refine goes_ Try.func32 (by kernel_rfl) rfl #[.slice A270_1 ((rd_T53 l0 x7_1).f1).length c270_1] (by rfl) rfl rfl (by (try simp only [List.map_toArray, List.map_cons, List.map_nil]); first | done | rfl | (simp only [List.length_drop, List.length_take]; rfl)) ?_
        with_reducible refine (impl_isChord.calls k1 _ _ ((rd_T53 l0 x7_1).f1) true _ ?side1 ?side2 A34.out).mono ?_
        (case side1 => repeat (first | exact (Kd.C_below HR270_1.out (bw_ HB.out)) | (with_reducible refine Kd.C_alloc ?_ _) | (with_reducible refine Kd.C_drewN ?_ _) | (with_reducible refine Kd.C_drew ?_)))
        (case side2 => exact HC270_1.out)
        rintro e w' ⟨rfl, ⟨nd, rfl⟩⟩
        refine ⟨_, rfl, ?_⟩
        refine hK.out _ _ ⟨cz_ BK271.out 0, cz_ BK271.out 1⟩ (fun hHeld => ?_)
        clear hK K
        refine nD_ 34 ?_
        refine pS_ 23 35 HT_ ?_
        refine pS_ 24 36 HT_ ?_
        refine pS_ 25 37 HT_ ?_
        refine pS_ 26 38 HT_ ?_
        refine pS_ 27 39 HT_ ?_
        refine pS_ 30 42 HT_ ?_
        refine tS_ 28 40 HT_ HW_ hHeld ?_
        refine oS_ 29 41 HT_ (fun K hK => ?_)
        refine goes_ Try.func54 (by kernel_rfl) rfl #[.slice (some ad270) l0.length c0, .slice A270_1 ((rd_T53 l0 x7_1).f1).length c270_1] (by rfl) rfl rfl (by (try simp only [List.map_toArray, List.map_cons, List.map_nil]); first | done | rfl | (simp only [List.length_drop, List.length_take]; rfl)) ?_
        with_reducible refine (impl_chordPlace.calls k1 _ _ l0 _ _ ((rd_T53 l0 x7_1).f1) t277 _ ?side1 ?side2 ?side3 ?side4 A36.out).mono ?_
        (case side1 => repeat (first | exact (Kd.C_below HR0.out (bw_ HB.out)) | (with_reducible refine Kd.C_alloc ?_ _) | (with_reducible refine Kd.C_drewN ?_ _) | (with_reducible refine Kd.C_drew ?_)))
        (case side2 => exact HC0.out)
        (case side3 => repeat (first | exact (Kd.C_below HR270_1.out (bw_ HB.out)) | (with_reducible refine Kd.C_alloc ?_ _) | (with_reducible refine Kd.C_drewN ?_ _) | (with_reducible refine Kd.C_drew ?_)))
        (case side4 => exact HC270_1.out)
        rintro e w47 ⟨rfl, hb⟩
        refine ⟨_, rfl, ?_⟩
        have n0_ := am_ (blk_below (bk_ BK271.out) hb)
        have n1_ := am_ (below_step (bw_ HB.out) hb)
        replace BK271 := n0_
        replace HB := n1_
        clear n0_ n1_
        (try clear hb)
        (try clear hb2)
        (try clear hk)
        (try clear hi)
        refine hK.out _ _ ⟨cz_ BK271.out 0, cz_ BK271.out 1⟩ (fun hHeld => ?_)
        clear hK K
        refine nD_ 41 ?_
        refine pS_ 31 43 HT_ ?_
        refine pS_ 32 44 HT_ ?_
        refine done_ (done_of HT_.out (by kernel_rfl)) ?_
        try go_wp2
        go_ret
        exact ⟨by first | rfl | (simp [errW_none, errW_some] <;> rfl) | (simp [*, errW_none, errW_some] <;> rfl), bw_ HB.out⟩
      ·replace c35 := Bool.eq_false_iff.mpr c35
       subst c35
       replace H := if_ H Bool.false_ne_true
       obtain rfl := Option.some.inj H
       have p270 : 0 ≤ (x7_1 : Int) := od_
       have q270 : x7_1 < (l0.length : Int) := od_
       obtain ⟨ad270, A270_1, c270_1, e270, hx270_0, hx270_1, hl270_1, hi270_1⟩ := at_T53 HR0.out x7_1 p270 q270
       cases e270
       (try replace hx270_0 := hc_ HB.out hx270_0)
       (try replace hx270_1 := hc_ HB.out hx270_1)
       have HR270_1 := am_ hi270_1
       have HC270_1 := am_ hl270_1
       clear hi270_1 hl270_1
       replace p270 := eq_true p270
       replace q270 := eq_true q270
       try go_wp2_with (first | ((with_reducible refine gate_dst (N := 4) rfl ?_); refine bx_ 4 #[.string (⟨#[]⟩ : ByteArray), .slice none 0 0] 53 ?_; intro gb271 hg w48 hbox hb; have n0_ := am_ (below_step (bw_ HB.out) hb); have n1_ := am_ (hbox); have n2_ := am_ (gs_ hg (bw_ HB.out)); have n3_ := am_ (gs_ hg (bw_ HB.out)); replace HB := n0_; have BK271 := n1_; have GW271 := n2_; have GE271 := n3_; clear n0_ n1_ n2_ n3_; clear hb hbox hg; have hcz49_0 := cz_ BK271.out 0; have hcz49_1 := cz_ BK271.out 1; have hfz49_0 := blk_frozen BK271.out 0; have hfz49_1 := blk_frozen BK271.out 1))
       have n0_ : Aside0 (((w48.setCell ⟨gb271, 0, none⟩ (.string ((rd_T53 l0 x7_1).f0))).setCell ⟨gb271, 1, none⟩ (.slice A270_1 ((rd_T53 l0 x7_1).f1).length c270_1)).heap[gb271]? = some (.cells #[.string ((rd_T53 l0 x7_1).f0), .slice A270_1 ((rd_T53 l0 x7_1).f1).length c270_1] 53 (0, 0))) := ⟨by (with_reducible repeat (first | refine blk_drewN ?_ _ | refine blk_drew ?_ | refine blk_alloc ?_ _)); refine blk_put (cs := #[.string ((rd_T53 l0 x7_1).f0), .slice none 0 0]) ?_ 1 _ rfl; (with_reducible repeat (first | refine blk_drewN ?_ _ | refine blk_drew ?_ | refine blk_alloc ?_ _)); refine blk_put (cs := #[.string (⟨#[]⟩ : ByteArray), .slice none 0 0]) ?_ 0 _ rfl; (with_reducible repeat (first | refine blk_drewN ?_ _ | refine blk_drew ?_ | refine blk_alloc ?_ _)); exact BK271.out⟩
       have n1_ : Aside0 (Below w.heap.size w ((w48.setCell ⟨gb271, 0, none⟩ (.string ((rd_T53 l0 x7_1).f0))).setCell ⟨gb271, 1, none⟩ (.slice A270_1 ((rd_T53 l0 x7_1).f1).length c270_1))) := ⟨bw_ HB.out⟩
       (try clear BK271)
       (try clear HB)
       generalize ((w48.setCell ⟨gb271, 0, none⟩ (.string ((rd_T53 l0 x7_1).f0))).setCell ⟨gb271, 1, none⟩ (.slice A270_1 ((rd_T53 l0 x7_1).f1).length c270_1)) = w50 at n0_ n1_ ⊢
       have BK271 := n0_
       have HB := n1_
       clear n0_ n1_
       have n0_ := am_ (blk_drew BK271.out)
       have n1_ := am_ (below_drew1 HB.out)
       replace BK271 := n0_
       replace HB := n1_
       clear n0_ n1_
       refine start_ (n := 33) (S := fun w' => w'.cell? ⟨gb271, 0, none⟩ = some (.string ((rd_T53 l0 x7_1).f0)) ∧ w'.cell? ⟨gb271, 1, none⟩ = some (.slice A270_1 ((rd_T53 l0 x7_1).f1).length c270_1)) (ds := []) (Array.replicate 33 false) (by kernel_rfl) rfl rfl ⟨cz_ BK271.out 0, cz_ BK271.out 1⟩ (fun hHeld => ?_); refine with_tabW impl_GoodBinds.tab4 impl_GoodBinds.bits4 (fun HT_ HW_ => ?_)
       generalize w50.drew = w51 at BK271 HB hHeld ⊢
       refine pS_ 0 12 HT_ ?_
       refine tS_ 1 13 HT_ HW_ hHeld ?_
       refine oS_ 2 14 HT_ (fun K hK => ?_)
       refine goes_ Try.func31 (by kernel_rfl) rfl #[.string ((rd_T53 l0 x7_1).f0)] (by rfl) rfl rfl (by (try simp only [List.map_toArray, List.map_cons, List.map_nil]); first | done | rfl | (simp only [List.length_drop, List.length_take]; rfl)) ?_
       with_reducible refine (impl_GoodName.calls k1 ((rd_T53 l0 x7_1).f0) true _ A5.out).mono ?_
       rintro e w' ⟨rfl, ⟨nd, rfl⟩⟩
       refine ⟨_, rfl, ?_⟩
       refine hK.out _ _ ⟨cz_ BK271.out 0, cz_ BK271.out 1⟩ (fun hHeld => ?_)
       clear hK K
       refine nD_ 14 ?_
       refine pS_ 3 15 HT_ ?_
       refine pS_ 4 16 HT_ ?_
       refine pS_ 5 17 HT_ ?_
       refine pS_ 6 18 HT_ ?_
       refine pS_ 7 19 HT_ ?_
       refine pU_ 8 20 HT_ ?_
       refine pU_ 9 21 HT_ ?_
       refine pU_ 10 22 HT_ ?_
       refine pU_ 11 23 HT_ ?_
       refine pU_ 12 24 HT_ ?_
       refine pU_ 13 25 HT_ ?_
       refine pU_ 14 26 HT_ ?_
       refine pU_ 15 27 HT_ ?_
       refine pU_ 16 28 HT_ ?_
       refine pS_ 17 29 HT_ ?_
       refine pS_ 18 30 HT_ ?_
       refine pS_ 19 31 HT_ ?_
       refine pS_ 20 32 HT_ ?_
       refine tS_ 21 33 HT_ HW_ hHeld ?_
       refine oS_ 22 34 HT_ (fun K hK => ?_)
       refine goes_ Try.func32 (by kernel_rfl) rfl #[.slice A270_1 ((rd_T53 l0 x7_1).f1).length c270_1] (by rfl) rfl rfl (by (try simp only [List.map_toArray, List.map_cons, List.map_nil]); first | done | rfl | (simp only [List.length_drop, List.length_take]; rfl)) ?_
       with_reducible refine (impl_isChord.calls k1 _ _ ((rd_T53 l0 x7_1).f1) false _ ?side1 ?side2 A34.out).mono ?_
       (case side1 => repeat (first | exact (Kd.C_below HR270_1.out (bw_ HB.out)) | (with_reducible refine Kd.C_alloc ?_ _) | (with_reducible refine Kd.C_drewN ?_ _) | (with_reducible refine Kd.C_drew ?_)))
       (case side2 => exact HC270_1.out)
       rintro e w' ⟨rfl, ⟨nd, rfl⟩⟩
       refine ⟨_, rfl, ?_⟩
       refine hK.out _ _ ⟨cz_ BK271.out 0, cz_ BK271.out 1⟩ (fun hHeld => ?_)
       clear hK K
       refine nD_ 34 ?_
       refine pS_ 23 35 HT_ ?_
       refine pS_ 24 36 HT_ ?_
       refine pS_ 25 37 HT_ ?_
       refine pU_ 26 38 HT_ ?_
       refine pU_ 27 39 HT_ ?_
       refine pU_ 28 40 HT_ ?_
       refine pU_ 29 41 HT_ ?_
       refine pU_ 30 42 HT_ ?_
       refine pU_ 31 43 HT_ ?_
       refine pS_ 32 44 HT_ ?_
       refine done_ (done_of HT_.out (by kernel_rfl)) ?_
       try go_wp2
       go_ret
       exact ⟨by first | rfl | (simp [errW_none, errW_some] <;> rfl) | (simp [*, errW_none, errW_some] <;> rfl), bw_ HB.out⟩
    ·replace c6 := Bool.eq_false_iff.mpr c6
     subst c6
     replace H := if_ H Bool.false_ne_true
     obtain rfl := Option.some.inj H
     have p270 : 0 ≤ (x7_1 : Int) := od_
     have q270 : x7_1 < (l0.length : Int) := od_
     obtain ⟨ad270, A270_1, c270_1, e270, hx270_0, hx270_1, hl270_1, hi270_1⟩ := at_T53 HR0.out x7_1 p270 q270
     cases e270
     (try replace hx270_0 := hc_ HB.out hx270_0)
     (try replace hx270_1 := hc_ HB.out hx270_1)
     have HR270_1 := am_ hi270_1
     have HC270_1 := am_ hl270_1
     clear hi270_1 hl270_1
     replace p270 := eq_true p270
     replace q270 := eq_true q270
     try go_wp2_with (first | ((with_reducible refine gate_dst (N := 4) rfl ?_); refine bx_ 4 #[.string (⟨#[]⟩ : ByteArray), .slice none 0 0] 53 ?_; intro gb271 hg w52 hbox hb; have n0_ := am_ (below_step (bw_ HB.out) hb); have n1_ := am_ (hbox); have n2_ := am_ (gs_ hg (bw_ HB.out)); have n3_ := am_ (gs_ hg (bw_ HB.out)); replace HB := n0_; have BK271 := n1_; have GW271 := n2_; have GE271 := n3_; clear n0_ n1_ n2_ n3_; clear hb hbox hg; have hcz53_0 := cz_ BK271.out 0; have hcz53_1 := cz_ BK271.out 1; have hfz53_0 := blk_frozen BK271.out 0; have hfz53_1 := blk_frozen BK271.out 1))
     have n0_ : Aside0 (((w52.setCell ⟨gb271, 0, none⟩ (.string ((rd_T53 l0 x7_1).f0))).setCell ⟨gb271, 1, none⟩ (.slice A270_1 ((rd_T53 l0 x7_1).f1).length c270_1)).heap[gb271]? = some (.cells #[.string ((rd_T53 l0 x7_1).f0), .slice A270_1 ((rd_T53 l0 x7_1).f1).length c270_1] 53 (0, 0))) := ⟨by (with_reducible repeat (first | refine blk_drewN ?_ _ | refine blk_drew ?_ | refine blk_alloc ?_ _)); refine blk_put (cs := #[.string ((rd_T53 l0 x7_1).f0), .slice none 0 0]) ?_ 1 _ rfl; (with_reducible repeat (first | refine blk_drewN ?_ _ | refine blk_drew ?_ | refine blk_alloc ?_ _)); refine blk_put (cs := #[.string (⟨#[]⟩ : ByteArray), .slice none 0 0]) ?_ 0 _ rfl; (with_reducible repeat (first | refine blk_drewN ?_ _ | refine blk_drew ?_ | refine blk_alloc ?_ _)); exact BK271.out⟩
     have n1_ : Aside0 (Below w.heap.size w ((w52.setCell ⟨gb271, 0, none⟩ (.string ((rd_T53 l0 x7_1).f0))).setCell ⟨gb271, 1, none⟩ (.slice A270_1 ((rd_T53 l0 x7_1).f1).length c270_1))) := ⟨bw_ HB.out⟩
     (try clear BK271)
     (try clear HB)
     generalize ((w52.setCell ⟨gb271, 0, none⟩ (.string ((rd_T53 l0 x7_1).f0))).setCell ⟨gb271, 1, none⟩ (.slice A270_1 ((rd_T53 l0 x7_1).f1).length c270_1)) = w54 at n0_ n1_ ⊢
     have BK271 := n0_
     have HB := n1_
     clear n0_ n1_
     have n0_ := am_ (blk_drew BK271.out)
     have n1_ := am_ (below_drew1 HB.out)
     replace BK271 := n0_
     replace HB := n1_
     clear n0_ n1_
     refine start_ (n := 33) (S := fun w' => w'.cell? ⟨gb271, 0, none⟩ = some (.string ((rd_T53 l0 x7_1).f0)) ∧ w'.cell? ⟨gb271, 1, none⟩ = some (.slice A270_1 ((rd_T53 l0 x7_1).f1).length c270_1)) (ds := []) (Array.replicate 33 false) (by kernel_rfl) rfl rfl ⟨cz_ BK271.out 0, cz_ BK271.out 1⟩ (fun hHeld => ?_); refine with_tabW impl_GoodBinds.tab4 impl_GoodBinds.bits4 (fun HT_ HW_ => ?_)
     generalize w54.drew = w55 at BK271 HB hHeld ⊢
     refine pS_ 0 12 HT_ ?_
     refine tS_ 1 13 HT_ HW_ hHeld ?_
     refine oS_ 2 14 HT_ (fun K hK => ?_)
     refine goes_ Try.func31 (by kernel_rfl) rfl #[.string ((rd_T53 l0 x7_1).f0)] (by rfl) rfl rfl (by (try simp only [List.map_toArray, List.map_cons, List.map_nil]); first | done | rfl | (simp only [List.length_drop, List.length_take]; rfl)) ?_
     with_reducible refine (impl_GoodName.calls k1 ((rd_T53 l0 x7_1).f0) false _ A5.out).mono ?_
     rintro e w' ⟨rfl, ⟨nd, rfl⟩⟩
     refine ⟨_, rfl, ?_⟩
     refine hK.out _ _ ⟨cz_ BK271.out 0, cz_ BK271.out 1⟩ (fun hHeld => ?_)
     clear hK K
     refine nD_ 14 ?_
     refine pS_ 3 15 HT_ ?_
     refine pS_ 4 16 HT_ ?_
     refine pU_ 5 17 HT_ ?_
     refine pU_ 6 18 HT_ ?_
     refine pU_ 7 19 HT_ ?_
     refine pU_ 8 20 HT_ ?_
     refine pU_ 9 21 HT_ ?_
     refine pU_ 10 22 HT_ ?_
     refine pU_ 11 23 HT_ ?_
     refine pU_ 12 24 HT_ ?_
     refine pU_ 13 25 HT_ ?_
     refine pU_ 14 26 HT_ ?_
     refine pU_ 15 27 HT_ ?_
     refine pU_ 16 28 HT_ ?_
     refine pU_ 17 29 HT_ ?_
     refine pS_ 18 30 HT_ ?_
     refine pS_ 19 31 HT_ ?_
     refine pU_ 20 32 HT_ ?_
     refine pU_ 21 33 HT_ ?_
     refine pU_ 22 34 HT_ ?_
     refine pU_ 23 35 HT_ ?_
     refine pS_ 24 36 HT_ ?_
     refine pS_ 25 37 HT_ ?_
     refine pU_ 26 38 HT_ ?_
     refine pU_ 27 39 HT_ ?_
     refine pU_ 28 40 HT_ ?_
     refine pU_ 29 41 HT_ ?_
     refine pU_ 30 42 HT_ ?_
     refine pU_ 31 43 HT_ ?_
     refine pS_ 32 44 HT_ ?_
     refine done_ (done_of HT_.out (by kernel_rfl)) ?_
     try go_wp2
     go_ret
     exact ⟨by first | rfl | (simp [errW_none, errW_some] <;> rfl) | (simp [*, errW_none, errW_some] <;> rfl), bw_ HB.out⟩
   ·rw [if_neg c2] at H
    have c2b0 : decide (x7_1 < (l0.length : Int)) = false := decide_eq_false c2
    clear c2
    obtain rfl := Option.some.inj H
    go_wp2
    go_ret
    exact ⟨by first | rfl | (simp [errW_none, errW_some] <;> rfl) | (simp [*, errW_none, errW_some] <;> rfl), bw_ HB.out⟩

end Go.Proofs.Ytfgdfnnddoncjaa.XFnExactMeantBy
