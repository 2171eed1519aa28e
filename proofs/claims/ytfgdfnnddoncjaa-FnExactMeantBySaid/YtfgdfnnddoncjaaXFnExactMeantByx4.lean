/- What the Go functions that this law comes to compute, each walked; written by a program of this session. -/
import Derived.Test.YtfgdfnnddoncjaaXShort
import Derived.Test.YtfgdfnnddoncjaaXMark
import Derived.Test.YtfgdfnnddoncjaaXFnExactMeantByx0
import Derived.Test.YtfgdfnnddoncjaaXFnExactMeantByx3
namespace Go.Proofs.Ytfgdfnnddoncjaa.XFnExactMeantBy
open Go.RowKit Go.Proofs.YtfgdfnnddoncjaaW.PrintWords Go.Proofs.YtfgdfnnddoncjaaW.PrintLast Go.Proofs.YtfgdfnnddoncjaaW.PrintMore
attribute [local go_sem] str_geq max2_int min2_int max_two min_two max_three min_three max_four min_four   -- for this text's walks alone
set_option linter.unusedVariables false
set_option linter.unusedSimpArgs false

/-! ### spec_GoodBinds: function 25 -/
mutual
def spec_GoodBinds.l0 : Nat → List (S53) → List (S53) → Int → Int → Option (Bool)
 | 0, _, _, _, _ => none
 | k + 1, x0, x10, x11, x12 => if x12 < x11 then (if 0 ≤ x12 then (if x12 < (x10.length : Int) then ((spec_GoodName.f k ((rd_T53 x10 x12).f0)).bind fun t147 => (if t147 = true then ((spec_l17Chord.f k ((rd_T53 x10 x12).f1)).bind fun t148 => (if t148 = true then (if x12 > 0 then (if 0 ≤ (wrap64 (x12 - 1)) then (if (wrap64 (x12 - 1)) < (x0.length : Int) then (spec_GoodBinds.j1 k x0 x12 x10 x11 x12 (!(Op.bytesLess (((rd_T53 x0 (wrap64 (x12 - 1))).f0).toList) (((rd_T53 x10 x12).f0).toList))) ((rd_T53 x10 x12).f0) ((rd_T53 x10 x12).f1)) else (none)) else (none)) else (spec_GoodBinds.j1 k x0 x12 x10 x11 x12 false ((rd_T53 x10 x12).f0) ((rd_T53 x10 x12).f1))) else (spec_GoodBinds.j1 k x0 x12 x10 x11 x12 true ((rd_T53 x10 x12).f0) ((rd_T53 x10 x12).f1)))) else (spec_GoodBinds.j1 k x0 x12 x10 x11 x12 true ((rd_T53 x10 x12).f0) ((rd_T53 x10 x12).f1)))) else (none)) else (none)) else (some true)
def spec_GoodBinds.j1 : Nat → List (S53) → Int → List (S53) → Int → Int → Bool → ByteArray → List Int → Option (Bool)
 | 0, _, _, _, _, _, _, _, _ => none
 | k + 1, x0, x3, x10, x11, x12, x41, x147000, x147001 => if x41 = true then (some false) else (if 0 ≤ x3 then (if x3 ≤ (x0.length : Int) then ((some (x0.take (x3 : Int).toNat : List (S53))).bind fun y150 => (spec_GoodBinds.l1 k x0 x10 x11 x12 y150 (y150.length : Int) 0 x147000 x147001)) else (none)) else (none))
def spec_GoodBinds.l1 : Nat → List (S53) → List (S53) → Int → Int → List (S53) → Int → Int → ByteArray → List Int → Option (Bool)
 | 0, _, _, _, _, _, _, _, _, _ => none
 | k + 1, x0, x10, x11, x12, x44, x45, x46, x147000, x147001 => if x46 < x45 then (if 0 ≤ x46 then (if x46 < (x44.length : Int) then ((spec_l17Same.f k ((rd_T53 x44 x46).f1) x147001).bind fun t156 => (if t156 = true then (some false) else (spec_GoodBinds.l1 k x0 x10 x11 x12 x44 x45 (wrap64 (x46 + 1)) x147000 x147001))) else (none)) else (none)) else (spec_GoodBinds.l0 k x0 x10 x11 (wrap64 (x12 + 1)))
end
def spec_GoodBinds.f (k : Nat) (l0 : List (S53)) : Option (Bool) := if (l0.length : Int) > 20 then (some false) else (spec_GoodBinds.l0 k l0 l0 (l0.length : Int) 0)
theorem spec_GoodBinds.mono_l : ∀ k, (∀ y0 y1 y2 y3, LeO (spec_GoodBinds.l0 k y0 y1 y2 y3) (spec_GoodBinds.l0 (k + 1) y0 y1 y2 y3)) ∧ (∀ y0 y1 y2 y3 y4 y5 y6 y7, LeO (spec_GoodBinds.j1 k y0 y1 y2 y3 y4 y5 y6 y7) (spec_GoodBinds.j1 (k + 1) y0 y1 y2 y3 y4 y5 y6 y7)) ∧ (∀ y0 y1 y2 y3 y4 y5 y6 y7 y8, LeO (spec_GoodBinds.l1 k y0 y1 y2 y3 y4 y5 y6 y7 y8) (spec_GoodBinds.l1 (k + 1) y0 y1 y2 y3 y4 y5 y6 y7 y8))
 | 0 => ⟨fun _ _ _ _ r h => by simp [spec_GoodBinds.l0] at h, fun _ _ _ _ _ _ _ _ r h => by simp [spec_GoodBinds.j1] at h, fun _ _ _ _ _ _ _ _ _ r h => by simp [spec_GoodBinds.l1] at h⟩
 | k + 1 => by
  obtain ⟨ih0, ih1, ih2⟩ := spec_GoodBinds.mono_l k
  refine ⟨?_, ?_, ?_⟩
  ·intro y0 y1 y2 y3
   unfold spec_GoodBinds.l0
   repeat' first
   | (with_reducible exact ih0 _ _ _ _)
   | (with_reducible exact ih1 _ _ _ _ _ _ _ _)
   | (with_reducible exact ih2 _ _ _ _ _ _ _ _ _)
   | (with_reducible exact spec_GoodName.mono _ _)
   | (with_reducible exact spec_l17Chord.mono _ _)
   | (with_reducible exact spec_l17Same.mono _ _ _)
   | (with_reducible exact LeO.refl _)
   | (with_reducible exact LeO.none _)
   | (with_reducible refine LeO.ite ?_ ?_)
   | (with_reducible refine LeO.bind ?_ (fun _ => ?_))
   | exact ih0 _ _ _ _
   | exact ih1 _ _ _ _ _ _ _ _
   | exact ih2 _ _ _ _ _ _ _ _ _
   | exact spec_GoodName.mono _ _
   | exact spec_l17Chord.mono _ _
   | exact spec_l17Same.mono _ _ _
   | exact LeO.none _
   | refine LeO.ite ?_ ?_
   | refine LeO.bind ?_ (fun _ => ?_)
  ·intro y0 y1 y2 y3 y4 y5 y6 y7
   unfold spec_GoodBinds.j1
   repeat' first
   | (with_reducible exact ih0 _ _ _ _)
   | (with_reducible exact ih1 _ _ _ _ _ _ _ _)
   | (with_reducible exact ih2 _ _ _ _ _ _ _ _ _)
   | (with_reducible exact spec_GoodName.mono _ _)
   | (with_reducible exact spec_l17Chord.mono _ _)
   | (with_reducible exact spec_l17Same.mono _ _ _)
   | (with_reducible exact LeO.refl _)
   | (with_reducible exact LeO.none _)
   | (with_reducible refine LeO.ite ?_ ?_)
   | (with_reducible refine LeO.bind ?_ (fun _ => ?_))
   | exact ih0 _ _ _ _
   | exact ih1 _ _ _ _ _ _ _ _
   | exact ih2 _ _ _ _ _ _ _ _ _
   | exact spec_GoodName.mono _ _
   | exact spec_l17Chord.mono _ _
   | exact spec_l17Same.mono _ _ _
   | exact LeO.none _
   | refine LeO.ite ?_ ?_
   | refine LeO.bind ?_ (fun _ => ?_)
  ·intro y0 y1 y2 y3 y4 y5 y6 y7 y8
   unfold spec_GoodBinds.l1
   repeat' first
   | (with_reducible exact ih0 _ _ _ _)
   | (with_reducible exact ih1 _ _ _ _ _ _ _ _)
   | (with_reducible exact ih2 _ _ _ _ _ _ _ _ _)
   | (with_reducible exact spec_GoodName.mono _ _)
   | (with_reducible exact spec_l17Chord.mono _ _)
   | (with_reducible exact spec_l17Same.mono _ _ _)
   | (with_reducible exact LeO.refl _)
   | (with_reducible exact LeO.none _)
   | (with_reducible refine LeO.ite ?_ ?_)
   | (with_reducible refine LeO.bind ?_ (fun _ => ?_))
   | exact ih0 _ _ _ _
   | exact ih1 _ _ _ _ _ _ _ _
   | exact ih2 _ _ _ _ _ _ _ _ _
   | exact spec_GoodName.mono _ _
   | exact spec_l17Chord.mono _ _
   | exact spec_l17Same.mono _ _ _
   | exact LeO.none _
   | refine LeO.ite ?_ ?_
   | refine LeO.bind ?_ (fun _ => ?_)
theorem spec_GoodBinds.mono : ∀ a0 k, LeO (spec_GoodBinds.f k a0) (spec_GoodBinds.f (k + 1) a0) := by
 intro a0 k
 obtain ⟨ih0, ih1, ih2⟩ := spec_GoodBinds.mono_l k
 unfold spec_GoodBinds.f
 repeat' first
   | (with_reducible exact ih0 _ _ _ _)
   | (with_reducible exact ih1 _ _ _ _ _ _ _ _)
   | (with_reducible exact ih2 _ _ _ _ _ _ _ _ _)
   | (with_reducible exact spec_GoodName.mono _ _)
   | (with_reducible exact spec_l17Chord.mono _ _)
   | (with_reducible exact spec_l17Same.mono _ _ _)
   | (with_reducible exact LeO.refl _)
   | (with_reducible exact LeO.none _)
   | (with_reducible refine LeO.ite ?_ ?_)
   | (with_reducible refine LeO.bind ?_ (fun _ => ?_))
   | exact ih0 _ _ _ _
   | exact ih1 _ _ _ _ _ _ _ _
   | exact ih2 _ _ _ _ _ _ _ _ _
   | exact spec_GoodName.mono _ _
   | exact spec_l17Chord.mono _ _
   | exact spec_l17Same.mono _ _ _
   | exact LeO.none _
   | refine LeO.ite ?_ ?_
   | refine LeO.bind ?_ (fun _ => ?_)
set_option maxHeartbeats 8000000 in
set_option maxRecDepth 100000 in
theorem spec_GoodBinds.calls (k : Nat) (A0 : Option Addr) (c0 : Nat) (l0 : List (S53)) (r : Bool) (w : World) (hr0 : Kd.C k53 w A0 l0.length l0) (hc0 : l0.length ≤ c0) (h : spec_GoodBinds.f k l0 = some r) :
  Calls Try.prog 25 #[.slice A0 l0.length c0] w fun e w' => e = .returned (.bool r) ∧ Below w.heap.size w w' := by
 have hu53 := Try.underlying53
 have HR0 := am_ hr0
 have HC0 := am_ hc0
 clear hr0 hc0
 have HB := am_ (Below.refl w.heap.size w)
 have H : (if (l0.length : Int) > 20 then (some false) else (spec_GoodBinds.l0 k l0 l0 (l0.length : Int) 0)) = some r := h
 clear h
 by_cases c2 : (l0.length : Int) > 20
 ·rw [if_pos c2] at H
  have c2b0 : decide (20 < (l0.length : Int)) = true := decide_eq_true c2
  have c2b1 : decide (20 < l0.length) = true := decide_eq_true (by omega)
  clear c2
  obtain rfl := Option.some.inj H
  go_enter Try.func25, Try.ntmps25
  go_wp2
  repeat (go_quiet (fail); try go_wp2)
  go_ret
  exact ⟨by first | rfl | (simp [errW_none, errW_some] <;> rfl) | (simp [*, errW_none, errW_some] <;> rfl), bw_ HB.out⟩
 ·rw [if_neg c2] at H
  have c2b0 : decide (20 < (l0.length : Int)) = false := decide_eq_false c2
  have c2b1 : decide (20 < l0.length) = false := decide_eq_false (by omega)
  clear c2
  have H' := am_ H
  clear H
  go_enter Try.func25, Try.ntmps25
  go_wp2
  repeat (go_quiet (fail); try go_wp2)
  go_loopg [12] k (fun kq v12 w' => ∃ (x12_1 : Int), v12 = .int .i64 x12_1 ∧ Aside0 (spec_GoodBinds.l0 kq l0 l0 (l0.length : Int) x12_1 = some r) ∧ Aside0 (kq ≤ k) ∧ Aside0 (Below w.heap.size w w'))
  case atStart => exact ⟨(0), sq_, H', ⟨Nat.le_refl _⟩, ⟨bw_ HB.out⟩⟩
  case round =>
   clear H'
   try clear c2
   try clear c2b0
   try clear c2b1
   obtain ⟨x12_1, rfl, HA, HK1, HB⟩ := hrel
   cases gk with
   | zero => exact absurd HA.out (by simp [spec_GoodBinds.l0])
   | succ k1 =>
    have H := HA.out
    clear HA
    simp only [spec_GoodBinds.l0] at H
    by_cases c3 : x12_1 < (l0.length : Int)
    ·rw [if_pos c3] at H
     have c3b0 : decide (x12_1 < (l0.length : Int)) = true := decide_eq_true c3
     clear c3
     obtain ⟨c4, H⟩ := ifn_ H
     have c4b0 : decide (0 ≤ x12_1) = true := decide_eq_true c4
     clear c4
     obtain ⟨c5, H⟩ := ifn_ H
     have c5b0 : decide (x12_1 < (l0.length : Int)) = true := decide_eq_true c5
     clear c5
     have HC6 := am_ H
     clear H
     have p145 : 0 ≤ (x12_1 : Int) := od_
     have q145 : x12_1 < (l0.length : Int) := od_
     obtain ⟨ad145, A145_1, c145_1, e145, hx145_0, hx145_1, hl145_1, hi145_1⟩ := at_T53 HR0.out x12_1 p145 q145
     cases e145
     (try replace hx145_0 := hc_ HB.out hx145_0)
     (try replace hx145_1 := hc_ HB.out hx145_1)
     have HR145_1 := am_ hi145_1
     have HC145_1 := am_ hl145_1
     clear hi145_1 hl145_1
     replace p145 := eq_true p145
     replace q145 := eq_true q145
     go_upto_region 6 with (first | ((with_reducible refine gate_dst (N := 4) rfl ?_); refine bx_ 4 #[.string (⟨#[]⟩ : ByteArray), .slice none 0 0] 53 ?_; intro gb146 hg w7 hbox hb; have n0_ := am_ (below_step (bw_ HB.out) hb); have n1_ := am_ (hbox); have n2_ := am_ (gs_ hg (bw_ HB.out)); have n3_ := am_ (gs_ hg (bw_ HB.out)); replace HB := n0_; have BK146 := n1_; have GW146 := n2_; have GE146 := n3_; clear n0_ n1_ n2_ n3_; clear hb hbox hg; have hcz8_0 := cz_ BK146.out 0; have hcz8_1 := cz_ BK146.out 1; have hfz8_0 := blk_frozen BK146.out 0; have hfz8_1 := blk_frozen BK146.out 1))
     repeat (go_quiet (first | ((with_reducible refine gate_dst (N := 4) rfl ?_); refine bx_ 4 #[.string (⟨#[]⟩ : ByteArray), .slice none 0 0] 53 ?_; intro gb146 hg w7 hbox hb; have n0_ := am_ (below_step (bw_ HB.out) hb); have n1_ := am_ (hbox); have n2_ := am_ (gs_ hg (bw_ HB.out)); have n3_ := am_ (gs_ hg (bw_ HB.out)); replace HB := n0_; have BK146 := n1_; have GW146 := n2_; have GE146 := n3_; clear n0_ n1_ n2_ n3_; clear hb hbox hg; have hcz8_0 := cz_ BK146.out 0; have hcz8_1 := cz_ BK146.out 1; have hfz8_0 := blk_frozen BK146.out 0; have hfz8_1 := blk_frozen BK146.out 1)); go_upto_region 6 with (first | ((with_reducible refine gate_dst (N := 4) rfl ?_); refine bx_ 4 #[.string (⟨#[]⟩ : ByteArray), .slice none 0 0] 53 ?_; intro gb146 hg w7 hbox hb; have n0_ := am_ (below_step (bw_ HB.out) hb); have n1_ := am_ (hbox); have n2_ := am_ (gs_ hg (bw_ HB.out)); have n3_ := am_ (gs_ hg (bw_ HB.out)); replace HB := n0_; have BK146 := n1_; have GW146 := n2_; have GE146 := n3_; clear n0_ n1_ n2_ n3_; clear hb hbox hg; have hcz8_0 := cz_ BK146.out 0; have hcz8_1 := cz_ BK146.out 1; have hfz8_0 := blk_frozen BK146.out 0; have hfz8_1 := blk_frozen BK146.out 1)))
     (try simp only [Act.put, List.setIfInBounds_toArray, List.set_cons_zero, List.set_cons_succ])
     go_cut [41] (fun v41 wc => ∃ (kq : Nat) (x41_5 : Bool), v41 = .bool x41_5 ∧ Aside0 (spec_GoodBinds.j1 kq l0 x12_1 l0 (l0.length : Int) x12_1 x41_5 ((rd_T53 l0 x12_1).f0) ((rd_T53 l0 x12_1).f1) = some r) ∧ Aside0 (kq ≤ k1) ∧ Aside0 (wc.heap[gb146]? = some (.cells #[.string ((rd_T53 l0 x12_1).f0), (.slice A145_1 ((rd_T53 l0 x12_1).f1).length c145_1)] 53 (0, 0))) ∧ Aside0 (Below w.heap.size w wc))
     case first =>
      have H := HC6.out
      clear HC6
      obtain ⟨t147, A90, H⟩ := bE_ H
      have A9 := am_ A90
      clear A90
      by_cases c10 : t147 = true
      ·subst c10
       replace H := it_ H rfl
       obtain ⟨t148, A110, H⟩ := bE_ H
       have A11 := am_ A110
       clear A110
       by_cases c12 : t148 = true
       ·subst c12
        replace H := it_ H rfl
        by_cases c13 : x12_1 > 0
        ·rw [if_pos c13] at H
         have c13b0 : decide (0 < x12_1) = true := decide_eq_true c13
         clear c13
         (first | rw [c13b0] | (simp only [i64_w, i32_w]; rw [c13b0]) | skip)
         obtain ⟨ji14, hji14⟩ : ∃ j_ : Int, (wrap64 (x12_1 - 1)) = j_ := ⟨_, rfl⟩
         replace H : (if 0 ≤ (ji14) then (if (ji14) < (l0.length : Int) then (spec_GoodBinds.j1 k1 l0 x12_1 l0 (l0.length : Int) x12_1 (!(Op.bytesLess (((rd_T53 l0 (ji14)).f0).toList) (((rd_T53 l0 x12_1).f0).toList))) ((rd_T53 l0 x12_1).f0) ((rd_T53 l0 x12_1).f1)) else (none)) else (none)) = some r := by first | (rw [hji14] at H; exact H) | (simp only [hji14] at H ⊢; exact H)
         (try rw [hji14] at A9)
         (try rw [hji14] at A11)
         have hji14w : (IntKind.i64.wrap (x12_1 - 1)) = ji14 := (i64_w _).trans hji14
         obtain ⟨c15, H⟩ := ifn_ H
         have c15b0 : decide (0 ≤ (ji14)) = true := decide_eq_true c15
         clear c15
         obtain ⟨c16, H⟩ := ifn_ H
         have c16b0 : decide ((ji14) < (l0.length : Int)) = true := decide_eq_true c16
         clear c16
         have H' := am_ H
         clear H
         have hcz17_0 := cz_ BK146.out 0
         have hcz17_1 := cz_ BK146.out 1
         have hfz17_0 := blk_frozen BK146.out 0
         have hfz17_1 := blk_frozen BK146.out 1
         go_wp2_with (first | (go_at_call 26; (with_reducible refine (spec_GoodName.calls k1 ((rd_T53 l0 x12_1).f0) true _ A9.out).mono ?_); rintro e w' ⟨rfl, ⟨nd, rfl⟩⟩; (try first | exact ⟨rfl, _, World.drewN_drewN _ _ _⟩ | exact ⟨rfl, _, Eq.trans (World.drewN_drewN _ _ _) (congrArg (World.drewN _) (Nat.add_assoc _ _ _))⟩)) | (go_at_call 27; (with_reducible refine (spec_l17Chord.calls k1 _ _ ((rd_T53 l0 x12_1).f1) true _ ?side1 ?side2 A11.out).mono ?_); (case side1 => exact Kd.C_below HR145_1.out (bw_ HB.out)); (case side2 => exact HC145_1.out); rintro e w' ⟨rfl, ⟨nd, rfl⟩⟩; (try first | exact ⟨rfl, _, World.drewN_drewN _ _ _⟩ | exact ⟨rfl, _, Eq.trans (World.drewN_drewN _ _ _) (congrArg (World.drewN _) (Nat.add_assoc _ _ _))⟩); have p149 : 0 ≤ ((ji14) : Int) := od_; have q149 : (ji14) < (l0.length : Int) := od_; obtain ⟨ad149, A149_1, c149_1, e149, hx149_0, hx149_1, hl149_1, hi149_1⟩ := at_T53 HR0.out (ji14) p149 q149; obtain rfl : ad145 = ad149 := (by injection e149); have hn149_0 : ad145.block ≠ gb146 := Nat.ne_of_lt (Nat.lt_of_lt_of_le (by have := World.block_lt_of_cell? _ _ hx149_0; first | rwa [add_block] at this | exact this) GW146.out); have hn149_1 : ad145.block ≠ gb146 := Nat.ne_of_lt (Nat.lt_of_lt_of_le (by have := World.block_lt_of_cell? _ _ hx149_0; first | rwa [add_block] at this | exact this) GW146.out); (try replace hx149_0 := hc_ HB.out hx149_0); (try replace hx149_1 := hc_ HB.out hx149_1); have HR149_1 := am_ hi149_1; have HC149_1 := am_ hl149_1; clear hi149_1 hl149_1; replace hx149_0 := (cell_far (p := ⟨gb146, 0, none⟩) (by first | (rw [add_block]; exact hn149_0) | (show (Addr.add _ _).block ≠ _; rw [add_block]; exact hn149_0) | exact hn149_0) (.string ((rd_T53 l0 x12_1).f0))).trans hx149_0; replace hx149_1 := (cell_far (p := ⟨gb146, 0, none⟩) (by first | (rw [add_block]; exact hn149_0) | (show (Addr.add _ _).block ≠ _; rw [add_block]; exact hn149_0) | exact hn149_0) (.string ((rd_T53 l0 x12_1).f0))).trans hx149_1; replace hx149_0 := (cell_far (p := ⟨gb146, 1, none⟩) (by first | (rw [add_block]; exact hn149_1) | (show (Addr.add _ _).block ≠ _; rw [add_block]; exact hn149_1) | exact hn149_1) (.slice A145_1 ((rd_T53 l0 x12_1).f1).length c145_1)).trans hx149_0; replace hx149_1 := (cell_far (p := ⟨gb146, 1, none⟩) (by first | (rw [add_block]; exact hn149_1) | (show (Addr.add _ _).block ≠ _; rw [add_block]; exact hn149_1) | exact hn149_1) (.slice A145_1 ((rd_T53 l0 x12_1).f1).length c145_1)).trans hx149_1; (try have hy149_0 := fun (n_ : Nat) => (show ((((w7.drewN n_).setCell ⟨gb146, 0, none⟩ (.string ((rd_T53 l0 x12_1).f0))).setCell ⟨gb146, 1, none⟩ (.slice A145_1 ((rd_T53 l0 x12_1).f1).length c145_1))).cell? _ = some _ from hx149_0)); (try have hy149_1 := fun (n_ : Nat) => (show ((((w7.drewN n_).setCell ⟨gb146, 0, none⟩ (.string ((rd_T53 l0 x12_1).f0))).setCell ⟨gb146, 1, none⟩ (.slice A145_1 ((rd_T53 l0 x12_1).f1).length c145_1))).cell? _ = some _ from hx149_1)); clear hn149_0; clear hn149_1; replace p149 := eq_true p149; replace q149 := eq_true q149))
         repeat (go_quiet (first | (go_at_call 26; (with_reducible refine (spec_GoodName.calls k1 ((rd_T53 l0 x12_1).f0) true _ A9.out).mono ?_); rintro e w' ⟨rfl, ⟨nd, rfl⟩⟩; (try first | exact ⟨rfl, _, World.drewN_drewN _ _ _⟩ | exact ⟨rfl, _, Eq.trans (World.drewN_drewN _ _ _) (congrArg (World.drewN _) (Nat.add_assoc _ _ _))⟩)) | (go_at_call 27; (with_reducible refine (spec_l17Chord.calls k1 _ _ ((rd_T53 l0 x12_1).f1) true _ ?side1 ?side2 A11.out).mono ?_); (case side1 => exact Kd.C_below HR145_1.out (bw_ HB.out)); (case side2 => exact HC145_1.out); rintro e w' ⟨rfl, ⟨nd, rfl⟩⟩; (try first | exact ⟨rfl, _, World.drewN_drewN _ _ _⟩ | exact ⟨rfl, _, Eq.trans (World.drewN_drewN _ _ _) (congrArg (World.drewN _) (Nat.add_assoc _ _ _))⟩); have p149 : 0 ≤ ((ji14) : Int) := od_; have q149 : (ji14) < (l0.length : Int) := od_; obtain ⟨ad149, A149_1, c149_1, e149, hx149_0, hx149_1, hl149_1, hi149_1⟩ := at_T53 HR0.out (ji14) p149 q149; obtain rfl : ad145 = ad149 := (by injection e149); have hn149_0 : ad145.block ≠ gb146 := Nat.ne_of_lt (Nat.lt_of_lt_of_le (by have := World.block_lt_of_cell? _ _ hx149_0; first | rwa [add_block] at this | exact this) GW146.out); have hn149_1 : ad145.block ≠ gb146 := Nat.ne_of_lt (Nat.lt_of_lt_of_le (by have := World.block_lt_of_cell? _ _ hx149_0; first | rwa [add_block] at this | exact this) GW146.out); (try replace hx149_0 := hc_ HB.out hx149_0); (try replace hx149_1 := hc_ HB.out hx149_1); have HR149_1 := am_ hi149_1; have HC149_1 := am_ hl149_1; clear hi149_1 hl149_1; replace hx149_0 := (cell_far (p := ⟨gb146, 0, none⟩) (by first | (rw [add_block]; exact hn149_0) | (show (Addr.add _ _).block ≠ _; rw [add_block]; exact hn149_0) | exact hn149_0) (.string ((rd_T53 l0 x12_1).f0))).trans hx149_0; replace hx149_1 := (cell_far (p := ⟨gb146, 0, none⟩) (by first | (rw [add_block]; exact hn149_0) | (show (Addr.add _ _).block ≠ _; rw [add_block]; exact hn149_0) | exact hn149_0) (.string ((rd_T53 l0 x12_1).f0))).trans hx149_1; replace hx149_0 := (cell_far (p := ⟨gb146, 1, none⟩) (by first | (rw [add_block]; exact hn149_1) | (show (Addr.add _ _).block ≠ _; rw [add_block]; exact hn149_1) | exact hn149_1) (.slice A145_1 ((rd_T53 l0 x12_1).f1).length c145_1)).trans hx149_0; replace hx149_1 := (cell_far (p := ⟨gb146, 1, none⟩) (by first | (rw [add_block]; exact hn149_1) | (show (Addr.add _ _).block ≠ _; rw [add_block]; exact hn149_1) | exact hn149_1) (.slice A145_1 ((rd_T53 l0 x12_1).f1).length c145_1)).trans hx149_1; (try have hy149_0 := fun (n_ : Nat) => (show ((((w7.drewN n_).setCell ⟨gb146, 0, none⟩ (.string ((rd_T53 l0 x12_1).f0))).setCell ⟨gb146, 1, none⟩ (.slice A145_1 ((rd_T53 l0 x12_1).f1).length c145_1))).cell? _ = some _ from hx149_0)); (try have hy149_1 := fun (n_ : Nat) => (show ((((w7.drewN n_).setCell ⟨gb146, 0, none⟩ (.string ((rd_T53 l0 x12_1).f0))).setCell ⟨gb146, 1, none⟩ (.slice A145_1 ((rd_T53 l0 x12_1).f1).length c145_1))).cell? _ = some _ from hx149_1)); clear hn149_0; clear hn149_1; replace p149 := eq_true p149; replace q149 := eq_true q149)); try go_wp2_with (first | (go_at_call 26; (with_reducible refine (spec_GoodName.calls k1 ((rd_T53 l0 x12_1).f0) true _ A9.out).mono ?_); rintro e w' ⟨rfl, ⟨nd, rfl⟩⟩; (try first | exact ⟨rfl, _, World.drewN_drewN _ _ _⟩ | exact ⟨rfl, _, Eq.trans (World.drewN_drewN _ _ _) (congrArg (World.drewN _) (Nat.add_assoc _ _ _))⟩)) | (go_at_call 27; (with_reducible refine (spec_l17Chord.calls k1 _ _ ((rd_T53 l0 x12_1).f1) true _ ?side1 ?side2 A11.out).mono ?_); (case side1 => exact Kd.C_below HR145_1.out (bw_ HB.out)); (case side2 => exact HC145_1.out); rintro e w' ⟨rfl, ⟨nd, rfl⟩⟩; (try first | exact ⟨rfl, _, World.drewN_drewN _ _ _⟩ | exact ⟨rfl, _, Eq.trans (World.drewN_drewN _ _ _) (congrArg (World.drewN _) (Nat.add_assoc _ _ _))⟩); have p149 : 0 ≤ ((ji14) : Int) := od_; have q149 : (ji14) < (l0.length : Int) := od_; obtain ⟨ad149, A149_1, c149_1, e149, hx149_0, hx149_1, hl149_1, hi149_1⟩ := at_T53 HR0.out (ji14) p149 q149; obtain rfl : ad145 = ad149 := (by injection e149); have hn149_0 : ad145.block ≠ gb146 := Nat.ne_of_lt (Nat.lt_of_lt_of_le (by have := World.block_lt_of_cell? _ _ hx149_0; first | rwa [add_block] at this | exact this) GW146.out); have hn149_1 : ad145.block ≠ gb146 := Nat.ne_of_lt (Nat.lt_of_lt_of_le (by have := World.block_lt_of_cell? _ _ hx149_0; first | rwa [add_block] at this | exact this) GW146.out); (try replace hx149_0 := hc_ HB.out hx149_0); (try replace hx149_1 := hc_ HB.out hx149_1); have HR149_1 := am_ hi149_1; have HC149_1 := am_ hl149_1; clear hi149_1 hl149_1; replace hx149_0 := (cell_far (p := ⟨gb146, 0, none⟩) (by first | (rw [add_block]; exact hn149_0) | (show (Addr.add _ _).block ≠ _; rw [add_block]; exact hn149_0) | exact hn149_0) (.string ((rd_T53 l0 x12_1).f0))).trans hx149_0; replace hx149_1 := (cell_far (p := ⟨gb146, 0, none⟩) (by first | (rw [add_block]; exact hn149_0) | (show (Addr.add _ _).block ≠ _; rw [add_block]; exact hn149_0) | exact hn149_0) (.string ((rd_T53 l0 x12_1).f0))).trans hx149_1; replace hx149_0 := (cell_far (p := ⟨gb146, 1, none⟩) (by first | (rw [add_block]; exact hn149_1) | (show (Addr.add _ _).block ≠ _; rw [add_block]; exact hn149_1) | exact hn149_1) (.slice A145_1 ((rd_T53 l0 x12_1).f1).length c145_1)).trans hx149_0; replace hx149_1 := (cell_far (p := ⟨gb146, 1, none⟩) (by first | (rw [add_block]; exact hn149_1) | (show (Addr.add _ _).block ≠ _; rw [add_block]; exact hn149_1) | exact hn149_1) (.slice A145_1 ((rd_T53 l0 x12_1).f1).length c145_1)).trans hx149_1; (try have hy149_0 := fun (n_ : Nat) => (show ((((w7.drewN n_).setCell ⟨gb146, 0, none⟩ (.string ((rd_T53 l0 x12_1).f0))).setCell ⟨gb146, 1, none⟩ (.slice A145_1 ((rd_T53 l0 x12_1).f1).length c145_1))).cell? _ = some _ from hx149_0)); (try have hy149_1 := fun (n_ : Nat) => (show ((((w7.drewN n_).setCell ⟨gb146, 0, none⟩ (.string ((rd_T53 l0 x12_1).f0))).setCell ⟨gb146, 1, none⟩ (.slice A145_1 ((rd_T53 l0 x12_1).f1).length c145_1))).cell? _ = some _ from hx149_1)); clear hn149_0; clear hn149_1; replace p149 := eq_true p149; replace q149 := eq_true q149)))
         go_meet
         case rel => exact ⟨_, (!(Op.bytesLess (((rd_T53 l0 (ji14)).f0).toList) (((rd_T53 l0 x12_1).f0).toList))), (by first | rfl | (simp; done) | (simp only [← hji14] <;> (first | rfl | simp)) | (simp [*]; done)), H', ⟨by have := HK1.out; first | omega | exact Nat.le_refl _⟩, ⟨by (with_reducible repeat (first | refine blk_drewN ?_ _ | refine blk_drew ?_ | refine blk_alloc ?_ _)); refine blk_put (cs := #[.string ((rd_T53 l0 x12_1).f0), .slice none 0 0]) ?_ 1 _ rfl; (with_reducible repeat (first | refine blk_drewN ?_ _ | refine blk_drew ?_ | refine blk_alloc ?_ _)); refine blk_put (cs := #[.string (⟨#[]⟩ : ByteArray), .slice none 0 0]) ?_ 0 _ rfl; (with_reducible repeat (first | refine blk_drewN ?_ _ | refine blk_drew ?_ | refine blk_alloc ?_ _)); exact BK146.out⟩, ⟨bw_ HB.out⟩⟩
        ·rw [if_neg c13] at H
         have c13b0 : decide (0 < x12_1) = false := decide_eq_false c13
         clear c13
         (first | rw [c13b0] | (simp only [i64_w, i32_w]; rw [c13b0]) | skip)
         have H' := am_ H
         clear H
         have hcz18_0 := cz_ BK146.out 0
         have hcz18_1 := cz_ BK146.out 1
         have hfz18_0 := blk_frozen BK146.out 0
         have hfz18_1 := blk_frozen BK146.out 1
         go_wp2_with (first | (go_at_call 26; (with_reducible refine (spec_GoodName.calls k1 ((rd_T53 l0 x12_1).f0) true _ A9.out).mono ?_); rintro e w' ⟨rfl, ⟨nd, rfl⟩⟩; (try first | exact ⟨rfl, _, World.drewN_drewN _ _ _⟩ | exact ⟨rfl, _, Eq.trans (World.drewN_drewN _ _ _) (congrArg (World.drewN _) (Nat.add_assoc _ _ _))⟩)) | (go_at_call 27; (with_reducible refine (spec_l17Chord.calls k1 _ _ ((rd_T53 l0 x12_1).f1) true _ ?side1 ?side2 A11.out).mono ?_); (case side1 => exact Kd.C_below HR145_1.out (bw_ HB.out)); (case side2 => exact HC145_1.out); rintro e w' ⟨rfl, ⟨nd, rfl⟩⟩; (try first | exact ⟨rfl, _, World.drewN_drewN _ _ _⟩ | exact ⟨rfl, _, Eq.trans (World.drewN_drewN _ _ _) (congrArg (World.drewN _) (Nat.add_assoc _ _ _))⟩)))
         repeat (go_quiet (first | (go_at_call 26; (with_reducible refine (spec_GoodName.calls k1 ((rd_T53 l0 x12_1).f0) true _ A9.out).mono ?_); rintro e w' ⟨rfl, ⟨nd, rfl⟩⟩; (try first | exact ⟨rfl, _, World.drewN_drewN _ _ _⟩ | exact ⟨rfl, _, Eq.trans (World.drewN_drewN _ _ _) (congrArg (World.drewN _) (Nat.add_assoc _ _ _))⟩)) | (go_at_call 27; (with_reducible refine (spec_l17Chord.calls k1 _ _ ((rd_T53 l0 x12_1).f1) true _ ?side1 ?side2 A11.out).mono ?_); (case side1 => exact Kd.C_below HR145_1.out (bw_ HB.out)); (case side2 => exact HC145_1.out); rintro e w' ⟨rfl, ⟨nd, rfl⟩⟩; (try first | exact ⟨rfl, _, World.drewN_drewN _ _ _⟩ | exact ⟨rfl, _, Eq.trans (World.drewN_drewN _ _ _) (congrArg (World.drewN _) (Nat.add_assoc _ _ _))⟩))); try go_wp2_with (first | (go_at_call 26; (with_reducible refine (spec_GoodName.calls k1 ((rd_T53 l0 x12_1).f0) true _ A9.out).mono ?_); rintro e w' ⟨rfl, ⟨nd, rfl⟩⟩; (try first | exact ⟨rfl, _, World.drewN_drewN _ _ _⟩ | exact ⟨rfl, _, Eq.trans (World.drewN_drewN _ _ _) (congrArg (World.drewN _) (Nat.add_assoc _ _ _))⟩)) | (go_at_call 27; (with_reducible refine (spec_l17Chord.calls k1 _ _ ((rd_T53 l0 x12_1).f1) true _ ?side1 ?side2 A11.out).mono ?_); (case side1 => exact Kd.C_below HR145_1.out (bw_ HB.out)); (case side2 => exact HC145_1.out); rintro e w' ⟨rfl, ⟨nd, rfl⟩⟩; (try first | exact ⟨rfl, _, World.drewN_drewN _ _ _⟩ | exact ⟨rfl, _, Eq.trans (World.drewN_drewN _ _ _) (congrArg (World.drewN _) (Nat.add_assoc _ _ _))⟩))))
         go_meet
         case rel => exact ⟨_, (false), sq_, H', ⟨by have := HK1.out; first | omega | exact Nat.le_refl _⟩, ⟨by (with_reducible repeat (first | refine blk_drewN ?_ _ | refine blk_drew ?_ | refine blk_alloc ?_ _)); refine blk_put (cs := #[.string ((rd_T53 l0 x12_1).f0), .slice none 0 0]) ?_ 1 _ rfl; (with_reducible repeat (first | refine blk_drewN ?_ _ | refine blk_drew ?_ | refine blk_alloc ?_ _)); refine blk_put (cs := #[.string (⟨#[]⟩ : ByteArray), .slice none 0 0]) ?_ 0 _ rfl; (with_reducible repeat (first | refine blk_drewN ?_ _ | refine blk_drew ?_ | refine blk_alloc ?_ _)); exact BK146.out⟩, ⟨bw_ HB.out⟩⟩
       ·replace c12 := Bool.eq_false_iff.mpr c12
        subst c12
        replace H := if_ H Bool.false_ne_true
        have H' := am_ H
        clear H
        have hcz19_0 := cz_ BK146.out 0
        have hcz19_1 := cz_ BK146.out 1
        have hfz19_0 := blk_frozen BK146.out 0
        have hfz19_1 := blk_frozen BK146.out 1
        go_wp2_with (first | (go_at_call 26; (with_reducible refine (spec_GoodName.calls k1 ((rd_T53 l0 x12_1).f0) true _ A9.out).mono ?_); rintro e w' ⟨rfl, ⟨nd, rfl⟩⟩; (try first | exact ⟨rfl, _, World.drewN_drewN _ _ _⟩ | exact ⟨rfl, _, Eq.trans (World.drewN_drewN _ _ _) (congrArg (World.drewN _) (Nat.add_assoc _ _ _))⟩)) | (go_at_call 27; (with_reducible refine (spec_l17Chord.calls k1 _ _ ((rd_T53 l0 x12_1).f1) false _ ?side1 ?side2 A11.out).mono ?_); (case side1 => exact Kd.C_below HR145_1.out (bw_ HB.out)); (case side2 => exact HC145_1.out); rintro e w' ⟨rfl, ⟨nd, rfl⟩⟩; (try first | exact ⟨rfl, _, World.drewN_drewN _ _ _⟩ | exact ⟨rfl, _, Eq.trans (World.drewN_drewN _ _ _) (congrArg (World.drewN _) (Nat.add_assoc _ _ _))⟩)))
        repeat (go_quiet (first | (go_at_call 26; (with_reducible refine (spec_GoodName.calls k1 ((rd_T53 l0 x12_1).f0) true _ A9.out).mono ?_); rintro e w' ⟨rfl, ⟨nd, rfl⟩⟩; (try first | exact ⟨rfl, _, World.drewN_drewN _ _ _⟩ | exact ⟨rfl, _, Eq.trans (World.drewN_drewN _ _ _) (congrArg (World.drewN _) (Nat.add_assoc _ _ _))⟩)) | (go_at_call 27; (with_reducible refine (spec_l17Chord.calls k1 _ _ ((rd_T53 l0 x12_1).f1) false _ ?side1 ?side2 A11.out).mono ?_); (case side1 => exact Kd.C_below HR145_1.out (bw_ HB.out)); (case side2 => exact HC145_1.out); rintro e w' ⟨rfl, ⟨nd, rfl⟩⟩; (try first | exact ⟨rfl, _, World.drewN_drewN _ _ _⟩ | exact ⟨rfl, _, Eq.trans (World.drewN_drewN _ _ _) (congrArg (World.drewN _) (Nat.add_assoc _ _ _))⟩))); try go_wp2_with (first | (go_at_call 26; (with_reducible refine (spec_GoodName.calls k1 ((rd_T53 l0 x12_1).f0) true _ A9.out).mono ?_); rintro e w' ⟨rfl, ⟨nd, rfl⟩⟩; (try first | exact ⟨rfl, _, World.drewN_drewN _ _ _⟩ | exact ⟨rfl, _, Eq.trans (World.drewN_drewN _ _ _) (congrArg (World.drewN _) (Nat.add_assoc _ _ _))⟩)) | (go_at_call 27; (with_reducible refine (spec_l17Chord.calls k1 _ _ ((rd_T53 l0 x12_1).f1) false _ ?side1 ?side2 A11.out).mono ?_); (case side1 => exact Kd.C_below HR145_1.out (bw_ HB.out)); (case side2 => exact HC145_1.out); rintro e w' ⟨rfl, ⟨nd, rfl⟩⟩; (try first | exact ⟨rfl, _, World.drewN_drewN _ _ _⟩ | exact ⟨rfl, _, Eq.trans (World.drewN_drewN _ _ _) (congrArg (World.drewN _) (Nat.add_assoc _ _ _))⟩))))
        go_meet
        case rel => exact ⟨_, (true), sq_, H', ⟨by have := HK1.out; first | omega | exact Nat.le_refl _⟩, ⟨by (with_reducible repeat (first | refine blk_drewN ?_ _ | refine blk_drew ?_ | refine blk_alloc ?_ _)); refine blk_put (cs := #[.string ((rd_T53 l0 x12_1).f0), .slice none 0 0]) ?_ 1 _ rfl; (with_reducible repeat (first | refine blk_drewN ?_ _ | refine blk_drew ?_ | refine blk_alloc ?_ _)); refine blk_put (cs := #[.string (⟨#[]⟩ : ByteArray), .slice none 0 0]) ?_ 0 _ rfl; (with_reducible repeat (first | refine blk_drewN ?_ _ | refine blk_drew ?_ | refine blk_alloc ?_ _)); exact BK146.out⟩, ⟨bw_ HB.out⟩⟩
      ·replace c10 := Bool.eq_false_iff.mpr c10
       subst c10
       replace H := if_ H Bool.false_ne_true
       have H' := am_ H
       clear H
       have hcz20_0 := cz_ BK146.out 0
       have hcz20_1 := cz_ BK146.out 1
       have hfz20_0 := blk_frozen BK146.out 0
       have hfz20_1 := blk_frozen BK146.out 1
       go_wp2_with (first | (go_at_call 26; (with_reducible refine (spec_GoodName.calls k1 ((rd_T53 l0 x12_1).f0) false _ A9.out).mono ?_); rintro e w' ⟨rfl, ⟨nd, rfl⟩⟩; (try first | exact ⟨rfl, _, World.drewN_drewN _ _ _⟩ | exact ⟨rfl, _, Eq.trans (World.drewN_drewN _ _ _) (congrArg (World.drewN _) (Nat.add_assoc _ _ _))⟩)))
       repeat (go_quiet (first | (go_at_call 26; (with_reducible refine (spec_GoodName.calls k1 ((rd_T53 l0 x12_1).f0) false _ A9.out).mono ?_); rintro e w' ⟨rfl, ⟨nd, rfl⟩⟩; (try first | exact ⟨rfl, _, World.drewN_drewN _ _ _⟩ | exact ⟨rfl, _, Eq.trans (World.drewN_drewN _ _ _) (congrArg (World.drewN _) (Nat.add_assoc _ _ _))⟩))); try go_wp2_with (first | (go_at_call 26; (with_reducible refine (spec_GoodName.calls k1 ((rd_T53 l0 x12_1).f0) false _ A9.out).mono ?_); rintro e w' ⟨rfl, ⟨nd, rfl⟩⟩; (try first | exact ⟨rfl, _, World.drewN_drewN _ _ _⟩ | exact ⟨rfl, _, Eq.trans (World.drewN_drewN _ _ _) (congrArg (World.drewN _) (Nat.add_assoc _ _ _))⟩))))
       go_meet
       case rel => exact ⟨_, (true), sq_, H', ⟨by have := HK1.out; first | omega | exact Nat.le_refl _⟩, ⟨by (with_reducible repeat (first | refine blk_drewN ?_ _ | refine blk_drew ?_ | refine blk_alloc ?_ _)); refine blk_put (cs := #[.string ((rd_T53 l0 x12_1).f0), .slice none 0 0]) ?_ 1 _ rfl; (with_reducible repeat (first | refine blk_drewN ?_ _ | refine blk_drew ?_ | refine blk_alloc ?_ _)); refine blk_put (cs := #[.string (⟨#[]⟩ : ByteArray), .slice none 0 0]) ?_ 0 _ rfl; (with_reducible repeat (first | refine blk_drewN ?_ _ | refine blk_drew ?_ | refine blk_alloc ?_ _)); exact BK146.out⟩, ⟨bw_ HB.out⟩⟩
     case rest =>
      clear HC6
      try clear c2
      try clear c2b0
      try clear c2b1
      try clear c3
      try clear c3b0
      try clear c4
      try clear c4b0
      try clear c5
      try clear c5b0
      try clear hcz8_0
      try clear hcz8_1
      try clear hfz8_0
      try clear hfz8_1
      try clear hx145_0
      try clear hx145_1
      try clear p145
      try clear q145
      obtain ⟨kq, x41_5, rfl, HA, HJ5, BK146, HB⟩ := hcut
      cases kq with
      | zero => exact absurd HA.out (by simp [spec_GoodBinds.j1])
      | succ kj5 =>
       have H := HA.out
       clear HA
       simp only [spec_GoodBinds.j1] at H
       by_cases c21 : x41_5 = true
       ·subst c21
        replace H := it_ H rfl
        obtain rfl := Option.some.inj H
        go_wp2
        repeat (go_quiet (fail); try go_wp2)
        go_ret
        exact ⟨by first | rfl | (simp [errW_none, errW_some] <;> rfl) | (simp [*, errW_none, errW_some] <;> rfl), bw_ HB.out⟩
       ·replace c21 := Bool.eq_false_iff.mpr c21
        subst c21
        replace H := if_ H Bool.false_ne_true
        obtain ⟨c22, H⟩ := ifn_ H
        have c22b0 := eq_true c22
        have c22b1 : decide (0 ≤ x12_1) = true := decide_eq_true c22
        clear c22
        obtain ⟨c23, H⟩ := ifn_ H
        have c23b0 := eq_true c23
        have c23b1 : decide (x12_1 ≤ (l0.length : Int)) = true := decide_eq_true c23
        clear c23
        obtain ⟨y150, hy150⟩ : ∃ y_ : List (S53), y_ = (l0.take (x12_1 : Int).toNat) := ⟨_, rfl⟩
        replace H : (spec_GoodBinds.l1 kj5 l0 l0 (l0.length : Int) x12_1 y150 (y150.length : Int) 0 ((rd_T53 l0 x12_1).f0) ((rd_T53 l0 x12_1).f1)) = some r := by first | (rw [hy150]; with_reducible exact H) | (have H2_ := (Option.bind_some _ _).symm.trans H; rw [hy150]; with_reducible exact H2_) | (have H2_ := (Option.bind_some _ _).symm.trans H; with_reducible exact H2_) | with_reducible exact H | (rw [hy150]; exact H) | exact H
        have Ny150 := am_ hy150
        clear hy150
        have H' := am_ H
        clear H
        have q24 : (x12_1 : Int) ≤ ((l0.length : Int) : Int) := od_
        obtain ⟨i024, hi024, _, hsz24, _⟩ := info_parts info53
        have hroom24 : l0.length ≤ c0 := HC0.out
        have hC24 : Kd.C k53 _ (some ad145) l0.length l0 := HR0.out
        have hcut24 := cut_to (P := Try.prog) 25 53 .i64 Try.underlying25 hi024 (some ad145) l0.length c0 x12_1 od_ q24 hroom24
        have hr24 := Kd.C_take (m := (x12_1 : Int).toNat) hC24 (by omega)
        have hy24 : y150.length = (x12_1 : Int).toNat := (by rw [Ny150.out, List.length_take]; omega)
        rw [← Ny150.out] at hr24
        rw [← hy24] at hcut24
        have HR153 := am_ hr24
        have HC153 := am_ (show y150.length ≤ c0 from by omega)
        clear hr24 hC24 hroom24 hi024 hsz24
        have KY24 := am_ hy24
        clear hy24
        replace q24 := eq_true q24
        go_wp2
        repeat (go_quiet (fail); try go_wp2)
        go_loopg [46] kj5 (fun kq v46 w' => ∃ (x46_3 : Int), v46 = .int .i64 x46_3 ∧ Aside0 (spec_GoodBinds.l1 kq l0 l0 (l0.length : Int) x12_1 y150 (y150.length : Int) x46_3 ((rd_T53 l0 x12_1).f0) ((rd_T53 l0 x12_1).f1) = some r) ∧ Aside0 (kq ≤ kj5) ∧ Aside0 (w'.heap[gb146]? = some (.cells #[.string ((rd_T53 l0 x12_1).f0), (.slice A145_1 ((rd_T53 l0 x12_1).f1).length c145_1)] 53 (0, 0))) ∧ Aside0 (Below w.heap.size w w'))
        case atStart => exact ⟨(0), sq_, H', ⟨Nat.le_refl _⟩, ⟨bk_ BK146.out⟩, ⟨bw_ HB.out⟩⟩
        case round =>
         clear H'
         try clear c2
         try clear c2b0
         try clear c2b1
         try clear c3
         try clear c3b0
         try clear c4
         try clear c4b0
         try clear c5
         try clear c5b0
         try clear c21
         try clear c22
         try clear c22b0
         try clear c22b1
         try clear c23
         try clear c23b0
         try clear c23b1
         try clear q24
         try clear hcz8_0
         try clear hcz8_1
         try clear hfz8_0
         try clear hfz8_1
         try clear hx145_0
         try clear hx145_1
         try clear p145
         try clear q145
         try clear q24
         obtain ⟨x46_3, rfl, HA, HK3, BK146, HB⟩ := hrel
         cases gk with
         | zero => exact absurd HA.out (by simp [spec_GoodBinds.l1])
         | succ k3 =>
          have H := HA.out
          clear HA
          simp only [spec_GoodBinds.l1] at H
          by_cases c25 : x46_3 < (y150.length : Int)
          ·rw [if_pos c25] at H
           have c25b0 : decide (x46_3 < (y150.length : Int)) = true := decide_eq_true c25
           clear c25
           obtain ⟨c26, H⟩ := ifn_ H
           have c26b0 : decide (0 ≤ x46_3) = true := decide_eq_true c26
           clear c26
           obtain ⟨c27, H⟩ := ifn_ H
           have c27b0 : decide (x46_3 < (y150.length : Int)) = true := decide_eq_true c27
           clear c27
           obtain ⟨t156, A280, H⟩ := bE_ H
           have A28 := am_ A280
           clear A280
           by_cases c29 : t156 = true
           ·subst c29
            replace H := it_ H rfl
            obtain rfl := Option.some.inj H
            have p154 : 0 ≤ (x46_3 : Int) := od_
            have q154 : x46_3 < (y150.length : Int) := od_
            obtain ⟨ad154, A154_1, c154_1, e154, hx154_0, hx154_1, hl154_1, hi154_1⟩ := at_T53 HR153.out x46_3 p154 q154
            obtain rfl : ad145 = ad154 := (by injection e154)
            (try replace hx154_0 := hc_ HB.out hx154_0)
            (try replace hx154_1 := hc_ HB.out hx154_1)
            have HR154_1 := am_ hi154_1
            have HC154_1 := am_ hl154_1
            clear hi154_1 hl154_1
            replace p154 := eq_true p154
            replace q154 := eq_true q154
            go_wp2_with (first | ((with_reducible refine gate_dst (N := 6) rfl ?_); refine bx_ 6 #[.string (⟨#[]⟩ : ByteArray), .slice none 0 0] 53 ?_; intro gb155 hg w30 hbox hb; have n0_ := am_ (blk_below (bk_ BK146.out) hb); have n1_ := am_ (below_step (bw_ HB.out) hb); have n2_ := am_ (hbox); have n3_ := am_ (gs_ hg (bw_ HB.out)); have n4_ := am_ (gs_ hg (bw_ HB.out)); have n5_ := am_ (nl_ hg (bk_ BK146.out)); have n6_ := am_ (ng_ hg (bk_ BK146.out)); replace BK146 := n0_; replace HB := n1_; have BK155 := n2_; have GW155 := n3_; have GE155 := n4_; have NB146_155 := n5_; have NB155_146 := n6_; clear n0_ n1_ n2_ n3_ n4_ n5_ n6_; clear hb hbox hg; have hnb31 := NB155_146.out; have hnc31 := NB146_155.out; have hcz32_0 := cz_ BK155.out 0; have hcz32_1 := cz_ BK155.out 1; have hfz32_0 := blk_frozen BK155.out 0; have hfz32_1 := blk_frozen BK155.out 1; have hcz33_0 := cz_ BK146.out 0; have hcz33_1 := cz_ BK146.out 1; have hfz33_0 := blk_frozen BK146.out 0; have hfz33_1 := blk_frozen BK146.out 1) | (go_at_call 28; (with_reducible refine (spec_l17Same.calls k3 _ _ ((rd_T53 y150 x46_3).f1) _ _ ((rd_T53 l0 x12_1).f1) true _ ?side1 ?side2 ?side3 ?side4 A28.out).mono ?_); (case side1 => exact Kd.C_below HR154_1.out (bw_ HB.out)); (case side2 => exact HC154_1.out); (case side3 => exact Kd.C_below HR145_1.out (bw_ HB.out)); (case side4 => exact HC145_1.out); rintro e w' ⟨rfl, ⟨nd, rfl⟩⟩; (try first | exact ⟨rfl, _, World.drewN_drewN _ _ _⟩ | exact ⟨rfl, _, Eq.trans (World.drewN_drewN _ _ _) (congrArg (World.drewN _) (Nat.add_assoc _ _ _))⟩)))
            repeat (go_quiet (first | ((with_reducible refine gate_dst (N := 6) rfl ?_); refine bx_ 6 #[.string (⟨#[]⟩ : ByteArray), .slice none 0 0] 53 ?_; intro gb155 hg w30 hbox hb; have n0_ := am_ (blk_below (bk_ BK146.out) hb); have n1_ := am_ (below_step (bw_ HB.out) hb); have n2_ := am_ (hbox); have n3_ := am_ (gs_ hg (bw_ HB.out)); have n4_ := am_ (gs_ hg (bw_ HB.out)); have n5_ := am_ (nl_ hg (bk_ BK146.out)); have n6_ := am_ (ng_ hg (bk_ BK146.out)); replace BK146 := n0_; replace HB := n1_; have BK155 := n2_; have GW155 := n3_; have GE155 := n4_; have NB146_155 := n5_; have NB155_146 := n6_; clear n0_ n1_ n2_ n3_ n4_ n5_ n6_; clear hb hbox hg; have hnb31 := NB155_146.out; have hnc31 := NB146_155.out; have hcz32_0 := cz_ BK155.out 0; have hcz32_1 := cz_ BK155.out 1; have hfz32_0 := blk_frozen BK155.out 0; have hfz32_1 := blk_frozen BK155.out 1; have hcz33_0 := cz_ BK146.out 0; have hcz33_1 := cz_ BK146.out 1; have hfz33_0 := blk_frozen BK146.out 0; have hfz33_1 := blk_frozen BK146.out 1) | (go_at_call 28; (with_reducible refine (spec_l17Same.calls k3 _ _ ((rd_T53 y150 x46_3).f1) _ _ ((rd_T53 l0 x12_1).f1) true _ ?side1 ?side2 ?side3 ?side4 A28.out).mono ?_); (case side1 => exact Kd.C_below HR154_1.out (bw_ HB.out)); (case side2 => exact HC154_1.out); (case side3 => exact Kd.C_below HR145_1.out (bw_ HB.out)); (case side4 => exact HC145_1.out); rintro e w' ⟨rfl, ⟨nd, rfl⟩⟩; (try first | exact ⟨rfl, _, World.drewN_drewN _ _ _⟩ | exact ⟨rfl, _, Eq.trans (World.drewN_drewN _ _ _) (congrArg (World.drewN _) (Nat.add_assoc _ _ _))⟩))); try go_wp2_with (first | ((with_reducible refine gate_dst (N := 6) rfl ?_); refine bx_ 6 #[.string (⟨#[]⟩ : ByteArray), .slice none 0 0] 53 ?_; intro gb155 hg w30 hbox hb; have n0_ := am_ (blk_below (bk_ BK146.out) hb); have n1_ := am_ (below_step (bw_ HB.out) hb); have n2_ := am_ (hbox); have n3_ := am_ (gs_ hg (bw_ HB.out)); have n4_ := am_ (gs_ hg (bw_ HB.out)); have n5_ := am_ (nl_ hg (bk_ BK146.out)); have n6_ := am_ (ng_ hg (bk_ BK146.out)); replace BK146 := n0_; replace HB := n1_; have BK155 := n2_; have GW155 := n3_; have GE155 := n4_; have NB146_155 := n5_; have NB155_146 := n6_; clear n0_ n1_ n2_ n3_ n4_ n5_ n6_; clear hb hbox hg; have hnb31 := NB155_146.out; have hnc31 := NB146_155.out; have hcz32_0 := cz_ BK155.out 0; have hcz32_1 := cz_ BK155.out 1; have hfz32_0 := blk_frozen BK155.out 0; have hfz32_1 := blk_frozen BK155.out 1; have hcz33_0 := cz_ BK146.out 0; have hcz33_1 := cz_ BK146.out 1; have hfz33_0 := blk_frozen BK146.out 0; have hfz33_1 := blk_frozen BK146.out 1) | (go_at_call 28; (with_reducible refine (spec_l17Same.calls k3 _ _ ((rd_T53 y150 x46_3).f1) _ _ ((rd_T53 l0 x12_1).f1) true _ ?side1 ?side2 ?side3 ?side4 A28.out).mono ?_); (case side1 => exact Kd.C_below HR154_1.out (bw_ HB.out)); (case side2 => exact HC154_1.out); (case side3 => exact Kd.C_below HR145_1.out (bw_ HB.out)); (case side4 => exact HC145_1.out); rintro e w' ⟨rfl, ⟨nd, rfl⟩⟩; (try first | exact ⟨rfl, _, World.drewN_drewN _ _ _⟩ | exact ⟨rfl, _, Eq.trans (World.drewN_drewN _ _ _) (congrArg (World.drewN _) (Nat.add_assoc _ _ _))⟩))))
            go_ret
            exact ⟨by first | rfl | (simp [errW_none, errW_some] <;> rfl) | (simp [*, errW_none, errW_some] <;> rfl), bw_ HB.out⟩
           ·replace c29 := Bool.eq_false_iff.mpr c29
            subst c29
            replace H := if_ H Bool.false_ne_true
            have H' := am_ H
            clear H
            have p154 : 0 ≤ (x46_3 : Int) := od_
            have q154 : x46_3 < (y150.length : Int) := od_
            obtain ⟨ad154, A154_1, c154_1, e154, hx154_0, hx154_1, hl154_1, hi154_1⟩ := at_T53 HR153.out x46_3 p154 q154
            obtain rfl : ad145 = ad154 := (by injection e154)
            (try replace hx154_0 := hc_ HB.out hx154_0)
            (try replace hx154_1 := hc_ HB.out hx154_1)
            have HR154_1 := am_ hi154_1
            have HC154_1 := am_ hl154_1
            clear hi154_1 hl154_1
            replace p154 := eq_true p154
            replace q154 := eq_true q154
            go_wp2_with (first | ((with_reducible refine gate_dst (N := 6) rfl ?_); refine bx_ 6 #[.string (⟨#[]⟩ : ByteArray), .slice none 0 0] 53 ?_; intro gb155 hg w34 hbox hb; have n0_ := am_ (blk_below (bk_ BK146.out) hb); have n1_ := am_ (below_step (bw_ HB.out) hb); have n2_ := am_ (hbox); have n3_ := am_ (gs_ hg (bw_ HB.out)); have n4_ := am_ (gs_ hg (bw_ HB.out)); have n5_ := am_ (nl_ hg (bk_ BK146.out)); have n6_ := am_ (ng_ hg (bk_ BK146.out)); replace BK146 := n0_; replace HB := n1_; have BK155 := n2_; have GW155 := n3_; have GE155 := n4_; have NB146_155 := n5_; have NB155_146 := n6_; clear n0_ n1_ n2_ n3_ n4_ n5_ n6_; clear hb hbox hg; have hnb35 := NB155_146.out; have hnc35 := NB146_155.out; have hcz36_0 := cz_ BK155.out 0; have hcz36_1 := cz_ BK155.out 1; have hfz36_0 := blk_frozen BK155.out 0; have hfz36_1 := blk_frozen BK155.out 1; have hcz37_0 := cz_ BK146.out 0; have hcz37_1 := cz_ BK146.out 1; have hfz37_0 := blk_frozen BK146.out 0; have hfz37_1 := blk_frozen BK146.out 1) | (go_at_call 28; (with_reducible refine (spec_l17Same.calls k3 _ _ ((rd_T53 y150 x46_3).f1) _ _ ((rd_T53 l0 x12_1).f1) false _ ?side1 ?side2 ?side3 ?side4 A28.out).mono ?_); (case side1 => exact Kd.C_below HR154_1.out (bw_ HB.out)); (case side2 => exact HC154_1.out); (case side3 => exact Kd.C_below HR145_1.out (bw_ HB.out)); (case side4 => exact HC145_1.out); rintro e w' ⟨rfl, ⟨nd, rfl⟩⟩; (try first | exact ⟨rfl, _, World.drewN_drewN _ _ _⟩ | exact ⟨rfl, _, Eq.trans (World.drewN_drewN _ _ _) (congrArg (World.drewN _) (Nat.add_assoc _ _ _))⟩)))
            repeat (go_quiet (first | ((with_reducible refine gate_dst (N := 6) rfl ?_); refine bx_ 6 #[.string (⟨#[]⟩ : ByteArray), .slice none 0 0] 53 ?_; intro gb155 hg w34 hbox hb; have n0_ := am_ (blk_below (bk_ BK146.out) hb); have n1_ := am_ (below_step (bw_ HB.out) hb); have n2_ := am_ (hbox); have n3_ := am_ (gs_ hg (bw_ HB.out)); have n4_ := am_ (gs_ hg (bw_ HB.out)); have n5_ := am_ (nl_ hg (bk_ BK146.out)); have n6_ := am_ (ng_ hg (bk_ BK146.out)); replace BK146 := n0_; replace HB := n1_; have BK155 := n2_; have GW155 := n3_; have GE155 := n4_; have NB146_155 := n5_; have NB155_146 := n6_; clear n0_ n1_ n2_ n3_ n4_ n5_ n6_; clear hb hbox hg; have hnb35 := NB155_146.out; have hnc35 := NB146_155.out; have hcz36_0 := cz_ BK155.out 0; have hcz36_1 := cz_ BK155.out 1; have hfz36_0 := blk_frozen BK155.out 0; have hfz36_1 := blk_frozen BK155.out 1; have hcz37_0 := cz_ BK146.out 0; have hcz37_1 := cz_ BK146.out 1; have hfz37_0 := blk_frozen BK146.out 0; have hfz37_1 := blk_frozen BK146.out 1) | (go_at_call 28; (with_reducible refine (spec_l17Same.calls k3 _ _ ((rd_T53 y150 x46_3).f1) _ _ ((rd_T53 l0 x12_1).f1) false _ ?side1 ?side2 ?side3 ?side4 A28.out).mono ?_); (case side1 => exact Kd.C_below HR154_1.out (bw_ HB.out)); (case side2 => exact HC154_1.out); (case side3 => exact Kd.C_below HR145_1.out (bw_ HB.out)); (case side4 => exact HC145_1.out); rintro e w' ⟨rfl, ⟨nd, rfl⟩⟩; (try first | exact ⟨rfl, _, World.drewN_drewN _ _ _⟩ | exact ⟨rfl, _, Eq.trans (World.drewN_drewN _ _ _) (congrArg (World.drewN _) (Nat.add_assoc _ _ _))⟩))); try go_wp2_with (first | ((with_reducible refine gate_dst (N := 6) rfl ?_); refine bx_ 6 #[.string (⟨#[]⟩ : ByteArray), .slice none 0 0] 53 ?_; intro gb155 hg w34 hbox hb; have n0_ := am_ (blk_below (bk_ BK146.out) hb); have n1_ := am_ (below_step (bw_ HB.out) hb); have n2_ := am_ (hbox); have n3_ := am_ (gs_ hg (bw_ HB.out)); have n4_ := am_ (gs_ hg (bw_ HB.out)); have n5_ := am_ (nl_ hg (bk_ BK146.out)); have n6_ := am_ (ng_ hg (bk_ BK146.out)); replace BK146 := n0_; replace HB := n1_; have BK155 := n2_; have GW155 := n3_; have GE155 := n4_; have NB146_155 := n5_; have NB155_146 := n6_; clear n0_ n1_ n2_ n3_ n4_ n5_ n6_; clear hb hbox hg; have hnb35 := NB155_146.out; have hnc35 := NB146_155.out; have hcz36_0 := cz_ BK155.out 0; have hcz36_1 := cz_ BK155.out 1; have hfz36_0 := blk_frozen BK155.out 0; have hfz36_1 := blk_frozen BK155.out 1; have hcz37_0 := cz_ BK146.out 0; have hcz37_1 := cz_ BK146.out 1; have hfz37_0 := blk_frozen BK146.out 0; have hfz37_1 := blk_frozen BK146.out 1) | (go_at_call 28; (with_reducible refine (spec_l17Same.calls k3 _ _ ((rd_T53 y150 x46_3).f1) _ _ ((rd_T53 l0 x12_1).f1) false _ ?side1 ?side2 ?side3 ?side4 A28.out).mono ?_); (case side1 => exact Kd.C_below HR154_1.out (bw_ HB.out)); (case side2 => exact HC154_1.out); (case side3 => exact Kd.C_below HR145_1.out (bw_ HB.out)); (case side4 => exact HC145_1.out); rintro e w' ⟨rfl, ⟨nd, rfl⟩⟩; (try first | exact ⟨rfl, _, World.drewN_drewN _ _ _⟩ | exact ⟨rfl, _, Eq.trans (World.drewN_drewN _ _ _) (congrArg (World.drewN _) (Nat.add_assoc _ _ _))⟩))))
            go_roundg k3
            case measure => have := HK1.out; have := HJ5.out; have := HK3.out; omega
            case rel => exact ⟨(wrap64 (x46_3 + 1)), sq_, H', ⟨by have := HK1.out; have := HJ5.out; have := HK3.out; omega⟩, ⟨by (with_reducible repeat (first | refine blk_drewN ?_ _ | refine blk_drew ?_ | refine blk_alloc ?_ _)); refine blk_far ?_ NB146_155.out _; (with_reducible repeat (first | refine blk_drewN ?_ _ | refine blk_drew ?_ | refine blk_alloc ?_ _)); refine blk_far ?_ NB146_155.out _; (with_reducible repeat (first | refine blk_drewN ?_ _ | refine blk_drew ?_ | refine blk_alloc ?_ _)); exact BK146.out⟩, ⟨bw_ HB.out⟩⟩
          ·rw [if_neg c25] at H
           have c25b0 : decide (x46_3 < (y150.length : Int)) = false := decide_eq_false c25
           clear c25
           have H' := am_ H
           clear H
           go_wp2
           repeat (go_quiet (fail); try go_wp2)
           go_roundg k3
           case measure => have := HK1.out; have := HJ5.out; have := HK3.out; omega
           case rel => exact ⟨(wrap64 (x12_1 + 1)), sq_, H', ⟨by have := HK1.out; have := HJ5.out; have := HK3.out; omega⟩, ⟨bw_ HB.out⟩⟩
    ·rw [if_neg c3] at H
     have c3b0 : decide (x12_1 < (l0.length : Int)) = false := decide_eq_false c3
     clear c3
     obtain rfl := Option.some.inj H
     go_wp2
     repeat (go_quiet (fail); try go_wp2)
     go_ret
     exact ⟨by first | rfl | (simp [errW_none, errW_some] <;> rfl) | (simp [*, errW_none, errW_some] <;> rfl), bw_ HB.out⟩

/-! ### spec_l17Events: function 42 -/
def spec_l17Events.l0 : Nat → List (S65) → List (S65) → Int → Int → Option (Bool)
 | 0, _, _, _, _ => none
 | k + 1, x0, x8, x9, x10 => if x10 < x9 then (if 0 ≤ x10 then (if x10 < (x8.length : Int) then ((spec_l1In.f ((rd_T65 x8 x10).f0) 0 100000).bind fun t159 => (if t159 = true then ((spec_l1In.f ((rd_T65 x8 x10).f1) 0 99).bind fun t160 => (if t160 = true then (if x10 > 0 then (if 0 ≤ (wrap64 (x10 - 1)) then (if (wrap64 (x10 - 1)) < (x0.length : Int) then (if ((rd_T65 x0 (wrap64 (x10 - 1))).f0) > ((rd_T65 x8 x10).f0) then (some false) else (spec_l17Events.l0 k x0 x8 x9 (wrap64 (x10 + 1)))) else (none)) else (none)) else (spec_l17Events.l0 k x0 x8 x9 (wrap64 (x10 + 1)))) else (some false))) else (some false))) else (none)) else (none)) else (some true)
def spec_l17Events.f (k : Nat) (l0 : List (S65)) : Option (Bool) := if (l0.length : Int) > 200 then (some false) else (spec_l17Events.l0 k l0 l0 (l0.length : Int) 0)
theorem spec_l17Events.mono_l : ∀ k, (∀ y0 y1 y2 y3, LeO (spec_l17Events.l0 k y0 y1 y2 y3) (spec_l17Events.l0 (k + 1) y0 y1 y2 y3))
 | 0 => fun _ _ _ _ r h => by simp [spec_l17Events.l0] at h
 | k + 1 => by
  have ih0 := spec_l17Events.mono_l k
  ·intro y0 y1 y2 y3
   unfold spec_l17Events.l0
   repeat' first
   | (with_reducible exact ih0 _ _ _ _)
   | (with_reducible exact LeO.refl _)
   | (with_reducible exact LeO.none _)
   | (with_reducible refine LeO.ite ?_ ?_)
   | (with_reducible refine LeO.bind ?_ (fun _ => ?_))
   | exact ih0 _ _ _ _
   | exact LeO.none _
   | refine LeO.ite ?_ ?_
   | refine LeO.bind ?_ (fun _ => ?_)
theorem spec_l17Events.mono : ∀ a0 k, LeO (spec_l17Events.f k a0) (spec_l17Events.f (k + 1) a0) := by
 intro a0 k
 have ih0 := spec_l17Events.mono_l k
 unfold spec_l17Events.f
 repeat' first
   | (with_reducible exact ih0 _ _ _ _)
   | (with_reducible exact LeO.refl _)
   | (with_reducible exact LeO.none _)
   | (with_reducible refine LeO.ite ?_ ?_)
   | (with_reducible refine LeO.bind ?_ (fun _ => ?_))
   | exact ih0 _ _ _ _
   | exact LeO.none _
   | refine LeO.ite ?_ ?_
   | refine LeO.bind ?_ (fun _ => ?_)
set_option maxHeartbeats 8000000 in
set_option maxRecDepth 100000 in
theorem spec_l17Events.calls (k : Nat) (A0 : Option Addr) (c0 : Nat) (l0 : List (S65)) (r : Bool) (w : World) (hr0 : Kd.C k65 w A0 l0.length l0) (hc0 : l0.length ≤ c0) (h : spec_l17Events.f k l0 = some r) :
  Calls Try.prog 42 #[.slice A0 l0.length c0] w fun e w' => e = .returned (.bool r) ∧ Below w.heap.size w w' := by
 have hu65 := Try.underlying65
 have HR0 := am_ hr0
 have HC0 := am_ hc0
 clear hr0 hc0
 have HB := am_ (Below.refl w.heap.size w)
 have H : (if (l0.length : Int) > 200 then (some false) else (spec_l17Events.l0 k l0 l0 (l0.length : Int) 0)) = some r := h
 clear h
 by_cases c2 : (l0.length : Int) > 200
 ·rw [if_pos c2] at H
  have c2b0 : decide (200 < (l0.length : Int)) = true := decide_eq_true c2
  have c2b1 : decide (200 < l0.length) = true := decide_eq_true (by omega)
  clear c2
  obtain rfl := Option.some.inj H
  go_enter Try.func42, Try.ntmps42
  go_wp2
  repeat (go_quiet (fail); try go_wp2)
  go_ret
  exact ⟨by first | rfl | (simp [errW_none, errW_some] <;> rfl) | (simp [*, errW_none, errW_some] <;> rfl), bw_ HB.out⟩
 ·rw [if_neg c2] at H
  have c2b0 : decide (200 < (l0.length : Int)) = false := decide_eq_false c2
  have c2b1 : decide (200 < l0.length) = false := decide_eq_false (by omega)
  clear c2
  have H' := am_ H
  clear H
  go_enter Try.func42, Try.ntmps42
  go_wp2
  repeat (go_quiet (fail); try go_wp2)
  go_loopg [10] k (fun kq v10 w' => ∃ (x10_1 : Int), v10 = .int .i64 x10_1 ∧ Aside0 (spec_l17Events.l0 kq l0 l0 (l0.length : Int) x10_1 = some r) ∧ Aside0 (kq ≤ k) ∧ Aside0 (Below w.heap.size w w'))
  case atStart => exact ⟨(0), sq_, H', ⟨Nat.le_refl _⟩, ⟨bw_ HB.out⟩⟩
  case round =>
   clear H'
   try clear c2
   try clear c2b0
   try clear c2b1
   obtain ⟨x10_1, rfl, HA, HK1, HB⟩ := hrel
   cases gk with
   | zero => exact absurd HA.out (by simp [spec_l17Events.l0])
   | succ k1 =>
    have H := HA.out
    clear HA
    simp only [spec_l17Events.l0] at H
    by_cases c3 : x10_1 < (l0.length : Int)
    ·rw [if_pos c3] at H
     have c3b0 : decide (x10_1 < (l0.length : Int)) = true := decide_eq_true c3
     clear c3
     obtain ⟨c4, H⟩ := ifn_ H
     have c4b0 : decide (0 ≤ x10_1) = true := decide_eq_true c4
     clear c4
     obtain ⟨c5, H⟩ := ifn_ H
     have c5b0 : decide (x10_1 < (l0.length : Int)) = true := decide_eq_true c5
     clear c5
     obtain ⟨t159, A60, H⟩ := bE_ H
     have A6 := am_ A60
     clear A60
     by_cases c7 : t159 = true
     ·subst c7
      replace H := it_ H rfl
      obtain ⟨t160, A80, H⟩ := bE_ H
      have A8 := am_ A80
      clear A80
      by_cases c9 : t160 = true
      ·subst c9
       replace H := it_ H rfl
       by_cases c10 : x10_1 > 0
       ·rw [if_pos c10] at H
        have c10b0 : decide (0 < x10_1) = true := decide_eq_true c10
        clear c10
        obtain ⟨ji11, hji11⟩ : ∃ j_ : Int, (wrap64 (x10_1 - 1)) = j_ := ⟨_, rfl⟩
        replace H : (if 0 ≤ (ji11) then (if (ji11) < (l0.length : Int) then (if ((rd_T65 l0 (ji11)).f0) > ((rd_T65 l0 x10_1).f0) then (some false) else (spec_l17Events.l0 k1 l0 l0 (l0.length : Int) (wrap64 (x10_1 + 1)))) else (none)) else (none)) = some r := by first | (rw [hji11] at H; exact H) | (simp only [hji11] at H ⊢; exact H)
        (try rw [hji11] at A6)
        (try rw [hji11] at A8)
        have hji11w : (IntKind.i64.wrap (x10_1 - 1)) = ji11 := (i64_w _).trans hji11
        obtain ⟨c12, H⟩ := ifn_ H
        have c12b0 : decide (0 ≤ (ji11)) = true := decide_eq_true c12
        clear c12
        obtain ⟨c13, H⟩ := ifn_ H
        have c13b0 : decide ((ji11) < (l0.length : Int)) = true := decide_eq_true c13
        clear c13
        by_cases c14 : ((rd_T65 l0 (ji11)).f0) > ((rd_T65 l0 x10_1).f0)
        ·rw [if_pos c14] at H
         have c14b0 : decide (((rd_T65 l0 x10_1).f0) < ((rd_T65 l0 (ji11)).f0)) = true := decide_eq_true c14
         clear c14
         obtain rfl := Option.some.inj H
         have p157 : 0 ≤ (x10_1 : Int) := od_
         have q157 : x10_1 < (l0.length : Int) := od_
         obtain ⟨ad157, e157, hx157_0, hx157_1, hx157_2⟩ := at_T65 HR0.out x10_1 p157 q157
         cases e157
         (try replace hx157_0 := hc_ HB.out hx157_0)
         (try replace hx157_1 := hc_ HB.out hx157_1)
         (try replace hx157_2 := hc_ HB.out hx157_2)
         replace p157 := eq_true p157
         replace q157 := eq_true q157
         go_wp2_with (first | ((with_reducible refine gate_dst (N := 4) rfl ?_); refine bx_ 4 #[.int .i64 0, .int .i64 0, .bool false] 65 ?_; intro gb158 hg w15 hbox hb; have n0_ := am_ (below_step (bw_ HB.out) hb); have n1_ := am_ (hbox); have n2_ := am_ (gs_ hg (bw_ HB.out)); have n3_ := am_ (gs_ hg (bw_ HB.out)); replace HB := n0_; have BK158 := n1_; have GW158 := n2_; have GE158 := n3_; clear n0_ n1_ n2_ n3_; clear hb hbox hg; have hcz16_0 := cz_ BK158.out 0; have hcz16_1 := cz_ BK158.out 1; have hcz16_2 := cz_ BK158.out 2; have hfz16_0 := blk_frozen BK158.out 0; have hfz16_1 := blk_frozen BK158.out 1; have hfz16_2 := blk_frozen BK158.out 2) | (go_at_call 53; (with_reducible refine (spec_l1In.calls ((rd_T65 l0 x10_1).f0) 0 100000 true _ A6.out).mono ?_); rintro e w' ⟨rfl, ⟨nd, rfl⟩⟩; (try first | exact ⟨rfl, _, World.drewN_drewN _ _ _⟩ | exact ⟨rfl, _, Eq.trans (World.drewN_drewN _ _ _) (congrArg (World.drewN _) (Nat.add_assoc _ _ _))⟩)) | (go_at_call 53; (with_reducible refine (spec_l1In.calls ((rd_T65 l0 x10_1).f1) 0 99 true _ A8.out).mono ?_); rintro e w' ⟨rfl, ⟨nd, rfl⟩⟩; (try first | exact ⟨rfl, _, World.drewN_drewN _ _ _⟩ | exact ⟨rfl, _, Eq.trans (World.drewN_drewN _ _ _) (congrArg (World.drewN _) (Nat.add_assoc _ _ _))⟩); have p161 : 0 ≤ ((ji11) : Int) := od_; have q161 : (ji11) < (l0.length : Int) := od_; obtain ⟨ad161, e161, hx161_0, hx161_1, hx161_2⟩ := at_T65 HR0.out (ji11) p161 q161; obtain rfl : ad157 = ad161 := (by injection e161); have hn161_0 : ad157.block ≠ gb158 := Nat.ne_of_lt (Nat.lt_of_lt_of_le (by have := World.block_lt_of_cell? _ _ hx161_0; first | rwa [add_block] at this | exact this) GW158.out); have hn161_1 : ad157.block ≠ gb158 := Nat.ne_of_lt (Nat.lt_of_lt_of_le (by have := World.block_lt_of_cell? _ _ hx161_0; first | rwa [add_block] at this | exact this) GW158.out); have hn161_2 : ad157.block ≠ gb158 := Nat.ne_of_lt (Nat.lt_of_lt_of_le (by have := World.block_lt_of_cell? _ _ hx161_0; first | rwa [add_block] at this | exact this) GW158.out); (try replace hx161_0 := hc_ HB.out hx161_0); (try replace hx161_1 := hc_ HB.out hx161_1); (try replace hx161_2 := hc_ HB.out hx161_2); replace hx161_0 := (cell_far (p := ⟨gb158, 0, none⟩) (by first | (rw [add_block]; exact hn161_0) | (show (Addr.add _ _).block ≠ _; rw [add_block]; exact hn161_0) | exact hn161_0) (.int .i64 ((rd_T65 l0 x10_1).f0))).trans hx161_0; replace hx161_1 := (cell_far (p := ⟨gb158, 0, none⟩) (by first | (rw [add_block]; exact hn161_0) | (show (Addr.add _ _).block ≠ _; rw [add_block]; exact hn161_0) | exact hn161_0) (.int .i64 ((rd_T65 l0 x10_1).f0))).trans hx161_1; replace hx161_2 := (cell_far (p := ⟨gb158, 0, none⟩) (by first | (rw [add_block]; exact hn161_0) | (show (Addr.add _ _).block ≠ _; rw [add_block]; exact hn161_0) | exact hn161_0) (.int .i64 ((rd_T65 l0 x10_1).f0))).trans hx161_2; replace hx161_0 := (cell_far (p := ⟨gb158, 1, none⟩) (by first | (rw [add_block]; exact hn161_1) | (show (Addr.add _ _).block ≠ _; rw [add_block]; exact hn161_1) | exact hn161_1) (.int .i64 ((rd_T65 l0 x10_1).f1))).trans hx161_0; replace hx161_1 := (cell_far (p := ⟨gb158, 1, none⟩) (by first | (rw [add_block]; exact hn161_1) | (show (Addr.add _ _).block ≠ _; rw [add_block]; exact hn161_1) | exact hn161_1) (.int .i64 ((rd_T65 l0 x10_1).f1))).trans hx161_1; replace hx161_2 := (cell_far (p := ⟨gb158, 1, none⟩) (by first | (rw [add_block]; exact hn161_1) | (show (Addr.add _ _).block ≠ _; rw [add_block]; exact hn161_1) | exact hn161_1) (.int .i64 ((rd_T65 l0 x10_1).f1))).trans hx161_2; replace hx161_0 := (cell_far (p := ⟨gb158, 2, none⟩) (by first | (rw [add_block]; exact hn161_2) | (show (Addr.add _ _).block ≠ _; rw [add_block]; exact hn161_2) | exact hn161_2) (.bool ((rd_T65 l0 x10_1).f2))).trans hx161_0; replace hx161_1 := (cell_far (p := ⟨gb158, 2, none⟩) (by first | (rw [add_block]; exact hn161_2) | (show (Addr.add _ _).block ≠ _; rw [add_block]; exact hn161_2) | exact hn161_2) (.bool ((rd_T65 l0 x10_1).f2))).trans hx161_1; replace hx161_2 := (cell_far (p := ⟨gb158, 2, none⟩) (by first | (rw [add_block]; exact hn161_2) | (show (Addr.add _ _).block ≠ _; rw [add_block]; exact hn161_2) | exact hn161_2) (.bool ((rd_T65 l0 x10_1).f2))).trans hx161_2; (try have hy161_0 := fun (n_ : Nat) => (show (((((w15.drewN n_).setCell ⟨gb158, 0, none⟩ (.int .i64 ((rd_T65 l0 x10_1).f0))).setCell ⟨gb158, 1, none⟩ (.int .i64 ((rd_T65 l0 x10_1).f1))).setCell ⟨gb158, 2, none⟩ (.bool ((rd_T65 l0 x10_1).f2)))).cell? _ = some _ from hx161_0)); (try have hy161_1 := fun (n_ : Nat) => (show (((((w15.drewN n_).setCell ⟨gb158, 0, none⟩ (.int .i64 ((rd_T65 l0 x10_1).f0))).setCell ⟨gb158, 1, none⟩ (.int .i64 ((rd_T65 l0 x10_1).f1))).setCell ⟨gb158, 2, none⟩ (.bool ((rd_T65 l0 x10_1).f2)))).cell? _ = some _ from hx161_1)); (try have hy161_2 := fun (n_ : Nat) => (show (((((w15.drewN n_).setCell ⟨gb158, 0, none⟩ (.int .i64 ((rd_T65 l0 x10_1).f0))).setCell ⟨gb158, 1, none⟩ (.int .i64 ((rd_T65 l0 x10_1).f1))).setCell ⟨gb158, 2, none⟩ (.bool ((rd_T65 l0 x10_1).f2)))).cell? _ = some _ from hx161_2)); clear hn161_0; clear hn161_1; clear hn161_2; replace p161 := eq_true p161; replace q161 := eq_true q161))
         repeat (go_quiet (first | ((with_reducible refine gate_dst (N := 4) rfl ?_); refine bx_ 4 #[.int .i64 0, .int .i64 0, .bool false] 65 ?_; intro gb158 hg w15 hbox hb; have n0_ := am_ (below_step (bw_ HB.out) hb); have n1_ := am_ (hbox); have n2_ := am_ (gs_ hg (bw_ HB.out)); have n3_ := am_ (gs_ hg (bw_ HB.out)); replace HB := n0_; have BK158 := n1_; have GW158 := n2_; have GE158 := n3_; clear n0_ n1_ n2_ n3_; clear hb hbox hg; have hcz16_0 := cz_ BK158.out 0; have hcz16_1 := cz_ BK158.out 1; have hcz16_2 := cz_ BK158.out 2; have hfz16_0 := blk_frozen BK158.out 0; have hfz16_1 := blk_frozen BK158.out 1; have hfz16_2 := blk_frozen BK158.out 2) | (go_at_call 53; (with_reducible refine (spec_l1In.calls ((rd_T65 l0 x10_1).f0) 0 100000 true _ A6.out).mono ?_); rintro e w' ⟨rfl, ⟨nd, rfl⟩⟩; (try first | exact ⟨rfl, _, World.drewN_drewN _ _ _⟩ | exact ⟨rfl, _, Eq.trans (World.drewN_drewN _ _ _) (congrArg (World.drewN _) (Nat.add_assoc _ _ _))⟩)) | (go_at_call 53; (with_reducible refine (spec_l1In.calls ((rd_T65 l0 x10_1).f1) 0 99 true _ A8.out).mono ?_); rintro e w' ⟨rfl, ⟨nd, rfl⟩⟩; (try first | exact ⟨rfl, _, World.drewN_drewN _ _ _⟩ | exact ⟨rfl, _, Eq.trans (World.drewN_drewN _ _ _) (congrArg (World.drewN _) (Nat.add_assoc _ _ _))⟩); have p161 : 0 ≤ ((ji11) : Int) := od_; have q161 : (ji11) < (l0.length : Int) := od_; obtain ⟨ad161, e161, hx161_0, hx161_1, hx161_2⟩ := at_T65 HR0.out (ji11) p161 q161; obtain rfl : ad157 = ad161 := (by injection e161); have hn161_0 : ad157.block ≠ gb158 := Nat.ne_of_lt (Nat.lt_of_lt_of_le (by have := World.block_lt_of_cell? _ _ hx161_0; first | rwa [add_block] at this | exact this) GW158.out); have hn161_1 : ad157.block ≠ gb158 := Nat.ne_of_lt (Nat.lt_of_lt_of_le (by have := World.block_lt_of_cell? _ _ hx161_0; first | rwa [add_block] at this | exact this) GW158.out); have hn161_2 : ad157.block ≠ gb158 := Nat.ne_of_lt (Nat.lt_of_lt_of_le (by have := World.block_lt_of_cell? _ _ hx161_0; first | rwa [add_block] at this | exact this) GW158.out); (try replace hx161_0 := hc_ HB.out hx161_0); (try replace hx161_1 := hc_ HB.out hx161_1); (try replace hx161_2 := hc_ HB.out hx161_2); replace hx161_0 := (cell_far (p := ⟨gb158, 0, none⟩) (by first | (rw [add_block]; exact hn161_0) | (show (Addr.add _ _).block ≠ _; rw [add_block]; exact hn161_0) | exact hn161_0) (.int .i64 ((rd_T65 l0 x10_1).f0))).trans hx161_0; replace hx161_1 := (cell_far (p := ⟨gb158, 0, none⟩) (by first | (rw [add_block]; exact hn161_0) | (show (Addr.add _ _).block ≠ _; rw [add_block]; exact hn161_0) | exact hn161_0) (.int .i64 ((rd_T65 l0 x10_1).f0))).trans hx161_1; replace hx161_2 := (cell_far (p := ⟨gb158, 0, none⟩) (by first | (rw [add_block]; exact hn161_0) | (show (Addr.add _ _).block ≠ _; rw [add_block]; exact hn161_0) | exact hn161_0) (.int .i64 ((rd_T65 l0 x10_1).f0))).trans hx161_2; replace hx161_0 := (cell_far (p := ⟨gb158, 1, none⟩) (by first | (rw [add_block]; exact hn161_1) | (show (Addr.add _ _).block ≠ _; rw [add_block]; exact hn161_1) | exact hn161_1) (.int .i64 ((rd_T65 l0 x10_1).f1))).trans hx161_0; replace hx161_1 := (cell_far (p := ⟨gb158, 1, none⟩) (by first | (rw [add_block]; exact hn161_1) | (show (Addr.add _ _).block ≠ _; rw [add_block]; exact hn161_1) | exact hn161_1) (.int .i64 ((rd_T65 l0 x10_1).f1))).trans hx161_1; replace hx161_2 := (cell_far (p := ⟨gb158, 1, none⟩) (by first | (rw [add_block]; exact hn161_1) | (show (Addr.add _ _).block ≠ _; rw [add_block]; exact hn161_1) | exact hn161_1) (.int .i64 ((rd_T65 l0 x10_1).f1))).trans hx161_2; replace hx161_0 := (cell_far (p := ⟨gb158, 2, none⟩) (by first | (rw [add_block]; exact hn161_2) | (show (Addr.add _ _).block ≠ _; rw [add_block]; exact hn161_2) | exact hn161_2) (.bool ((rd_T65 l0 x10_1).f2))).trans hx161_0; replace hx161_1 := (cell_far (p := ⟨gb158, 2, none⟩) (by first | (rw [add_block]; exact hn161_2) | (show (Addr.add _ _).block ≠ _; rw [add_block]; exact hn161_2) | exact hn161_2) (.bool ((rd_T65 l0 x10_1).f2))).trans hx161_1; replace hx161_2 := (cell_far (p := ⟨gb158, 2, none⟩) (by first | (rw [add_block]; exact hn161_2) | (show (Addr.add _ _).block ≠ _; rw [add_block]; exact hn161_2) | exact hn161_2) (.bool ((rd_T65 l0 x10_1).f2))).trans hx161_2; (try have hy161_0 := fun (n_ : Nat) => (show (((((w15.drewN n_).setCell ⟨gb158, 0, none⟩ (.int .i64 ((rd_T65 l0 x10_1).f0))).setCell ⟨gb158, 1, none⟩ (.int .i64 ((rd_T65 l0 x10_1).f1))).setCell ⟨gb158, 2, none⟩ (.bool ((rd_T65 l0 x10_1).f2)))).cell? _ = some _ from hx161_0)); (try have hy161_1 := fun (n_ : Nat) => (show (((((w15.drewN n_).setCell ⟨gb158, 0, none⟩ (.int .i64 ((rd_T65 l0 x10_1).f0))).setCell ⟨gb158, 1, none⟩ (.int .i64 ((rd_T65 l0 x10_1).f1))).setCell ⟨gb158, 2, none⟩ (.bool ((rd_T65 l0 x10_1).f2)))).cell? _ = some _ from hx161_1)); (try have hy161_2 := fun (n_ : Nat) => (show (((((w15.drewN n_).setCell ⟨gb158, 0, none⟩ (.int .i64 ((rd_T65 l0 x10_1).f0))).setCell ⟨gb158, 1, none⟩ (.int .i64 ((rd_T65 l0 x10_1).f1))).setCell ⟨gb158, 2, none⟩ (.bool ((rd_T65 l0 x10_1).f2)))).cell? _ = some _ from hx161_2)); clear hn161_0; clear hn161_1; clear hn161_2; replace p161 := eq_true p161; replace q161 := eq_true q161)); try go_wp2_with (first | ((with_reducible refine gate_dst (N := 4) rfl ?_); refine bx_ 4 #[.int .i64 0, .int .i64 0, .bool false] 65 ?_; intro gb158 hg w15 hbox hb; have n0_ := am_ (below_step (bw_ HB.out) hb); have n1_ := am_ (hbox); have n2_ := am_ (gs_ hg (bw_ HB.out)); have n3_ := am_ (gs_ hg (bw_ HB.out)); replace HB := n0_; have BK158 := n1_; have GW158 := n2_; have GE158 := n3_; clear n0_ n1_ n2_ n3_; clear hb hbox hg; have hcz16_0 := cz_ BK158.out 0; have hcz16_1 := cz_ BK158.out 1; have hcz16_2 := cz_ BK158.out 2; have hfz16_0 := blk_frozen BK158.out 0; have hfz16_1 := blk_frozen BK158.out 1; have hfz16_2 := blk_frozen BK158.out 2) | (go_at_call 53; (with_reducible refine (spec_l1In.calls ((rd_T65 l0 x10_1).f0) 0 100000 true _ A6.out).mono ?_); rintro e w' ⟨rfl, ⟨nd, rfl⟩⟩; (try first | exact ⟨rfl, _, World.drewN_drewN _ _ _⟩ | exact ⟨rfl, _, Eq.trans (World.drewN_drewN _ _ _) (congrArg (World.drewN _) (Nat.add_assoc _ _ _))⟩)) | (go_at_call 53; (with_reducible refine (spec_l1In.calls ((rd_T65 l0 x10_1).f1) 0 99 true _ A8.out).mono ?_); rintro e w' ⟨rfl, ⟨nd, rfl⟩⟩; (try first | exact ⟨rfl, _, World.drewN_drewN _ _ _⟩ | exact ⟨rfl, _, Eq.trans (World.drewN_drewN _ _ _) (congrArg (World.drewN _) (Nat.add_assoc _ _ _))⟩); have p161 : 0 ≤ ((ji11) : Int) := od_; have q161 : (ji11) < (l0.length : Int) := od_; obtain ⟨ad161, e161, hx161_0, hx161_1, hx161_2⟩ := at_T65 HR0.out (ji11) p161 q161; obtain rfl : ad157 = ad161 := (by injection e161); have hn161_0 : ad157.block ≠ gb158 := Nat.ne_of_lt (Nat.lt_of_lt_of_le (by have := World.block_lt_of_cell? _ _ hx161_0; first | rwa [add_block] at this | exact this) GW158.out); have hn161_1 : ad157.block ≠ gb158 := Nat.ne_of_lt (Nat.lt_of_lt_of_le (by have := World.block_lt_of_cell? _ _ hx161_0; first | rwa [add_block] at this | exact this) GW158.out); have hn161_2 : ad157.block ≠ gb158 := Nat.ne_of_lt (Nat.lt_of_lt_of_le (by have := World.block_lt_of_cell? _ _ hx161_0; first | rwa [add_block] at this | exact this) GW158.out); (try replace hx161_0 := hc_ HB.out hx161_0); (try replace hx161_1 := hc_ HB.out hx161_1); (try replace hx161_2 := hc_ HB.out hx161_2); replace hx161_0 := (cell_far (p := ⟨gb158, 0, none⟩) (by first | (rw [add_block]; exact hn161_0) | (show (Addr.add _ _).block ≠ _; rw [add_block]; exact hn161_0) | exact hn161_0) (.int .i64 ((rd_T65 l0 x10_1).f0))).trans hx161_0; replace hx161_1 := (cell_far (p := ⟨gb158, 0, none⟩) (by first | (rw [add_block]; exact hn161_0) | (show (Addr.add _ _).block ≠ _; rw [add_block]; exact hn161_0) | exact hn161_0) (.int .i64 ((rd_T65 l0 x10_1).f0))).trans hx161_1; replace hx161_2 := (cell_far (p := ⟨gb158, 0, none⟩) (by first | (rw [add_block]; exact hn161_0) | (show (Addr.add _ _).block ≠ _; rw [add_block]; exact hn161_0) | exact hn161_0) (.int .i64 ((rd_T65 l0 x10_1).f0))).trans hx161_2; replace hx161_0 := (cell_far (p := ⟨gb158, 1, none⟩) (by first | (rw [add_block]; exact hn161_1) | (show (Addr.add _ _).block ≠ _; rw [add_block]; exact hn161_1) | exact hn161_1) (.int .i64 ((rd_T65 l0 x10_1).f1))).trans hx161_0; replace hx161_1 := (cell_far (p := ⟨gb158, 1, none⟩) (by first | (rw [add_block]; exact hn161_1) | (show (Addr.add _ _).block ≠ _; rw [add_block]; exact hn161_1) | exact hn161_1) (.int .i64 ((rd_T65 l0 x10_1).f1))).trans hx161_1; replace hx161_2 := (cell_far (p := ⟨gb158, 1, none⟩) (by first | (rw [add_block]; exact hn161_1) | (show (Addr.add _ _).block ≠ _; rw [add_block]; exact hn161_1) | exact hn161_1) (.int .i64 ((rd_T65 l0 x10_1).f1))).trans hx161_2; replace hx161_0 := (cell_far (p := ⟨gb158, 2, none⟩) (by first | (rw [add_block]; exact hn161_2) | (show (Addr.add _ _).block ≠ _; rw [add_block]; exact hn161_2) | exact hn161_2) (.bool ((rd_T65 l0 x10_1).f2))).trans hx161_0; replace hx161_1 := (cell_far (p := ⟨gb158, 2, none⟩) (by first | (rw [add_block]; exact hn161_2) | (show (Addr.add _ _).block ≠ _; rw [add_block]; exact hn161_2) | exact hn161_2) (.bool ((rd_T65 l0 x10_1).f2))).trans hx161_1; replace hx161_2 := (cell_far (p := ⟨gb158, 2, none⟩) (by first | (rw [add_block]; exact hn161_2) | (show (Addr.add _ _).block ≠ _; rw [add_block]; exact hn161_2) | exact hn161_2) (.bool ((rd_T65 l0 x10_1).f2))).trans hx161_2; (try have hy161_0 := fun (n_ : Nat) => (show (((((w15.drewN n_).setCell ⟨gb158, 0, none⟩ (.int .i64 ((rd_T65 l0 x10_1).f0))).setCell ⟨gb158, 1, none⟩ (.int .i64 ((rd_T65 l0 x10_1).f1))).setCell ⟨gb158, 2, none⟩ (.bool ((rd_T65 l0 x10_1).f2)))).cell? _ = some _ from hx161_0)); (try have hy161_1 := fun (n_ : Nat) => (show (((((w15.drewN n_).setCell ⟨gb158, 0, none⟩ (.int .i64 ((rd_T65 l0 x10_1).f0))).setCell ⟨gb158, 1, none⟩ (.int .i64 ((rd_T65 l0 x10_1).f1))).setCell ⟨gb158, 2, none⟩ (.bool ((rd_T65 l0 x10_1).f2)))).cell? _ = some _ from hx161_1)); (try have hy161_2 := fun (n_ : Nat) => (show (((((w15.drewN n_).setCell ⟨gb158, 0, none⟩ (.int .i64 ((rd_T65 l0 x10_1).f0))).setCell ⟨gb158, 1, none⟩ (.int .i64 ((rd_T65 l0 x10_1).f1))).setCell ⟨gb158, 2, none⟩ (.bool ((rd_T65 l0 x10_1).f2)))).cell? _ = some _ from hx161_2)); clear hn161_0; clear hn161_1; clear hn161_2; replace p161 := eq_true p161; replace q161 := eq_true q161)))
         go_ret
         exact ⟨by first | rfl | (simp [errW_none, errW_some] <;> rfl) | (simp only [← hji11]; first | rfl | (simp [errW_none, errW_some] <;> rfl)) | (simp [*, errW_none, errW_some] <;> rfl), bw_ HB.out⟩
        ·rw [if_neg c14] at H
         have c14b0 : decide (((rd_T65 l0 x10_1).f0) < ((rd_T65 l0 (ji11)).f0)) = false := decide_eq_false c14
         clear c14
         have H' := am_ H
         clear H
         have p157 : 0 ≤ (x10_1 : Int) := od_
         have q157 : x10_1 < (l0.length : Int) := od_
         obtain ⟨ad157, e157, hx157_0, hx157_1, hx157_2⟩ := at_T65 HR0.out x10_1 p157 q157
         cases e157
         (try replace hx157_0 := hc_ HB.out hx157_0)
         (try replace hx157_1 := hc_ HB.out hx157_1)
         (try replace hx157_2 := hc_ HB.out hx157_2)
         replace p157 := eq_true p157
         replace q157 := eq_true q157
         go_wp2_with (first | ((with_reducible refine gate_dst (N := 4) rfl ?_); refine bx_ 4 #[.int .i64 0, .int .i64 0, .bool false] 65 ?_; intro gb158 hg w17 hbox hb; have n0_ := am_ (below_step (bw_ HB.out) hb); have n1_ := am_ (hbox); have n2_ := am_ (gs_ hg (bw_ HB.out)); have n3_ := am_ (gs_ hg (bw_ HB.out)); replace HB := n0_; have BK158 := n1_; have GW158 := n2_; have GE158 := n3_; clear n0_ n1_ n2_ n3_; clear hb hbox hg; have hcz18_0 := cz_ BK158.out 0; have hcz18_1 := cz_ BK158.out 1; have hcz18_2 := cz_ BK158.out 2; have hfz18_0 := blk_frozen BK158.out 0; have hfz18_1 := blk_frozen BK158.out 1; have hfz18_2 := blk_frozen BK158.out 2) | (go_at_call 53; (with_reducible refine (spec_l1In.calls ((rd_T65 l0 x10_1).f0) 0 100000 true _ A6.out).mono ?_); rintro e w' ⟨rfl, ⟨nd, rfl⟩⟩; (try first | exact ⟨rfl, _, World.drewN_drewN _ _ _⟩ | exact ⟨rfl, _, Eq.trans (World.drewN_drewN _ _ _) (congrArg (World.drewN _) (Nat.add_assoc _ _ _))⟩)) | (go_at_call 53; (with_reducible refine (spec_l1In.calls ((rd_T65 l0 x10_1).f1) 0 99 true _ A8.out).mono ?_); rintro e w' ⟨rfl, ⟨nd, rfl⟩⟩; (try first | exact ⟨rfl, _, World.drewN_drewN _ _ _⟩ | exact ⟨rfl, _, Eq.trans (World.drewN_drewN _ _ _) (congrArg (World.drewN _) (Nat.add_assoc _ _ _))⟩); have p161 : 0 ≤ ((ji11) : Int) := od_; have q161 : (ji11) < (l0.length : Int) := od_; obtain ⟨ad161, e161, hx161_0, hx161_1, hx161_2⟩ := at_T65 HR0.out (ji11) p161 q161; obtain rfl : ad157 = ad161 := (by injection e161); have hn161_0 : ad157.block ≠ gb158 := Nat.ne_of_lt (Nat.lt_of_lt_of_le (by have := World.block_lt_of_cell? _ _ hx161_0; first | rwa [add_block] at this | exact this) GW158.out); have hn161_1 : ad157.block ≠ gb158 := Nat.ne_of_lt (Nat.lt_of_lt_of_le (by have := World.block_lt_of_cell? _ _ hx161_0; first | rwa [add_block] at this | exact this) GW158.out); have hn161_2 : ad157.block ≠ gb158 := Nat.ne_of_lt (Nat.lt_of_lt_of_le (by have := World.block_lt_of_cell? _ _ hx161_0; first | rwa [add_block] at this | exact this) GW158.out); (try replace hx161_0 := hc_ HB.out hx161_0); (try replace hx161_1 := hc_ HB.out hx161_1); (try replace hx161_2 := hc_ HB.out hx161_2); replace hx161_0 := (cell_far (p := ⟨gb158, 0, none⟩) (by first | (rw [add_block]; exact hn161_0) | (show (Addr.add _ _).block ≠ _; rw [add_block]; exact hn161_0) | exact hn161_0) (.int .i64 ((rd_T65 l0 x10_1).f0))).trans hx161_0; replace hx161_1 := (cell_far (p := ⟨gb158, 0, none⟩) (by first | (rw [add_block]; exact hn161_0) | (show (Addr.add _ _).block ≠ _; rw [add_block]; exact hn161_0) | exact hn161_0) (.int .i64 ((rd_T65 l0 x10_1).f0))).trans hx161_1; replace hx161_2 := (cell_far (p := ⟨gb158, 0, none⟩) (by first | (rw [add_block]; exact hn161_0) | (show (Addr.add _ _).block ≠ _; rw [add_block]; exact hn161_0) | exact hn161_0) (.int .i64 ((rd_T65 l0 x10_1).f0))).trans hx161_2; replace hx161_0 := (cell_far (p := ⟨gb158, 1, none⟩) (by first | (rw [add_block]; exact hn161_1) | (show (Addr.add _ _).block ≠ _; rw [add_block]; exact hn161_1) | exact hn161_1) (.int .i64 ((rd_T65 l0 x10_1).f1))).trans hx161_0; replace hx161_1 := (cell_far (p := ⟨gb158, 1, none⟩) (by first | (rw [add_block]; exact hn161_1) | (show (Addr.add _ _).block ≠ _; rw [add_block]; exact hn161_1) | exact hn161_1) (.int .i64 ((rd_T65 l0 x10_1).f1))).trans hx161_1; replace hx161_2 := (cell_far (p := ⟨gb158, 1, none⟩) (by first | (rw [add_block]; exact hn161_1) | (show (Addr.add _ _).block ≠ _; rw [add_block]; exact hn161_1) | exact hn161_1) (.int .i64 ((rd_T65 l0 x10_1).f1))).trans hx161_2; replace hx161_0 := (cell_far (p := ⟨gb158, 2, none⟩) (by first | (rw [add_block]; exact hn161_2) | (show (Addr.add _ _).block ≠ _; rw [add_block]; exact hn161_2) | exact hn161_2) (.bool ((rd_T65 l0 x10_1).f2))).trans hx161_0; replace hx161_1 := (cell_far (p := ⟨gb158, 2, none⟩) (by first | (rw [add_block]; exact hn161_2) | (show (Addr.add _ _).block ≠ _; rw [add_block]; exact hn161_2) | exact hn161_2) (.bool ((rd_T65 l0 x10_1).f2))).trans hx161_1; replace hx161_2 := (cell_far (p := ⟨gb158, 2, none⟩) (by first | (rw [add_block]; exact hn161_2) | (show (Addr.add _ _).block ≠ _; rw [add_block]; exact hn161_2) | exact hn161_2) (.bool ((rd_T65 l0 x10_1).f2))).trans hx161_2; (try have hy161_0 := fun (n_ : Nat) => (show (((((w17.drewN n_).setCell ⟨gb158, 0, none⟩ (.int .i64 ((rd_T65 l0 x10_1).f0))).setCell ⟨gb158, 1, none⟩ (.int .i64 ((rd_T65 l0 x10_1).f1))).setCell ⟨gb158, 2, none⟩ (.bool ((rd_T65 l0 x10_1).f2)))).cell? _ = some _ from hx161_0)); (try have hy161_1 := fun (n_ : Nat) => (show (((((w17.drewN n_).setCell ⟨gb158, 0, none⟩ (.int .i64 ((rd_T65 l0 x10_1).f0))).setCell ⟨gb158, 1, none⟩ (.int .i64 ((rd_T65 l0 x10_1).f1))).setCell ⟨gb158, 2, none⟩ (.bool ((rd_T65 l0 x10_1).f2)))).cell? _ = some _ from hx161_1)); (try have hy161_2 := fun (n_ : Nat) => (show (((((w17.drewN n_).setCell ⟨gb158, 0, none⟩ (.int .i64 ((rd_T65 l0 x10_1).f0))).setCell ⟨gb158, 1, none⟩ (.int .i64 ((rd_T65 l0 x10_1).f1))).setCell ⟨gb158, 2, none⟩ (.bool ((rd_T65 l0 x10_1).f2)))).cell? _ = some _ from hx161_2)); clear hn161_0; clear hn161_1; clear hn161_2; replace p161 := eq_true p161; replace q161 := eq_true q161))
         repeat (go_quiet (first | ((with_reducible refine gate_dst (N := 4) rfl ?_); refine bx_ 4 #[.int .i64 0, .int .i64 0, .bool false] 65 ?_; intro gb158 hg w17 hbox hb; have n0_ := am_ (below_step (bw_ HB.out) hb); have n1_ := am_ (hbox); have n2_ := am_ (gs_ hg (bw_ HB.out)); have n3_ := am_ (gs_ hg (bw_ HB.out)); replace HB := n0_; have BK158 := n1_; have GW158 := n2_; have GE158 := n3_; clear n0_ n1_ n2_ n3_; clear hb hbox hg; have hcz18_0 := cz_ BK158.out 0; have hcz18_1 := cz_ BK158.out 1; have hcz18_2 := cz_ BK158.out 2; have hfz18_0 := blk_frozen BK158.out 0; have hfz18_1 := blk_frozen BK158.out 1; have hfz18_2 := blk_frozen BK158.out 2) | (go_at_call 53; (with_reducible refine (spec_l1In.calls ((rd_T65 l0 x10_1).f0) 0 100000 true _ A6.out).mono ?_); rintro e w' ⟨rfl, ⟨nd, rfl⟩⟩; (try first | exact ⟨rfl, _, World.drewN_drewN _ _ _⟩ | exact ⟨rfl, _, Eq.trans (World.drewN_drewN _ _ _) (congrArg (World.drewN _) (Nat.add_assoc _ _ _))⟩)) | (go_at_call 53; (with_reducible refine (spec_l1In.calls ((rd_T65 l0 x10_1).f1) 0 99 true _ A8.out).mono ?_); rintro e w' ⟨rfl, ⟨nd, rfl⟩⟩; (try first | exact ⟨rfl, _, World.drewN_drewN _ _ _⟩ | exact ⟨rfl, _, Eq.trans (World.drewN_drewN _ _ _) (congrArg (World.drewN _) (Nat.add_assoc _ _ _))⟩); have p161 : 0 ≤ ((ji11) : Int) := od_; have q161 : (ji11) < (l0.length : Int) := od_; obtain ⟨ad161, e161, hx161_0, hx161_1, hx161_2⟩ := at_T65 HR0.out (ji11) p161 q161; obtain rfl : ad157 = ad161 := (by injection e161); have hn161_0 : ad157.block ≠ gb158 := Nat.ne_of_lt (Nat.lt_of_lt_of_le (by have := World.block_lt_of_cell? _ _ hx161_0; first | rwa [add_block] at this | exact this) GW158.out); have hn161_1 : ad157.block ≠ gb158 := Nat.ne_of_lt (Nat.lt_of_lt_of_le (by have := World.block_lt_of_cell? _ _ hx161_0; first | rwa [add_block] at this | exact this) GW158.out); have hn161_2 : ad157.block ≠ gb158 := Nat.ne_of_lt (Nat.lt_of_lt_of_le (by have := World.block_lt_of_cell? _ _ hx161_0; first | rwa [add_block] at this | exact this) GW158.out); (try replace hx161_0 := hc_ HB.out hx161_0); (try replace hx161_1 := hc_ HB.out hx161_1); (try replace hx161_2 := hc_ HB.out hx161_2); replace hx161_0 := (cell_far (p := ⟨gb158, 0, none⟩) (by first | (rw [add_block]; exact hn161_0) | (show (Addr.add _ _).block ≠ _; rw [add_block]; exact hn161_0) | exact hn161_0) (.int .i64 ((rd_T65 l0 x10_1).f0))).trans hx161_0; replace hx161_1 := (cell_far (p := ⟨gb158, 0, none⟩) (by first | (rw [add_block]; exact hn161_0) | (show (Addr.add _ _).block ≠ _; rw [add_block]; exact hn161_0) | exact hn161_0) (.int .i64 ((rd_T65 l0 x10_1).f0))).trans hx161_1; replace hx161_2 := (cell_far (p := ⟨gb158, 0, none⟩) (by first | (rw [add_block]; exact hn161_0) | (show (Addr.add _ _).block ≠ _; rw [add_block]; exact hn161_0) | exact hn161_0) (.int .i64 ((rd_T65 l0 x10_1).f0))).trans hx161_2; replace hx161_0 := (cell_far (p := ⟨gb158, 1, none⟩) (by first | (rw [add_block]; exact hn161_1) | (show (Addr.add _ _).block ≠ _; rw [add_block]; exact hn161_1) | exact hn161_1) (.int .i64 ((rd_T65 l0 x10_1).f1))).trans hx161_0; replace hx161_1 := (cell_far (p := ⟨gb158, 1, none⟩) (by first | (rw [add_block]; exact hn161_1) | (show (Addr.add _ _).block ≠ _; rw [add_block]; exact hn161_1) | exact hn161_1) (.int .i64 ((rd_T65 l0 x10_1).f1))).trans hx161_1; replace hx161_2 := (cell_far (p := ⟨gb158, 1, none⟩) (by first | (rw [add_block]; exact hn161_1) | (show (Addr.add _ _).block ≠ _; rw [add_block]; exact hn161_1) | exact hn161_1) (.int .i64 ((rd_T65 l0 x10_1).f1))).trans hx161_2; replace hx161_0 := (cell_far (p := ⟨gb158, 2, none⟩) (by first | (rw [add_block]; exact hn161_2) | (show (Addr.add _ _).block ≠ _; rw [add_block]; exact hn161_2) | exact hn161_2) (.bool ((rd_T65 l0 x10_1).f2))).trans hx161_0; replace hx161_1 := (cell_far (p := ⟨gb158, 2, none⟩) (by first | (rw [add_block]; exact hn161_2) | (show (Addr.add _ _).block ≠ _; rw [add_block]; exact hn161_2) | exact hn161_2) (.bool ((rd_T65 l0 x10_1).f2))).trans hx161_1; replace hx161_2 := (cell_far (p := ⟨gb158, 2, none⟩) (by first | (rw [add_block]; exact hn161_2) | (show (Addr.add _ _).block ≠ _; rw [add_block]; exact hn161_2) | exact hn161_2) (.bool ((rd_T65 l0 x10_1).f2))).trans hx161_2; (try have hy161_0 := fun (n_ : Nat) => (show (((((w17.drewN n_).setCell ⟨gb158, 0, none⟩ (.int .i64 ((rd_T65 l0 x10_1).f0))).setCell ⟨gb158, 1, none⟩ (.int .i64 ((rd_T65 l0 x10_1).f1))).setCell ⟨gb158, 2, none⟩ (.bool ((rd_T65 l0 x10_1).f2)))).cell? _ = some _ from hx161_0)); (try have hy161_1 := fun (n_ : Nat) => (show (((((w17.drewN n_).setCell ⟨gb158, 0, none⟩ (.int .i64 ((rd_T65 l0 x10_1).f0))).setCell ⟨gb158, 1, none⟩ (.int .i64 ((rd_T65 l0 x10_1).f1))).setCell ⟨gb158, 2, none⟩ (.bool ((rd_T65 l0 x10_1).f2)))).cell? _ = some _ from hx161_1)); (try have hy161_2 := fun (n_ : Nat) => (show (((((w17.drewN n_).setCell ⟨gb158, 0, none⟩ (.int .i64 ((rd_T65 l0 x10_1).f0))).setCell ⟨gb158, 1, none⟩ (.int .i64 ((rd_T65 l0 x10_1).f1))).setCell ⟨gb158, 2, none⟩ (.bool ((rd_T65 l0 x10_1).f2)))).cell? _ = some _ from hx161_2)); clear hn161_0; clear hn161_1; clear hn161_2; replace p161 := eq_true p161; replace q161 := eq_true q161)); try go_wp2_with (first | ((with_reducible refine gate_dst (N := 4) rfl ?_); refine bx_ 4 #[.int .i64 0, .int .i64 0, .bool false] 65 ?_; intro gb158 hg w17 hbox hb; have n0_ := am_ (below_step (bw_ HB.out) hb); have n1_ := am_ (hbox); have n2_ := am_ (gs_ hg (bw_ HB.out)); have n3_ := am_ (gs_ hg (bw_ HB.out)); replace HB := n0_; have BK158 := n1_; have GW158 := n2_; have GE158 := n3_; clear n0_ n1_ n2_ n3_; clear hb hbox hg; have hcz18_0 := cz_ BK158.out 0; have hcz18_1 := cz_ BK158.out 1; have hcz18_2 := cz_ BK158.out 2; have hfz18_0 := blk_frozen BK158.out 0; have hfz18_1 := blk_frozen BK158.out 1; have hfz18_2 := blk_frozen BK158.out 2) | (go_at_call 53; (with_reducible refine (spec_l1In.calls ((rd_T65 l0 x10_1).f0) 0 100000 true _ A6.out).mono ?_); rintro e w' ⟨rfl, ⟨nd, rfl⟩⟩; (try first | exact ⟨rfl, _, World.drewN_drewN _ _ _⟩ | exact ⟨rfl, _, Eq.trans (World.drewN_drewN _ _ _) (congrArg (World.drewN _) (Nat.add_assoc _ _ _))⟩)) | (go_at_call 53; (with_reducible refine (spec_l1In.calls ((rd_T65 l0 x10_1).f1) 0 99 true _ A8.out).mono ?_); rintro e w' ⟨rfl, ⟨nd, rfl⟩⟩; (try first | exact ⟨rfl, _, World.drewN_drewN _ _ _⟩ | exact ⟨rfl, _, Eq.trans (World.drewN_drewN _ _ _) (congrArg (World.drewN _) (Nat.add_assoc _ _ _))⟩); have p161 : 0 ≤ ((ji11) : Int) := od_; have q161 : (ji11) < (l0.length : Int) := od_; obtain ⟨ad161, e161, hx161_0, hx161_1, hx161_2⟩ := at_T65 HR0.out (ji11) p161 q161; obtain rfl : ad157 = ad161 := (by injection e161); have hn161_0 : ad157.block ≠ gb158 := Nat.ne_of_lt (Nat.lt_of_lt_of_le (by have := World.block_lt_of_cell? _ _ hx161_0; first | rwa [add_block] at this | exact this) GW158.out); have hn161_1 : ad157.block ≠ gb158 := Nat.ne_of_lt (Nat.lt_of_lt_of_le (by have := World.block_lt_of_cell? _ _ hx161_0; first | rwa [add_block] at this | exact this) GW158.out); have hn161_2 : ad157.block ≠ gb158 := Nat.ne_of_lt (Nat.lt_of_lt_of_le (by have := World.block_lt_of_cell? _ _ hx161_0; first | rwa [add_block] at this | exact this) GW158.out); (try replace hx161_0 := hc_ HB.out hx161_0); (try replace hx161_1 := hc_ HB.out hx161_1); (try replace hx161_2 := hc_ HB.out hx161_2); replace hx161_0 := (cell_far (p := ⟨gb158, 0, none⟩) (by first | (rw [add_block]; exact hn161_0) | (show (Addr.add _ _).block ≠ _; rw [add_block]; exact hn161_0) | exact hn161_0) (.int .i64 ((rd_T65 l0 x10_1).f0))).trans hx161_0; replace hx161_1 := (cell_far (p := ⟨gb158, 0, none⟩) (by first | (rw [add_block]; exact hn161_0) | (show (Addr.add _ _).block ≠ _; rw [add_block]; exact hn161_0) | exact hn161_0) (.int .i64 ((rd_T65 l0 x10_1).f0))).trans hx161_1; replace hx161_2 := (cell_far (p := ⟨gb158, 0, none⟩) (by first | (rw [add_block]; exact hn161_0) | (show (Addr.add _ _).block ≠ _; rw [add_block]; exact hn161_0) | exact hn161_0) (.int .i64 ((rd_T65 l0 x10_1).f0))).trans hx161_2; replace hx161_0 := (cell_far (p := ⟨gb158, 1, none⟩) (by first | (rw [add_block]; exact hn161_1) | (show (Addr.add _ _).block ≠ _; rw [add_block]; exact hn161_1) | exact hn161_1) (.int .i64 ((rd_T65 l0 x10_1).f1))).trans hx161_0; replace hx161_1 := (cell_far (p := ⟨gb158, 1, none⟩) (by first | (rw [add_block]; exact hn161_1) | (show (Addr.add _ _).block ≠ _; rw [add_block]; exact hn161_1) | exact hn161_1) (.int .i64 ((rd_T65 l0 x10_1).f1))).trans hx161_1; replace hx161_2 := (cell_far (p := ⟨gb158, 1, none⟩) (by first | (rw [add_block]; exact hn161_1) | (show (Addr.add _ _).block ≠ _; rw [add_block]; exact hn161_1) | exact hn161_1) (.int .i64 ((rd_T65 l0 x10_1).f1))).trans hx161_2; replace hx161_0 := (cell_far (p := ⟨gb158, 2, none⟩) (by first | (rw [add_block]; exact hn161_2) | (show (Addr.add _ _).block ≠ _; rw [add_block]; exact hn161_2) | exact hn161_2) (.bool ((rd_T65 l0 x10_1).f2))).trans hx161_0; replace hx161_1 := (cell_far (p := ⟨gb158, 2, none⟩) (by first | (rw [add_block]; exact hn161_2) | (show (Addr.add _ _).block ≠ _; rw [add_block]; exact hn161_2) | exact hn161_2) (.bool ((rd_T65 l0 x10_1).f2))).trans hx161_1; replace hx161_2 := (cell_far (p := ⟨gb158, 2, none⟩) (by first | (rw [add_block]; exact hn161_2) | (show (Addr.add _ _).block ≠ _; rw [add_block]; exact hn161_2) | exact hn161_2) (.bool ((rd_T65 l0 x10_1).f2))).trans hx161_2; (try have hy161_0 := fun (n_ : Nat) => (show (((((w17.drewN n_).setCell ⟨gb158, 0, none⟩ (.int .i64 ((rd_T65 l0 x10_1).f0))).setCell ⟨gb158, 1, none⟩ (.int .i64 ((rd_T65 l0 x10_1).f1))).setCell ⟨gb158, 2, none⟩ (.bool ((rd_T65 l0 x10_1).f2)))).cell? _ = some _ from hx161_0)); (try have hy161_1 := fun (n_ : Nat) => (show (((((w17.drewN n_).setCell ⟨gb158, 0, none⟩ (.int .i64 ((rd_T65 l0 x10_1).f0))).setCell ⟨gb158, 1, none⟩ (.int .i64 ((rd_T65 l0 x10_1).f1))).setCell ⟨gb158, 2, none⟩ (.bool ((rd_T65 l0 x10_1).f2)))).cell? _ = some _ from hx161_1)); (try have hy161_2 := fun (n_ : Nat) => (show (((((w17.drewN n_).setCell ⟨gb158, 0, none⟩ (.int .i64 ((rd_T65 l0 x10_1).f0))).setCell ⟨gb158, 1, none⟩ (.int .i64 ((rd_T65 l0 x10_1).f1))).setCell ⟨gb158, 2, none⟩ (.bool ((rd_T65 l0 x10_1).f2)))).cell? _ = some _ from hx161_2)); clear hn161_0; clear hn161_1; clear hn161_2; replace p161 := eq_true p161; replace q161 := eq_true q161)))
         go_roundg k1
         case measure => have := HK1.out; omega
         case rel => exact ⟨(wrap64 (x10_1 + 1)), sq_, H', ⟨by have := HK1.out; omega⟩, ⟨bw_ HB.out⟩⟩
       ·rw [if_neg c10] at H
        have c10b0 : decide (0 < x10_1) = false := decide_eq_false c10
        clear c10
        have H' := am_ H
        clear H
        have p157 : 0 ≤ (x10_1 : Int) := od_
        have q157 : x10_1 < (l0.length : Int) := od_
        obtain ⟨ad157, e157, hx157_0, hx157_1, hx157_2⟩ := at_T65 HR0.out x10_1 p157 q157
        cases e157
        (try replace hx157_0 := hc_ HB.out hx157_0)
        (try replace hx157_1 := hc_ HB.out hx157_1)
        (try replace hx157_2 := hc_ HB.out hx157_2)
        replace p157 := eq_true p157
        replace q157 := eq_true q157
        go_wp2_with (first | ((with_reducible refine gate_dst (N := 4) rfl ?_); refine bx_ 4 #[.int .i64 0, .int .i64 0, .bool false] 65 ?_; intro gb158 hg w19 hbox hb; have n0_ := am_ (below_step (bw_ HB.out) hb); have n1_ := am_ (hbox); have n2_ := am_ (gs_ hg (bw_ HB.out)); have n3_ := am_ (gs_ hg (bw_ HB.out)); replace HB := n0_; have BK158 := n1_; have GW158 := n2_; have GE158 := n3_; clear n0_ n1_ n2_ n3_; clear hb hbox hg; have hcz20_0 := cz_ BK158.out 0; have hcz20_1 := cz_ BK158.out 1; have hcz20_2 := cz_ BK158.out 2; have hfz20_0 := blk_frozen BK158.out 0; have hfz20_1 := blk_frozen BK158.out 1; have hfz20_2 := blk_frozen BK158.out 2) | (go_at_call 53; (with_reducible refine (spec_l1In.calls ((rd_T65 l0 x10_1).f0) 0 100000 true _ A6.out).mono ?_); rintro e w' ⟨rfl, ⟨nd, rfl⟩⟩; (try first | exact ⟨rfl, _, World.drewN_drewN _ _ _⟩ | exact ⟨rfl, _, Eq.trans (World.drewN_drewN _ _ _) (congrArg (World.drewN _) (Nat.add_assoc _ _ _))⟩)) | (go_at_call 53; (with_reducible refine (spec_l1In.calls ((rd_T65 l0 x10_1).f1) 0 99 true _ A8.out).mono ?_); rintro e w' ⟨rfl, ⟨nd, rfl⟩⟩; (try first | exact ⟨rfl, _, World.drewN_drewN _ _ _⟩ | exact ⟨rfl, _, Eq.trans (World.drewN_drewN _ _ _) (congrArg (World.drewN _) (Nat.add_assoc _ _ _))⟩)))
        repeat (go_quiet (first | ((with_reducible refine gate_dst (N := 4) rfl ?_); refine bx_ 4 #[.int .i64 0, .int .i64 0, .bool false] 65 ?_; intro gb158 hg w19 hbox hb; have n0_ := am_ (below_step (bw_ HB.out) hb); have n1_ := am_ (hbox); have n2_ := am_ (gs_ hg (bw_ HB.out)); have n3_ := am_ (gs_ hg (bw_ HB.out)); replace HB := n0_; have BK158 := n1_; have GW158 := n2_; have GE158 := n3_; clear n0_ n1_ n2_ n3_; clear hb hbox hg; have hcz20_0 := cz_ BK158.out 0; have hcz20_1 := cz_ BK158.out 1; have hcz20_2 := cz_ BK158.out 2; have hfz20_0 := blk_frozen BK158.out 0; have hfz20_1 := blk_frozen BK158.out 1; have hfz20_2 := blk_frozen BK158.out 2) | (go_at_call 53; (with_reducible refine (spec_l1In.calls ((rd_T65 l0 x10_1).f0) 0 100000 true _ A6.out).mono ?_); rintro e w' ⟨rfl, ⟨nd, rfl⟩⟩; (try first | exact ⟨rfl, _, World.drewN_drewN _ _ _⟩ | exact ⟨rfl, _, Eq.trans (World.drewN_drewN _ _ _) (congrArg (World.drewN _) (Nat.add_assoc _ _ _))⟩)) | (go_at_call 53; (with_reducible refine (spec_l1In.calls ((rd_T65 l0 x10_1).f1) 0 99 true _ A8.out).mono ?_); rintro e w' ⟨rfl, ⟨nd, rfl⟩⟩; (try first | exact ⟨rfl, _, World.drewN_drewN _ _ _⟩ | exact ⟨rfl, _, Eq.trans (World.drewN_drewN _ _ _) (congrArg (World.drewN _) (Nat.add_assoc _ _ _))⟩))); try go_wp2_with (first | ((with_reducible refine gate_dst (N := 4) rfl ?_); refine bx_ 4 #[.int .i64 0, .int .i64 0, .bool false] 65 ?_; intro gb158 hg w19 hbox hb; have n0_ := am_ (below_step (bw_ HB.out) hb); have n1_ := am_ (hbox); have n2_ := am_ (gs_ hg (bw_ HB.out)); have n3_ := am_ (gs_ hg (bw_ HB.out)); replace HB := n0_; have BK158 := n1_; have GW158 := n2_; have GE158 := n3_; clear n0_ n1_ n2_ n3_; clear hb hbox hg; have hcz20_0 := cz_ BK158.out 0; have hcz20_1 := cz_ BK158.out 1; have hcz20_2 := cz_ BK158.out 2; have hfz20_0 := blk_frozen BK158.out 0; have hfz20_1 := blk_frozen BK158.out 1; have hfz20_2 := blk_frozen BK158.out 2) | (go_at_call 53; (with_reducible refine (spec_l1In.calls ((rd_T65 l0 x10_1).f0) 0 100000 true _ A6.out).mono ?_); rintro e w' ⟨rfl, ⟨nd, rfl⟩⟩; (try first | exact ⟨rfl, _, World.drewN_drewN _ _ _⟩ | exact ⟨rfl, _, Eq.trans (World.drewN_drewN _ _ _) (congrArg (World.drewN _) (Nat.add_assoc _ _ _))⟩)) | (go_at_call 53; (with_reducible refine (spec_l1In.calls ((rd_T65 l0 x10_1).f1) 0 99 true _ A8.out).mono ?_); rintro e w' ⟨rfl, ⟨nd, rfl⟩⟩; (try first | exact ⟨rfl, _, World.drewN_drewN _ _ _⟩ | exact ⟨rfl, _, Eq.trans (World.drewN_drewN _ _ _) (congrArg (World.drewN _) (Nat.add_assoc _ _ _))⟩))))
        go_roundg k1
        case measure => have := HK1.out; omega
        case rel => exact ⟨(wrap64 (x10_1 + 1)), sq_, H', ⟨by have := HK1.out; omega⟩, ⟨bw_ HB.out⟩⟩
      ·replace c9 := Bool.eq_false_iff.mpr c9
       subst c9
       replace H := if_ H Bool.false_ne_true
       obtain rfl := Option.some.inj H
       have p157 : 0 ≤ (x10_1 : Int) := od_
       have q157 : x10_1 < (l0.length : Int) := od_
       obtain ⟨ad157, e157, hx157_0, hx157_1, hx157_2⟩ := at_T65 HR0.out x10_1 p157 q157
       cases e157
       (try replace hx157_0 := hc_ HB.out hx157_0)
       (try replace hx157_1 := hc_ HB.out hx157_1)
       (try replace hx157_2 := hc_ HB.out hx157_2)
       replace p157 := eq_true p157
       replace q157 := eq_true q157
       go_wp2_with (first | ((with_reducible refine gate_dst (N := 4) rfl ?_); refine bx_ 4 #[.int .i64 0, .int .i64 0, .bool false] 65 ?_; intro gb158 hg w21 hbox hb; have n0_ := am_ (below_step (bw_ HB.out) hb); have n1_ := am_ (hbox); have n2_ := am_ (gs_ hg (bw_ HB.out)); have n3_ := am_ (gs_ hg (bw_ HB.out)); replace HB := n0_; have BK158 := n1_; have GW158 := n2_; have GE158 := n3_; clear n0_ n1_ n2_ n3_; clear hb hbox hg; have hcz22_0 := cz_ BK158.out 0; have hcz22_1 := cz_ BK158.out 1; have hcz22_2 := cz_ BK158.out 2; have hfz22_0 := blk_frozen BK158.out 0; have hfz22_1 := blk_frozen BK158.out 1; have hfz22_2 := blk_frozen BK158.out 2) | (go_at_call 53; (with_reducible refine (spec_l1In.calls ((rd_T65 l0 x10_1).f0) 0 100000 true _ A6.out).mono ?_); rintro e w' ⟨rfl, ⟨nd, rfl⟩⟩; (try first | exact ⟨rfl, _, World.drewN_drewN _ _ _⟩ | exact ⟨rfl, _, Eq.trans (World.drewN_drewN _ _ _) (congrArg (World.drewN _) (Nat.add_assoc _ _ _))⟩)) | (go_at_call 53; (with_reducible refine (spec_l1In.calls ((rd_T65 l0 x10_1).f1) 0 99 false _ A8.out).mono ?_); rintro e w' ⟨rfl, ⟨nd, rfl⟩⟩; (try first | exact ⟨rfl, _, World.drewN_drewN _ _ _⟩ | exact ⟨rfl, _, Eq.trans (World.drewN_drewN _ _ _) (congrArg (World.drewN _) (Nat.add_assoc _ _ _))⟩)))
       repeat (go_quiet (first | ((with_reducible refine gate_dst (N := 4) rfl ?_); refine bx_ 4 #[.int .i64 0, .int .i64 0, .bool false] 65 ?_; intro gb158 hg w21 hbox hb; have n0_ := am_ (below_step (bw_ HB.out) hb); have n1_ := am_ (hbox); have n2_ := am_ (gs_ hg (bw_ HB.out)); have n3_ := am_ (gs_ hg (bw_ HB.out)); replace HB := n0_; have BK158 := n1_; have GW158 := n2_; have GE158 := n3_; clear n0_ n1_ n2_ n3_; clear hb hbox hg; have hcz22_0 := cz_ BK158.out 0; have hcz22_1 := cz_ BK158.out 1; have hcz22_2 := cz_ BK158.out 2; have hfz22_0 := blk_frozen BK158.out 0; have hfz22_1 := blk_frozen BK158.out 1; have hfz22_2 := blk_frozen BK158.out 2) | (go_at_call 53; (with_reducible refine (spec_l1In.calls ((rd_T65 l0 x10_1).f0) 0 100000 true _ A6.out).mono ?_); rintro e w' ⟨rfl, ⟨nd, rfl⟩⟩; (try first | exact ⟨rfl, _, World.drewN_drewN _ _ _⟩ | exact ⟨rfl, _, Eq.trans (World.drewN_drewN _ _ _) (congrArg (World.drewN _) (Nat.add_assoc _ _ _))⟩)) | (go_at_call 53; (with_reducible refine (spec_l1In.calls ((rd_T65 l0 x10_1).f1) 0 99 false _ A8.out).mono ?_); rintro e w' ⟨rfl, ⟨nd, rfl⟩⟩; (try first | exact ⟨rfl, _, World.drewN_drewN _ _ _⟩ | exact ⟨rfl, _, Eq.trans (World.drewN_drewN _ _ _) (congrArg (World.drewN _) (Nat.add_assoc _ _ _))⟩))); try go_wp2_with (first | ((with_reducible refine gate_dst (N := 4) rfl ?_); refine bx_ 4 #[.int .i64 0, .int .i64 0, .bool false] 65 ?_; intro gb158 hg w21 hbox hb; have n0_ := am_ (below_step (bw_ HB.out) hb); have n1_ := am_ (hbox); have n2_ := am_ (gs_ hg (bw_ HB.out)); have n3_ := am_ (gs_ hg (bw_ HB.out)); replace HB := n0_; have BK158 := n1_; have GW158 := n2_; have GE158 := n3_; clear n0_ n1_ n2_ n3_; clear hb hbox hg; have hcz22_0 := cz_ BK158.out 0; have hcz22_1 := cz_ BK158.out 1; have hcz22_2 := cz_ BK158.out 2; have hfz22_0 := blk_frozen BK158.out 0; have hfz22_1 := blk_frozen BK158.out 1; have hfz22_2 := blk_frozen BK158.out 2) | (go_at_call 53; (with_reducible refine (spec_l1In.calls ((rd_T65 l0 x10_1).f0) 0 100000 true _ A6.out).mono ?_); rintro e w' ⟨rfl, ⟨nd, rfl⟩⟩; (try first | exact ⟨rfl, _, World.drewN_drewN _ _ _⟩ | exact ⟨rfl, _, Eq.trans (World.drewN_drewN _ _ _) (congrArg (World.drewN _) (Nat.add_assoc _ _ _))⟩)) | (go_at_call 53; (with_reducible refine (spec_l1In.calls ((rd_T65 l0 x10_1).f1) 0 99 false _ A8.out).mono ?_); rintro e w' ⟨rfl, ⟨nd, rfl⟩⟩; (try first | exact ⟨rfl, _, World.drewN_drewN _ _ _⟩ | exact ⟨rfl, _, Eq.trans (World.drewN_drewN _ _ _) (congrArg (World.drewN _) (Nat.add_assoc _ _ _))⟩))))
       go_ret
       exact ⟨by first | rfl | (simp [errW_none, errW_some] <;> rfl) | (simp [*, errW_none, errW_some] <;> rfl), bw_ HB.out⟩
     ·replace c7 := Bool.eq_false_iff.mpr c7
      subst c7
      replace H := if_ H Bool.false_ne_true
      obtain rfl := Option.some.inj H
      have p157 : 0 ≤ (x10_1 : Int) := od_
      have q157 : x10_1 < (l0.length : Int) := od_
      obtain ⟨ad157, e157, hx157_0, hx157_1, hx157_2⟩ := at_T65 HR0.out x10_1 p157 q157
      cases e157
      (try replace hx157_0 := hc_ HB.out hx157_0)
      (try replace hx157_1 := hc_ HB.out hx157_1)
      (try replace hx157_2 := hc_ HB.out hx157_2)
      replace p157 := eq_true p157
      replace q157 := eq_true q157
      go_wp2_with (first | ((with_reducible refine gate_dst (N := 4) rfl ?_); refine bx_ 4 #[.int .i64 0, .int .i64 0, .bool false] 65 ?_; intro gb158 hg w23 hbox hb; have n0_ := am_ (below_step (bw_ HB.out) hb); have n1_ := am_ (hbox); have n2_ := am_ (gs_ hg (bw_ HB.out)); have n3_ := am_ (gs_ hg (bw_ HB.out)); replace HB := n0_; have BK158 := n1_; have GW158 := n2_; have GE158 := n3_; clear n0_ n1_ n2_ n3_; clear hb hbox hg; have hcz24_0 := cz_ BK158.out 0; have hcz24_1 := cz_ BK158.out 1; have hcz24_2 := cz_ BK158.out 2; have hfz24_0 := blk_frozen BK158.out 0; have hfz24_1 := blk_frozen BK158.out 1; have hfz24_2 := blk_frozen BK158.out 2) | (go_at_call 53; (with_reducible refine (spec_l1In.calls ((rd_T65 l0 x10_1).f0) 0 100000 false _ A6.out).mono ?_); rintro e w' ⟨rfl, ⟨nd, rfl⟩⟩; (try first | exact ⟨rfl, _, World.drewN_drewN _ _ _⟩ | exact ⟨rfl, _, Eq.trans (World.drewN_drewN _ _ _) (congrArg (World.drewN _) (Nat.add_assoc _ _ _))⟩)))
      repeat (go_quiet (first | ((with_reducible refine gate_dst (N := 4) rfl ?_); refine bx_ 4 #[.int .i64 0, .int .i64 0, .bool false] 65 ?_; intro gb158 hg w23 hbox hb; have n0_ := am_ (below_step (bw_ HB.out) hb); have n1_ := am_ (hbox); have n2_ := am_ (gs_ hg (bw_ HB.out)); have n3_ := am_ (gs_ hg (bw_ HB.out)); replace HB := n0_; have BK158 := n1_; have GW158 := n2_; have GE158 := n3_; clear n0_ n1_ n2_ n3_; clear hb hbox hg; have hcz24_0 := cz_ BK158.out 0; have hcz24_1 := cz_ BK158.out 1; have hcz24_2 := cz_ BK158.out 2; have hfz24_0 := blk_frozen BK158.out 0; have hfz24_1 := blk_frozen BK158.out 1; have hfz24_2 := blk_frozen BK158.out 2) | (go_at_call 53; (with_reducible refine (spec_l1In.calls ((rd_T65 l0 x10_1).f0) 0 100000 false _ A6.out).mono ?_); rintro e w' ⟨rfl, ⟨nd, rfl⟩⟩; (try first | exact ⟨rfl, _, World.drewN_drewN _ _ _⟩ | exact ⟨rfl, _, Eq.trans (World.drewN_drewN _ _ _) (congrArg (World.drewN _) (Nat.add_assoc _ _ _))⟩))); try go_wp2_with (first | ((with_reducible refine gate_dst (N := 4) rfl ?_); refine bx_ 4 #[.int .i64 0, .int .i64 0, .bool false] 65 ?_; intro gb158 hg w23 hbox hb; have n0_ := am_ (below_step (bw_ HB.out) hb); have n1_ := am_ (hbox); have n2_ := am_ (gs_ hg (bw_ HB.out)); have n3_ := am_ (gs_ hg (bw_ HB.out)); replace HB := n0_; have BK158 := n1_; have GW158 := n2_; have GE158 := n3_; clear n0_ n1_ n2_ n3_; clear hb hbox hg; have hcz24_0 := cz_ BK158.out 0; have hcz24_1 := cz_ BK158.out 1; have hcz24_2 := cz_ BK158.out 2; have hfz24_0 := blk_frozen BK158.out 0; have hfz24_1 := blk_frozen BK158.out 1; have hfz24_2 := blk_frozen BK158.out 2) | (go_at_call 53; (with_reducible refine (spec_l1In.calls ((rd_T65 l0 x10_1).f0) 0 100000 false _ A6.out).mono ?_); rintro e w' ⟨rfl, ⟨nd, rfl⟩⟩; (try first | exact ⟨rfl, _, World.drewN_drewN _ _ _⟩ | exact ⟨rfl, _, Eq.trans (World.drewN_drewN _ _ _) (congrArg (World.drewN _) (Nat.add_assoc _ _ _))⟩))))
      go_ret
      exact ⟨by first | rfl | (simp [errW_none, errW_some] <;> rfl) | (simp [*, errW_none, errW_some] <;> rfl), bw_ HB.out⟩
    ·rw [if_neg c3] at H
     have c3b0 : decide (x10_1 < (l0.length : Int)) = false := decide_eq_false c3
     clear c3
     obtain rfl := Option.some.inj H
     go_wp2
     repeat (go_quiet (fail); try go_wp2)
     go_ret
     exact ⟨by first | rfl | (simp [errW_none, errW_some] <;> rfl) | (simp [*, errW_none, errW_some] <;> rfl), bw_ HB.out⟩

end Go.Proofs.Ytfgdfnnddoncjaa.XFnExactMeantBy
