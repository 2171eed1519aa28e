/- What the Go functions that this law comes to compute, each walked; written by a program of this session. -/
import Derived.Test.YtfgdfnnddoncjaaXShort
import Derived.Test.YtfgdfnnddoncjaaXMark
import Derived.Test.YtfgdfnnddoncjaaXFnExactMeantByx0
import Derived.Test.YtfgdfnnddoncjaaXFnExactMeantByx8
namespace Go.Proofs.Ytfgdfnnddoncjaa.XFnExactMeantBy
open Go.RowKit Go.Proofs.YtfgdfnnddoncjaaW.PrintWords Go.Proofs.YtfgdfnnddoncjaaW.PrintLast Go.Proofs.YtfgdfnnddoncjaaW.PrintMore
attribute [local go_sem] str_geq max2_int min2_int max_two min_two max_three min_three max_four min_four   -- for this text's walks alone
set_option linter.unusedVariables false
set_option linter.unusedSimpArgs false

/-! ### impl_isTime: function 64 -/
def impl_isTime.f (a0 : Int) : Option (Bool) := (impl_inRange.f a0 0 100000).bind fun t278 => (some t278)
set_option maxHeartbeats 8000000 in
set_option maxRecDepth 100000 in
theorem impl_isTime.calls (a0 : Int) (r : Bool) (w : World) (h : impl_isTime.f a0 = some r) :
  Calls Try.prog 64 #[.int .i64 a0] w fun e w' => e = .returned (.bool r) ∧ Drawn0 w w' := by
 have H : ((impl_inRange.f a0 0 100000).bind fun t278 => (some t278)) = some r := h
 clear h
 obtain ⟨t278, A20, H⟩ := bE_ H
 have A2 := am_ A20
 clear A20
 obtain rfl := Option.some.inj H
 go_enter Try.func64, Try.ntmps64
 go_wp2_with (first | ((with_reducible refine gate_callee (f := 57) rfl ?_); refine goesL_ (some 4) rfl rfl Try.func57 (by kernel_rfl) rfl #[.int .i64 a0, .int .i64 0, .int .i64 100000] rfl (by (try simp only [List.map_toArray, List.map_cons, List.map_nil]); first | done | rfl | (simp only [List.length_drop, List.length_take]; rfl)) ?_; (with_reducible refine (impl_inRange.calls a0 0 100000 t278 _ A2.out).mono ?_); rintro e w' ⟨rfl, ⟨nd, rfl⟩⟩; refine ⟨_, rfl, ?_⟩))
 go_ret
 exact ⟨by first | rfl | (simp; done) | (simp [*]; done), by repeat (first | exact Drawn0.refl _ | apply Drawn0.step)⟩

/-! ### impl_areEvents: function 46 -/
def impl_areEvents.l0 : Nat → List (S65) → List (S65) → Int → Int → Option (Bool)
 | 0, _, _, _, _ => none
 | k + 1, x0, x5, x6, x7 => if x7 < x6 then (if 0 ≤ x7 then (if x7 < (x5.length : Int) then ((impl_isTime.f ((rd_T65 x5 x7).f0)).bind fun t281 => (if t281 = true then ((impl_isKey.f ((rd_T65 x5 x7).f1)).bind fun t282 => (if t282 = true then (if x7 > 0 then (if 0 ≤ (wrap64 (x7 - 1)) then (if (wrap64 (x7 - 1)) < (x0.length : Int) then (if ((rd_T65 x0 (wrap64 (x7 - 1))).f0) > ((rd_T65 x5 x7).f0) then (some false) else (impl_areEvents.l0 k x0 x5 x6 (wrap64 (x7 + 1)))) else (none)) else (none)) else (impl_areEvents.l0 k x0 x5 x6 (wrap64 (x7 + 1)))) else (some false))) else (some false))) else (none)) else (none)) else (some (decide ((x0.length : Int) ≤ 200)))
def impl_areEvents.f (k : Nat) (l0 : List (S65)) : Option (Bool) := impl_areEvents.l0 k l0 l0 (l0.length : Int) 0
theorem impl_areEvents.mono_l : ∀ k, (∀ y0 y1 y2 y3, LeO (impl_areEvents.l0 k y0 y1 y2 y3) (impl_areEvents.l0 (k + 1) y0 y1 y2 y3))
 | 0 => fun _ _ _ _ r h => by simp [impl_areEvents.l0] at h
 | k + 1 => by
  have ih0 := impl_areEvents.mono_l k
  ·intro y0 y1 y2 y3
   unfold impl_areEvents.l0
   repeat' first
   | (with_reducible exact ih0 _ _ _ _)
   | (with_reducible exact LeO.refl _)
   | (with_reducible exact LeO.none _)
   | (with_reducible refine LeO.ite ?_ ?_)
   | (with_reducible refine LeO.bind ?_ (fun _ => ?_))
   | exact ih0 _ _ _ _
   | exact LeO.none _
   | refine LeO.ite ?_ ?_
   | refine LeO.bind ?_ (fun _ => ?_)
theorem impl_areEvents.mono : ∀ a0 k, LeO (impl_areEvents.f k a0) (impl_areEvents.f (k + 1) a0) := by
 intro a0 k
 have ih0 := impl_areEvents.mono_l k
 unfold impl_areEvents.f
 repeat' first
   | (with_reducible exact ih0 _ _ _ _)
   | (with_reducible exact LeO.refl _)
   | (with_reducible exact LeO.none _)
   | (with_reducible refine LeO.ite ?_ ?_)
   | (with_reducible refine LeO.bind ?_ (fun _ => ?_))
   | exact ih0 _ _ _ _
   | exact LeO.none _
   | refine LeO.ite ?_ ?_
   | refine LeO.bind ?_ (fun _ => ?_)
set_option maxHeartbeats 8000000 in
set_option maxRecDepth 100000 in
theorem impl_areEvents.calls (k : Nat) (A0 : Option Addr) (c0 : Nat) (l0 : List (S65)) (r : Bool) (w : World) (hr0 : Kd.C k65 w A0 l0.length l0) (hc0 : l0.length ≤ c0) (h : impl_areEvents.f k l0 = some r) :
  Calls Try.prog 46 #[.slice A0 l0.length c0] w fun e w' => e = .returned (.bool r) ∧ Below w.heap.size w w' := by
 have hu65 := Try.underlying65
 have HR0 := am_ hr0
 have HC0 := am_ hc0
 clear hr0 hc0
 have HB := am_ (Below.refl w.heap.size w)
 have H : (impl_areEvents.l0 k l0 l0 (l0.length : Int) 0) = some r := h
 clear h
 have H' := am_ H
 clear H
 go_enter Try.func46, Try.ntmps46
 go_wp2
 repeat (go_quiet (fail); try go_wp2)
 go_loopg [7] k (fun kq v7 w' => ∃ (x7_1 : Int), v7 = .int .i64 x7_1 ∧ Aside0 (impl_areEvents.l0 kq l0 l0 (l0.length : Int) x7_1 = some r) ∧ Aside0 (kq ≤ k) ∧ Aside0 (Below w.heap.size w w'))
 case atStart => exact ⟨(0), sq_, H', ⟨Nat.le_refl _⟩, ⟨bw_ HB.out⟩⟩
 case round =>
  clear H'
  obtain ⟨x7_1, rfl, HA, HK1, HB⟩ := hrel
  cases gk with
  | zero => exact absurd HA.out (by simp [impl_areEvents.l0])
  | succ k1 =>
   have H := HA.out
   clear HA
   simp only [impl_areEvents.l0] at H
   by_cases c2 : x7_1 < (l0.length : Int)
   ·rw [if_pos c2] at H
    have c2b0 : decide (x7_1 < (l0.length : Int)) = true := decide_eq_true c2
    clear c2
    obtain ⟨c3, H⟩ := ifn_ H
    have c3b0 : decide (0 ≤ x7_1) = true := decide_eq_true c3
    clear c3
    obtain ⟨c4, H⟩ := ifn_ H
    have c4b0 : decide (x7_1 < (l0.length : Int)) = true := decide_eq_true c4
    clear c4
    obtain ⟨t281, A50, H⟩ := bE_ H
    have A5 := am_ A50
    clear A50
    by_cases c6 : t281 = true
    ·subst c6
     replace H := it_ H rfl
     obtain ⟨t282, A70, H⟩ := bE_ H
     have A7 := am_ A70
     clear A70
     by_cases c8 : t282 = true
     ·subst c8
      replace H := it_ H rfl
      by_cases c9 : x7_1 > 0
      ·rw [if_pos c9] at H
       have c9b0 : decide (0 < x7_1) = true := decide_eq_true c9
       clear c9
       obtain ⟨ji10, hji10⟩ : ∃ j_ : Int, (wrap64 (x7_1 - 1)) = j_ := ⟨_, rfl⟩
       replace H : (if 0 ≤ (ji10) then (if (ji10) < (l0.length : Int) then (if ((rd_T65 l0 (ji10)).f0) > ((rd_T65 l0 x7_1).f0) then (some false) else (impl_areEvents.l0 k1 l0 l0 (l0.length : Int) (wrap64 (x7_1 + 1)))) else (none)) else (none)) = some r := by first | (rw [hji10] at H; exact H) | (simp only [hji10] at H ⊢; exact H)
       (try rw [hji10] at A5)
       (try rw [hji10] at A7)
       have hji10w : (IntKind.i64.wrap (x7_1 - 1)) = ji10 := (i64_w _).trans hji10
       obtain ⟨c11, H⟩ := ifn_ H
       have c11b0 : decide (0 ≤ (ji10)) = true := decide_eq_true c11
       clear c11
       obtain ⟨c12, H⟩ := ifn_ H
       have c12b0 : decide ((ji10) < (l0.length : Int)) = true := decide_eq_true c12
       clear c12
       by_cases c13 : ((rd_T65 l0 (ji10)).f0) > ((rd_T65 l0 x7_1).f0)
       ·rw [if_pos c13] at H
        have c13b0 : decide (((rd_T65 l0 x7_1).f0) < ((rd_T65 l0 (ji10)).f0)) = true := decide_eq_true c13
        clear c13
        obtain rfl := Option.some.inj H
        have p279 : 0 ≤ (x7_1 : Int) := od_
        have q279 : x7_1 < (l0.length : Int) := od_
        obtain ⟨ad279, e279, hx279_0, hx279_1, hx279_2⟩ := at_T65 HR0.out x7_1 p279 q279
        cases e279
        (try replace hx279_0 := hc_ HB.out hx279_0)
        (try replace hx279_1 := hc_ HB.out hx279_1)
        (try replace hx279_2 := hc_ HB.out hx279_2)
        replace p279 := eq_true p279
        replace q279 := eq_true q279
        go_wp2_with (first | ((with_reducible refine gate_dst (N := 4) rfl ?_); refine bx_ 4 #[.int .i64 0, .int .i64 0, .bool false] 65 ?_; intro gb280 hg w14 hbox hb; have n0_ := am_ (below_step (bw_ HB.out) hb); have n1_ := am_ (hbox); have n2_ := am_ (gs_ hg (bw_ HB.out)); have n3_ := am_ (gs_ hg (bw_ HB.out)); replace HB := n0_; have BK280 := n1_; have GW280 := n2_; have GE280 := n3_; clear n0_ n1_ n2_ n3_; clear hb hbox hg; have hcz15_0 := cz_ BK280.out 0; have hcz15_1 := cz_ BK280.out 1; have hcz15_2 := cz_ BK280.out 2; have hfz15_0 := blk_frozen BK280.out 0; have hfz15_1 := blk_frozen BK280.out 1; have hfz15_2 := blk_frozen BK280.out 2) | (go_at_call 64; (with_reducible refine (impl_isTime.calls ((rd_T65 l0 x7_1).f0) true _ A5.out).mono ?_); rintro e w' ⟨rfl, ⟨nd, rfl⟩⟩; (try first | exact ⟨rfl, _, World.drewN_drewN _ _ _⟩ | exact ⟨rfl, _, Eq.trans (World.drewN_drewN _ _ _) (congrArg (World.drewN _) (Nat.add_assoc _ _ _))⟩)) | (go_at_call 58; (with_reducible refine (impl_isKey.calls ((rd_T65 l0 x7_1).f1) true _ A7.out).mono ?_); rintro e w' ⟨rfl, ⟨nd, rfl⟩⟩; (try first | exact ⟨rfl, _, World.drewN_drewN _ _ _⟩ | exact ⟨rfl, _, Eq.trans (World.drewN_drewN _ _ _) (congrArg (World.drewN _) (Nat.add_assoc _ _ _))⟩); have p283 : 0 ≤ ((ji10) : Int) := od_; have q283 : (ji10) < (l0.length : Int) := od_; obtain ⟨ad283, e283, hx283_0, hx283_1, hx283_2⟩ := at_T65 HR0.out (ji10) p283 q283; obtain rfl : ad279 = ad283 := (by injection e283); have hn283_0 : ad279.block ≠ gb280 := Nat.ne_of_lt (Nat.lt_of_lt_of_le (by have := World.block_lt_of_cell? _ _ hx283_0; first | rwa [add_block] at this | exact this) GW280.out); have hn283_1 : ad279.block ≠ gb280 := Nat.ne_of_lt (Nat.lt_of_lt_of_le (by have := World.block_lt_of_cell? _ _ hx283_0; first | rwa [add_block] at this | exact this) GW280.out); have hn283_2 : ad279.block ≠ gb280 := Nat.ne_of_lt (Nat.lt_of_lt_of_le (by have := World.block_lt_of_cell? _ _ hx283_0; first | rwa [add_block] at this | exact this) GW280.out); (try replace hx283_0 := hc_ HB.out hx283_0); (try replace hx283_1 := hc_ HB.out hx283_1); (try replace hx283_2 := hc_ HB.out hx283_2); replace hx283_0 := (cell_far (p := ⟨gb280, 0, none⟩) (by first | (rw [add_block]; exact hn283_0) | (show (Addr.add _ _).block ≠ _; rw [add_block]; exact hn283_0) | exact hn283_0) (.int .i64 ((rd_T65 l0 x7_1).f0))).trans hx283_0; replace hx283_1 := (cell_far (p := ⟨gb280, 0, none⟩) (by first | (rw [add_block]; exact hn283_0) | (show (Addr.add _ _).block ≠ _; rw [add_block]; exact hn283_0) | exact hn283_0) (.int .i64 ((rd_T65 l0 x7_1).f0))).trans hx283_1; replace hx283_2 := (cell_far (p := ⟨gb280, 0, none⟩) (by first | (rw [add_block]; exact hn283_0) | (show (Addr.add _ _).block ≠ _; rw [add_block]; exact hn283_0) | exact hn283_0) (.int .i64 ((rd_T65 l0 x7_1).f0))).trans hx283_2; replace hx283_0 := (cell_far (p := ⟨gb280, 1, none⟩) (by first | (rw [add_block]; exact hn283_1) | (show (Addr.add _ _).block ≠ _; rw [add_block]; exact hn283_1) | exact hn283_1) (.int .i64 ((rd_T65 l0 x7_1).f1))).trans hx283_0; replace hx283_1 := (cell_far (p := ⟨gb280, 1, none⟩) (by first | (rw [add_block]; exact hn283_1) | (show (Addr.add _ _).block ≠ _; rw [add_block]; exact hn283_1) | exact hn283_1) (.int .i64 ((rd_T65 l0 x7_1).f1))).trans hx283_1; replace hx283_2 := (cell_far (p := ⟨gb280, 1, none⟩) (by first | (rw [add_block]; exact hn283_1) | (show (Addr.add _ _).block ≠ _; rw [add_block]; exact hn283_1) | exact hn283_1) (.int .i64 ((rd_T65 l0 x7_1).f1))).trans hx283_2; replace hx283_0 := (cell_far (p := ⟨gb280, 2, none⟩) (by first | (rw [add_block]; exact hn283_2) | (show (Addr.add _ _).block ≠ _; rw [add_block]; exact hn283_2) | exact hn283_2) (.bool ((rd_T65 l0 x7_1).f2))).trans hx283_0; replace hx283_1 := (cell_far (p := ⟨gb280, 2, none⟩) (by first | (rw [add_block]; exact hn283_2) | (show (Addr.add _ _).block ≠ _; rw [add_block]; exact hn283_2) | exact hn283_2) (.bool ((rd_T65 l0 x7_1).f2))).trans hx283_1; replace hx283_2 := (cell_far (p := ⟨gb280, 2, none⟩) (by first | (rw [add_block]; exact hn283_2) | (show (Addr.add _ _).block ≠ _; rw [add_block]; exact hn283_2) | exact hn283_2) (.bool ((rd_T65 l0 x7_1).f2))).trans hx283_2; (try have hy283_0 := fun (n_ : Nat) => (show (((((w14.drewN n_).setCell ⟨gb280, 0, none⟩ (.int .i64 ((rd_T65 l0 x7_1).f0))).setCell ⟨gb280, 1, none⟩ (.int .i64 ((rd_T65 l0 x7_1).f1))).setCell ⟨gb280, 2, none⟩ (.bool ((rd_T65 l0 x7_1).f2)))).cell? _ = some _ from hx283_0)); (try have hy283_1 := fun (n_ : Nat) => (show (((((w14.drewN n_).setCell ⟨gb280, 0, none⟩ (.int .i64 ((rd_T65 l0 x7_1).f0))).setCell ⟨gb280, 1, none⟩ (.int .i64 ((rd_T65 l0 x7_1).f1))).setCell ⟨gb280, 2, none⟩ (.bool ((rd_T65 l0 x7_1).f2)))).cell? _ = some _ from hx283_1)); (try have hy283_2 := fun (n_ : Nat) => (show (((((w14.drewN n_).setCell ⟨gb280, 0, none⟩ (.int .i64 ((rd_T65 l0 x7_1).f0))).setCell ⟨gb280, 1, none⟩ (.int .i64 ((rd_T65 l0 x7_1).f1))).setCell ⟨gb280, 2, none⟩ (.bool ((rd_T65 l0 x7_1).f2)))).cell? _ = some _ from hx283_2)); clear hn283_0; clear hn283_1; clear hn283_2; replace p283 := eq_true p283; replace q283 := eq_true q283))
        repeat (go_quiet (first | ((with_reducible refine gate_dst (N := 4) rfl ?_); refine bx_ 4 #[.int .i64 0, .int .i64 0, .bool false] 65 ?_; intro gb280 hg w14 hbox hb; have n0_ := am_ (below_step (bw_ HB.out) hb); have n1_ := am_ (hbox); have n2_ := am_ (gs_ hg (bw_ HB.out)); have n3_ := am_ (gs_ hg (bw_ HB.out)); replace HB := n0_; have BK280 := n1_; have GW280 := n2_; have GE280 := n3_; clear n0_ n1_ n2_ n3_; clear hb hbox hg; have hcz15_0 := cz_ BK280.out 0; have hcz15_1 := cz_ BK280.out 1; have hcz15_2 := cz_ BK280.out 2; have hfz15_0 := blk_frozen BK280.out 0; have hfz15_1 := blk_frozen BK280.out 1; have hfz15_2 := blk_frozen BK280.out 2) | (go_at_call 64; (with_reducible refine (impl_isTime.calls ((rd_T65 l0 x7_1).f0) true _ A5.out).mono ?_); rintro e w' ⟨rfl, ⟨nd, rfl⟩⟩; (try first | exact ⟨rfl, _, World.drewN_drewN _ _ _⟩ | exact ⟨rfl, _, Eq.trans (World.drewN_drewN _ _ _) (congrArg (World.drewN _) (Nat.add_assoc _ _ _))⟩)) | (go_at_call 58; (with_reducible refine (impl_isKey.calls ((rd_T65 l0 x7_1).f1) true _ A7.out).mono ?_); rintro e w' ⟨rfl, ⟨nd, rfl⟩⟩; (try first | exact ⟨rfl, _, World.drewN_drewN _ _ _⟩ | exact ⟨rfl, _, Eq.trans (World.drewN_drewN _ _ _) (congrArg (World.drewN _) (Nat.add_assoc _ _ _))⟩); have p283 : 0 ≤ ((ji10) : Int) := od_; have q283 : (ji10) < (l0.length : Int) := od_; obtain ⟨ad283, e283, hx283_0, hx283_1, hx283_2⟩ := at_T65 HR0.out (ji10) p283 q283; obtain rfl : ad279 = ad283 := (by injection e283); have hn283_0 : ad279.block ≠ gb280 := Nat.ne_of_lt (Nat.lt_of_lt_of_le (by have := World.block_lt_of_cell? _ _ hx283_0; first | rwa [add_block] at this | exact this) GW280.out); have hn283_1 : ad279.block ≠ gb280 := Nat.ne_of_lt (Nat.lt_of_lt_of_le (by have := World.block_lt_of_cell? _ _ hx283_0; first | rwa [add_block] at this | exact this) GW280.out); have hn283_2 : ad279.block ≠ gb280 := Nat.ne_of_lt (Nat.lt_of_lt_of_le (by have := World.block_lt_of_cell? _ _ hx283_0; first | rwa [add_block] at this | exact this) GW280.out); (try replace hx283_0 := hc_ HB.out hx283_0); (try replace hx283_1 := hc_ HB.out hx283_1); (try replace hx283_2 := hc_ HB.out hx283_2); replace hx283_0 := (cell_far (p := ⟨gb280, 0, none⟩) (by first | (rw [add_block]; exact hn283_0) | (show (Addr.add _ _).block ≠ _; rw [add_block]; exact hn283_0) | exact hn283_0) (.int .i64 ((rd_T65 l0 x7_1).f0))).trans hx283_0; replace hx283_1 := (cell_far (p := ⟨gb280, 0, none⟩) (by first | (rw [add_block]; exact hn283_0) | (show (Addr.add _ _).block ≠ _; rw [add_block]; exact hn283_0) | exact hn283_0) (.int .i64 ((rd_T65 l0 x7_1).f0))).trans hx283_1; replace hx283_2 := (cell_far (p := ⟨gb280, 0, none⟩) (by first | (rw [add_block]; exact hn283_0) | (show (Addr.add _ _).block ≠ _; rw [add_block]; exact hn283_0) | exact hn283_0) (.int .i64 ((rd_T65 l0 x7_1).f0))).trans hx283_2; replace hx283_0 := (cell_far (p := ⟨gb280, 1, none⟩) (by first | (rw [add_block]; exact hn283_1) | (show (Addr.add _ _).block ≠ _; rw [add_block]; exact hn283_1) | exact hn283_1) (.int .i64 ((rd_T65 l0 x7_1).f1))).trans hx283_0; replace hx283_1 := (cell_far (p := ⟨gb280, 1, none⟩) (by first | (rw [add_block]; exact hn283_1) | (show (Addr.add _ _).block ≠ _; rw [add_block]; exact hn283_1) | exact hn283_1) (.int .i64 ((rd_T65 l0 x7_1).f1))).trans hx283_1; replace hx283_2 := (cell_far (p := ⟨gb280, 1, none⟩) (by first | (rw [add_block]; exact hn283_1) | (show (Addr.add _ _).block ≠ _; rw [add_block]; exact hn283_1) | exact hn283_1) (.int .i64 ((rd_T65 l0 x7_1).f1))).trans hx283_2; replace hx283_0 := (cell_far (p := ⟨gb280, 2, none⟩) (by first | (rw [add_block]; exact hn283_2) | (show (Addr.add _ _).block ≠ _; rw [add_block]; exact hn283_2) | exact hn283_2) (.bool ((rd_T65 l0 x7_1).f2))).trans hx283_0; replace hx283_1 := (cell_far (p := ⟨gb280, 2, none⟩) (by first | (rw [add_block]; exact hn283_2) | (show (Addr.add _ _).block ≠ _; rw [add_block]; exact hn283_2) | exact hn283_2) (.bool ((rd_T65 l0 x7_1).f2))).trans hx283_1; replace hx283_2 := (cell_far (p := ⟨gb280, 2, none⟩) (by first | (rw [add_block]; exact hn283_2) | (show (Addr.add _ _).block ≠ _; rw [add_block]; exact hn283_2) | exact hn283_2) (.bool ((rd_T65 l0 x7_1).f2))).trans hx283_2; (try have hy283_0 := fun (n_ : Nat) => (show (((((w14.drewN n_).setCell ⟨gb280, 0, none⟩ (.int .i64 ((rd_T65 l0 x7_1).f0))).setCell ⟨gb280, 1, none⟩ (.int .i64 ((rd_T65 l0 x7_1).f1))).setCell ⟨gb280, 2, none⟩ (.bool ((rd_T65 l0 x7_1).f2)))).cell? _ = some _ from hx283_0)); (try have hy283_1 := fun (n_ : Nat) => (show (((((w14.drewN n_).setCell ⟨gb280, 0, none⟩ (.int .i64 ((rd_T65 l0 x7_1).f0))).setCell ⟨gb280, 1, none⟩ (.int .i64 ((rd_T65 l0 x7_1).f1))).setCell ⟨gb280, 2, none⟩ (.bool ((rd_T65 l0 x7_1).f2)))).cell? _ = some _ from hx283_1)); (try have hy283_2 := fun (n_ : Nat) => (show (((((w14.drewN n_).setCell ⟨gb280, 0, none⟩ (.int .i64 ((rd_T65 l0 x7_1).f0))).setCell ⟨gb280, 1, none⟩ (.int .i64 ((rd_T65 l0 x7_1).f1))).setCell ⟨gb280, 2, none⟩ (.bool ((rd_T65 l0 x7_1).f2)))).cell? _ = some _ from hx283_2)); clear hn283_0; clear hn283_1; clear hn283_2; replace p283 := eq_true p283; replace q283 := eq_true q283)); try go_wp2_with (first | ((with_reducible refine gate_dst (N := 4) rfl ?_); refine bx_ 4 #[.int .i64 0, .int .i64 0, .bool false] 65 ?_; intro gb280 hg w14 hbox hb; have n0_ := am_ (below_step (bw_ HB.out) hb); have n1_ := am_ (hbox); have n2_ := am_ (gs_ hg (bw_ HB.out)); have n3_ := am_ (gs_ hg (bw_ HB.out)); replace HB := n0_; have BK280 := n1_; have GW280 := n2_; have GE280 := n3_; clear n0_ n1_ n2_ n3_; clear hb hbox hg; have hcz15_0 := cz_ BK280.out 0; have hcz15_1 := cz_ BK280.out 1; have hcz15_2 := cz_ BK280.out 2; have hfz15_0 := blk_frozen BK280.out 0; have hfz15_1 := blk_frozen BK280.out 1; have hfz15_2 := blk_frozen BK280.out 2) | (go_at_call 64; (with_reducible refine (impl_isTime.calls ((rd_T65 l0 x7_1).f0) true _ A5.out).mono ?_); rintro e w' ⟨rfl, ⟨nd, rfl⟩⟩; (try first | exact ⟨rfl, _, World.drewN_drewN _ _ _⟩ | exact ⟨rfl, _, Eq.trans (World.drewN_drewN _ _ _) (congrArg (World.drewN _) (Nat.add_assoc _ _ _))⟩)) | (go_at_call 58; (with_reducible refine (impl_isKey.calls ((rd_T65 l0 x7_1).f1) true _ A7.out).mono ?_); rintro e w' ⟨rfl, ⟨nd, rfl⟩⟩; (try first | exact ⟨rfl, _, World.drewN_drewN _ _ _⟩ | exact ⟨rfl, _, Eq.trans (World.drewN_drewN _ _ _) (congrArg (World.drewN _) (Nat.add_assoc _ _ _))⟩); have p283 : 0 ≤ ((ji10) : Int) := od_; have q283 : (ji10) < (l0.length : Int) := od_; obtain ⟨ad283, e283, hx283_0, hx283_1, hx283_2⟩ := at_T65 HR0.out (ji10) p283 q283; obtain rfl : ad279 = ad283 := (by injection e283); have hn283_0 : ad279.block ≠ gb280 := Nat.ne_of_lt (Nat.lt_of_lt_of_le (by have := World.block_lt_of_cell? _ _ hx283_0; first | rwa [add_block] at this | exact this) GW280.out); have hn283_1 : ad279.block ≠ gb280 := Nat.ne_of_lt (Nat.lt_of_lt_of_le (by have := World.block_lt_of_cell? _ _ hx283_0; first | rwa [add_block] at this | exact this) GW280.out); have hn283_2 : ad279.block ≠ gb280 := Nat.ne_of_lt (Nat.lt_of_lt_of_le (by have := World.block_lt_of_cell? _ _ hx283_0; first | rwa [add_block] at this | exact this) GW280.out); (try replace hx283_0 := hc_ HB.out hx283_0); (try replace hx283_1 := hc_ HB.out hx283_1); (try replace hx283_2 := hc_ HB.out hx283_2); replace hx283_0 := (cell_far (p := ⟨gb280, 0, none⟩) (by first | (rw [add_block]; exact hn283_0) | (show (Addr.add _ _).block ≠ _; rw [add_block]; exact hn283_0) | exact hn283_0) (.int .i64 ((rd_T65 l0 x7_1).f0))).trans hx283_0; replace hx283_1 := (cell_far (p := ⟨gb280, 0, none⟩) (by first | (rw [add_block]; exact hn283_0) | (show (Addr.add _ _).block ≠ _; rw [add_block]; exact hn283_0) | exact hn283_0) (.int .i64 ((rd_T65 l0 x7_1).f0))).trans hx283_1; replace hx283_2 := (cell_far (p := ⟨gb280, 0, none⟩) (by first | (rw [add_block]; exact hn283_0) | (show (Addr.add _ _).block ≠ _; rw [add_block]; exact hn283_0) | exact hn283_0) (.int .i64 ((rd_T65 l0 x7_1).f0))).trans hx283_2; replace hx283_0 := (cell_far (p := ⟨gb280, 1, none⟩) (by first | (rw [add_block]; exact hn283_1) | (show (Addr.add _ _).block ≠ _; rw [add_block]; exact hn283_1) | exact hn283_1) (.int .i64 ((rd_T65 l0 x7_1).f1))).trans hx283_0; replace hx283_1 := (cell_far (p := ⟨gb280, 1, none⟩) (by first | (rw [add_block]; exact hn283_1) | (show (Addr.add _ _).block ≠ _; rw [add_block]; exact hn283_1) | exact hn283_1) (.int .i64 ((rd_T65 l0 x7_1).f1))).trans hx283_1; replace hx283_2 := (cell_far (p := ⟨gb280, 1, none⟩) (by first | (rw [add_block]; exact hn283_1) | (show (Addr.add _ _).block ≠ _; rw [add_block]; exact hn283_1) | exact hn283_1) (.int .i64 ((rd_T65 l0 x7_1).f1))).trans hx283_2; replace hx283_0 := (cell_far (p := ⟨gb280, 2, none⟩) (by first | (rw [add_block]; exact hn283_2) | (show (Addr.add _ _).block ≠ _; rw [add_block]; exact hn283_2) | exact hn283_2) (.bool ((rd_T65 l0 x7_1).f2))).trans hx283_0; replace hx283_1 := (cell_far (p := ⟨gb280, 2, none⟩) (by first | (rw [add_block]; exact hn283_2) | (show (Addr.add _ _).block ≠ _; rw [add_block]; exact hn283_2) | exact hn283_2) (.bool ((rd_T65 l0 x7_1).f2))).trans hx283_1; replace hx283_2 := (cell_far (p := ⟨gb280, 2, none⟩) (by first | (rw [add_block]; exact hn283_2) | (show (Addr.add _ _).block ≠ _; rw [add_block]; exact hn283_2) | exact hn283_2) (.bool ((rd_T65 l0 x7_1).f2))).trans hx283_2; (try have hy283_0 := fun (n_ : Nat) => (show (((((w14.drewN n_).setCell ⟨gb280, 0, none⟩ (.int .i64 ((rd_T65 l0 x7_1).f0))).setCell ⟨gb280, 1, none⟩ (.int .i64 ((rd_T65 l0 x7_1).f1))).setCell ⟨gb280, 2, none⟩ (.bool ((rd_T65 l0 x7_1).f2)))).cell? _ = some _ from hx283_0)); (try have hy283_1 := fun (n_ : Nat) => (show (((((w14.drewN n_).setCell ⟨gb280, 0, none⟩ (.int .i64 ((rd_T65 l0 x7_1).f0))).setCell ⟨gb280, 1, none⟩ (.int .i64 ((rd_T65 l0 x7_1).f1))).setCell ⟨gb280, 2, none⟩ (.bool ((rd_T65 l0 x7_1).f2)))).cell? _ = some _ from hx283_1)); (try have hy283_2 := fun (n_ : Nat) => (show (((((w14.drewN n_).setCell ⟨gb280, 0, none⟩ (.int .i64 ((rd_T65 l0 x7_1).f0))).setCell ⟨gb280, 1, none⟩ (.int .i64 ((rd_T65 l0 x7_1).f1))).setCell ⟨gb280, 2, none⟩ (.bool ((rd_T65 l0 x7_1).f2)))).cell? _ = some _ from hx283_2)); clear hn283_0; clear hn283_1; clear hn283_2; replace p283 := eq_true p283; replace q283 := eq_true q283)))
        go_ret
        exact ⟨by first | rfl | (simp [errW_none, errW_some] <;> rfl) | (simp only [← hji10]; first | rfl | (simp [errW_none, errW_some] <;> rfl)) | (simp [*, errW_none, errW_some] <;> rfl), bw_ HB.out⟩
       ·rw [if_neg c13] at H
        have c13b0 : decide (((rd_T65 l0 x7_1).f0) < ((rd_T65 l0 (ji10)).f0)) = false := decide_eq_false c13
        clear c13
        have H' := am_ H
        clear H
        have p279 : 0 ≤ (x7_1 : Int) := od_
        have q279 : x7_1 < (l0.length : Int) := od_
        obtain ⟨ad279, e279, hx279_0, hx279_1, hx279_2⟩ := at_T65 HR0.out x7_1 p279 q279
        cases e279
        (try replace hx279_0 := hc_ HB.out hx279_0)
        (try replace hx279_1 := hc_ HB.out hx279_1)
        (try replace hx279_2 := hc_ HB.out hx279_2)
        replace p279 := eq_true p279
        replace q279 := eq_true q279
        go_wp2_with (first | ((with_reducible refine gate_dst (N := 4) rfl ?_); refine bx_ 4 #[.int .i64 0, .int .i64 0, .bool false] 65 ?_; intro gb280 hg w16 hbox hb; have n0_ := am_ (below_step (bw_ HB.out) hb); have n1_ := am_ (hbox); have n2_ := am_ (gs_ hg (bw_ HB.out)); have n3_ := am_ (gs_ hg (bw_ HB.out)); replace HB := n0_; have BK280 := n1_; have GW280 := n2_; have GE280 := n3_; clear n0_ n1_ n2_ n3_; clear hb hbox hg; have hcz17_0 := cz_ BK280.out 0; have hcz17_1 := cz_ BK280.out 1; have hcz17_2 := cz_ BK280.out 2; have hfz17_0 := blk_frozen BK280.out 0; have hfz17_1 := blk_frozen BK280.out 1; have hfz17_2 := blk_frozen BK280.out 2) | (go_at_call 64; (with_reducible refine (impl_isTime.calls ((rd_T65 l0 x7_1).f0) true _ A5.out).mono ?_); rintro e w' ⟨rfl, ⟨nd, rfl⟩⟩; (try first | exact ⟨rfl, _, World.drewN_drewN _ _ _⟩ | exact ⟨rfl, _, Eq.trans (World.drewN_drewN _ _ _) (congrArg (World.drewN _) (Nat.add_assoc _ _ _))⟩)) | (go_at_call 58; (with_reducible refine (impl_isKey.calls ((rd_T65 l0 x7_1).f1) true _ A7.out).mono ?_); rintro e w' ⟨rfl, ⟨nd, rfl⟩⟩; (try first | exact ⟨rfl, _, World.drewN_drewN _ _ _⟩ | exact ⟨rfl, _, Eq.trans (World.drewN_drewN _ _ _) (congrArg (World.drewN _) (Nat.add_assoc _ _ _))⟩); have p283 : 0 ≤ ((ji10) : Int) := od_; have q283 : (ji10) < (l0.length : Int) := od_; obtain ⟨ad283, e283, hx283_0, hx283_1, hx283_2⟩ := at_T65 HR0.out (ji10) p283 q283; obtain rfl : ad279 = ad283 := (by injection e283); have hn283_0 : ad279.block ≠ gb280 := Nat.ne_of_lt (Nat.lt_of_lt_of_le (by have := World.block_lt_of_cell? _ _ hx283_0; first | rwa [add_block] at this | exact this) GW280.out); have hn283_1 : ad279.block ≠ gb280 := Nat.ne_of_lt (Nat.lt_of_lt_of_le (by have := World.block_lt_of_cell? _ _ hx283_0; first | rwa [add_block] at this | exact this) GW280.out); have hn283_2 : ad279.block ≠ gb280 := Nat.ne_of_lt (Nat.lt_of_lt_of_le (by have := World.block_lt_of_cell? _ _ hx283_0; first | rwa [add_block] at this | exact this) GW280.out); (try replace hx283_0 := hc_ HB.out hx283_0); (try replace hx283_1 := hc_ HB.out hx283_1); (try replace hx283_2 := hc_ HB.out hx283_2); replace hx283_0 := (cell_far (p := ⟨gb280, 0, none⟩) (by first | (rw [add_block]; exact hn283_0) | (show (Addr.add _ _).block ≠ _; rw [add_block]; exact hn283_0) | exact hn283_0) (.int .i64 ((rd_T65 l0 x7_1).f0))).trans hx283_0; replace hx283_1 := (cell_far (p := ⟨gb280, 0, none⟩) (by first | (rw [add_block]; exact hn283_0) | (show (Addr.add _ _).block ≠ _; rw [add_block]; exact hn283_0) | exact hn283_0) (.int .i64 ((rd_T65 l0 x7_1).f0))).trans hx283_1; replace hx283_2 := (cell_far (p := ⟨gb280, 0, none⟩) (by first | (rw [add_block]; exact hn283_0) | (show (Addr.add _ _).block ≠ _; rw [add_block]; exact hn283_0) | exact hn283_0) (.int .i64 ((rd_T65 l0 x7_1).f0))).trans hx283_2; replace hx283_0 := (cell_far (p := ⟨gb280, 1, none⟩) (by first | (rw [add_block]; exact hn283_1) | (show (Addr.add _ _).block ≠ _; rw [add_block]; exact hn283_1) | exact hn283_1) (.int .i64 ((rd_T65 l0 x7_1).f1))).trans hx283_0; replace hx283_1 := (cell_far (p := ⟨gb280, 1, none⟩) (by first | (rw [add_block]; exact hn283_1) | (show (Addr.add _ _).block ≠ _; rw [add_block]; exact hn283_1) | exact hn283_1) (.int .i64 ((rd_T65 l0 x7_1).f1))).trans hx283_1; replace hx283_2 := (cell_far (p := ⟨gb280, 1, none⟩) (by first | (rw [add_block]; exact hn283_1) | (show (Addr.add _ _).block ≠ _; rw [add_block]; exact hn283_1) | exact hn283_1) (.int .i64 ((rd_T65 l0 x7_1).f1))).trans hx283_2; replace hx283_0 := (cell_far (p := ⟨gb280, 2, none⟩) (by first | (rw [add_block]; exact hn283_2) | (show (Addr.add _ _).block ≠ _; rw [add_block]; exact hn283_2) | exact hn283_2) (.bool ((rd_T65 l0 x7_1).f2))).trans hx283_0; replace hx283_1 := (cell_far (p := ⟨gb280, 2, none⟩) (by first | (rw [add_block]; exact hn283_2) | (show (Addr.add _ _).block ≠ _; rw [add_block]; exact hn283_2) | exact hn283_2) (.bool ((rd_T65 l0 x7_1).f2))).trans hx283_1; replace hx283_2 := (cell_far (p := ⟨gb280, 2, none⟩) (by first | (rw [add_block]; exact hn283_2) | (show (Addr.add _ _).block ≠ _; rw [add_block]; exact hn283_2) | exact hn283_2) (.bool ((rd_T65 l0 x7_1).f2))).trans hx283_2; (try have hy283_0 := fun (n_ : Nat) => (show (((((w16.drewN n_).setCell ⟨gb280, 0, none⟩ (.int .i64 ((rd_T65 l0 x7_1).f0))).setCell ⟨gb280, 1, none⟩ (.int .i64 ((rd_T65 l0 x7_1).f1))).setCell ⟨gb280, 2, none⟩ (.bool ((rd_T65 l0 x7_1).f2)))).cell? _ = some _ from hx283_0)); (try have hy283_1 := fun (n_ : Nat) => (show (((((w16.drewN n_).setCell ⟨gb280, 0, none⟩ (.int .i64 ((rd_T65 l0 x7_1).f0))).setCell ⟨gb280, 1, none⟩ (.int .i64 ((rd_T65 l0 x7_1).f1))).setCell ⟨gb280, 2, none⟩ (.bool ((rd_T65 l0 x7_1).f2)))).cell? _ = some _ from hx283_1)); (try have hy283_2 := fun (n_ : Nat) => (show (((((w16.drewN n_).setCell ⟨gb280, 0, none⟩ (.int .i64 ((rd_T65 l0 x7_1).f0))).setCell ⟨gb280, 1, none⟩ (.int .i64 ((rd_T65 l0 x7_1).f1))).setCell ⟨gb280, 2, none⟩ (.bool ((rd_T65 l0 x7_1).f2)))).cell? _ = some _ from hx283_2)); clear hn283_0; clear hn283_1; clear hn283_2; replace p283 := eq_true p283; replace q283 := eq_true q283))
        repeat (go_quiet (first | ((with_reducible refine gate_dst (N := 4) rfl ?_); refine bx_ 4 #[.int .i64 0, .int .i64 0, .bool false] 65 ?_; intro gb280 hg w16 hbox hb; have n0_ := am_ (below_step (bw_ HB.out) hb); have n1_ := am_ (hbox); have n2_ := am_ (gs_ hg (bw_ HB.out)); have n3_ := am_ (gs_ hg (bw_ HB.out)); replace HB := n0_; have BK280 := n1_; have GW280 := n2_; have GE280 := n3_; clear n0_ n1_ n2_ n3_; clear hb hbox hg; have hcz17_0 := cz_ BK280.out 0; have hcz17_1 := cz_ BK280.out 1; have hcz17_2 := cz_ BK280.out 2; have hfz17_0 := blk_frozen BK280.out 0; have hfz17_1 := blk_frozen BK280.out 1; have hfz17_2 := blk_frozen BK280.out 2) | (go_at_call 64; (with_reducible refine (impl_isTime.calls ((rd_T65 l0 x7_1).f0) true _ A5.out).mono ?_); rintro e w' ⟨rfl, ⟨nd, rfl⟩⟩; (try first | exact ⟨rfl, _, World.drewN_drewN _ _ _⟩ | exact ⟨rfl, _, Eq.trans (World.drewN_drewN _ _ _) (congrArg (World.drewN _) (Nat.add_assoc _ _ _))⟩)) | (go_at_call 58; (with_reducible refine (impl_isKey.calls ((rd_T65 l0 x7_1).f1) true _ A7.out).mono ?_); rintro e w' ⟨rfl, ⟨nd, rfl⟩⟩; (try first | exact ⟨rfl, _, World.drewN_drewN _ _ _⟩ | exact ⟨rfl, _, Eq.trans (World.drewN_drewN _ _ _) (congrArg (World.drewN _) (Nat.add_assoc _ _ _))⟩); have p283 : 0 ≤ ((ji10) : Int) := od_; have q283 : (ji10) < (l0.length : Int) := od_; obtain ⟨ad283, e283, hx283_0, hx283_1, hx283_2⟩ := at_T65 HR0.out (ji10) p283 q283; obtain rfl : ad279 = ad283 := (by injection e283); have hn283_0 : ad279.block ≠ gb280 := Nat.ne_of_lt (Nat.lt_of_lt_of_le (by have := World.block_lt_of_cell? _ _ hx283_0; first | rwa [add_block] at this | exact this) GW280.out); have hn283_1 : ad279.block ≠ gb280 := Nat.ne_of_lt (Nat.lt_of_lt_of_le (by have := World.block_lt_of_cell? _ _ hx283_0; first | rwa [add_block] at this | exact this) GW280.out); have hn283_2 : ad279.block ≠ gb280 := Nat.ne_of_lt (Nat.lt_of_lt_of_le (by have := World.block_lt_of_cell? _ _ hx283_0; first | rwa [add_block] at this | exact this) GW280.out); (try replace hx283_0 := hc_ HB.out hx283_0); (try replace hx283_1 := hc_ HB.out hx283_1); (try replace hx283_2 := hc_ HB.out hx283_2); replace hx283_0 := (cell_far (p := ⟨gb280, 0, none⟩) (by first | (rw [add_block]; exact hn283_0) | (show (Addr.add _ _).block ≠ _; rw [add_block]; exact hn283_0) | exact hn283_0) (.int .i64 ((rd_T65 l0 x7_1).f0))).trans hx283_0; replace hx283_1 := (cell_far (p := ⟨gb280, 0, none⟩) (by first | (rw [add_block]; exact hn283_0) | (show (Addr.add _ _).block ≠ _; rw [add_block]; exact hn283_0) | exact hn283_0) (.int .i64 ((rd_T65 l0 x7_1).f0))).trans hx283_1; replace hx283_2 := (cell_far (p := ⟨gb280, 0, none⟩) (by first | (rw [add_block]; exact hn283_0) | (show (Addr.add _ _).block ≠ _; rw [add_block]; exact hn283_0) | exact hn283_0) (.int .i64 ((rd_T65 l0 x7_1).f0))).trans hx283_2; replace hx283_0 := (cell_far (p := ⟨gb280, 1, none⟩) (by first | (rw [add_block]; exact hn283_1) | (show (Addr.add _ _).block ≠ _; rw [add_block]; exact hn283_1) | exact hn283_1) (.int .i64 ((rd_T65 l0 x7_1).f1))).trans hx283_0; replace hx283_1 := (cell_far (p := ⟨gb280, 1, none⟩) (by first | (rw [add_block]; exact hn283_1) | (show (Addr.add _ _).block ≠ _; rw [add_block]; exact hn283_1) | exact hn283_1) (.int .i64 ((rd_T65 l0 x7_1).f1))).trans hx283_1; replace hx283_2 := (cell_far (p := ⟨gb280, 1, none⟩) (by first | (rw [add_block]; exact hn283_1) | (show (Addr.add _ _).block ≠ _; rw [add_block]; exact hn283_1) | exact hn283_1) (.int .i64 ((rd_T65 l0 x7_1).f1))).trans hx283_2; replace hx283_0 := (cell_far (p := ⟨gb280, 2, none⟩) (by first | (rw [add_block]; exact hn283_2) | (show (Addr.add _ _).block ≠ _; rw [add_block]; exact hn283_2) | exact hn283_2) (.bool ((rd_T65 l0 x7_1).f2))).trans hx283_0; replace hx283_1 := (cell_far (p := ⟨gb280, 2, none⟩) (by first | (rw [add_block]; exact hn283_2) | (show (Addr.add _ _).block ≠ _; rw [add_block]; exact hn283_2) | exact hn283_2) (.bool ((rd_T65 l0 x7_1).f2))).trans hx283_1; replace hx283_2 := (cell_far (p := ⟨gb280, 2, none⟩) (by first | (rw [add_block]; exact hn283_2) | (show (Addr.add _ _).block ≠ _; rw [add_block]; exact hn283_2) | exact hn283_2) (.bool ((rd_T65 l0 x7_1).f2))).trans hx283_2; (try have hy283_0 := fun (n_ : Nat) => (show (((((w16.drewN n_).setCell ⟨gb280, 0, none⟩ (.int .i64 ((rd_T65 l0 x7_1).f0))).setCell ⟨gb280, 1, none⟩ (.int .i64 ((rd_T65 l0 x7_1).f1))).setCell ⟨gb280, 2, none⟩ (.bool ((rd_T65 l0 x7_1).f2)))).cell? _ = some _ from hx283_0)); (try have hy283_1 := fun (n_ : Nat) => (show (((((w16.drewN n_).setCell ⟨gb280, 0, none⟩ (.int .i64 ((rd_T65 l0 x7_1).f0))).setCell ⟨gb280, 1, none⟩ (.int .i64 ((rd_T65 l0 x7_1).f1))).setCell ⟨gb280, 2, none⟩ (.bool ((rd_T65 l0 x7_1).f2)))).cell? _ = some _ from hx283_1)); (try have hy283_2 := fun (n_ : Nat) => (show (((((w16.drewN n_).setCell ⟨gb280, 0, none⟩ (.int .i64 ((rd_T65 l0 x7_1).f0))).setCell ⟨gb280, 1, none⟩ (.int .i64 ((rd_T65 l0 x7_1).f1))).setCell ⟨gb280, 2, none⟩ (.bool ((rd_T65 l0 x7_1).f2)))).cell? _ = some _ from hx283_2)); clear hn283_0; clear hn283_1; clear hn283_2; replace p283 := eq_true p283; replace q283 := eq_true q283)); try go_wp2_with (first | ((with_reducible refine gate_dst (N := 4) rfl ?_); refine bx_ 4 #[.int .i64 0, .int .i64 0, .bool false] 65 ?_; intro gb280 hg w16 hbox hb; have n0_ := am_ (below_step (bw_ HB.out) hb); have n1_ := am_ (hbox); have n2_ := am_ (gs_ hg (bw_ HB.out)); have n3_ := am_ (gs_ hg (bw_ HB.out)); replace HB := n0_; have BK280 := n1_; have GW280 := n2_; have GE280 := n3_; clear n0_ n1_ n2_ n3_; clear hb hbox hg; have hcz17_0 := cz_ BK280.out 0; have hcz17_1 := cz_ BK280.out 1; have hcz17_2 := cz_ BK280.out 2; have hfz17_0 := blk_frozen BK280.out 0; have hfz17_1 := blk_frozen BK280.out 1; have hfz17_2 := blk_frozen BK280.out 2) | (go_at_call 64; (with_reducible refine (impl_isTime.calls ((rd_T65 l0 x7_1).f0) true _ A5.out).mono ?_); rintro e w' ⟨rfl, ⟨nd, rfl⟩⟩; (try first | exact ⟨rfl, _, World.drewN_drewN _ _ _⟩ | exact ⟨rfl, _, Eq.trans (World.drewN_drewN _ _ _) (congrArg (World.drewN _) (Nat.add_assoc _ _ _))⟩)) | (go_at_call 58; (with_reducible refine (impl_isKey.calls ((rd_T65 l0 x7_1).f1) true _ A7.out).mono ?_); rintro e w' ⟨rfl, ⟨nd, rfl⟩⟩; (try first | exact ⟨rfl, _, World.drewN_drewN _ _ _⟩ | exact ⟨rfl, _, Eq.trans (World.drewN_drewN _ _ _) (congrArg (World.drewN _) (Nat.add_assoc _ _ _))⟩); have p283 : 0 ≤ ((ji10) : Int) := od_; have q283 : (ji10) < (l0.length : Int) := od_; obtain ⟨ad283, e283, hx283_0, hx283_1, hx283_2⟩ := at_T65 HR0.out (ji10) p283 q283; obtain rfl : ad279 = ad283 := (by injection e283); have hn283_0 : ad279.block ≠ gb280 := Nat.ne_of_lt (Nat.lt_of_lt_of_le (by have := World.block_lt_of_cell? _ _ hx283_0; first | rwa [add_block] at this | exact this) GW280.out); have hn283_1 : ad279.block ≠ gb280 := Nat.ne_of_lt (Nat.lt_of_lt_of_le (by have := World.block_lt_of_cell? _ _ hx283_0; first | rwa [add_block] at this | exact this) GW280.out); have hn283_2 : ad279.block ≠ gb280 := Nat.ne_of_lt (Nat.lt_of_lt_of_le (by have := World.block_lt_of_cell? _ _ hx283_0; first | rwa [add_block] at this | exact this) GW280.out); (try replace hx283_0 := hc_ HB.out hx283_0); (try replace hx283_1 := hc_ HB.out hx283_1); (try replace hx283_2 := hc_ HB.out hx283_2); replace hx283_0 := (cell_far (p := ⟨gb280, 0, none⟩) (by first | (rw [add_block]; exact hn283_0) | (show (Addr.add _ _).block ≠ _; rw [add_block]; exact hn283_0) | exact hn283_0) (.int .i64 ((rd_T65 l0 x7_1).f0))).trans hx283_0; replace hx283_1 := (cell_far (p := ⟨gb280, 0, none⟩) (by first | (rw [add_block]; exact hn283_0) | (show (Addr.add _ _).block ≠ _; rw [add_block]; exact hn283_0) | exact hn283_0) (.int .i64 ((rd_T65 l0 x7_1).f0))).trans hx283_1; replace hx283_2 := (cell_far (p := ⟨gb280, 0, none⟩) (by first | (rw [add_block]; exact hn283_0) | (show (Addr.add _ _).block ≠ _; rw [add_block]; exact hn283_0) | exact hn283_0) (.int .i64 ((rd_T65 l0 x7_1).f0))).trans hx283_2; replace hx283_0 := (cell_far (p := ⟨gb280, 1, none⟩) (by first | (rw [add_block]; exact hn283_1) | (show (Addr.add _ _).block ≠ _; rw [add_block]; exact hn283_1) | exact hn283_1) (.int .i64 ((rd_T65 l0 x7_1).f1))).trans hx283_0; replace hx283_1 := (cell_far (p := ⟨gb280, 1, none⟩) (by first | (rw [add_block]; exact hn283_1) | (show (Addr.add _ _).block ≠ _; rw [add_block]; exact hn283_1) | exact hn283_1) (.int .i64 ((rd_T65 l0 x7_1).f1))).trans hx283_1; replace hx283_2 := (cell_far (p := ⟨gb280, 1, none⟩) (by first | (rw [add_block]; exact hn283_1) | (show (Addr.add _ _).block ≠ _; rw [add_block]; exact hn283_1) | exact hn283_1) (.int .i64 ((rd_T65 l0 x7_1).f1))).trans hx283_2; replace hx283_0 := (cell_far (p := ⟨gb280, 2, none⟩) (by first | (rw [add_block]; exact hn283_2) | (show (Addr.add _ _).block ≠ _; rw [add_block]; exact hn283_2) | exact hn283_2) (.bool ((rd_T65 l0 x7_1).f2))).trans hx283_0; replace hx283_1 := (cell_far (p := ⟨gb280, 2, none⟩) (by first | (rw [add_block]; exact hn283_2) | (show (Addr.add _ _).block ≠ _; rw [add_block]; exact hn283_2) | exact hn283_2) (.bool ((rd_T65 l0 x7_1).f2))).trans hx283_1; replace hx283_2 := (cell_far (p := ⟨gb280, 2, none⟩) (by first | (rw [add_block]; exact hn283_2) | (show (Addr.add _ _).block ≠ _; rw [add_block]; exact hn283_2) | exact hn283_2) (.bool ((rd_T65 l0 x7_1).f2))).trans hx283_2; (try have hy283_0 := fun (n_ : Nat) => (show (((((w16.drewN n_).setCell ⟨gb280, 0, none⟩ (.int .i64 ((rd_T65 l0 x7_1).f0))).setCell ⟨gb280, 1, none⟩ (.int .i64 ((rd_T65 l0 x7_1).f1))).setCell ⟨gb280, 2, none⟩ (.bool ((rd_T65 l0 x7_1).f2)))).cell? _ = some _ from hx283_0)); (try have hy283_1 := fun (n_ : Nat) => (show (((((w16.drewN n_).setCell ⟨gb280, 0, none⟩ (.int .i64 ((rd_T65 l0 x7_1).f0))).setCell ⟨gb280, 1, none⟩ (.int .i64 ((rd_T65 l0 x7_1).f1))).setCell ⟨gb280, 2, none⟩ (.bool ((rd_T65 l0 x7_1).f2)))).cell? _ = some _ from hx283_1)); (try have hy283_2 := fun (n_ : Nat) => (show (((((w16.drewN n_).setCell ⟨gb280, 0, none⟩ (.int .i64 ((rd_T65 l0 x7_1).f0))).setCell ⟨gb280, 1, none⟩ (.int .i64 ((rd_T65 l0 x7_1).f1))).setCell ⟨gb280, 2, none⟩ (.bool ((rd_T65 l0 x7_1).f2)))).cell? _ = some _ from hx283_2)); clear hn283_0; clear hn283_1; clear hn283_2; replace p283 := eq_true p283; replace q283 := eq_true q283)))
        go_roundg k1
        case measure => have := HK1.out; omega
        case rel => exact ⟨(wrap64 (x7_1 + 1)), sq_, H', ⟨by have := HK1.out; omega⟩, ⟨bw_ HB.out⟩⟩
      ·rw [if_neg c9] at H
       have c9b0 : decide (0 < x7_1) = false := decide_eq_false c9
       clear c9
       have H' := am_ H
       clear H
       have p279 : 0 ≤ (x7_1 : Int) := od_
       have q279 : x7_1 < (l0.length : Int) := od_
       obtain ⟨ad279, e279, hx279_0, hx279_1, hx279_2⟩ := at_T65 HR0.out x7_1 p279 q279
       cases e279
       (try replace hx279_0 := hc_ HB.out hx279_0)
       (try replace hx279_1 := hc_ HB.out hx279_1)
       (try replace hx279_2 := hc_ HB.out hx279_2)
       replace p279 := eq_true p279
       replace q279 := eq_true q279
       go_wp2_with (first | ((with_reducible refine gate_dst (N := 4) rfl ?_); refine bx_ 4 #[.int .i64 0, .int .i64 0, .bool false] 65 ?_; intro gb280 hg w18 hbox hb; have n0_ := am_ (below_step (bw_ HB.out) hb); have n1_ := am_ (hbox); have n2_ := am_ (gs_ hg (bw_ HB.out)); have n3_ := am_ (gs_ hg (bw_ HB.out)); replace HB := n0_; have BK280 := n1_; have GW280 := n2_; have GE280 := n3_; clear n0_ n1_ n2_ n3_; clear hb hbox hg; have hcz19_0 := cz_ BK280.out 0; have hcz19_1 := cz_ BK280.out 1; have hcz19_2 := cz_ BK280.out 2; have hfz19_0 := blk_frozen BK280.out 0; have hfz19_1 := blk_frozen BK280.out 1; have hfz19_2 := blk_frozen BK280.out 2) | (go_at_call 64; (with_reducible refine (impl_isTime.calls ((rd_T65 l0 x7_1).f0) true _ A5.out).mono ?_); rintro e w' ⟨rfl, ⟨nd, rfl⟩⟩; (try first | exact ⟨rfl, _, World.drewN_drewN _ _ _⟩ | exact ⟨rfl, _, Eq.trans (World.drewN_drewN _ _ _) (congrArg (World.drewN _) (Nat.add_assoc _ _ _))⟩)) | (go_at_call 58; (with_reducible refine (impl_isKey.calls ((rd_T65 l0 x7_1).f1) true _ A7.out).mono ?_); rintro e w' ⟨rfl, ⟨nd, rfl⟩⟩; (try first | exact ⟨rfl, _, World.drewN_drewN _ _ _⟩ | exact ⟨rfl, _, Eq.trans (World.drewN_drewN _ _ _) (congrArg (World.drewN _) (Nat.add_assoc _ _ _))⟩)))
       repeat (go_quiet (first | ((with_reducible refine gate_dst (N := 4) rfl ?_); refine bx_ 4 #[.int .i64 0, .int .i64 0, .bool false] 65 ?_; intro gb280 hg w18 hbox hb; have n0_ := am_ (below_step (bw_ HB.out) hb); have n1_ := am_ (hbox); have n2_ := am_ (gs_ hg (bw_ HB.out)); have n3_ := am_ (gs_ hg (bw_ HB.out)); replace HB := n0_; have BK280 := n1_; have GW280 := n2_; have GE280 := n3_; clear n0_ n1_ n2_ n3_; clear hb hbox hg; have hcz19_0 := cz_ BK280.out 0; have hcz19_1 := cz_ BK280.out 1; have hcz19_2 := cz_ BK280.out 2; have hfz19_0 := blk_frozen BK280.out 0; have hfz19_1 := blk_frozen BK280.out 1; have hfz19_2 := blk_frozen BK280.out 2) | (go_at_call 64; (with_reducible refine (impl_isTime.calls ((rd_T65 l0 x7_1).f0) true _ A5.out).mono ?_); rintro e w' ⟨rfl, ⟨nd, rfl⟩⟩; (try first | exact ⟨rfl, _, World.drewN_drewN _ _ _⟩ | exact ⟨rfl, _, Eq.trans (World.drewN_drewN _ _ _) (congrArg (World.drewN _) (Nat.add_assoc _ _ _))⟩)) | (go_at_call 58; (with_reducible refine (impl_isKey.calls ((rd_T65 l0 x7_1).f1) true _ A7.out).mono ?_); rintro e w' ⟨rfl, ⟨nd, rfl⟩⟩; (try first | exact ⟨rfl, _, World.drewN_drewN _ _ _⟩ | exact ⟨rfl, _, Eq.trans (World.drewN_drewN _ _ _) (congrArg (World.drewN _) (Nat.add_assoc _ _ _))⟩))); try go_wp2_with (first | ((with_reducible refine gate_dst (N := 4) rfl ?_); refine bx_ 4 #[.int .i64 0, .int .i64 0, .bool false] 65 ?_; intro gb280 hg w18 hbox hb; have n0_ := am_ (below_step (bw_ HB.out) hb); have n1_ := am_ (hbox); have n2_ := am_ (gs_ hg (bw_ HB.out)); have n3_ := am_ (gs_ hg (bw_ HB.out)); replace HB := n0_; have BK280 := n1_; have GW280 := n2_; have GE280 := n3_; clear n0_ n1_ n2_ n3_; clear hb hbox hg; have hcz19_0 := cz_ BK280.out 0; have hcz19_1 := cz_ BK280.out 1; have hcz19_2 := cz_ BK280.out 2; have hfz19_0 := blk_frozen BK280.out 0; have hfz19_1 := blk_frozen BK280.out 1; have hfz19_2 := blk_frozen BK280.out 2) | (go_at_call 64; (with_reducible refine (impl_isTime.calls ((rd_T65 l0 x7_1).f0) true _ A5.out).mono ?_); rintro e w' ⟨rfl, ⟨nd, rfl⟩⟩; (try first | exact ⟨rfl, _, World.drewN_drewN _ _ _⟩ | exact ⟨rfl, _, Eq.trans (World.drewN_drewN _ _ _) (congrArg (World.drewN _) (Nat.add_assoc _ _ _))⟩)) | (go_at_call 58; (with_reducible refine (impl_isKey.calls ((rd_T65 l0 x7_1).f1) true _ A7.out).mono ?_); rintro e w' ⟨rfl, ⟨nd, rfl⟩⟩; (try first | exact ⟨rfl, _, World.drewN_drewN _ _ _⟩ | exact ⟨rfl, _, Eq.trans (World.drewN_drewN _ _ _) (congrArg (World.drewN _) (Nat.add_assoc _ _ _))⟩))))
       go_roundg k1
       case measure => have := HK1.out; omega
       case rel => exact ⟨(wrap64 (x7_1 + 1)), sq_, H', ⟨by have := HK1.out; omega⟩, ⟨bw_ HB.out⟩⟩
     ·replace c8 := Bool.eq_false_iff.mpr c8
      subst c8
      replace H := if_ H Bool.false_ne_true
      obtain rfl := Option.some.inj H
      have p279 : 0 ≤ (x7_1 : Int) := od_
      have q279 : x7_1 < (l0.length : Int) := od_
      obtain ⟨ad279, e279, hx279_0, hx279_1, hx279_2⟩ := at_T65 HR0.out x7_1 p279 q279
      cases e279
      (try replace hx279_0 := hc_ HB.out hx279_0)
      (try replace hx279_1 := hc_ HB.out hx279_1)
      (try replace hx279_2 := hc_ HB.out hx279_2)
      replace p279 := eq_true p279
      replace q279 := eq_true q279
      go_wp2_with (first | ((with_reducible refine gate_dst (N := 4) rfl ?_); refine bx_ 4 #[.int .i64 0, .int .i64 0, .bool false] 65 ?_; intro gb280 hg w20 hbox hb; have n0_ := am_ (below_step (bw_ HB.out) hb); have n1_ := am_ (hbox); have n2_ := am_ (gs_ hg (bw_ HB.out)); have n3_ := am_ (gs_ hg (bw_ HB.out)); replace HB := n0_; have BK280 := n1_; have GW280 := n2_; have GE280 := n3_; clear n0_ n1_ n2_ n3_; clear hb hbox hg; have hcz21_0 := cz_ BK280.out 0; have hcz21_1 := cz_ BK280.out 1; have hcz21_2 := cz_ BK280.out 2; have hfz21_0 := blk_frozen BK280.out 0; have hfz21_1 := blk_frozen BK280.out 1; have hfz21_2 := blk_frozen BK280.out 2) | (go_at_call 64; (with_reducible refine (impl_isTime.calls ((rd_T65 l0 x7_1).f0) true _ A5.out).mono ?_); rintro e w' ⟨rfl, ⟨nd, rfl⟩⟩; (try first | exact ⟨rfl, _, World.drewN_drewN _ _ _⟩ | exact ⟨rfl, _, Eq.trans (World.drewN_drewN _ _ _) (congrArg (World.drewN _) (Nat.add_assoc _ _ _))⟩)) | (go_at_call 58; (with_reducible refine (impl_isKey.calls ((rd_T65 l0 x7_1).f1) false _ A7.out).mono ?_); rintro e w' ⟨rfl, ⟨nd, rfl⟩⟩; (try first | exact ⟨rfl, _, World.drewN_drewN _ _ _⟩ | exact ⟨rfl, _, Eq.trans (World.drewN_drewN _ _ _) (congrArg (World.drewN _) (Nat.add_assoc _ _ _))⟩)))
      repeat (go_quiet (first | ((with_reducible refine gate_dst (N := 4) rfl ?_); refine bx_ 4 #[.int .i64 0, .int .i64 0, .bool false] 65 ?_; intro gb280 hg w20 hbox hb; have n0_ := am_ (below_step (bw_ HB.out) hb); have n1_ := am_ (hbox); have n2_ := am_ (gs_ hg (bw_ HB.out)); have n3_ := am_ (gs_ hg (bw_ HB.out)); replace HB := n0_; have BK280 := n1_; have GW280 := n2_; have GE280 := n3_; clear n0_ n1_ n2_ n3_; clear hb hbox hg; have hcz21_0 := cz_ BK280.out 0; have hcz21_1 := cz_ BK280.out 1; have hcz21_2 := cz_ BK280.out 2; have hfz21_0 := blk_frozen BK280.out 0; have hfz21_1 := blk_frozen BK280.out 1; have hfz21_2 := blk_frozen BK280.out 2) | (go_at_call 64; (with_reducible refine (impl_isTime.calls ((rd_T65 l0 x7_1).f0) true _ A5.out).mono ?_); rintro e w' ⟨rfl, ⟨nd, rfl⟩⟩; (try first | exact ⟨rfl, _, World.drewN_drewN _ _ _⟩ | exact ⟨rfl, _, Eq.trans (World.drewN_drewN _ _ _) (congrArg (World.drewN _) (Nat.add_assoc _ _ _))⟩)) | (go_at_call 58; (with_reducible refine (impl_isKey.calls ((rd_T65 l0 x7_1).f1) false _ A7.out).mono ?_); rintro e w' ⟨rfl, ⟨nd, rfl⟩⟩; (try first | exact ⟨rfl, _, World.drewN_drewN _ _ _⟩ | exact ⟨rfl, _, Eq.trans (World.drewN_drewN _ _ _) (congrArg (World.drewN _) (Nat.add_assoc _ _ _))⟩))); try go_wp2_with (first | ((with_reducible refine gate_dst (N := 4) rfl ?_); refine bx_ 4 #[.int .i64 0, .int .i64 0, .bool false] 65 ?_; intro gb280 hg w20 hbox hb; have n0_ := am_ (below_step (bw_ HB.out) hb); have n1_ := am_ (hbox); have n2_ := am_ (gs_ hg (bw_ HB.out)); have n3_ := am_ (gs_ hg (bw_ HB.out)); replace HB := n0_; have BK280 := n1_; have GW280 := n2_; have GE280 := n3_; clear n0_ n1_ n2_ n3_; clear hb hbox hg; have hcz21_0 := cz_ BK280.out 0; have hcz21_1 := cz_ BK280.out 1; have hcz21_2 := cz_ BK280.out 2; have hfz21_0 := blk_frozen BK280.out 0; have hfz21_1 := blk_frozen BK280.out 1; have hfz21_2 := blk_frozen BK280.out 2) | (go_at_call 64; (with_reducible refine (impl_isTime.calls ((rd_T65 l0 x7_1).f0) true _ A5.out).mono ?_); rintro e w' ⟨rfl, ⟨nd, rfl⟩⟩; (try first | exact ⟨rfl, _, World.drewN_drewN _ _ _⟩ | exact ⟨rfl, _, Eq.trans (World.drewN_drewN _ _ _) (congrArg (World.drewN _) (Nat.add_assoc _ _ _))⟩)) | (go_at_call 58; (with_reducible refine (impl_isKey.calls ((rd_T65 l0 x7_1).f1) false _ A7.out).mono ?_); rintro e w' ⟨rfl, ⟨nd, rfl⟩⟩; (try first | exact ⟨rfl, _, World.drewN_drewN _ _ _⟩ | exact ⟨rfl, _, Eq.trans (World.drewN_drewN _ _ _) (congrArg (World.drewN _) (Nat.add_assoc _ _ _))⟩))))
      go_ret
      exact ⟨by first | rfl | (simp [errW_none, errW_some] <;> rfl) | (simp [*, errW_none, errW_some] <;> rfl), bw_ HB.out⟩
    ·replace c6 := Bool.eq_false_iff.mpr c6
     subst c6
     replace H := if_ H Bool.false_ne_true
     obtain rfl := Option.some.inj H
     have p279 : 0 ≤ (x7_1 : Int) := od_
     have q279 : x7_1 < (l0.length : Int) := od_
     obtain ⟨ad279, e279, hx279_0, hx279_1, hx279_2⟩ := at_T65 HR0.out x7_1 p279 q279
     cases e279
     (try replace hx279_0 := hc_ HB.out hx279_0)
     (try replace hx279_1 := hc_ HB.out hx279_1)
     (try replace hx279_2 := hc_ HB.out hx279_2)
     replace p279 := eq_true p279
     replace q279 := eq_true q279
     go_wp2_with (first | ((with_reducible refine gate_dst (N := 4) rfl ?_); refine bx_ 4 #[.int .i64 0, .int .i64 0, .bool false] 65 ?_; intro gb280 hg w22 hbox hb; have n0_ := am_ (below_step (bw_ HB.out) hb); have n1_ := am_ (hbox); have n2_ := am_ (gs_ hg (bw_ HB.out)); have n3_ := am_ (gs_ hg (bw_ HB.out)); replace HB := n0_; have BK280 := n1_; have GW280 := n2_; have GE280 := n3_; clear n0_ n1_ n2_ n3_; clear hb hbox hg; have hcz23_0 := cz_ BK280.out 0; have hcz23_1 := cz_ BK280.out 1; have hcz23_2 := cz_ BK280.out 2; have hfz23_0 := blk_frozen BK280.out 0; have hfz23_1 := blk_frozen BK280.out 1; have hfz23_2 := blk_frozen BK280.out 2) | (go_at_call 64; (with_reducible refine (impl_isTime.calls ((rd_T65 l0 x7_1).f0) false _ A5.out).mono ?_); rintro e w' ⟨rfl, ⟨nd, rfl⟩⟩; (try first | exact ⟨rfl, _, World.drewN_drewN _ _ _⟩ | exact ⟨rfl, _, Eq.trans (World.drewN_drewN _ _ _) (congrArg (World.drewN _) (Nat.add_assoc _ _ _))⟩)))
     repeat (go_quiet (first | ((with_reducible refine gate_dst (N := 4) rfl ?_); refine bx_ 4 #[.int .i64 0, .int .i64 0, .bool false] 65 ?_; intro gb280 hg w22 hbox hb; have n0_ := am_ (below_step (bw_ HB.out) hb); have n1_ := am_ (hbox); have n2_ := am_ (gs_ hg (bw_ HB.out)); have n3_ := am_ (gs_ hg (bw_ HB.out)); replace HB := n0_; have BK280 := n1_; have GW280 := n2_; have GE280 := n3_; clear n0_ n1_ n2_ n3_; clear hb hbox hg; have hcz23_0 := cz_ BK280.out 0; have hcz23_1 := cz_ BK280.out 1; have hcz23_2 := cz_ BK280.out 2; have hfz23_0 := blk_frozen BK280.out 0; have hfz23_1 := blk_frozen BK280.out 1; have hfz23_2 := blk_frozen BK280.out 2) | (go_at_call 64; (with_reducible refine (impl_isTime.calls ((rd_T65 l0 x7_1).f0) false _ A5.out).mono ?_); rintro e w' ⟨rfl, ⟨nd, rfl⟩⟩; (try first | exact ⟨rfl, _, World.drewN_drewN _ _ _⟩ | exact ⟨rfl, _, Eq.trans (World.drewN_drewN _ _ _) (congrArg (World.drewN _) (Nat.add_assoc _ _ _))⟩))); try go_wp2_with (first | ((with_reducible refine gate_dst (N := 4) rfl ?_); refine bx_ 4 #[.int .i64 0, .int .i64 0, .bool false] 65 ?_; intro gb280 hg w22 hbox hb; have n0_ := am_ (below_step (bw_ HB.out) hb); have n1_ := am_ (hbox); have n2_ := am_ (gs_ hg (bw_ HB.out)); have n3_ := am_ (gs_ hg (bw_ HB.out)); replace HB := n0_; have BK280 := n1_; have GW280 := n2_; have GE280 := n3_; clear n0_ n1_ n2_ n3_; clear hb hbox hg; have hcz23_0 := cz_ BK280.out 0; have hcz23_1 := cz_ BK280.out 1; have hcz23_2 := cz_ BK280.out 2; have hfz23_0 := blk_frozen BK280.out 0; have hfz23_1 := blk_frozen BK280.out 1; have hfz23_2 := blk_frozen BK280.out 2) | (go_at_call 64; (with_reducible refine (impl_isTime.calls ((rd_T65 l0 x7_1).f0) false _ A5.out).mono ?_); rintro e w' ⟨rfl, ⟨nd, rfl⟩⟩; (try first | exact ⟨rfl, _, World.drewN_drewN _ _ _⟩ | exact ⟨rfl, _, Eq.trans (World.drewN_drewN _ _ _) (congrArg (World.drewN _) (Nat.add_assoc _ _ _))⟩))))
     go_ret
     exact ⟨by first | rfl | (simp [errW_none, errW_some] <;> rfl) | (simp [*, errW_none, errW_some] <;> rfl), bw_ HB.out⟩
   ·rw [if_neg c2] at H
    have c2b0 : decide (x7_1 < (l0.length : Int)) = false := decide_eq_false c2
    clear c2
    obtain rfl := Option.some.inj H
    go_wp2
    repeat (go_quiet (fail); try go_wp2)
    go_ret
    exact ⟨by first | rfl | (simp [errW_none, errW_some] <;> rfl) | (simp [*, errW_none, errW_some] <;> rfl), bw_ HB.out⟩

-- NOT PRINTED: function 65 (impl_Bind_65)

-- NOT PRINTED: function 77 (slices_IndexFunc_int_int)

-- NOT PRINTED: function 68 (slices_ContainsFunc_int_int)

-- NOT PRINTED: function 76 (impl_held_all_1)

-- NOT PRINTED: function 76 (impl_held_all_1_captured)

-- NOT PRINTED: function 77 (slices_IndexFunc_int_int_at_impl_held_all_1)

-- NOT PRINTED: function 68 (slices_ContainsFunc_int_int_at_impl_held_all_1)

-- NOT PRINTED: function 67 (impl_held_all)

/-! ### slices_Index_int_int: function 78 -/
def slices_Index_int_int.l0 : Nat → List Int → Int → Int → Int → Option (Int)
 | 0, _, _, _, _ => none
 | k + 1, x0, x1, x7, x8 => if x8 < x7 then (if 0 ≤ x8 then (if x8 < (x0.length : Int) then (if x1 = (rd x0 x8) then (some x8) else (slices_Index_int_int.l0 k x0 x1 x7 (wrap64 (x8 + 1)))) else (none)) else (none)) else (some (-1))
def slices_Index_int_int.f (k : Nat) (l0 : List Int) (a1 : Int) : Option (Int) := slices_Index_int_int.l0 k l0 a1 (l0.length : Int) 0
theorem slices_Index_int_int.mono_l : ∀ k, (∀ y0 y1 y2 y3, LeO (slices_Index_int_int.l0 k y0 y1 y2 y3) (slices_Index_int_int.l0 (k + 1) y0 y1 y2 y3))
 | 0 => fun _ _ _ _ r h => by simp [slices_Index_int_int.l0] at h
 | k + 1 => by
  have ih0 := slices_Index_int_int.mono_l k
  ·intro y0 y1 y2 y3
   unfold slices_Index_int_int.l0
   repeat' first
   | (with_reducible exact ih0 _ _ _ _)
   | (with_reducible exact LeO.refl _)
   | (with_reducible exact LeO.none _)
   | (with_reducible refine LeO.ite ?_ ?_)
   | (with_reducible refine LeO.bind ?_ (fun _ => ?_))
   | exact ih0 _ _ _ _
   | exact LeO.none _
   | refine LeO.ite ?_ ?_
   | refine LeO.bind ?_ (fun _ => ?_)
theorem slices_Index_int_int.mono : ∀ a0 a1 k, LeO (slices_Index_int_int.f k a0 a1) (slices_Index_int_int.f (k + 1) a0 a1) := by
 intro a0 a1 k
 have ih0 := slices_Index_int_int.mono_l k
 unfold slices_Index_int_int.f
 repeat' first
   | (with_reducible exact ih0 _ _ _ _)
   | (with_reducible exact LeO.refl _)
   | (with_reducible exact LeO.none _)
   | (with_reducible refine LeO.ite ?_ ?_)
   | (with_reducible refine LeO.bind ?_ (fun _ => ?_))
   | exact ih0 _ _ _ _
   | exact LeO.none _
   | refine LeO.ite ?_ ?_
   | refine LeO.bind ?_ (fun _ => ?_)
set_option maxHeartbeats 8000000 in
set_option maxRecDepth 100000 in
theorem slices_Index_int_int.calls (k : Nat) (A0 : Option Addr) (c0 : Nat) (l0 : List Int) (a1 : Int) (r : Int) (w : World) (hr0 : Kd.C (Kd.int .i64) w A0 l0.length l0) (hc0 : l0.length ≤ c0) (h : slices_Index_int_int.f k l0 a1 = some r) :
  Calls Try.prog 78 #[.slice A0 l0.length c0, .int .i64 a1] w fun e w' => e = .returned (.int .i64 r) ∧ Drawn0 w w' := by
 have HR0 := am_ hr0
 have HC0 := am_ hc0
 clear hr0 hc0
 have H : (slices_Index_int_int.l0 k l0 a1 (l0.length : Int) 0) = some r := h
 clear h
 have H' := am_ H
 clear H
 go_enter Try.func78, Try.ntmps78
 go_wp2
 go_loopg [8] k (fun kq v8 w' => ∃ (x8_1 : Int), v8 = .int .i64 x8_1 ∧ Aside0 (slices_Index_int_int.l0 kq l0 a1 (l0.length : Int) x8_1 = some r) ∧ Aside0 (kq ≤ k) ∧ Drawn0 w w')
 case atStart => exact ⟨(0), sq_, H', ⟨Nat.le_refl _⟩, by repeat (first | exact Drawn0.refl _ | apply Drawn0.step)⟩
 case round =>
  clear H'
  obtain ⟨x8_1, rfl, HA, HK1, ⟨m1, rfl⟩⟩ := hrel
  cases gk with
  | zero => exact absurd HA.out (by simp [slices_Index_int_int.l0])
  | succ k1 =>
   have H := HA.out
   clear HA
   simp only [slices_Index_int_int.l0] at H
   by_cases c3 : x8_1 < (l0.length : Int)
   ·rw [if_pos c3] at H
    have c3b0 : decide (x8_1 < (l0.length : Int)) = true := decide_eq_true c3
    clear c3
    obtain ⟨c4, H⟩ := ifn_ H
    have c4b0 : decide (0 ≤ x8_1) = true := decide_eq_true c4
    clear c4
    obtain ⟨c5, H⟩ := ifn_ H
    have c5b0 : decide (x8_1 < (l0.length : Int)) = true := decide_eq_true c5
    clear c5
    by_cases c6 : a1 = (rd l0 x8_1)
    ·rw [if_pos c6] at H
     have c6b0 : (a1 == (rd l0 x8_1)) = true := beq_iff_eq.mpr c6
     have c6b1 : (a1 != (rd l0 x8_1)) = false := bne_eq_false_iff_eq.mpr c6
     clear c6
     obtain rfl := Option.some.inj H
     have p285 : 0 ≤ (x8_1 : Int) := od_
     have q285 : x8_1 < (l0.length : Int) := od_
     obtain ⟨ad285, e285, hx285_0⟩ := Kd.at_int HR0.out x8_1 p285 q285
     cases e285
     replace p285 := eq_true p285
     replace q285 := eq_true q285
     go_wp2
     go_ret
     exact ⟨by first | rfl | (simp; done) | (simp [*]; done), by repeat (first | exact Drawn0.refl _ | apply Drawn0.step)⟩
    ·rw [if_neg c6] at H
     have c6b0 : (a1 == (rd l0 x8_1)) = false := beq_eq_false_iff_ne.mpr c6
     have c6b1 : (a1 != (rd l0 x8_1)) = true := bne_iff_ne.mpr c6
     have H' := am_ H
     clear H
     have p285 : 0 ≤ (x8_1 : Int) := od_
     have q285 : x8_1 < (l0.length : Int) := od_
     obtain ⟨ad285, e285, hx285_0⟩ := Kd.at_int HR0.out x8_1 p285 q285
     cases e285
     replace p285 := eq_true p285
     replace q285 := eq_true q285
     go_wp2
     go_roundg k1
     case measure => have := HK1.out; omega
     case rel => exact ⟨(wrap64 (x8_1 + 1)), sq_, H', ⟨by have := HK1.out; omega⟩, by repeat (first | exact Drawn0.refl _ | apply Drawn0.step)⟩
   ·rw [if_neg c3] at H
    have c3b0 : decide (x8_1 < (l0.length : Int)) = false := decide_eq_false c3
    clear c3
    obtain rfl := Option.some.inj H
    go_wp2
    go_ret
    exact ⟨by first | rfl | (simp; done) | (simp [*]; done), by repeat (first | exact Drawn0.refl _ | apply Drawn0.step)⟩

/-! ### slices_Contains_int_int: function 70 -/
def slices_Contains_int_int.f (k : Nat) (l0 : List Int) (a1 : Int) : Option (Bool) := (slices_Index_int_int.f k l0 a1).bind fun t286 => (some (decide (t286 ≥ 0)))
theorem slices_Contains_int_int.mono : ∀ a0 a1 k, LeO (slices_Contains_int_int.f k a0 a1) (slices_Contains_int_int.f (k + 1) a0 a1) := by
 intro a0 a1 k
 unfold slices_Contains_int_int.f
 repeat' first
   | (with_reducible exact slices_Index_int_int.mono _ _ _)
   | (with_reducible exact LeO.refl _)
   | (with_reducible exact LeO.none _)
   | (with_reducible refine LeO.ite ?_ ?_)
   | (with_reducible refine LeO.bind ?_ (fun _ => ?_))
   | exact slices_Index_int_int.mono _ _ _
   | exact LeO.none _
   | refine LeO.ite ?_ ?_
   | refine LeO.bind ?_ (fun _ => ?_)
set_option maxHeartbeats 8000000 in
set_option maxRecDepth 100000 in
theorem slices_Contains_int_int.calls (k : Nat) (A0 : Option Addr) (c0 : Nat) (l0 : List Int) (a1 : Int) (r : Bool) (w : World) (hr0 : Kd.C (Kd.int .i64) w A0 l0.length l0) (hc0 : l0.length ≤ c0) (h : slices_Contains_int_int.f k l0 a1 = some r) :
  Calls Try.prog 70 #[.slice A0 l0.length c0, .int .i64 a1] w fun e w' => e = .returned (.bool r) ∧ Drawn0 w w' := by
 have HR0 := am_ hr0
 have HC0 := am_ hc0
 clear hr0 hc0
 have H : ((slices_Index_int_int.f k l0 a1).bind fun t286 => (some (decide (t286 ≥ 0)))) = some r := h
 clear h
 obtain ⟨t286, A30, H⟩ := bE_ H
 have A3 := am_ A30
 clear A30
 obtain rfl := Option.some.inj H
 go_enter Try.func70, Try.ntmps70
 go_wp2_with (first | ((with_reducible refine gate_callee (f := 78) rfl ?_); refine goesL_ (some 7) rfl rfl Try.func78 (by kernel_rfl) rfl #[.slice A0 l0.length c0, .int .i64 a1] rfl (by (try simp only [List.map_toArray, List.map_cons, List.map_nil]); first | done | rfl | (simp only [List.length_drop, List.length_take]; rfl)) ?_; (with_reducible refine (slices_Index_int_int.calls k _ _ l0 a1 t286 _ ?side1 ?side2 A3.out).mono ?_); (case side1 => repeat (first | exact HR0.out | (with_reducible refine Kd.C_alloc ?_ _) | (with_reducible refine Kd.C_drewN ?_ _) | (with_reducible refine Kd.C_drew ?_))); (case side2 => exact HC0.out); rintro e w' ⟨rfl, ⟨nd, rfl⟩⟩; refine ⟨_, rfl, ?_⟩))
 go_ret
 exact ⟨by first | rfl | (simp; done) | (simp [*]; done), by repeat (first | exact Drawn0.refl _ | apply Drawn0.step)⟩

-- NOT PRINTED: function 69 (impl_held_holds_1_1)

/-! ### impl_held_holds_1_1_captured: function 69 -/
def impl_held_holds_1_1_captured.f (k : Nat) (a0 : Int) (a65_0 : ByteArray) (l65_1 : List Int) : Option (Bool) := (slices_Contains_int_int.f k l65_1 a0).bind fun t287 => (some (!t287))
theorem impl_held_holds_1_1_captured.mono : ∀ a0 a1 a2 k, LeO (impl_held_holds_1_1_captured.f k a0 a1 a2) (impl_held_holds_1_1_captured.f (k + 1) a0 a1 a2) := by
 intro a0 a1 a2 k
 unfold impl_held_holds_1_1_captured.f
 repeat' first
   | (with_reducible exact slices_Contains_int_int.mono _ _ _)
   | (with_reducible exact LeO.refl _)
   | (with_reducible exact LeO.none _)
   | (with_reducible refine LeO.ite ?_ ?_)
   | (with_reducible refine LeO.bind ?_ (fun _ => ?_))
   | exact slices_Contains_int_int.mono _ _ _
   | exact LeO.none _
   | refine LeO.ite ?_ ?_
   | refine LeO.bind ?_ (fun _ => ?_)
set_option maxHeartbeats 8000000 in
set_option maxRecDepth 100000 in
theorem impl_held_holds_1_1_captured.calls (k : Nat) (a0 : Int) (g65_ : Nat) (a65_0 : ByteArray) (A65_1 : Option Addr) (c65_1 : Nat) (l65_1 : List Int) (r : Bool) (w : World) (hr65_1 : Kd.C (Kd.int .i64) w A65_1 l65_1.length l65_1) (hc65_1 : l65_1.length ≤ c65_1) (hq65_0 : w.cell? ⟨g65_, 0, none⟩ = some (.string a65_0)) (hq65_1 : w.cell? ⟨g65_, 1, none⟩ = some (.slice A65_1 l65_1.length c65_1)) (h : impl_held_holds_1_1_captured.f k a0 a65_0 l65_1 = some r) :
  Calls Try.prog 69 #[.int .i64 a0, .pointer (some ⟨g65_, 0, none⟩)] w fun e w' => e = .returned (.bool r) ∧ Drawn0 w w' := by
 have HR65_1 := am_ hr65_1
 have HC65_1 := am_ hc65_1
 clear hr65_1 hc65_1
 have H : ((slices_Contains_int_int.f k l65_1 a0).bind fun t287 => (some (!t287))) = some r := h
 clear h
 obtain ⟨t287, A30, H⟩ := bE_ H
 have A3 := am_ A30
 clear A30
 obtain rfl := Option.some.inj H
 go_enter Try.func69, Try.ntmps69
 go_wp2_with (first | ((with_reducible refine gate_callee (f := 70) rfl ?_); refine goesL_ (some 7) rfl rfl Try.func70 (by kernel_rfl) rfl #[.slice A65_1 l65_1.length c65_1, .int .i64 a0] rfl (by (try simp only [List.map_toArray, List.map_cons, List.map_nil]); first | done | rfl | (simp only [List.length_drop, List.length_take]; rfl)) ?_; (with_reducible refine (slices_Contains_int_int.calls k _ _ l65_1 a0 t287 _ ?side1 ?side2 A3.out).mono ?_); (case side1 => repeat (first | exact HR65_1.out | (with_reducible refine Kd.C_alloc ?_ _) | (with_reducible refine Kd.C_drewN ?_ _) | (with_reducible refine Kd.C_drew ?_))); (case side2 => exact HC65_1.out); rintro e w' ⟨rfl, ⟨nd, rfl⟩⟩; refine ⟨_, rfl, ?_⟩))
 go_ret
 exact ⟨by first | rfl | (simp; done) | (simp [*]; done), by repeat (first | exact Drawn0.refl _ | apply Drawn0.step)⟩

/-! ### slices_IndexFunc_int_int_at_impl_held_holds_1_1: function 77 -/
def slices_IndexFunc_int_int_at_impl_held_holds_1_1.l0 (a65_0 : ByteArray) (l65_1 : List Int) : Nat → List Int → Int → Int → Option (Int)
 | 0, _, _, _ => none
 | k + 1, x0, x7, x8 => if x8 < x7 then (if 0 ≤ x8 then (if x8 < (x0.length : Int) then ((impl_held_holds_1_1_captured.f k (rd x0 x8) a65_0 l65_1).bind fun t289 => (if t289 = true then (some x8) else (slices_IndexFunc_int_int_at_impl_held_holds_1_1.l0 a65_0 l65_1 k x0 x7 (wrap64 (x8 + 1))))) else (none)) else (none)) else (some (-1))
def slices_IndexFunc_int_int_at_impl_held_holds_1_1.f (k : Nat) (l0 : List Int) (a65_0 : ByteArray) (l65_1 : List Int) : Option (Int) := slices_IndexFunc_int_int_at_impl_held_holds_1_1.l0 a65_0 l65_1 k l0 (l0.length : Int) 0
theorem slices_IndexFunc_int_int_at_impl_held_holds_1_1.mono_l (a65_0 : ByteArray) (l65_1 : List Int) : ∀ k, (∀ y0 y1 y2, LeO (slices_IndexFunc_int_int_at_impl_held_holds_1_1.l0 a65_0 l65_1 k y0 y1 y2) (slices_IndexFunc_int_int_at_impl_held_holds_1_1.l0 a65_0 l65_1 (k + 1) y0 y1 y2))
 | 0 => fun _ _ _ r h => by simp [slices_IndexFunc_int_int_at_impl_held_holds_1_1.l0] at h
 | k + 1 => by
  have ih0 := slices_IndexFunc_int_int_at_impl_held_holds_1_1.mono_l a65_0 l65_1 k
  ·intro y0 y1 y2
   unfold slices_IndexFunc_int_int_at_impl_held_holds_1_1.l0
   repeat' first
   | (with_reducible exact ih0 _ _ _)
   | (with_reducible exact impl_held_holds_1_1_captured.mono _ _ _ _)
   | (with_reducible exact LeO.refl _)
   | (with_reducible exact LeO.none _)
   | (with_reducible refine LeO.ite ?_ ?_)
   | (with_reducible refine LeO.bind ?_ (fun _ => ?_))
   | exact ih0 _ _ _
   | exact impl_held_holds_1_1_captured.mono _ _ _ _
   | exact LeO.none _
   | refine LeO.ite ?_ ?_
   | refine LeO.bind ?_ (fun _ => ?_)
theorem slices_IndexFunc_int_int_at_impl_held_holds_1_1.mono : ∀ a0 a1 a2 k, LeO (slices_IndexFunc_int_int_at_impl_held_holds_1_1.f k a0 a1 a2) (slices_IndexFunc_int_int_at_impl_held_holds_1_1.f (k + 1) a0 a1 a2) := by
 intro a0 a1 a2 k
 have ih0 := slices_IndexFunc_int_int_at_impl_held_holds_1_1.mono_l a1 a2 k
 unfold slices_IndexFunc_int_int_at_impl_held_holds_1_1.f
 repeat' first
   | (with_reducible exact ih0 _ _ _)
   | (with_reducible exact impl_held_holds_1_1_captured.mono _ _ _ _)
   | (with_reducible exact LeO.refl _)
   | (with_reducible exact LeO.none _)
   | (with_reducible refine LeO.ite ?_ ?_)
   | (with_reducible refine LeO.bind ?_ (fun _ => ?_))
   | exact ih0 _ _ _
   | exact impl_held_holds_1_1_captured.mono _ _ _ _
   | exact LeO.none _
   | refine LeO.ite ?_ ?_
   | refine LeO.bind ?_ (fun _ => ?_)
set_option maxHeartbeats 8000000 in
set_option maxRecDepth 100000 in
theorem slices_IndexFunc_int_int_at_impl_held_holds_1_1.calls (k : Nat) (A0 : Option Addr) (c0 : Nat) (l0 : List Int) (g65_ : Nat) (a65_0 : ByteArray) (A65_1 : Option Addr) (c65_1 : Nat) (l65_1 : List Int) (r : Int) (w : World) (hr0 : Kd.C (Kd.int .i64) w A0 l0.length l0) (hc0 : l0.length ≤ c0) (hr65_1 : Kd.C (Kd.int .i64) w A65_1 l65_1.length l65_1) (hc65_1 : l65_1.length ≤ c65_1) (hq65_0 : w.cell? ⟨g65_, 0, none⟩ = some (.string a65_0)) (hq65_1 : w.cell? ⟨g65_, 1, none⟩ = some (.slice A65_1 l65_1.length c65_1)) (h : slices_IndexFunc_int_int_at_impl_held_holds_1_1.f k l0 a65_0 l65_1 = some r) :
  Calls Try.prog 77 #[.slice A0 l0.length c0, .func (.func 69) #[] #[.pointer (some ⟨g65_, 0, none⟩)]] w fun e w' => e = .returned (.int .i64 r) ∧ Drawn0 w w' := by
 have HR0 := am_ hr0
 have HC0 := am_ hc0
 clear hr0 hc0
 have HR65_1 := am_ hr65_1
 have HC65_1 := am_ hc65_1
 clear hr65_1 hc65_1
 have H : (slices_IndexFunc_int_int_at_impl_held_holds_1_1.l0 a65_0 l65_1 k l0 (l0.length : Int) 0) = some r := h
 clear h
 have H' := am_ H
 clear H
 go_enter Try.func77, Try.ntmps77
 go_wp2
 go_loopg [8] k (fun kq v8 w' => ∃ (x8_1 : Int), v8 = .int .i64 x8_1 ∧ Aside0 (slices_IndexFunc_int_int_at_impl_held_holds_1_1.l0 a65_0 l65_1 kq l0 (l0.length : Int) x8_1 = some r) ∧ Aside0 (kq ≤ k) ∧ Drawn0 w w')
 case atStart => exact ⟨(0), sq_, H', ⟨Nat.le_refl _⟩, by repeat (first | exact Drawn0.refl _ | apply Drawn0.step)⟩
 case round =>
  clear H'
  obtain ⟨x8_1, rfl, HA, HK1, ⟨m1, rfl⟩⟩ := hrel
  cases gk with
  | zero => exact absurd HA.out (by simp [slices_IndexFunc_int_int_at_impl_held_holds_1_1.l0])
  | succ k1 =>
   have H := HA.out
   clear HA
   simp only [slices_IndexFunc_int_int_at_impl_held_holds_1_1.l0] at H
   by_cases c3 : x8_1 < (l0.length : Int)
   ·rw [if_pos c3] at H
    have c3b0 : decide (x8_1 < (l0.length : Int)) = true := decide_eq_true c3
    clear c3
    obtain ⟨c4, H⟩ := ifn_ H
    have c4b0 : decide (0 ≤ x8_1) = true := decide_eq_true c4
    clear c4
    obtain ⟨c5, H⟩ := ifn_ H
    have c5b0 : decide (x8_1 < (l0.length : Int)) = true := decide_eq_true c5
    clear c5
    obtain ⟨t289, A60, H⟩ := bE_ H
    have A6 := am_ A60
    clear A60
    by_cases c7 : t289 = true
    ·subst c7
     replace H := it_ H rfl
     obtain rfl := Option.some.inj H
     have p288 : 0 ≤ (x8_1 : Int) := od_
     have q288 : x8_1 < (l0.length : Int) := od_
     obtain ⟨ad288, e288, hx288_0⟩ := Kd.at_int HR0.out x8_1 p288 q288
     cases e288
     replace p288 := eq_true p288
     replace q288 := eq_true q288
     go_wp2_with (first | (go_at_call 69; (with_reducible refine (impl_held_holds_1_1_captured.calls k1 (rd l0 x8_1) g65_ a65_0 A65_1 c65_1 l65_1 true _ ?side1 ?side2 ?side3 ?side4 A6.out).mono ?_); (case side1 => repeat (first | exact HR65_1.out | (with_reducible refine Kd.C_alloc ?_ _) | (with_reducible refine Kd.C_drewN ?_ _) | (with_reducible refine Kd.C_drew ?_))); (case side2 => exact HC65_1.out); (case side3 => first | exact hq65_0 | (simpa using hq65_0)); (case side4 => first | exact hq65_1 | (simpa using hq65_1)); rintro e w' ⟨rfl, ⟨nd, rfl⟩⟩))
     go_ret
     exact ⟨by first | rfl | (simp; done) | (simp [*]; done), by repeat (first | exact Drawn0.refl _ | apply Drawn0.step)⟩
    ·replace c7 := Bool.eq_false_iff.mpr c7
     subst c7
     replace H := if_ H Bool.false_ne_true
     have H' := am_ H
     clear H
     have p288 : 0 ≤ (x8_1 : Int) := od_
     have q288 : x8_1 < (l0.length : Int) := od_
     obtain ⟨ad288, e288, hx288_0⟩ := Kd.at_int HR0.out x8_1 p288 q288
     cases e288
     replace p288 := eq_true p288
     replace q288 := eq_true q288
     go_wp2_with (first | (go_at_call 69; (with_reducible refine (impl_held_holds_1_1_captured.calls k1 (rd l0 x8_1) g65_ a65_0 A65_1 c65_1 l65_1 false _ ?side1 ?side2 ?side3 ?side4 A6.out).mono ?_); (case side1 => repeat (first | exact HR65_1.out | (with_reducible refine Kd.C_alloc ?_ _) | (with_reducible refine Kd.C_drewN ?_ _) | (with_reducible refine Kd.C_drew ?_))); (case side2 => exact HC65_1.out); (case side3 => first | exact hq65_0 | (simpa using hq65_0)); (case side4 => first | exact hq65_1 | (simpa using hq65_1)); rintro e w' ⟨rfl, ⟨nd, rfl⟩⟩))
     go_roundg k1
     case measure => have := HK1.out; omega
     case rel => exact ⟨(wrap64 (x8_1 + 1)), sq_, H', ⟨by have := HK1.out; omega⟩, by repeat (first | exact Drawn0.refl _ | apply Drawn0.step)⟩
   ·rw [if_neg c3] at H
    have c3b0 : decide (x8_1 < (l0.length : Int)) = false := decide_eq_false c3
    clear c3
    obtain rfl := Option.some.inj H
    go_wp2
    go_ret
    exact ⟨by first | rfl | (simp; done) | (simp [*]; done), by repeat (first | exact Drawn0.refl _ | apply Drawn0.step)⟩

/-! ### slices_ContainsFunc_int_int_at_impl_held_holds_1_1: function 68 -/
def slices_ContainsFunc_int_int_at_impl_held_holds_1_1.f (k : Nat) (l0 : List Int) (a65_0 : ByteArray) (l65_1 : List Int) : Option (Bool) := (slices_IndexFunc_int_int_at_impl_held_holds_1_1.f k l0 a65_0 l65_1).bind fun t290 => (some (decide (t290 ≥ 0)))
theorem slices_ContainsFunc_int_int_at_impl_held_holds_1_1.mono : ∀ a0 a1 a2 k, LeO (slices_ContainsFunc_int_int_at_impl_held_holds_1_1.f k a0 a1 a2) (slices_ContainsFunc_int_int_at_impl_held_holds_1_1.f (k + 1) a0 a1 a2) := by
 intro a0 a1 a2 k
 unfold slices_ContainsFunc_int_int_at_impl_held_holds_1_1.f
 repeat' first
   | (with_reducible exact slices_IndexFunc_int_int_at_impl_held_holds_1_1.mono _ _ _ _)
   | (with_reducible exact LeO.refl _)
   | (with_reducible exact LeO.none _)
   | (with_reducible refine LeO.ite ?_ ?_)
   | (with_reducible refine LeO.bind ?_ (fun _ => ?_))
   | exact slices_IndexFunc_int_int_at_impl_held_holds_1_1.mono _ _ _ _
   | exact LeO.none _
   | refine LeO.ite ?_ ?_
   | refine LeO.bind ?_ (fun _ => ?_)
set_option maxHeartbeats 8000000 in
set_option maxRecDepth 100000 in
theorem slices_ContainsFunc_int_int_at_impl_held_holds_1_1.calls (k : Nat) (A0 : Option Addr) (c0 : Nat) (l0 : List Int) (g65_ : Nat) (a65_0 : ByteArray) (A65_1 : Option Addr) (c65_1 : Nat) (l65_1 : List Int) (r : Bool) (w : World) (hr0 : Kd.C (Kd.int .i64) w A0 l0.length l0) (hc0 : l0.length ≤ c0) (hr65_1 : Kd.C (Kd.int .i64) w A65_1 l65_1.length l65_1) (hc65_1 : l65_1.length ≤ c65_1) (hq65_0 : w.cell? ⟨g65_, 0, none⟩ = some (.string a65_0)) (hq65_1 : w.cell? ⟨g65_, 1, none⟩ = some (.slice A65_1 l65_1.length c65_1)) (h : slices_ContainsFunc_int_int_at_impl_held_holds_1_1.f k l0 a65_0 l65_1 = some r) :
  Calls Try.prog 68 #[.slice A0 l0.length c0, .func (.func 69) #[] #[.pointer (some ⟨g65_, 0, none⟩)]] w fun e w' => e = .returned (.bool r) ∧ Drawn0 w w' := by
 have HR0 := am_ hr0
 have HC0 := am_ hc0
 clear hr0 hc0
 have HR65_1 := am_ hr65_1
 have HC65_1 := am_ hc65_1
 clear hr65_1 hc65_1
 have H : ((slices_IndexFunc_int_int_at_impl_held_holds_1_1.f k l0 a65_0 l65_1).bind fun t290 => (some (decide (t290 ≥ 0)))) = some r := h
 clear h
 obtain ⟨t290, A30, H⟩ := bE_ H
 have A3 := am_ A30
 clear A30
 obtain rfl := Option.some.inj H
 go_enter Try.func68, Try.ntmps68
 go_wp2_with (first | ((with_reducible refine gate_callee (f := 77) rfl ?_); refine goesL_ (some 7) rfl rfl Try.func77 (by kernel_rfl) rfl #[.slice A0 l0.length c0, .func (.func 69) #[] #[.pointer (some ⟨g65_, 0, none⟩)]] rfl (by (try simp only [List.map_toArray, List.map_cons, List.map_nil]); first | done | rfl | (simp only [List.length_drop, List.length_take]; rfl)) ?_; (with_reducible refine (slices_IndexFunc_int_int_at_impl_held_holds_1_1.calls k _ _ l0 g65_ a65_0 A65_1 c65_1 l65_1 t290 _ ?side1 ?side2 ?side3 ?side4 ?side5 ?side6 A3.out).mono ?_); (case side1 => repeat (first | exact HR0.out | (with_reducible refine Kd.C_alloc ?_ _) | (with_reducible refine Kd.C_drewN ?_ _) | (with_reducible refine Kd.C_drew ?_))); (case side2 => exact HC0.out); (case side3 => repeat (first | exact HR65_1.out | (with_reducible refine Kd.C_alloc ?_ _) | (with_reducible refine Kd.C_drewN ?_ _) | (with_reducible refine Kd.C_drew ?_))); (case side4 => exact HC65_1.out); (case side5 => first | exact hq65_0 | (simpa using hq65_0)); (case side6 => first | exact hq65_1 | (simpa using hq65_1)); rintro e w' ⟨rfl, ⟨nd, rfl⟩⟩; refine ⟨_, rfl, ?_⟩))
 go_ret
 exact ⟨by first | rfl | (simp; done) | (simp [*]; done), by repeat (first | exact Drawn0.refl _ | apply Drawn0.step)⟩

-- NOT PRINTED: function 66 (impl_held_holds_1)

/-! ### slices_IndexFunc_int_int_impl_held_holds_1_1_at_impl_held_holds_1_1: function 77 -/
def slices_IndexFunc_int_int_impl_held_holds_1_1_at_impl_held_holds_1_1.l0 (a65_0 : ByteArray) (l65_1 : List Int) : Nat → List Int → Int → Int → Option (Int)
 | 0, _, _, _ => none
 | k + 1, x0, x7, x8 => if x8 < x7 then (if 0 ≤ x8 then (if x8 < (x0.length : Int) then ((impl_held_holds_1_1_captured.f k (rd x0 x8) a65_0 l65_1).bind fun t293 => (if t293 = true then (some x8) else (slices_IndexFunc_int_int_impl_held_holds_1_1_at_impl_held_holds_1_1.l0 a65_0 l65_1 k x0 x7 (wrap64 (x8 + 1))))) else (none)) else (none)) else (some (-1))
def slices_IndexFunc_int_int_impl_held_holds_1_1_at_impl_held_holds_1_1.f (k : Nat) (l0 : List Int) (a65_0 : ByteArray) (l65_1 : List Int) : Option (Int) := slices_IndexFunc_int_int_impl_held_holds_1_1_at_impl_held_holds_1_1.l0 a65_0 l65_1 k l0 (l0.length : Int) 0
theorem slices_IndexFunc_int_int_impl_held_holds_1_1_at_impl_held_holds_1_1.mono_l (a65_0 : ByteArray) (l65_1 : List Int) : ∀ k, (∀ y0 y1 y2, LeO (slices_IndexFunc_int_int_impl_held_holds_1_1_at_impl_held_holds_1_1.l0 a65_0 l65_1 k y0 y1 y2) (slices_IndexFunc_int_int_impl_held_holds_1_1_at_impl_held_holds_1_1.l0 a65_0 l65_1 (k + 1) y0 y1 y2))
 | 0 => fun _ _ _ r h => by simp [slices_IndexFunc_int_int_impl_held_holds_1_1_at_impl_held_holds_1_1.l0] at h
 | k + 1 => by
  have ih0 := slices_IndexFunc_int_int_impl_held_holds_1_1_at_impl_held_holds_1_1.mono_l a65_0 l65_1 k
  ·intro y0 y1 y2
   unfold slices_IndexFunc_int_int_impl_held_holds_1_1_at_impl_held_holds_1_1.l0
   repeat' first
   | (with_reducible exact ih0 _ _ _)
   | (with_reducible exact impl_held_holds_1_1_captured.mono _ _ _ _)
   | (with_reducible exact LeO.refl _)
   | (with_reducible exact LeO.none _)
   | (with_reducible refine LeO.ite ?_ ?_)
   | (with_reducible refine LeO.bind ?_ (fun _ => ?_))
   | exact ih0 _ _ _
   | exact impl_held_holds_1_1_captured.mono _ _ _ _
   | exact LeO.none _
   | refine LeO.ite ?_ ?_
   | refine LeO.bind ?_ (fun _ => ?_)
theorem slices_IndexFunc_int_int_impl_held_holds_1_1_at_impl_held_holds_1_1.mono : ∀ a0 a1 a2 k, LeO (slices_IndexFunc_int_int_impl_held_holds_1_1_at_impl_held_holds_1_1.f k a0 a1 a2) (slices_IndexFunc_int_int_impl_held_holds_1_1_at_impl_held_holds_1_1.f (k + 1) a0 a1 a2) := by
 intro a0 a1 a2 k
 have ih0 := slices_IndexFunc_int_int_impl_held_holds_1_1_at_impl_held_holds_1_1.mono_l a1 a2 k
 unfold slices_IndexFunc_int_int_impl_held_holds_1_1_at_impl_held_holds_1_1.f
 repeat' first
   | (with_reducible exact ih0 _ _ _)
   | (with_reducible exact impl_held_holds_1_1_captured.mono _ _ _ _)
   | (with_reducible exact LeO.refl _)
   | (with_reducible exact LeO.none _)
   | (with_reducible refine LeO.ite ?_ ?_)
   | (with_reducible refine LeO.bind ?_ (fun _ => ?_))
   | exact ih0 _ _ _
   | exact impl_held_holds_1_1_captured.mono _ _ _ _
   | exact LeO.none _
   | refine LeO.ite ?_ ?_
   | refine LeO.bind ?_ (fun _ => ?_)
set_option maxHeartbeats 8000000 in
set_option maxRecDepth 100000 in
theorem slices_IndexFunc_int_int_impl_held_holds_1_1_at_impl_held_holds_1_1.calls (k : Nat) (A0 : Option Addr) (c0 : Nat) (l0 : List Int) (g65_ : Nat) (a65_0 : ByteArray) (A65_1 : Option Addr) (c65_1 : Nat) (l65_1 : List Int) (r : Int) (w : World) (hr0 : Kd.C (Kd.int .i64) w A0 l0.length l0) (hc0 : l0.length ≤ c0) (hr65_1 : Kd.C (Kd.int .i64) w A65_1 l65_1.length l65_1) (hc65_1 : l65_1.length ≤ c65_1) (hq65_0 : w.cell? ⟨g65_, 0, none⟩ = some (.string a65_0)) (hq65_1 : w.cell? ⟨g65_, 1, none⟩ = some (.slice A65_1 l65_1.length c65_1)) (h : slices_IndexFunc_int_int_impl_held_holds_1_1_at_impl_held_holds_1_1.f k l0 a65_0 l65_1 = some r) :
  Calls Try.prog 77 #[.slice A0 l0.length c0, .func (.func 69) #[] #[.pointer (some ⟨g65_, 0, none⟩)]] w fun e w' => e = .returned (.int .i64 r) ∧ Drawn0 w w' := by
 have HR0 := am_ hr0
 have HC0 := am_ hc0
 clear hr0 hc0
 have HR65_1 := am_ hr65_1
 have HC65_1 := am_ hc65_1
 clear hr65_1 hc65_1
 have H : (slices_IndexFunc_int_int_impl_held_holds_1_1_at_impl_held_holds_1_1.l0 a65_0 l65_1 k l0 (l0.length : Int) 0) = some r := h
 clear h
 have H' := am_ H
 clear H
 go_enter Try.func77, Try.ntmps77
 go_wp2
 go_loopg [8] k (fun kq v8 w' => ∃ (x8_1 : Int), v8 = .int .i64 x8_1 ∧ Aside0 (slices_IndexFunc_int_int_impl_held_holds_1_1_at_impl_held_holds_1_1.l0 a65_0 l65_1 kq l0 (l0.length : Int) x8_1 = some r) ∧ Aside0 (kq ≤ k) ∧ Drawn0 w w')
 case atStart => exact ⟨(0), sq_, H', ⟨Nat.le_refl _⟩, by repeat (first | exact Drawn0.refl _ | apply Drawn0.step)⟩
 case round =>
  clear H'
  obtain ⟨x8_1, rfl, HA, HK1, ⟨m1, rfl⟩⟩ := hrel
  cases gk with
  | zero => exact absurd HA.out (by simp [slices_IndexFunc_int_int_impl_held_holds_1_1_at_impl_held_holds_1_1.l0])
  | succ k1 =>
   have H := HA.out
   clear HA
   simp only [slices_IndexFunc_int_int_impl_held_holds_1_1_at_impl_held_holds_1_1.l0] at H
   by_cases c3 : x8_1 < (l0.length : Int)
   ·rw [if_pos c3] at H
    have c3b0 : decide (x8_1 < (l0.length : Int)) = true := decide_eq_true c3
    clear c3
    obtain ⟨c4, H⟩ := ifn_ H
    have c4b0 : decide (0 ≤ x8_1) = true := decide_eq_true c4
    clear c4
    obtain ⟨c5, H⟩ := ifn_ H
    have c5b0 : decide (x8_1 < (l0.length : Int)) = true := decide_eq_true c5
    clear c5
    obtain ⟨t293, A60, H⟩ := bE_ H
    have A6 := am_ A60
    clear A60
    by_cases c7 : t293 = true
    ·subst c7
     replace H := it_ H rfl
     obtain rfl := Option.some.inj H
     have p292 : 0 ≤ (x8_1 : Int) := od_
     have q292 : x8_1 < (l0.length : Int) := od_
     obtain ⟨ad292, e292, hx292_0⟩ := Kd.at_int HR0.out x8_1 p292 q292
     cases e292
     replace p292 := eq_true p292
     replace q292 := eq_true q292
     go_wp2_with (first | (go_at_call 69; (with_reducible refine (impl_held_holds_1_1_captured.calls k1 (rd l0 x8_1) g65_ a65_0 A65_1 c65_1 l65_1 true _ ?side1 ?side2 ?side3 ?side4 A6.out).mono ?_); (case side1 => repeat (first | exact HR65_1.out | (with_reducible refine Kd.C_alloc ?_ _) | (with_reducible refine Kd.C_drewN ?_ _) | (with_reducible refine Kd.C_drew ?_))); (case side2 => exact HC65_1.out); (case side3 => first | exact hq65_0 | (simpa using hq65_0)); (case side4 => first | exact hq65_1 | (simpa using hq65_1)); rintro e w' ⟨rfl, ⟨nd, rfl⟩⟩))
     go_ret
     exact ⟨by first | rfl | (simp; done) | (simp [*]; done), by repeat (first | exact Drawn0.refl _ | apply Drawn0.step)⟩
    ·replace c7 := Bool.eq_false_iff.mpr c7
     subst c7
     replace H := if_ H Bool.false_ne_true
     have H' := am_ H
     clear H
     have p292 : 0 ≤ (x8_1 : Int) := od_
     have q292 : x8_1 < (l0.length : Int) := od_
     obtain ⟨ad292, e292, hx292_0⟩ := Kd.at_int HR0.out x8_1 p292 q292
     cases e292
     replace p292 := eq_true p292
     replace q292 := eq_true q292
     go_wp2_with (first | (go_at_call 69; (with_reducible refine (impl_held_holds_1_1_captured.calls k1 (rd l0 x8_1) g65_ a65_0 A65_1 c65_1 l65_1 false _ ?side1 ?side2 ?side3 ?side4 A6.out).mono ?_); (case side1 => repeat (first | exact HR65_1.out | (with_reducible refine Kd.C_alloc ?_ _) | (with_reducible refine Kd.C_drewN ?_ _) | (with_reducible refine Kd.C_drew ?_))); (case side2 => exact HC65_1.out); (case side3 => first | exact hq65_0 | (simpa using hq65_0)); (case side4 => first | exact hq65_1 | (simpa using hq65_1)); rintro e w' ⟨rfl, ⟨nd, rfl⟩⟩))
     go_roundg k1
     case measure => have := HK1.out; omega
     case rel => exact ⟨(wrap64 (x8_1 + 1)), sq_, H', ⟨by have := HK1.out; omega⟩, by repeat (first | exact Drawn0.refl _ | apply Drawn0.step)⟩
   ·rw [if_neg c3] at H
    have c3b0 : decide (x8_1 < (l0.length : Int)) = false := decide_eq_false c3
    clear c3
    obtain rfl := Option.some.inj H
    go_wp2
    go_ret
    exact ⟨by first | rfl | (simp; done) | (simp [*]; done), by repeat (first | exact Drawn0.refl _ | apply Drawn0.step)⟩

/-! ### slices_ContainsFunc_int_int_impl_held_holds_1_1_at_impl_held_holds_1_1: function 68 -/
def slices_ContainsFunc_int_int_impl_held_holds_1_1_at_impl_held_holds_1_1.f (k : Nat) (l0 : List Int) (a65_0 : ByteArray) (l65_1 : List Int) : Option (Bool) := (slices_IndexFunc_int_int_impl_held_holds_1_1_at_impl_held_holds_1_1.f k l0 a65_0 l65_1).bind fun t294 => (some (decide (t294 ≥ 0)))
theorem slices_ContainsFunc_int_int_impl_held_holds_1_1_at_impl_held_holds_1_1.mono : ∀ a0 a1 a2 k, LeO (slices_ContainsFunc_int_int_impl_held_holds_1_1_at_impl_held_holds_1_1.f k a0 a1 a2) (slices_ContainsFunc_int_int_impl_held_holds_1_1_at_impl_held_holds_1_1.f (k + 1) a0 a1 a2) := by
 intro a0 a1 a2 k
 unfold slices_ContainsFunc_int_int_impl_held_holds_1_1_at_impl_held_holds_1_1.f
 repeat' first
   | (with_reducible exact slices_IndexFunc_int_int_impl_held_holds_1_1_at_impl_held_holds_1_1.mono _ _ _ _)
   | (with_reducible exact LeO.refl _)
   | (with_reducible exact LeO.none _)
   | (with_reducible refine LeO.ite ?_ ?_)
   | (with_reducible refine LeO.bind ?_ (fun _ => ?_))
   | exact slices_IndexFunc_int_int_impl_held_holds_1_1_at_impl_held_holds_1_1.mono _ _ _ _
   | exact LeO.none _
   | refine LeO.ite ?_ ?_
   | refine LeO.bind ?_ (fun _ => ?_)
set_option maxHeartbeats 8000000 in
set_option maxRecDepth 100000 in
theorem slices_ContainsFunc_int_int_impl_held_holds_1_1_at_impl_held_holds_1_1.calls (k : Nat) (A0 : Option Addr) (c0 : Nat) (l0 : List Int) (g65_ : Nat) (a65_0 : ByteArray) (A65_1 : Option Addr) (c65_1 : Nat) (l65_1 : List Int) (r : Bool) (w : World) (hr0 : Kd.C (Kd.int .i64) w A0 l0.length l0) (hc0 : l0.length ≤ c0) (hr65_1 : Kd.C (Kd.int .i64) w A65_1 l65_1.length l65_1) (hc65_1 : l65_1.length ≤ c65_1) (hq65_0 : w.cell? ⟨g65_, 0, none⟩ = some (.string a65_0)) (hq65_1 : w.cell? ⟨g65_, 1, none⟩ = some (.slice A65_1 l65_1.length c65_1)) (h : slices_ContainsFunc_int_int_impl_held_holds_1_1_at_impl_held_holds_1_1.f k l0 a65_0 l65_1 = some r) :
  Calls Try.prog 68 #[.slice A0 l0.length c0, .func (.func 69) #[] #[.pointer (some ⟨g65_, 0, none⟩)]] w fun e w' => e = .returned (.bool r) ∧ Drawn0 w w' := by
 have HR0 := am_ hr0
 have HC0 := am_ hc0
 clear hr0 hc0
 have HR65_1 := am_ hr65_1
 have HC65_1 := am_ hc65_1
 clear hr65_1 hc65_1
 have H : ((slices_IndexFunc_int_int_impl_held_holds_1_1_at_impl_held_holds_1_1.f k l0 a65_0 l65_1).bind fun t294 => (some (decide (t294 ≥ 0)))) = some r := h
 clear h
 obtain ⟨t294, A30, H⟩ := bE_ H
 have A3 := am_ A30
 clear A30
 obtain rfl := Option.some.inj H
 go_enter Try.func68, Try.ntmps68
 go_wp2_with (first | ((with_reducible refine gate_callee (f := 77) rfl ?_); refine goesL_ (some 7) rfl rfl Try.func77 (by kernel_rfl) rfl #[.slice A0 l0.length c0, .func (.func 69) #[] #[.pointer (some ⟨g65_, 0, none⟩)]] rfl (by (try simp only [List.map_toArray, List.map_cons, List.map_nil]); first | done | rfl | (simp only [List.length_drop, List.length_take]; rfl)) ?_; (with_reducible refine (slices_IndexFunc_int_int_impl_held_holds_1_1_at_impl_held_holds_1_1.calls k _ _ l0 g65_ a65_0 A65_1 c65_1 l65_1 t294 _ ?side1 ?side2 ?side3 ?side4 ?side5 ?side6 A3.out).mono ?_); (case side1 => repeat (first | exact HR0.out | (with_reducible refine Kd.C_alloc ?_ _) | (with_reducible refine Kd.C_drewN ?_ _) | (with_reducible refine Kd.C_drew ?_))); (case side2 => exact HC0.out); (case side3 => repeat (first | exact HR65_1.out | (with_reducible refine Kd.C_alloc ?_ _) | (with_reducible refine Kd.C_drewN ?_ _) | (with_reducible refine Kd.C_drew ?_))); (case side4 => exact HC65_1.out); (case side5 => first | exact hq65_0 | (simpa using hq65_0)); (case side6 => first | exact hq65_1 | (simpa using hq65_1)); rintro e w' ⟨rfl, ⟨nd, rfl⟩⟩; refine ⟨_, rfl, ?_⟩))
 go_ret
 exact ⟨by first | rfl | (simp; done) | (simp [*]; done), by repeat (first | exact Drawn0.refl _ | apply Drawn0.step)⟩

-- NOT PRINTED: function 66 (impl_held_holds_1_captured)

-- NOT PRINTED: function 71 (slices_IndexFunc_impl_Bind_impl_Bind_at_impl_held_holds_1)

-- NOT PRINTED: function 65 (slices_ContainsFunc_impl_Bind_impl_Bind_at_impl_held_holds_1)

-- NOT PRINTED: function 47 (impl_held_holds)

end Go.Proofs.Ytfgdfnnddoncjaa.XFnExactMeantBy
