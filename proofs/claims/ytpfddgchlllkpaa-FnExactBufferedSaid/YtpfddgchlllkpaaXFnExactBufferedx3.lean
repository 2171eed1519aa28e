/- What the Go functions that this law comes to compute, each walked; written by a program of this session. -/
import Derived.RangeFuncBox
import Derived.RangeFuncNested
import Derived.RangeFuncLeaves
import Derived.Shelf.Abstract
import Derived.OwnWalkIn
import Derived.TacticsInMore
import Derived.LoopNIn
import Derived.LoopIn
import Derived.Test.YtpfddgchlllkpaaXMark
import Derived.Test.YtpfddgchlllkpaaXFnExactBufferedx0
import Derived.Test.YtpfddgchlllkpaaXFnExactBufferedx2
namespace Go.Proofs.Ytpfddgchlllkpaa.XFnExactBuffered
open Go.RowKit Go.Proofs.YtpfddgchlllkpaaW.PrintWords Go.Proofs.YtpfddgchlllkpaaW.PrintLast Go.Proofs.YtpfddgchlllkpaaW.PrintMore
attribute [local go_sem] str_geq max2_int min2_int max_two min_two max_three min_three max_four min_four   -- for this text's walks alone
set_option linter.unusedVariables false
set_option linter.unusedSimpArgs false

/-! ### impl_areMeant: function 47 -/
def impl_areMeant.l0 : Nat → List (S69) → List (S69) → Int → Int → Option (Bool)
 | 0, _, _, _, _ => none
 | k + 1, x0, x5, x6, x7 => if x7 < x6 then (if 0 ≤ x7 then (if x7 < (x5.length : Int) then ((impl_isTime.f ((rd_T69 x5 x7).f0)).bind fun t136 => (if t136 = true then ((impl_GoodName.f k ((rd_T69 x5 x7).f1)).bind fun t137 => (if t137 = true then (if x7 > 0 then (if 0 ≤ (wrap64 (x7 - 1)) then (if (wrap64 (x7 - 1)) < (x0.length : Int) then (if ((rd_T69 x0 (wrap64 (x7 - 1))).f0) > ((rd_T69 x5 x7).f0) then (some false) else (impl_areMeant.l0 k x0 x5 x6 (wrap64 (x7 + 1)))) else (none)) else (none)) else (impl_areMeant.l0 k x0 x5 x6 (wrap64 (x7 + 1)))) else (some false))) else (some false))) else (none)) else (none)) else (some (decide ((x0.length : Int) ≤ 200)))
def impl_areMeant.f (k : Nat) (l0 : List (S69)) : Option (Bool) := impl_areMeant.l0 k l0 l0 (l0.length : Int) 0
theorem impl_areMeant.mono_l : ∀ k, (∀ y0 y1 y2 y3, LeO (impl_areMeant.l0 k y0 y1 y2 y3) (impl_areMeant.l0 (k + 1) y0 y1 y2 y3))
 | 0 => fun _ _ _ _ r h => by simp [impl_areMeant.l0] at h
 | k + 1 => by
  have ih0 := impl_areMeant.mono_l k
  ·intro y0 y1 y2 y3
   unfold impl_areMeant.l0
   repeat' first
   | (with_reducible exact ih0 _ _ _ _)
   | (with_reducible exact impl_GoodName.mono _ _)
   | (with_reducible exact LeO.refl _)
   | (with_reducible exact LeO.none _)
   | (with_reducible refine LeO.ite ?_ ?_)
   | (with_reducible refine LeO.bind ?_ (fun _ => ?_))
   | exact ih0 _ _ _ _
   | exact impl_GoodName.mono _ _
   | exact LeO.none _
   | refine LeO.ite ?_ ?_
   | refine LeO.bind ?_ (fun _ => ?_)
theorem impl_areMeant.mono : ∀ a0 k, LeO (impl_areMeant.f k a0) (impl_areMeant.f (k + 1) a0) := by
 intro a0 k
 have ih0 := impl_areMeant.mono_l k
 unfold impl_areMeant.f
 repeat' first
   | (with_reducible exact ih0 _ _ _ _)
   | (with_reducible exact impl_GoodName.mono _ _)
   | (with_reducible exact LeO.refl _)
   | (with_reducible exact LeO.none _)
   | (with_reducible refine LeO.ite ?_ ?_)
   | (with_reducible refine LeO.bind ?_ (fun _ => ?_))
   | exact ih0 _ _ _ _
   | exact impl_GoodName.mono _ _
   | exact LeO.none _
   | refine LeO.ite ?_ ?_
   | refine LeO.bind ?_ (fun _ => ?_)
set_option maxHeartbeats 8000000 in
set_option maxRecDepth 100000 in
theorem impl_areMeant.calls (k : Nat) (A0 : Option Addr) (c0 : Nat) (l0 : List (S69)) (r : Bool) (w : World) (hr0 : Kd.C k69 w A0 l0.length l0) (hc0 : l0.length ≤ c0) (h : impl_areMeant.f k l0 = some r) :
  Calls Try.prog 47 #[.slice A0 l0.length c0] w fun e w' => e = .returned (.bool r) ∧ Below w.heap.size w w' := by
 have hu69 := Try.underlying69
 have HR0 := Aside0.mk hr0
 have HC0 := Aside0.mk hc0
 clear hr0 hc0
 have HB := Aside0.mk (Below.refl w.heap.size w)
 have H : (impl_areMeant.l0 k l0 l0 (l0.length : Int) 0) = some r := h
 clear h
 have H' := Aside0.mk H
 clear H
 go_enter Try.func47, Try.ntmps47
 go_wp2
 repeat (go_quiet (fail); try go_wp2)
 go_loopg [7] k (fun kq v7 w' => ∃ (x7_1 : Int), v7 = .int .i64 x7_1 ∧ Aside0 (impl_areMeant.l0 kq l0 l0 (l0.length : Int) x7_1 = some r) ∧ Aside0 (kq ≤ k) ∧ Aside0 (Below w.heap.size w w'))
 case atStart => exact ⟨(0), (by first | rfl | (simp; done) | (simp [*]; done) | (simp [wrap64]; done)), H', ⟨Nat.le_refl _⟩, ⟨bw_ HB.out⟩⟩
 case round =>
  clear H'
  obtain ⟨x7_1, rfl, HA, HK1, HB⟩ := hrel
  cases gk with
  | zero => exact absurd HA.out (by simp [impl_areMeant.l0])
  | succ k1 =>
   have H := HA.out
   clear HA
   simp only [impl_areMeant.l0] at H
   by_cases c2 : x7_1 < (l0.length : Int)
   ·rw [if_pos c2] at H
    have c2b0 : decide (x7_1 < (l0.length : Int)) = true := decide_eq_true c2
    clear c2
    by_cases c3 : 0 ≤ x7_1
    ·rw [if_pos c3] at H
     have c3b0 : decide (0 ≤ x7_1) = true := decide_eq_true c3
     clear c3
     by_cases c4 : x7_1 < (l0.length : Int)
     ·rw [if_pos c4] at H
      have c4b0 : decide (x7_1 < (l0.length : Int)) = true := decide_eq_true c4
      clear c4
      obtain ⟨t136, A50, H⟩ := bE_ H
      have A5 := Aside0.mk A50
      clear A50
      by_cases c6 : t136 = true
      ·subst c6
       replace H := it_ H rfl
       obtain ⟨t137, A70, H⟩ := bE_ H
       have A7 := Aside0.mk A70
       clear A70
       by_cases c8 : t137 = true
       ·subst c8
        replace H := it_ H rfl
        by_cases c9 : x7_1 > 0
        ·rw [if_pos c9] at H
         have c9b0 : decide (0 < x7_1) = true := decide_eq_true c9
         clear c9
         obtain ⟨ji10, hji10⟩ : ∃ j_ : Int, (wrap64 (x7_1 - 1)) = j_ := ⟨_, rfl⟩
         replace H : (if 0 ≤ (ji10) then (if (ji10) < (l0.length : Int) then (if ((rd_T69 l0 (ji10)).f0) > ((rd_T69 l0 x7_1).f0) then (some false) else (impl_areMeant.l0 k1 l0 l0 (l0.length : Int) (wrap64 (x7_1 + 1)))) else (none)) else (none)) = some r := by first | (rw [hji10] at H; exact H) | (simp only [hji10] at H ⊢; exact H)
         (try rw [hji10] at A5)
         (try rw [hji10] at A7)
         have hji10w : (IntKind.i64.wrap (x7_1 - 1)) = ji10 := (i64_w _).trans hji10
         by_cases c11 : 0 ≤ (ji10)
         ·rw [if_pos c11] at H
          have c11b0 : decide (0 ≤ (ji10)) = true := decide_eq_true c11
          clear c11
          by_cases c12 : (ji10) < (l0.length : Int)
          ·rw [if_pos c12] at H
           have c12b0 : decide ((ji10) < (l0.length : Int)) = true := decide_eq_true c12
           clear c12
           by_cases c13 : ((rd_T69 l0 (ji10)).f0) > ((rd_T69 l0 x7_1).f0)
           ·rw [if_pos c13] at H
            have c13b0 : decide (((rd_T69 l0 x7_1).f0) < ((rd_T69 l0 (ji10)).f0)) = true := decide_eq_true c13
            clear c13
            obtain rfl := Option.some.inj H
            have p134 : 0 ≤ (x7_1 : Int) := of_decide_eq_true (by first | (with_reducible assumption) | assumption)
            have q134 : x7_1 < (l0.length : Int) := of_decide_eq_true (by first | (with_reducible assumption) | assumption)
            obtain ⟨ad134, e134, hx134_0, hx134_1, hx134_2⟩ := at_T69 HR0.out x7_1 p134 q134
            cases e134
            (try replace hx134_0 := (HB.out.cell (World.block_lt_of_cell? w _ hx134_0)).trans hx134_0)
            (try replace hx134_1 := (HB.out.cell (World.block_lt_of_cell? w _ hx134_1)).trans hx134_1)
            (try replace hx134_2 := (HB.out.cell (World.block_lt_of_cell? w _ hx134_2)).trans hx134_2)
            replace p134 := eq_true p134
            replace q134 := eq_true q134
            go_wp2_with (first | ((with_reducible refine gate_dst (N := 4) rfl ?_); refine bx_ 4 #[.int .i64 0, .string (⟨#[]⟩ : ByteArray), .bool false] 69 ?_; intro gb135 hg w14 hbox hb; have n0_ := Aside0.mk (below_step (bw_ HB.out) hb); have n1_ := Aside0.mk (hbox); have n2_ := Aside0.mk (gs_ hg (bw_ HB.out)); have n3_ := Aside0.mk (gs_ hg (bw_ HB.out)); clear HB; have HB := n0_; have BK135 := n1_; have GW135 := n2_; have GE135 := n3_; clear n0_ n1_ n2_ n3_; clear hb hbox hg; have hcz15_0 := cz_ BK135.out 0; have hcz15_1 := cz_ BK135.out 1; have hcz15_2 := cz_ BK135.out 2; have hfz15_0 := blk_frozen BK135.out 0; have hfz15_1 := blk_frozen BK135.out 1; have hfz15_2 := blk_frozen BK135.out 2) | (go_at_call 49; (with_reducible refine (impl_isTime.calls ((rd_T69 l0 x7_1).f0) true _ A5.out).mono ?_); rintro e w' ⟨rfl, ⟨nd, rfl⟩⟩; (try first | exact ⟨rfl, _, World.drewN_drewN _ _ _⟩ | exact ⟨rfl, _, Eq.trans (World.drewN_drewN _ _ _) (congrArg (World.drewN _) (Nat.add_assoc _ _ _))⟩)) | (go_at_call 48; (with_reducible refine (impl_GoodName.calls k1 ((rd_T69 l0 x7_1).f1) true _ A7.out).mono ?_); rintro e w' ⟨rfl, ⟨nd, rfl⟩⟩; (try first | exact ⟨rfl, _, World.drewN_drewN _ _ _⟩ | exact ⟨rfl, _, Eq.trans (World.drewN_drewN _ _ _) (congrArg (World.drewN _) (Nat.add_assoc _ _ _))⟩); have p138 : 0 ≤ ((ji10) : Int) := of_decide_eq_true (by first | (with_reducible assumption) | assumption); have q138 : (ji10) < (l0.length : Int) := of_decide_eq_true (by first | (with_reducible assumption) | assumption); obtain ⟨ad138, e138, hx138_0, hx138_1, hx138_2⟩ := at_T69 HR0.out (ji10) p138 q138; obtain rfl : ad134 = ad138 := (by injection e138); have hn138_0 : ad134.block ≠ gb135 := Nat.ne_of_lt (Nat.lt_of_lt_of_le (by have := World.block_lt_of_cell? _ _ hx138_0; first | rwa [add_block] at this | exact this) GW135.out); have hn138_1 : ad134.block ≠ gb135 := Nat.ne_of_lt (Nat.lt_of_lt_of_le (by have := World.block_lt_of_cell? _ _ hx138_0; first | rwa [add_block] at this | exact this) GW135.out); have hn138_2 : ad134.block ≠ gb135 := Nat.ne_of_lt (Nat.lt_of_lt_of_le (by have := World.block_lt_of_cell? _ _ hx138_0; first | rwa [add_block] at this | exact this) GW135.out); (try replace hx138_0 := (HB.out.cell (World.block_lt_of_cell? w _ hx138_0)).trans hx138_0); (try replace hx138_1 := (HB.out.cell (World.block_lt_of_cell? w _ hx138_1)).trans hx138_1); (try replace hx138_2 := (HB.out.cell (World.block_lt_of_cell? w _ hx138_2)).trans hx138_2); replace hx138_0 := (cell_far (p := ⟨gb135, 0, none⟩) (by first | (rw [add_block]; exact hn138_0) | (show (Addr.add _ _).block ≠ _; rw [add_block]; exact hn138_0) | exact hn138_0) (.int .i64 ((rd_T69 l0 x7_1).f0))).trans hx138_0; replace hx138_1 := (cell_far (p := ⟨gb135, 0, none⟩) (by first | (rw [add_block]; exact hn138_0) | (show (Addr.add _ _).block ≠ _; rw [add_block]; exact hn138_0) | exact hn138_0) (.int .i64 ((rd_T69 l0 x7_1).f0))).trans hx138_1; replace hx138_2 := (cell_far (p := ⟨gb135, 0, none⟩) (by first | (rw [add_block]; exact hn138_0) | (show (Addr.add _ _).block ≠ _; rw [add_block]; exact hn138_0) | exact hn138_0) (.int .i64 ((rd_T69 l0 x7_1).f0))).trans hx138_2; replace hx138_0 := (cell_far (p := ⟨gb135, 1, none⟩) (by first | (rw [add_block]; exact hn138_1) | (show (Addr.add _ _).block ≠ _; rw [add_block]; exact hn138_1) | exact hn138_1) (.string ((rd_T69 l0 x7_1).f1))).trans hx138_0; replace hx138_1 := (cell_far (p := ⟨gb135, 1, none⟩) (by first | (rw [add_block]; exact hn138_1) | (show (Addr.add _ _).block ≠ _; rw [add_block]; exact hn138_1) | exact hn138_1) (.string ((rd_T69 l0 x7_1).f1))).trans hx138_1; replace hx138_2 := (cell_far (p := ⟨gb135, 1, none⟩) (by first | (rw [add_block]; exact hn138_1) | (show (Addr.add _ _).block ≠ _; rw [add_block]; exact hn138_1) | exact hn138_1) (.string ((rd_T69 l0 x7_1).f1))).trans hx138_2; replace hx138_0 := (cell_far (p := ⟨gb135, 2, none⟩) (by first | (rw [add_block]; exact hn138_2) | (show (Addr.add _ _).block ≠ _; rw [add_block]; exact hn138_2) | exact hn138_2) (.bool ((rd_T69 l0 x7_1).f2))).trans hx138_0; replace hx138_1 := (cell_far (p := ⟨gb135, 2, none⟩) (by first | (rw [add_block]; exact hn138_2) | (show (Addr.add _ _).block ≠ _; rw [add_block]; exact hn138_2) | exact hn138_2) (.bool ((rd_T69 l0 x7_1).f2))).trans hx138_1; replace hx138_2 := (cell_far (p := ⟨gb135, 2, none⟩) (by first | (rw [add_block]; exact hn138_2) | (show (Addr.add _ _).block ≠ _; rw [add_block]; exact hn138_2) | exact hn138_2) (.bool ((rd_T69 l0 x7_1).f2))).trans hx138_2; (try have hy138_0 := fun (n_ : Nat) => (show (((((w14.drewN n_).setCell ⟨gb135, 0, none⟩ (.int .i64 ((rd_T69 l0 x7_1).f0))).setCell ⟨gb135, 1, none⟩ (.string ((rd_T69 l0 x7_1).f1))).setCell ⟨gb135, 2, none⟩ (.bool ((rd_T69 l0 x7_1).f2)))).cell? _ = some _ from hx138_0)); (try have hy138_1 := fun (n_ : Nat) => (show (((((w14.drewN n_).setCell ⟨gb135, 0, none⟩ (.int .i64 ((rd_T69 l0 x7_1).f0))).setCell ⟨gb135, 1, none⟩ (.string ((rd_T69 l0 x7_1).f1))).setCell ⟨gb135, 2, none⟩ (.bool ((rd_T69 l0 x7_1).f2)))).cell? _ = some _ from hx138_1)); (try have hy138_2 := fun (n_ : Nat) => (show (((((w14.drewN n_).setCell ⟨gb135, 0, none⟩ (.int .i64 ((rd_T69 l0 x7_1).f0))).setCell ⟨gb135, 1, none⟩ (.string ((rd_T69 l0 x7_1).f1))).setCell ⟨gb135, 2, none⟩ (.bool ((rd_T69 l0 x7_1).f2)))).cell? _ = some _ from hx138_2)); clear hn138_0; clear hn138_1; clear hn138_2; replace p138 := eq_true p138; replace q138 := eq_true q138))
            repeat (go_quiet (first | ((with_reducible refine gate_dst (N := 4) rfl ?_); refine bx_ 4 #[.int .i64 0, .string (⟨#[]⟩ : ByteArray), .bool false] 69 ?_; intro gb135 hg w14 hbox hb; have n0_ := Aside0.mk (below_step (bw_ HB.out) hb); have n1_ := Aside0.mk (hbox); have n2_ := Aside0.mk (gs_ hg (bw_ HB.out)); have n3_ := Aside0.mk (gs_ hg (bw_ HB.out)); clear HB; have HB := n0_; have BK135 := n1_; have GW135 := n2_; have GE135 := n3_; clear n0_ n1_ n2_ n3_; clear hb hbox hg; have hcz15_0 := cz_ BK135.out 0; have hcz15_1 := cz_ BK135.out 1; have hcz15_2 := cz_ BK135.out 2; have hfz15_0 := blk_frozen BK135.out 0; have hfz15_1 := blk_frozen BK135.out 1; have hfz15_2 := blk_frozen BK135.out 2) | (go_at_call 49; (with_reducible refine (impl_isTime.calls ((rd_T69 l0 x7_1).f0) true _ A5.out).mono ?_); rintro e w' ⟨rfl, ⟨nd, rfl⟩⟩; (try first | exact ⟨rfl, _, World.drewN_drewN _ _ _⟩ | exact ⟨rfl, _, Eq.trans (World.drewN_drewN _ _ _) (congrArg (World.drewN _) (Nat.add_assoc _ _ _))⟩)) | (go_at_call 48; (with_reducible refine (impl_GoodName.calls k1 ((rd_T69 l0 x7_1).f1) true _ A7.out).mono ?_); rintro e w' ⟨rfl, ⟨nd, rfl⟩⟩; (try first | exact ⟨rfl, _, World.drewN_drewN _ _ _⟩ | exact ⟨rfl, _, Eq.trans (World.drewN_drewN _ _ _) (congrArg (World.drewN _) (Nat.add_assoc _ _ _))⟩); have p138 : 0 ≤ ((ji10) : Int) := of_decide_eq_true (by first | (with_reducible assumption) | assumption); have q138 : (ji10) < (l0.length : Int) := of_decide_eq_true (by first | (with_reducible assumption) | assumption); obtain ⟨ad138, e138, hx138_0, hx138_1, hx138_2⟩ := at_T69 HR0.out (ji10) p138 q138; obtain rfl : ad134 = ad138 := (by injection e138); have hn138_0 : ad134.block ≠ gb135 := Nat.ne_of_lt (Nat.lt_of_lt_of_le (by have := World.block_lt_of_cell? _ _ hx138_0; first | rwa [add_block] at this | exact this) GW135.out); have hn138_1 : ad134.block ≠ gb135 := Nat.ne_of_lt (Nat.lt_of_lt_of_le (by have := World.block_lt_of_cell? _ _ hx138_0; first | rwa [add_block] at this | exact this) GW135.out); have hn138_2 : ad134.block ≠ gb135 := Nat.ne_of_lt (Nat.lt_of_lt_of_le (by have := World.block_lt_of_cell? _ _ hx138_0; first | rwa [add_block] at this | exact this) GW135.out); (try replace hx138_0 := (HB.out.cell (World.block_lt_of_cell? w _ hx138_0)).trans hx138_0); (try replace hx138_1 := (HB.out.cell (World.block_lt_of_cell? w _ hx138_1)).trans hx138_1); (try replace hx138_2 := (HB.out.cell (World.block_lt_of_cell? w _ hx138_2)).trans hx138_2); replace hx138_0 := (cell_far (p := ⟨gb135, 0, none⟩) (by first | (rw [add_block]; exact hn138_0) | (show (Addr.add _ _).block ≠ _; rw [add_block]; exact hn138_0) | exact hn138_0) (.int .i64 ((rd_T69 l0 x7_1).f0))).trans hx138_0; replace hx138_1 := (cell_far (p := ⟨gb135, 0, none⟩) (by first | (rw [add_block]; exact hn138_0) | (show (Addr.add _ _).block ≠ _; rw [add_block]; exact hn138_0) | exact hn138_0) (.int .i64 ((rd_T69 l0 x7_1).f0))).trans hx138_1; replace hx138_2 := (cell_far (p := ⟨gb135, 0, none⟩) (by first | (rw [add_block]; exact hn138_0) | (show (Addr.add _ _).block ≠ _; rw [add_block]; exact hn138_0) | exact hn138_0) (.int .i64 ((rd_T69 l0 x7_1).f0))).trans hx138_2; replace hx138_0 := (cell_far (p := ⟨gb135, 1, none⟩) (by first | (rw [add_block]; exact hn138_1) | (show (Addr.add _ _).block ≠ _; rw [add_block]; exact hn138_1) | exact hn138_1) (.string ((rd_T69 l0 x7_1).f1))).trans hx138_0; replace hx138_1 := (cell_far (p := ⟨gb135, 1, none⟩) (by first | (rw [add_block]; exact hn138_1) | (show (Addr.add _ _).block ≠ _; rw [add_block]; exact hn138_1) | exact hn138_1) (.string ((rd_T69 l0 x7_1).f1))).trans hx138_1; replace hx138_2 := (cell_far (p := ⟨gb135, 1, none⟩) (by first | (rw [add_block]; exact hn138_1) | (show (Addr.add _ _).block ≠ _; rw [add_block]; exact hn138_1) | exact hn138_1) (.string ((rd_T69 l0 x7_1).f1))).trans hx138_2; replace hx138_0 := (cell_far (p := ⟨gb135, 2, none⟩) (by first | (rw [add_block]; exact hn138_2) | (show (Addr.add _ _).block ≠ _; rw [add_block]; exact hn138_2) | exact hn138_2) (.bool ((rd_T69 l0 x7_1).f2))).trans hx138_0; replace hx138_1 := (cell_far (p := ⟨gb135, 2, none⟩) (by first | (rw [add_block]; exact hn138_2) | (show (Addr.add _ _).block ≠ _; rw [add_block]; exact hn138_2) | exact hn138_2) (.bool ((rd_T69 l0 x7_1).f2))).trans hx138_1; replace hx138_2 := (cell_far (p := ⟨gb135, 2, none⟩) (by first | (rw [add_block]; exact hn138_2) | (show (Addr.add _ _).block ≠ _; rw [add_block]; exact hn138_2) | exact hn138_2) (.bool ((rd_T69 l0 x7_1).f2))).trans hx138_2; (try have hy138_0 := fun (n_ : Nat) => (show (((((w14.drewN n_).setCell ⟨gb135, 0, none⟩ (.int .i64 ((rd_T69 l0 x7_1).f0))).setCell ⟨gb135, 1, none⟩ (.string ((rd_T69 l0 x7_1).f1))).setCell ⟨gb135, 2, none⟩ (.bool ((rd_T69 l0 x7_1).f2)))).cell? _ = some _ from hx138_0)); (try have hy138_1 := fun (n_ : Nat) => (show (((((w14.drewN n_).setCell ⟨gb135, 0, none⟩ (.int .i64 ((rd_T69 l0 x7_1).f0))).setCell ⟨gb135, 1, none⟩ (.string ((rd_T69 l0 x7_1).f1))).setCell ⟨gb135, 2, none⟩ (.bool ((rd_T69 l0 x7_1).f2)))).cell? _ = some _ from hx138_1)); (try have hy138_2 := fun (n_ : Nat) => (show (((((w14.drewN n_).setCell ⟨gb135, 0, none⟩ (.int .i64 ((rd_T69 l0 x7_1).f0))).setCell ⟨gb135, 1, none⟩ (.string ((rd_T69 l0 x7_1).f1))).setCell ⟨gb135, 2, none⟩ (.bool ((rd_T69 l0 x7_1).f2)))).cell? _ = some _ from hx138_2)); clear hn138_0; clear hn138_1; clear hn138_2; replace p138 := eq_true p138; replace q138 := eq_true q138)); try go_wp2_with (first | ((with_reducible refine gate_dst (N := 4) rfl ?_); refine bx_ 4 #[.int .i64 0, .string (⟨#[]⟩ : ByteArray), .bool false] 69 ?_; intro gb135 hg w14 hbox hb; have n0_ := Aside0.mk (below_step (bw_ HB.out) hb); have n1_ := Aside0.mk (hbox); have n2_ := Aside0.mk (gs_ hg (bw_ HB.out)); have n3_ := Aside0.mk (gs_ hg (bw_ HB.out)); clear HB; have HB := n0_; have BK135 := n1_; have GW135 := n2_; have GE135 := n3_; clear n0_ n1_ n2_ n3_; clear hb hbox hg; have hcz15_0 := cz_ BK135.out 0; have hcz15_1 := cz_ BK135.out 1; have hcz15_2 := cz_ BK135.out 2; have hfz15_0 := blk_frozen BK135.out 0; have hfz15_1 := blk_frozen BK135.out 1; have hfz15_2 := blk_frozen BK135.out 2) | (go_at_call 49; (with_reducible refine (impl_isTime.calls ((rd_T69 l0 x7_1).f0) true _ A5.out).mono ?_); rintro e w' ⟨rfl, ⟨nd, rfl⟩⟩; (try first | exact ⟨rfl, _, World.drewN_drewN _ _ _⟩ | exact ⟨rfl, _, Eq.trans (World.drewN_drewN _ _ _) (congrArg (World.drewN _) (Nat.add_assoc _ _ _))⟩)) | (go_at_call 48; (with_reducible refine (impl_GoodName.calls k1 ((rd_T69 l0 x7_1).f1) true _ A7.out).mono ?_); rintro e w' ⟨rfl, ⟨nd, rfl⟩⟩; (try first | exact ⟨rfl, _, World.drewN_drewN _ _ _⟩ | exact ⟨rfl, _, Eq.trans (World.drewN_drewN _ _ _) (congrArg (World.drewN _) (Nat.add_assoc _ _ _))⟩); have p138 : 0 ≤ ((ji10) : Int) := of_decide_eq_true (by first | (with_reducible assumption) | assumption); have q138 : (ji10) < (l0.length : Int) := of_decide_eq_true (by first | (with_reducible assumption) | assumption); obtain ⟨ad138, e138, hx138_0, hx138_1, hx138_2⟩ := at_T69 HR0.out (ji10) p138 q138; obtain rfl : ad134 = ad138 := (by injection e138); have hn138_0 : ad134.block ≠ gb135 := Nat.ne_of_lt (Nat.lt_of_lt_of_le (by have := World.block_lt_of_cell? _ _ hx138_0; first | rwa [add_block] at this | exact this) GW135.out); have hn138_1 : ad134.block ≠ gb135 := Nat.ne_of_lt (Nat.lt_of_lt_of_le (by have := World.block_lt_of_cell? _ _ hx138_0; first | rwa [add_block] at this | exact this) GW135.out); have hn138_2 : ad134.block ≠ gb135 := Nat.ne_of_lt (Nat.lt_of_lt_of_le (by have := World.block_lt_of_cell? _ _ hx138_0; first | rwa [add_block] at this | exact this) GW135.out); (try replace hx138_0 := (HB.out.cell (World.block_lt_of_cell? w _ hx138_0)).trans hx138_0); (try replace hx138_1 := (HB.out.cell (World.block_lt_of_cell? w _ hx138_1)).trans hx138_1); (try replace hx138_2 := (HB.out.cell (World.block_lt_of_cell? w _ hx138_2)).trans hx138_2); replace hx138_0 := (cell_far (p := ⟨gb135, 0, none⟩) (by first | (rw [add_block]; exact hn138_0) | (show (Addr.add _ _).block ≠ _; rw [add_block]; exact hn138_0) | exact hn138_0) (.int .i64 ((rd_T69 l0 x7_1).f0))).trans hx138_0; replace hx138_1 := (cell_far (p := ⟨gb135, 0, none⟩) (by first | (rw [add_block]; exact hn138_0) | (show (Addr.add _ _).block ≠ _; rw [add_block]; exact hn138_0) | exact hn138_0) (.int .i64 ((rd_T69 l0 x7_1).f0))).trans hx138_1; replace hx138_2 := (cell_far (p := ⟨gb135, 0, none⟩) (by first | (rw [add_block]; exact hn138_0) | (show (Addr.add _ _).block ≠ _; rw [add_block]; exact hn138_0) | exact hn138_0) (.int .i64 ((rd_T69 l0 x7_1).f0))).trans hx138_2; replace hx138_0 := (cell_far (p := ⟨gb135, 1, none⟩) (by first | (rw [add_block]; exact hn138_1) | (show (Addr.add _ _).block ≠ _; rw [add_block]; exact hn138_1) | exact hn138_1) (.string ((rd_T69 l0 x7_1).f1))).trans hx138_0; replace hx138_1 := (cell_far (p := ⟨gb135, 1, none⟩) (by first | (rw [add_block]; exact hn138_1) | (show (Addr.add _ _).block ≠ _; rw [add_block]; exact hn138_1) | exact hn138_1) (.string ((rd_T69 l0 x7_1).f1))).trans hx138_1; replace hx138_2 := (cell_far (p := ⟨gb135, 1, none⟩) (by first | (rw [add_block]; exact hn138_1) | (show (Addr.add _ _).block ≠ _; rw [add_block]; exact hn138_1) | exact hn138_1) (.string ((rd_T69 l0 x7_1).f1))).trans hx138_2; replace hx138_0 := (cell_far (p := ⟨gb135, 2, none⟩) (by first | (rw [add_block]; exact hn138_2) | (show (Addr.add _ _).block ≠ _; rw [add_block]; exact hn138_2) | exact hn138_2) (.bool ((rd_T69 l0 x7_1).f2))).trans hx138_0; replace hx138_1 := (cell_far (p := ⟨gb135, 2, none⟩) (by first | (rw [add_block]; exact hn138_2) | (show (Addr.add _ _).block ≠ _; rw [add_block]; exact hn138_2) | exact hn138_2) (.bool ((rd_T69 l0 x7_1).f2))).trans hx138_1; replace hx138_2 := (cell_far (p := ⟨gb135, 2, none⟩) (by first | (rw [add_block]; exact hn138_2) | (show (Addr.add _ _).block ≠ _; rw [add_block]; exact hn138_2) | exact hn138_2) (.bool ((rd_T69 l0 x7_1).f2))).trans hx138_2; (try have hy138_0 := fun (n_ : Nat) => (show (((((w14.drewN n_).setCell ⟨gb135, 0, none⟩ (.int .i64 ((rd_T69 l0 x7_1).f0))).setCell ⟨gb135, 1, none⟩ (.string ((rd_T69 l0 x7_1).f1))).setCell ⟨gb135, 2, none⟩ (.bool ((rd_T69 l0 x7_1).f2)))).cell? _ = some _ from hx138_0)); (try have hy138_1 := fun (n_ : Nat) => (show (((((w14.drewN n_).setCell ⟨gb135, 0, none⟩ (.int .i64 ((rd_T69 l0 x7_1).f0))).setCell ⟨gb135, 1, none⟩ (.string ((rd_T69 l0 x7_1).f1))).setCell ⟨gb135, 2, none⟩ (.bool ((rd_T69 l0 x7_1).f2)))).cell? _ = some _ from hx138_1)); (try have hy138_2 := fun (n_ : Nat) => (show (((((w14.drewN n_).setCell ⟨gb135, 0, none⟩ (.int .i64 ((rd_T69 l0 x7_1).f0))).setCell ⟨gb135, 1, none⟩ (.string ((rd_T69 l0 x7_1).f1))).setCell ⟨gb135, 2, none⟩ (.bool ((rd_T69 l0 x7_1).f2)))).cell? _ = some _ from hx138_2)); clear hn138_0; clear hn138_1; clear hn138_2; replace p138 := eq_true p138; replace q138 := eq_true q138)))
            go_ret
            exact ⟨by first | rfl | (simp [errW_none, errW_some] <;> rfl) | (simp only [← hji10]; first | rfl | (simp [errW_none, errW_some] <;> rfl)) | (simp [*, errW_none, errW_some] <;> rfl), bw_ HB.out⟩
           ·rw [if_neg c13] at H
            have c13b0 : decide (((rd_T69 l0 x7_1).f0) < ((rd_T69 l0 (ji10)).f0)) = false := decide_eq_false c13
            clear c13
            have H' := Aside0.mk H
            clear H
            have p134 : 0 ≤ (x7_1 : Int) := of_decide_eq_true (by first | (with_reducible assumption) | assumption)
            have q134 : x7_1 < (l0.length : Int) := of_decide_eq_true (by first | (with_reducible assumption) | assumption)
            obtain ⟨ad134, e134, hx134_0, hx134_1, hx134_2⟩ := at_T69 HR0.out x7_1 p134 q134
            cases e134
            (try replace hx134_0 := (HB.out.cell (World.block_lt_of_cell? w _ hx134_0)).trans hx134_0)
            (try replace hx134_1 := (HB.out.cell (World.block_lt_of_cell? w _ hx134_1)).trans hx134_1)
            (try replace hx134_2 := (HB.out.cell (World.block_lt_of_cell? w _ hx134_2)).trans hx134_2)
            replace p134 := eq_true p134
            replace q134 := eq_true q134
            go_wp2_with (first | ((with_reducible refine gate_dst (N := 4) rfl ?_); refine bx_ 4 #[.int .i64 0, .string (⟨#[]⟩ : ByteArray), .bool false] 69 ?_; intro gb135 hg w16 hbox hb; have n0_ := Aside0.mk (below_step (bw_ HB.out) hb); have n1_ := Aside0.mk (hbox); have n2_ := Aside0.mk (gs_ hg (bw_ HB.out)); have n3_ := Aside0.mk (gs_ hg (bw_ HB.out)); clear HB; have HB := n0_; have BK135 := n1_; have GW135 := n2_; have GE135 := n3_; clear n0_ n1_ n2_ n3_; clear hb hbox hg; have hcz17_0 := cz_ BK135.out 0; have hcz17_1 := cz_ BK135.out 1; have hcz17_2 := cz_ BK135.out 2; have hfz17_0 := blk_frozen BK135.out 0; have hfz17_1 := blk_frozen BK135.out 1; have hfz17_2 := blk_frozen BK135.out 2) | (go_at_call 49; (with_reducible refine (impl_isTime.calls ((rd_T69 l0 x7_1).f0) true _ A5.out).mono ?_); rintro e w' ⟨rfl, ⟨nd, rfl⟩⟩; (try first | exact ⟨rfl, _, World.drewN_drewN _ _ _⟩ | exact ⟨rfl, _, Eq.trans (World.drewN_drewN _ _ _) (congrArg (World.drewN _) (Nat.add_assoc _ _ _))⟩)) | (go_at_call 48; (with_reducible refine (impl_GoodName.calls k1 ((rd_T69 l0 x7_1).f1) true _ A7.out).mono ?_); rintro e w' ⟨rfl, ⟨nd, rfl⟩⟩; (try first | exact ⟨rfl, _, World.drewN_drewN _ _ _⟩ | exact ⟨rfl, _, Eq.trans (World.drewN_drewN _ _ _) (congrArg (World.drewN _) (Nat.add_assoc _ _ _))⟩); have p138 : 0 ≤ ((ji10) : Int) := of_decide_eq_true (by first | (with_reducible assumption) | assumption); have q138 : (ji10) < (l0.length : Int) := of_decide_eq_true (by first | (with_reducible assumption) | assumption); obtain ⟨ad138, e138, hx138_0, hx138_1, hx138_2⟩ := at_T69 HR0.out (ji10) p138 q138; obtain rfl : ad134 = ad138 := (by injection e138); have hn138_0 : ad134.block ≠ gb135 := Nat.ne_of_lt (Nat.lt_of_lt_of_le (by have := World.block_lt_of_cell? _ _ hx138_0; first | rwa [add_block] at this | exact this) GW135.out); have hn138_1 : ad134.block ≠ gb135 := Nat.ne_of_lt (Nat.lt_of_lt_of_le (by have := World.block_lt_of_cell? _ _ hx138_0; first | rwa [add_block] at this | exact this) GW135.out); have hn138_2 : ad134.block ≠ gb135 := Nat.ne_of_lt (Nat.lt_of_lt_of_le (by have := World.block_lt_of_cell? _ _ hx138_0; first | rwa [add_block] at this | exact this) GW135.out); (try replace hx138_0 := (HB.out.cell (World.block_lt_of_cell? w _ hx138_0)).trans hx138_0); (try replace hx138_1 := (HB.out.cell (World.block_lt_of_cell? w _ hx138_1)).trans hx138_1); (try replace hx138_2 := (HB.out.cell (World.block_lt_of_cell? w _ hx138_2)).trans hx138_2); replace hx138_0 := (cell_far (p := ⟨gb135, 0, none⟩) (by first | (rw [add_block]; exact hn138_0) | (show (Addr.add _ _).block ≠ _; rw [add_block]; exact hn138_0) | exact hn138_0) (.int .i64 ((rd_T69 l0 x7_1).f0))).trans hx138_0; replace hx138_1 := (cell_far (p := ⟨gb135, 0, none⟩) (by first | (rw [add_block]; exact hn138_0) | (show (Addr.add _ _).block ≠ _; rw [add_block]; exact hn138_0) | exact hn138_0) (.int .i64 ((rd_T69 l0 x7_1).f0))).trans hx138_1; replace hx138_2 := (cell_far (p := ⟨gb135, 0, none⟩) (by first | (rw [add_block]; exact hn138_0) | (show (Addr.add _ _).block ≠ _; rw [add_block]; exact hn138_0) | exact hn138_0) (.int .i64 ((rd_T69 l0 x7_1).f0))).trans hx138_2; replace hx138_0 := (cell_far (p := ⟨gb135, 1, none⟩) (by first | (rw [add_block]; exact hn138_1) | (show (Addr.add _ _).block ≠ _; rw [add_block]; exact hn138_1) | exact hn138_1) (.string ((rd_T69 l0 x7_1).f1))).trans hx138_0; replace hx138_1 := (cell_far (p := ⟨gb135, 1, none⟩) (by first | (rw [add_block]; exact hn138_1) | (show (Addr.add _ _).block ≠ _; rw [add_block]; exact hn138_1) | exact hn138_1) (.string ((rd_T69 l0 x7_1).f1))).trans hx138_1; replace hx138_2 := (cell_far (p := ⟨gb135, 1, none⟩) (by first | (rw [add_block]; exact hn138_1) | (show (Addr.add _ _).block ≠ _; rw [add_block]; exact hn138_1) | exact hn138_1) (.string ((rd_T69 l0 x7_1).f1))).trans hx138_2; replace hx138_0 := (cell_far (p := ⟨gb135, 2, none⟩) (by first | (rw [add_block]; exact hn138_2) | (show (Addr.add _ _).block ≠ _; rw [add_block]; exact hn138_2) | exact hn138_2) (.bool ((rd_T69 l0 x7_1).f2))).trans hx138_0; replace hx138_1 := (cell_far (p := ⟨gb135, 2, none⟩) (by first | (rw [add_block]; exact hn138_2) | (show (Addr.add _ _).block ≠ _; rw [add_block]; exact hn138_2) | exact hn138_2) (.bool ((rd_T69 l0 x7_1).f2))).trans hx138_1; replace hx138_2 := (cell_far (p := ⟨gb135, 2, none⟩) (by first | (rw [add_block]; exact hn138_2) | (show (Addr.add _ _).block ≠ _; rw [add_block]; exact hn138_2) | exact hn138_2) (.bool ((rd_T69 l0 x7_1).f2))).trans hx138_2; (try have hy138_0 := fun (n_ : Nat) => (show (((((w16.drewN n_).setCell ⟨gb135, 0, none⟩ (.int .i64 ((rd_T69 l0 x7_1).f0))).setCell ⟨gb135, 1, none⟩ (.string ((rd_T69 l0 x7_1).f1))).setCell ⟨gb135, 2, none⟩ (.bool ((rd_T69 l0 x7_1).f2)))).cell? _ = some _ from hx138_0)); (try have hy138_1 := fun (n_ : Nat) => (show (((((w16.drewN n_).setCell ⟨gb135, 0, none⟩ (.int .i64 ((rd_T69 l0 x7_1).f0))).setCell ⟨gb135, 1, none⟩ (.string ((rd_T69 l0 x7_1).f1))).setCell ⟨gb135, 2, none⟩ (.bool ((rd_T69 l0 x7_1).f2)))).cell? _ = some _ from hx138_1)); (try have hy138_2 := fun (n_ : Nat) => (show (((((w16.drewN n_).setCell ⟨gb135, 0, none⟩ (.int .i64 ((rd_T69 l0 x7_1).f0))).setCell ⟨gb135, 1, none⟩ (.string ((rd_T69 l0 x7_1).f1))).setCell ⟨gb135, 2, none⟩ (.bool ((rd_T69 l0 x7_1).f2)))).cell? _ = some _ from hx138_2)); clear hn138_0; clear hn138_1; clear hn138_2; replace p138 := eq_true p138; replace q138 := eq_true q138))
            repeat (go_quiet (first | ((with_reducible refine gate_dst (N := 4) rfl ?_); refine bx_ 4 #[.int .i64 0, .string (⟨#[]⟩ : ByteArray), .bool false] 69 ?_; intro gb135 hg w16 hbox hb; have n0_ := Aside0.mk (below_step (bw_ HB.out) hb); have n1_ := Aside0.mk (hbox); have n2_ := Aside0.mk (gs_ hg (bw_ HB.out)); have n3_ := Aside0.mk (gs_ hg (bw_ HB.out)); clear HB; have HB := n0_; have BK135 := n1_; have GW135 := n2_; have GE135 := n3_; clear n0_ n1_ n2_ n3_; clear hb hbox hg; have hcz17_0 := cz_ BK135.out 0; have hcz17_1 := cz_ BK135.out 1; have hcz17_2 := cz_ BK135.out 2; have hfz17_0 := blk_frozen BK135.out 0; have hfz17_1 := blk_frozen BK135.out 1; have hfz17_2 := blk_frozen BK135.out 2) | (go_at_call 49; (with_reducible refine (impl_isTime.calls ((rd_T69 l0 x7_1).f0) true _ A5.out).mono ?_); rintro e w' ⟨rfl, ⟨nd, rfl⟩⟩; (try first | exact ⟨rfl, _, World.drewN_drewN _ _ _⟩ | exact ⟨rfl, _, Eq.trans (World.drewN_drewN _ _ _) (congrArg (World.drewN _) (Nat.add_assoc _ _ _))⟩)) | (go_at_call 48; (with_reducible refine (impl_GoodName.calls k1 ((rd_T69 l0 x7_1).f1) true _ A7.out).mono ?_); rintro e w' ⟨rfl, ⟨nd, rfl⟩⟩; (try first | exact ⟨rfl, _, World.drewN_drewN _ _ _⟩ | exact ⟨rfl, _, Eq.trans (World.drewN_drewN _ _ _) (congrArg (World.drewN _) (Nat.add_assoc _ _ _))⟩); have p138 : 0 ≤ ((ji10) : Int) := of_decide_eq_true (by first | (with_reducible assumption) | assumption); have q138 : (ji10) < (l0.length : Int) := of_decide_eq_true (by first | (with_reducible assumption) | assumption); obtain ⟨ad138, e138, hx138_0, hx138_1, hx138_2⟩ := at_T69 HR0.out (ji10) p138 q138; obtain rfl : ad134 = ad138 := (by injection e138); have hn138_0 : ad134.block ≠ gb135 := Nat.ne_of_lt (Nat.lt_of_lt_of_le (by have := World.block_lt_of_cell? _ _ hx138_0; first | rwa [add_block] at this | exact this) GW135.out); have hn138_1 : ad134.block ≠ gb135 := Nat.ne_of_lt (Nat.lt_of_lt_of_le (by have := World.block_lt_of_cell? _ _ hx138_0; first | rwa [add_block] at this | exact this) GW135.out); have hn138_2 : ad134.block ≠ gb135 := Nat.ne_of_lt (Nat.lt_of_lt_of_le (by have := World.block_lt_of_cell? _ _ hx138_0; first | rwa [add_block] at this | exact this) GW135.out); (try replace hx138_0 := (HB.out.cell (World.block_lt_of_cell? w _ hx138_0)).trans hx138_0); (try replace hx138_1 := (HB.out.cell (World.block_lt_of_cell? w _ hx138_1)).trans hx138_1); (try replace hx138_2 := (HB.out.cell (World.block_lt_of_cell? w _ hx138_2)).trans hx138_2); replace hx138_0 := (cell_far (p := ⟨gb135, 0, none⟩) (by first | (rw [add_block]; exact hn138_0) | (show (Addr.add _ _).block ≠ _; rw [add_block]; exact hn138_0) | exact hn138_0) (.int .i64 ((rd_T69 l0 x7_1).f0))).trans hx138_0; replace hx138_1 := (cell_far (p := ⟨gb135, 0, none⟩) (by first | (rw [add_block]; exact hn138_0) | (show (Addr.add _ _).block ≠ _; rw [add_block]; exact hn138_0) | exact hn138_0) (.int .i64 ((rd_T69 l0 x7_1).f0))).trans hx138_1; replace hx138_2 := (cell_far (p := ⟨gb135, 0, none⟩) (by first | (rw [add_block]; exact hn138_0) | (show (Addr.add _ _).block ≠ _; rw [add_block]; exact hn138_0) | exact hn138_0) (.int .i64 ((rd_T69 l0 x7_1).f0))).trans hx138_2; replace hx138_0 := (cell_far (p := ⟨gb135, 1, none⟩) (by first | (rw [add_block]; exact hn138_1) | (show (Addr.add _ _).block ≠ _; rw [add_block]; exact hn138_1) | exact hn138_1) (.string ((rd_T69 l0 x7_1).f1))).trans hx138_0; replace hx138_1 := (cell_far (p := ⟨gb135, 1, none⟩) (by first | (rw [add_block]; exact hn138_1) | (show (Addr.add _ _).block ≠ _; rw [add_block]; exact hn138_1) | exact hn138_1) (.string ((rd_T69 l0 x7_1).f1))).trans hx138_1; replace hx138_2 := (cell_far (p := ⟨gb135, 1, none⟩) (by first | (rw [add_block]; exact hn138_1) | (show (Addr.add _ _).block ≠ _; rw [add_block]; exact hn138_1) | exact hn138_1) (.string ((rd_T69 l0 x7_1).f1))).trans hx138_2; replace hx138_0 := (cell_far (p := ⟨gb135, 2, none⟩) (by first | (rw [add_block]; exact hn138_2) | (show (Addr.add _ _).block ≠ _; rw [add_block]; exact hn138_2) | exact hn138_2) (.bool ((rd_T69 l0 x7_1).f2))).trans hx138_0; replace hx138_1 := (cell_far (p := ⟨gb135, 2, none⟩) (by first | (rw [add_block]; exact hn138_2) | (show (Addr.add _ _).block ≠ _; rw [add_block]; exact hn138_2) | exact hn138_2) (.bool ((rd_T69 l0 x7_1).f2))).trans hx138_1; replace hx138_2 := (cell_far (p := ⟨gb135, 2, none⟩) (by first | (rw [add_block]; exact hn138_2) | (show (Addr.add _ _).block ≠ _; rw [add_block]; exact hn138_2) | exact hn138_2) (.bool ((rd_T69 l0 x7_1).f2))).trans hx138_2; (try have hy138_0 := fun (n_ : Nat) => (show (((((w16.drewN n_).setCell ⟨gb135, 0, none⟩ (.int .i64 ((rd_T69 l0 x7_1).f0))).setCell ⟨gb135, 1, none⟩ (.string ((rd_T69 l0 x7_1).f1))).setCell ⟨gb135, 2, none⟩ (.bool ((rd_T69 l0 x7_1).f2)))).cell? _ = some _ from hx138_0)); (try have hy138_1 := fun (n_ : Nat) => (show (((((w16.drewN n_).setCell ⟨gb135, 0, none⟩ (.int .i64 ((rd_T69 l0 x7_1).f0))).setCell ⟨gb135, 1, none⟩ (.string ((rd_T69 l0 x7_1).f1))).setCell ⟨gb135, 2, none⟩ (.bool ((rd_T69 l0 x7_1).f2)))).cell? _ = some _ from hx138_1)); (try have hy138_2 := fun (n_ : Nat) => (show (((((w16.drewN n_).setCell ⟨gb135, 0, none⟩ (.int .i64 ((rd_T69 l0 x7_1).f0))).setCell ⟨gb135, 1, none⟩ (.string ((rd_T69 l0 x7_1).f1))).setCell ⟨gb135, 2, none⟩ (.bool ((rd_T69 l0 x7_1).f2)))).cell? _ = some _ from hx138_2)); clear hn138_0; clear hn138_1; clear hn138_2; replace p138 := eq_true p138; replace q138 := eq_true q138)); try go_wp2_with (first | ((with_reducible refine gate_dst (N := 4) rfl ?_); refine bx_ 4 #[.int .i64 0, .string (⟨#[]⟩ : ByteArray), .bool false] 69 ?_; intro gb135 hg w16 hbox hb; have n0_ := Aside0.mk (below_step (bw_ HB.out) hb); have n1_ := Aside0.mk (hbox); have n2_ := Aside0.mk (gs_ hg (bw_ HB.out)); have n3_ := Aside0.mk (gs_ hg (bw_ HB.out)); clear HB; have HB := n0_; have BK135 := n1_; have GW135 := n2_; have GE135 := n3_; clear n0_ n1_ n2_ n3_; clear hb hbox hg; have hcz17_0 := cz_ BK135.out 0; have hcz17_1 := cz_ BK135.out 1; have hcz17_2 := cz_ BK135.out 2; have hfz17_0 := blk_frozen BK135.out 0; have hfz17_1 := blk_frozen BK135.out 1; have hfz17_2 := blk_frozen BK135.out 2) | (go_at_call 49; (with_reducible refine (impl_isTime.calls ((rd_T69 l0 x7_1).f0) true _ A5.out).mono ?_); rintro e w' ⟨rfl, ⟨nd, rfl⟩⟩; (try first | exact ⟨rfl, _, World.drewN_drewN _ _ _⟩ | exact ⟨rfl, _, Eq.trans (World.drewN_drewN _ _ _) (congrArg (World.drewN _) (Nat.add_assoc _ _ _))⟩)) | (go_at_call 48; (with_reducible refine (impl_GoodName.calls k1 ((rd_T69 l0 x7_1).f1) true _ A7.out).mono ?_); rintro e w' ⟨rfl, ⟨nd, rfl⟩⟩; (try first | exact ⟨rfl, _, World.drewN_drewN _ _ _⟩ | exact ⟨rfl, _, Eq.trans (World.drewN_drewN _ _ _) (congrArg (World.drewN _) (Nat.add_assoc _ _ _))⟩); have p138 : 0 ≤ ((ji10) : Int) := of_decide_eq_true (by first | (with_reducible assumption) | assumption); have q138 : (ji10) < (l0.length : Int) := of_decide_eq_true (by first | (with_reducible assumption) | assumption); obtain ⟨ad138, e138, hx138_0, hx138_1, hx138_2⟩ := at_T69 HR0.out (ji10) p138 q138; obtain rfl : ad134 = ad138 := (by injection e138); have hn138_0 : ad134.block ≠ gb135 := Nat.ne_of_lt (Nat.lt_of_lt_of_le (by have := World.block_lt_of_cell? _ _ hx138_0; first | rwa [add_block] at this | exact this) GW135.out); have hn138_1 : ad134.block ≠ gb135 := Nat.ne_of_lt (Nat.lt_of_lt_of_le (by have := World.block_lt_of_cell? _ _ hx138_0; first | rwa [add_block] at this | exact this) GW135.out); have hn138_2 : ad134.block ≠ gb135 := Nat.ne_of_lt (Nat.lt_of_lt_of_le (by have := World.block_lt_of_cell? _ _ hx138_0; first | rwa [add_block] at this | exact this) GW135.out); (try replace hx138_0 := (HB.out.cell (World.block_lt_of_cell? w _ hx138_0)).trans hx138_0); (try replace hx138_1 := (HB.out.cell (World.block_lt_of_cell? w _ hx138_1)).trans hx138_1); (try replace hx138_2 := (HB.out.cell (World.block_lt_of_cell? w _ hx138_2)).trans hx138_2); replace hx138_0 := (cell_far (p := ⟨gb135, 0, none⟩) (by first | (rw [add_block]; exact hn138_0) | (show (Addr.add _ _).block ≠ _; rw [add_block]; exact hn138_0) | exact hn138_0) (.int .i64 ((rd_T69 l0 x7_1).f0))).trans hx138_0; replace hx138_1 := (cell_far (p := ⟨gb135, 0, none⟩) (by first | (rw [add_block]; exact hn138_0) | (show (Addr.add _ _).block ≠ _; rw [add_block]; exact hn138_0) | exact hn138_0) (.int .i64 ((rd_T69 l0 x7_1).f0))).trans hx138_1; replace hx138_2 := (cell_far (p := ⟨gb135, 0, none⟩) (by first | (rw [add_block]; exact hn138_0) | (show (Addr.add _ _).block ≠ _; rw [add_block]; exact hn138_0) | exact hn138_0) (.int .i64 ((rd_T69 l0 x7_1).f0))).trans hx138_2; replace hx138_0 := (cell_far (p := ⟨gb135, 1, none⟩) (by first | (rw [add_block]; exact hn138_1) | (show (Addr.add _ _).block ≠ _; rw [add_block]; exact hn138_1) | exact hn138_1) (.string ((rd_T69 l0 x7_1).f1))).trans hx138_0; replace hx138_1 := (cell_far (p := ⟨gb135, 1, none⟩) (by first | (rw [add_block]; exact hn138_1) | (show (Addr.add _ _).block ≠ _; rw [add_block]; exact hn138_1) | exact hn138_1) (.string ((rd_T69 l0 x7_1).f1))).trans hx138_1; replace hx138_2 := (cell_far (p := ⟨gb135, 1, none⟩) (by first | (rw [add_block]; exact hn138_1) | (show (Addr.add _ _).block ≠ _; rw [add_block]; exact hn138_1) | exact hn138_1) (.string ((rd_T69 l0 x7_1).f1))).trans hx138_2; replace hx138_0 := (cell_far (p := ⟨gb135, 2, none⟩) (by first | (rw [add_block]; exact hn138_2) | (show (Addr.add _ _).block ≠ _; rw [add_block]; exact hn138_2) | exact hn138_2) (.bool ((rd_T69 l0 x7_1).f2))).trans hx138_0; replace hx138_1 := (cell_far (p := ⟨gb135, 2, none⟩) (by first | (rw [add_block]; exact hn138_2) | (show (Addr.add _ _).block ≠ _; rw [add_block]; exact hn138_2) | exact hn138_2) (.bool ((rd_T69 l0 x7_1).f2))).trans hx138_1; replace hx138_2 := (cell_far (p := ⟨gb135, 2, none⟩) (by first | (rw [add_block]; exact hn138_2) | (show (Addr.add _ _).block ≠ _; rw [add_block]; exact hn138_2) | exact hn138_2) (.bool ((rd_T69 l0 x7_1).f2))).trans hx138_2; (try have hy138_0 := fun (n_ : Nat) => (show (((((w16.drewN n_).setCell ⟨gb135, 0, none⟩ (.int .i64 ((rd_T69 l0 x7_1).f0))).setCell ⟨gb135, 1, none⟩ (.string ((rd_T69 l0 x7_1).f1))).setCell ⟨gb135, 2, none⟩ (.bool ((rd_T69 l0 x7_1).f2)))).cell? _ = some _ from hx138_0)); (try have hy138_1 := fun (n_ : Nat) => (show (((((w16.drewN n_).setCell ⟨gb135, 0, none⟩ (.int .i64 ((rd_T69 l0 x7_1).f0))).setCell ⟨gb135, 1, none⟩ (.string ((rd_T69 l0 x7_1).f1))).setCell ⟨gb135, 2, none⟩ (.bool ((rd_T69 l0 x7_1).f2)))).cell? _ = some _ from hx138_1)); (try have hy138_2 := fun (n_ : Nat) => (show (((((w16.drewN n_).setCell ⟨gb135, 0, none⟩ (.int .i64 ((rd_T69 l0 x7_1).f0))).setCell ⟨gb135, 1, none⟩ (.string ((rd_T69 l0 x7_1).f1))).setCell ⟨gb135, 2, none⟩ (.bool ((rd_T69 l0 x7_1).f2)))).cell? _ = some _ from hx138_2)); clear hn138_0; clear hn138_1; clear hn138_2; replace p138 := eq_true p138; replace q138 := eq_true q138)))
            go_roundg k1
            case measure => have := HK1.out; omega
            case rel => exact ⟨(wrap64 (x7_1 + 1)), (by first | rfl | (simp; done) | (simp [*]; done) | (simp [wrap64]; done)), H', ⟨by have := HK1.out; omega⟩, ⟨bw_ HB.out⟩⟩
          ·rw [if_neg c12] at H
           exact absurd H (by simp)
         ·rw [if_neg c11] at H
          exact absurd H (by simp)
        ·rw [if_neg c9] at H
         have c9b0 : decide (0 < x7_1) = false := decide_eq_false c9
         clear c9
         have H' := Aside0.mk H
         clear H
         have p134 : 0 ≤ (x7_1 : Int) := of_decide_eq_true (by first | (with_reducible assumption) | assumption)
         have q134 : x7_1 < (l0.length : Int) := of_decide_eq_true (by first | (with_reducible assumption) | assumption)
         obtain ⟨ad134, e134, hx134_0, hx134_1, hx134_2⟩ := at_T69 HR0.out x7_1 p134 q134
         cases e134
         (try replace hx134_0 := (HB.out.cell (World.block_lt_of_cell? w _ hx134_0)).trans hx134_0)
         (try replace hx134_1 := (HB.out.cell (World.block_lt_of_cell? w _ hx134_1)).trans hx134_1)
         (try replace hx134_2 := (HB.out.cell (World.block_lt_of_cell? w _ hx134_2)).trans hx134_2)
         replace p134 := eq_true p134
         replace q134 := eq_true q134
         go_wp2_with (first | ((with_reducible refine gate_dst (N := 4) rfl ?_); refine bx_ 4 #[.int .i64 0, .string (⟨#[]⟩ : ByteArray), .bool false] 69 ?_; intro gb135 hg w18 hbox hb; have n0_ := Aside0.mk (below_step (bw_ HB.out) hb); have n1_ := Aside0.mk (hbox); have n2_ := Aside0.mk (gs_ hg (bw_ HB.out)); have n3_ := Aside0.mk (gs_ hg (bw_ HB.out)); clear HB; have HB := n0_; have BK135 := n1_; have GW135 := n2_; have GE135 := n3_; clear n0_ n1_ n2_ n3_; clear hb hbox hg; have hcz19_0 := cz_ BK135.out 0; have hcz19_1 := cz_ BK135.out 1; have hcz19_2 := cz_ BK135.out 2; have hfz19_0 := blk_frozen BK135.out 0; have hfz19_1 := blk_frozen BK135.out 1; have hfz19_2 := blk_frozen BK135.out 2) | (go_at_call 49; (with_reducible refine (impl_isTime.calls ((rd_T69 l0 x7_1).f0) true _ A5.out).mono ?_); rintro e w' ⟨rfl, ⟨nd, rfl⟩⟩; (try first | exact ⟨rfl, _, World.drewN_drewN _ _ _⟩ | exact ⟨rfl, _, Eq.trans (World.drewN_drewN _ _ _) (congrArg (World.drewN _) (Nat.add_assoc _ _ _))⟩)) | (go_at_call 48; (with_reducible refine (impl_GoodName.calls k1 ((rd_T69 l0 x7_1).f1) true _ A7.out).mono ?_); rintro e w' ⟨rfl, ⟨nd, rfl⟩⟩; (try first | exact ⟨rfl, _, World.drewN_drewN _ _ _⟩ | exact ⟨rfl, _, Eq.trans (World.drewN_drewN _ _ _) (congrArg (World.drewN _) (Nat.add_assoc _ _ _))⟩)))
         repeat (go_quiet (first | ((with_reducible refine gate_dst (N := 4) rfl ?_); refine bx_ 4 #[.int .i64 0, .string (⟨#[]⟩ : ByteArray), .bool false] 69 ?_; intro gb135 hg w18 hbox hb; have n0_ := Aside0.mk (below_step (bw_ HB.out) hb); have n1_ := Aside0.mk (hbox); have n2_ := Aside0.mk (gs_ hg (bw_ HB.out)); have n3_ := Aside0.mk (gs_ hg (bw_ HB.out)); clear HB; have HB := n0_; have BK135 := n1_; have GW135 := n2_; have GE135 := n3_; clear n0_ n1_ n2_ n3_; clear hb hbox hg; have hcz19_0 := cz_ BK135.out 0; have hcz19_1 := cz_ BK135.out 1; have hcz19_2 := cz_ BK135.out 2; have hfz19_0 := blk_frozen BK135.out 0; have hfz19_1 := blk_frozen BK135.out 1; have hfz19_2 := blk_frozen BK135.out 2) | (go_at_call 49; (with_reducible refine (impl_isTime.calls ((rd_T69 l0 x7_1).f0) true _ A5.out).mono ?_); rintro e w' ⟨rfl, ⟨nd, rfl⟩⟩; (try first | exact ⟨rfl, _, World.drewN_drewN _ _ _⟩ | exact ⟨rfl, _, Eq.trans (World.drewN_drewN _ _ _) (congrArg (World.drewN _) (Nat.add_assoc _ _ _))⟩)) | (go_at_call 48; (with_reducible refine (impl_GoodName.calls k1 ((rd_T69 l0 x7_1).f1) true _ A7.out).mono ?_); rintro e w' ⟨rfl, ⟨nd, rfl⟩⟩; (try first | exact ⟨rfl, _, World.drewN_drewN _ _ _⟩ | exact ⟨rfl, _, Eq.trans (World.drewN_drewN _ _ _) (congrArg (World.drewN _) (Nat.add_assoc _ _ _))⟩))); try go_wp2_with (first | ((with_reducible refine gate_dst (N := 4) rfl ?_); refine bx_ 4 #[.int .i64 0, .string (⟨#[]⟩ : ByteArray), .bool false] 69 ?_; intro gb135 hg w18 hbox hb; have n0_ := Aside0.mk (below_step (bw_ HB.out) hb); have n1_ := Aside0.mk (hbox); have n2_ := Aside0.mk (gs_ hg (bw_ HB.out)); have n3_ := Aside0.mk (gs_ hg (bw_ HB.out)); clear HB; have HB := n0_; have BK135 := n1_; have GW135 := n2_; have GE135 := n3_; clear n0_ n1_ n2_ n3_; clear hb hbox hg; have hcz19_0 := cz_ BK135.out 0; have hcz19_1 := cz_ BK135.out 1; have hcz19_2 := cz_ BK135.out 2; have hfz19_0 := blk_frozen BK135.out 0; have hfz19_1 := blk_frozen BK135.out 1; have hfz19_2 := blk_frozen BK135.out 2) | (go_at_call 49; (with_reducible refine (impl_isTime.calls ((rd_T69 l0 x7_1).f0) true _ A5.out).mono ?_); rintro e w' ⟨rfl, ⟨nd, rfl⟩⟩; (try first | exact ⟨rfl, _, World.drewN_drewN _ _ _⟩ | exact ⟨rfl, _, Eq.trans (World.drewN_drewN _ _ _) (congrArg (World.drewN _) (Nat.add_assoc _ _ _))⟩)) | (go_at_call 48; (with_reducible refine (impl_GoodName.calls k1 ((rd_T69 l0 x7_1).f1) true _ A7.out).mono ?_); rintro e w' ⟨rfl, ⟨nd, rfl⟩⟩; (try first | exact ⟨rfl, _, World.drewN_drewN _ _ _⟩ | exact ⟨rfl, _, Eq.trans (World.drewN_drewN _ _ _) (congrArg (World.drewN _) (Nat.add_assoc _ _ _))⟩))))
         go_roundg k1
         case measure => have := HK1.out; omega
         case rel => exact ⟨(wrap64 (x7_1 + 1)), (by first | rfl | (simp; done) | (simp [*]; done) | (simp [wrap64]; done)), H', ⟨by have := HK1.out; omega⟩, ⟨bw_ HB.out⟩⟩
       ·replace c8 := Bool.eq_false_iff.mpr c8
        subst c8
        replace H := if_ H Bool.false_ne_true
        obtain rfl := Option.some.inj H
        have p134 : 0 ≤ (x7_1 : Int) := of_decide_eq_true (by first | (with_reducible assumption) | assumption)
        have q134 : x7_1 < (l0.length : Int) := of_decide_eq_true (by first | (with_reducible assumption) | assumption)
        obtain ⟨ad134, e134, hx134_0, hx134_1, hx134_2⟩ := at_T69 HR0.out x7_1 p134 q134
        cases e134
        (try replace hx134_0 := (HB.out.cell (World.block_lt_of_cell? w _ hx134_0)).trans hx134_0)
        (try replace hx134_1 := (HB.out.cell (World.block_lt_of_cell? w _ hx134_1)).trans hx134_1)
        (try replace hx134_2 := (HB.out.cell (World.block_lt_of_cell? w _ hx134_2)).trans hx134_2)
        replace p134 := eq_true p134
        replace q134 := eq_true q134
        go_wp2_with (first | ((with_reducible refine gate_dst (N := 4) rfl ?_); refine bx_ 4 #[.int .i64 0, .string (⟨#[]⟩ : ByteArray), .bool false] 69 ?_; intro gb135 hg w20 hbox hb; have n0_ := Aside0.mk (below_step (bw_ HB.out) hb); have n1_ := Aside0.mk (hbox); have n2_ := Aside0.mk (gs_ hg (bw_ HB.out)); have n3_ := Aside0.mk (gs_ hg (bw_ HB.out)); clear HB; have HB := n0_; have BK135 := n1_; have GW135 := n2_; have GE135 := n3_; clear n0_ n1_ n2_ n3_; clear hb hbox hg; have hcz21_0 := cz_ BK135.out 0; have hcz21_1 := cz_ BK135.out 1; have hcz21_2 := cz_ BK135.out 2; have hfz21_0 := blk_frozen BK135.out 0; have hfz21_1 := blk_frozen BK135.out 1; have hfz21_2 := blk_frozen BK135.out 2) | (go_at_call 49; (with_reducible refine (impl_isTime.calls ((rd_T69 l0 x7_1).f0) true _ A5.out).mono ?_); rintro e w' ⟨rfl, ⟨nd, rfl⟩⟩; (try first | exact ⟨rfl, _, World.drewN_drewN _ _ _⟩ | exact ⟨rfl, _, Eq.trans (World.drewN_drewN _ _ _) (congrArg (World.drewN _) (Nat.add_assoc _ _ _))⟩)) | (go_at_call 48; (with_reducible refine (impl_GoodName.calls k1 ((rd_T69 l0 x7_1).f1) false _ A7.out).mono ?_); rintro e w' ⟨rfl, ⟨nd, rfl⟩⟩; (try first | exact ⟨rfl, _, World.drewN_drewN _ _ _⟩ | exact ⟨rfl, _, Eq.trans (World.drewN_drewN _ _ _) (congrArg (World.drewN _) (Nat.add_assoc _ _ _))⟩)))
        repeat (go_quiet (first | ((with_reducible refine gate_dst (N := 4) rfl ?_); refine bx_ 4 #[.int .i64 0, .string (⟨#[]⟩ : ByteArray), .bool false] 69 ?_; intro gb135 hg w20 hbox hb; have n0_ := Aside0.mk (below_step (bw_ HB.out) hb); have n1_ := Aside0.mk (hbox); have n2_ := Aside0.mk (gs_ hg (bw_ HB.out)); have n3_ := Aside0.mk (gs_ hg (bw_ HB.out)); clear HB; have HB := n0_; have BK135 := n1_; have GW135 := n2_; have GE135 := n3_; clear n0_ n1_ n2_ n3_; clear hb hbox hg; have hcz21_0 := cz_ BK135.out 0; have hcz21_1 := cz_ BK135.out 1; have hcz21_2 := cz_ BK135.out 2; have hfz21_0 := blk_frozen BK135.out 0; have hfz21_1 := blk_frozen BK135.out 1; have hfz21_2 := blk_frozen BK135.out 2) | (go_at_call 49; (with_reducible refine (impl_isTime.calls ((rd_T69 l0 x7_1).f0) true _ A5.out).mono ?_); rintro e w' ⟨rfl, ⟨nd, rfl⟩⟩; (try first | exact ⟨rfl, _, World.drewN_drewN _ _ _⟩ | exact ⟨rfl, _, Eq.trans (World.drewN_drewN _ _ _) (congrArg (World.drewN _) (Nat.add_assoc _ _ _))⟩)) | (go_at_call 48; (with_reducible refine (impl_GoodName.calls k1 ((rd_T69 l0 x7_1).f1) false _ A7.out).mono ?_); rintro e w' ⟨rfl, ⟨nd, rfl⟩⟩; (try first | exact ⟨rfl, _, World.drewN_drewN _ _ _⟩ | exact ⟨rfl, _, Eq.trans (World.drewN_drewN _ _ _) (congrArg (World.drewN _) (Nat.add_assoc _ _ _))⟩))); try go_wp2_with (first | ((with_reducible refine gate_dst (N := 4) rfl ?_); refine bx_ 4 #[.int .i64 0, .string (⟨#[]⟩ : ByteArray), .bool false] 69 ?_; intro gb135 hg w20 hbox hb; have n0_ := Aside0.mk (below_step (bw_ HB.out) hb); have n1_ := Aside0.mk (hbox); have n2_ := Aside0.mk (gs_ hg (bw_ HB.out)); have n3_ := Aside0.mk (gs_ hg (bw_ HB.out)); clear HB; have HB := n0_; have BK135 := n1_; have GW135 := n2_; have GE135 := n3_; clear n0_ n1_ n2_ n3_; clear hb hbox hg; have hcz21_0 := cz_ BK135.out 0; have hcz21_1 := cz_ BK135.out 1; have hcz21_2 := cz_ BK135.out 2; have hfz21_0 := blk_frozen BK135.out 0; have hfz21_1 := blk_frozen BK135.out 1; have hfz21_2 := blk_frozen BK135.out 2) | (go_at_call 49; (with_reducible refine (impl_isTime.calls ((rd_T69 l0 x7_1).f0) true _ A5.out).mono ?_); rintro e w' ⟨rfl, ⟨nd, rfl⟩⟩; (try first | exact ⟨rfl, _, World.drewN_drewN _ _ _⟩ | exact ⟨rfl, _, Eq.trans (World.drewN_drewN _ _ _) (congrArg (World.drewN _) (Nat.add_assoc _ _ _))⟩)) | (go_at_call 48; (with_reducible refine (impl_GoodName.calls k1 ((rd_T69 l0 x7_1).f1) false _ A7.out).mono ?_); rintro e w' ⟨rfl, ⟨nd, rfl⟩⟩; (try first | exact ⟨rfl, _, World.drewN_drewN _ _ _⟩ | exact ⟨rfl, _, Eq.trans (World.drewN_drewN _ _ _) (congrArg (World.drewN _) (Nat.add_assoc _ _ _))⟩))))
        go_ret
        exact ⟨by first | rfl | (simp [errW_none, errW_some] <;> rfl) | (simp [*, errW_none, errW_some] <;> rfl), bw_ HB.out⟩
      ·replace c6 := Bool.eq_false_iff.mpr c6
       subst c6
       replace H := if_ H Bool.false_ne_true
       obtain rfl := Option.some.inj H
       have p134 : 0 ≤ (x7_1 : Int) := of_decide_eq_true (by first | (with_reducible assumption) | assumption)
       have q134 : x7_1 < (l0.length : Int) := of_decide_eq_true (by first | (with_reducible assumption) | assumption)
       obtain ⟨ad134, e134, hx134_0, hx134_1, hx134_2⟩ := at_T69 HR0.out x7_1 p134 q134
       cases e134
       (try replace hx134_0 := (HB.out.cell (World.block_lt_of_cell? w _ hx134_0)).trans hx134_0)
       (try replace hx134_1 := (HB.out.cell (World.block_lt_of_cell? w _ hx134_1)).trans hx134_1)
       (try replace hx134_2 := (HB.out.cell (World.block_lt_of_cell? w _ hx134_2)).trans hx134_2)
       replace p134 := eq_true p134
       replace q134 := eq_true q134
       go_wp2_with (first | ((with_reducible refine gate_dst (N := 4) rfl ?_); refine bx_ 4 #[.int .i64 0, .string (⟨#[]⟩ : ByteArray), .bool false] 69 ?_; intro gb135 hg w22 hbox hb; have n0_ := Aside0.mk (below_step (bw_ HB.out) hb); have n1_ := Aside0.mk (hbox); have n2_ := Aside0.mk (gs_ hg (bw_ HB.out)); have n3_ := Aside0.mk (gs_ hg (bw_ HB.out)); clear HB; have HB := n0_; have BK135 := n1_; have GW135 := n2_; have GE135 := n3_; clear n0_ n1_ n2_ n3_; clear hb hbox hg; have hcz23_0 := cz_ BK135.out 0; have hcz23_1 := cz_ BK135.out 1; have hcz23_2 := cz_ BK135.out 2; have hfz23_0 := blk_frozen BK135.out 0; have hfz23_1 := blk_frozen BK135.out 1; have hfz23_2 := blk_frozen BK135.out 2) | (go_at_call 49; (with_reducible refine (impl_isTime.calls ((rd_T69 l0 x7_1).f0) false _ A5.out).mono ?_); rintro e w' ⟨rfl, ⟨nd, rfl⟩⟩; (try first | exact ⟨rfl, _, World.drewN_drewN _ _ _⟩ | exact ⟨rfl, _, Eq.trans (World.drewN_drewN _ _ _) (congrArg (World.drewN _) (Nat.add_assoc _ _ _))⟩)))
       repeat (go_quiet (first | ((with_reducible refine gate_dst (N := 4) rfl ?_); refine bx_ 4 #[.int .i64 0, .string (⟨#[]⟩ : ByteArray), .bool false] 69 ?_; intro gb135 hg w22 hbox hb; have n0_ := Aside0.mk (below_step (bw_ HB.out) hb); have n1_ := Aside0.mk (hbox); have n2_ := Aside0.mk (gs_ hg (bw_ HB.out)); have n3_ := Aside0.mk (gs_ hg (bw_ HB.out)); clear HB; have HB := n0_; have BK135 := n1_; have GW135 := n2_; have GE135 := n3_; clear n0_ n1_ n2_ n3_; clear hb hbox hg; have hcz23_0 := cz_ BK135.out 0; have hcz23_1 := cz_ BK135.out 1; have hcz23_2 := cz_ BK135.out 2; have hfz23_0 := blk_frozen BK135.out 0; have hfz23_1 := blk_frozen BK135.out 1; have hfz23_2 := blk_frozen BK135.out 2) | (go_at_call 49; (with_reducible refine (impl_isTime.calls ((rd_T69 l0 x7_1).f0) false _ A5.out).mono ?_); rintro e w' ⟨rfl, ⟨nd, rfl⟩⟩; (try first | exact ⟨rfl, _, World.drewN_drewN _ _ _⟩ | exact ⟨rfl, _, Eq.trans (World.drewN_drewN _ _ _) (congrArg (World.drewN _) (Nat.add_assoc _ _ _))⟩))); try go_wp2_with (first | ((with_reducible refine gate_dst (N := 4) rfl ?_); refine bx_ 4 #[.int .i64 0, .string (⟨#[]⟩ : ByteArray), .bool false] 69 ?_; intro gb135 hg w22 hbox hb; have n0_ := Aside0.mk (below_step (bw_ HB.out) hb); have n1_ := Aside0.mk (hbox); have n2_ := Aside0.mk (gs_ hg (bw_ HB.out)); have n3_ := Aside0.mk (gs_ hg (bw_ HB.out)); clear HB; have HB := n0_; have BK135 := n1_; have GW135 := n2_; have GE135 := n3_; clear n0_ n1_ n2_ n3_; clear hb hbox hg; have hcz23_0 := cz_ BK135.out 0; have hcz23_1 := cz_ BK135.out 1; have hcz23_2 := cz_ BK135.out 2; have hfz23_0 := blk_frozen BK135.out 0; have hfz23_1 := blk_frozen BK135.out 1; have hfz23_2 := blk_frozen BK135.out 2) | (go_at_call 49; (with_reducible refine (impl_isTime.calls ((rd_T69 l0 x7_1).f0) false _ A5.out).mono ?_); rintro e w' ⟨rfl, ⟨nd, rfl⟩⟩; (try first | exact ⟨rfl, _, World.drewN_drewN _ _ _⟩ | exact ⟨rfl, _, Eq.trans (World.drewN_drewN _ _ _) (congrArg (World.drewN _) (Nat.add_assoc _ _ _))⟩))))
       go_ret
       exact ⟨by first | rfl | (simp [errW_none, errW_some] <;> rfl) | (simp [*, errW_none, errW_some] <;> rfl), bw_ HB.out⟩
     ·rw [if_neg c4] at H
      exact absurd H (by simp)
    ·rw [if_neg c3] at H
     exact absurd H (by simp)
   ·rw [if_neg c2] at H
    have c2b0 : decide (x7_1 < (l0.length : Int)) = false := decide_eq_false c2
    clear c2
    obtain rfl := Option.some.inj H
    go_wp2
    repeat (go_quiet (fail); try go_wp2)
    go_ret
    exact ⟨by first | rfl | (simp [errW_none, errW_some] <;> rfl) | (simp [*, errW_none, errW_some] <;> rfl), bw_ HB.out⟩

-- NOT PRINTED: function 78 (impl_Meant_1)

-- NOT PRINTED: function 50 (impl_Meant)

/-! ### impl_Buffered: function 21 -/
/-! a range over slices.Backward: the library's iterator is walked for every loop body that keeps what lay ahead of it -/
section
open Go.Shelf
attribute [local go_sem] Oper.semAt_some
def impl_Buffered.revs : Nat → List Nat
  | 0 => []
  | n + 1 => n :: impl_Buffered.revs n
def impl_Buffered.enc (l : List S69) (i : Nat) : Array Value := #[.int .i64 (i : Int), .agg #[.int .i64 (rd_T69 l (i : Int)).f0, .string (rd_T69 l (i : Int)).f1, .bool (rd_T69 l (i : Int)).f2]]
theorem impl_Buffered.revs_length : ∀ n, (impl_Buffered.revs n).length = n
  | 0 => rfl
  | n + 1 => by rw [impl_Buffered.revs, List.length_cons, impl_Buffered.revs_length n]
set_option maxRecDepth 100000 in
set_option maxHeartbeats 1000000 in
theorem impl_Buffered.back1 (n : Nat) (hn : 1 ≤ n) (l Bn n0 : Nat) (A0 : Option Addr) (c0 : Nat) (xs : List S69) (J Jx : List Nat → World → Prop) (w0 : World)
    (hY : ∀ pre x W, J pre W → pre.length < xs.length → YieldAt Fence.wide (n - 1) Try.prog l (impl_Buffered.enc xs x) W fun e W' =>
      (e = .returned (.bool true) ∧ J (pre ++ [x]) W' ∧ Below n0 W W') ∨ (e = .returned (.bool false) ∧ Jx (pre ++ [x]) W'))
    (W : World) (hBn : w0.cell? ⟨Bn, 0, none⟩ = some (.slice A0 xs.length c0)) (hlt : Bn < n0) (hr : Kd.C k69 w0 A0 xs.length xs) (hn0 : w0.heap.size ≤ n0) (hB : Below n0 w0 W) (h0 : J [] W) :
    CallsIn Fence.wide n Try.prog 78 #[.func (.yield l) #[] #[], .pointer (some ⟨Bn, 0, none⟩)] W fun e W' => (∃ v, e = .returned v) ∧
      ((∃ ys, ys = impl_Buffered.revs xs.length ∧ J ys W') ∨ (∃ pre, pre <+: impl_Buffered.revs xs.length ∧ Jx pre W')) := by
  have hmax := Kd.C_max hr
  have hc0 := (hB.cell (p := ⟨Bn, 0, none⟩) hlt).trans hBn
  have hw : wrap64 ((xs.length : Int) - 1) = (xs.length : Int) - 1 := by unfold wrap64; omega
  refine callsIn_of_wp Try.func78 rfl trivial ?_ rfl
  simp only [Try.ntmps78, List.size_toArray, List.length_cons, List.length_nil, Nat.reduceAdd, Nat.reduceSub, Array.replicate_succ, Array.replicate_zero, List.push_toArray, List.append_toArray, List.nil_append, List.cons_append]
  gi_wp2
  clear hc0 hw
  have HR := Aside0.mk hr
  have HB0 := Aside0.mk hBn
  have HM := Aside0.mk hmax
  clear hr hBn hmax
  gi_loopw [3] (fun v wr => ∃ (x : Int) (m : Nat) (pre : List Nat), v = .int .i64 x ∧ Aside0 (x = (m : Int) - 1) ∧ Aside0 (m ≤ xs.length) ∧ Aside0 (pre ++ impl_Buffered.revs m = impl_Buffered.revs xs.length) ∧ Aside0 (J pre wr) ∧ Aside0 (Below n0 w0 wr)) (fun v wr => (intOf v + 1).toNat)
  case atStart => exact ⟨_, xs.length, [], by first | rfl | (have := HM.out; unfold wrap64; congr 1; omega), ⟨by first | rfl | (have := HM.out; unfold wrap64; omega)⟩, ⟨Nat.le_refl _⟩, ⟨rfl⟩, ⟨h0⟩, ⟨hB⟩⟩
  case round =>
    obtain ⟨x, m, pre, rfl, HX, HM2, HP, HJ, HW⟩ := hrel
    have hx := HX.out
    by_cases hm : m = 0
    · have c1 : decide (0 ≤ x) = false := decide_eq_false (by omega)
      clear hx
      subst hm
      have HP2 := HP.out
      rw [impl_Buffered.revs, List.append_nil] at HP2
      gi_wp2
      go_end0
      exact ⟨⟨_, rfl⟩, .inl ⟨pre, HP2, HJ.out⟩⟩
    · obtain ⟨q, rfl⟩ : ∃ q, m = q + 1 := ⟨m - 1, by omega⟩
      have c1 : decide (0 ≤ x) = true := decide_eq_true (by omega)
      have p0 := eq_true (show 0 ≤ x by omega)
      have hml := HM2.out
      have q0 := eq_true (show x < (xs.length : Int) by omega)
      obtain ⟨ad, e0, hx0, hx1, hx2⟩ := at_T69 (Kd.C_below HR.out (HW.out.mono hn0)) x (by omega) (by omega)
      cases e0
      have hcB := (HW.out.cell (p := ⟨Bn, 0, none⟩) hlt).trans HB0.out
      have hpl : pre.length < xs.length := by
        have := congrArg List.length HP.out
        rw [List.length_append, impl_Buffered.revs_length, impl_Buffered.revs_length] at this
        omega
      obtain ⟨fn, tmps, assign, body, hy, hRnd⟩ := hY pre q wr HJ.out hpl
      have hxq : x = (q : Int) := by omega
      unfold impl_Buffered.enc at hy
      rw [← hxq] at hy
      have HXQ := Aside0.mk hxq
      have hwj : wrap64 (x - 1) = x - 1 := by have := HM.out; unfold wrap64; omega
      clear hx hxq hpl hm hml
      gi_wp2
      refine hRnd.mono ?_
      rintro e W3 (⟨rfl, hJ3, hk3⟩ | ⟨rfl, hJx3⟩)
      · have hp3 := HP.out
        rw [impl_Buffered.revs] at hp3
        have HP3 : Aside0 ((pre ++ [q]) ++ impl_Buffered.revs q = impl_Buffered.revs xs.length) := ⟨by rw [List.append_assoc]; exact hp3⟩
        clear hp3
        gi_wp2
        go_roundw
        case rel => exact ⟨_, q, pre ++ [q], rfl, ⟨by first | (have := HXQ.out; omega) | (rw [hwj]; have := HXQ.out; omega)⟩, ⟨by have := HM2.out; omega⟩, HP3, ⟨hJ3⟩, ⟨HW.out.trans hk3⟩⟩
        case measure => (try simp only [intOf]); have := HXQ.out; first | omega | (rw [hwj]; omega)
      · have hp3 := HP.out
        rw [impl_Buffered.revs] at hp3
        have HP3 : Aside0 (pre ++ [q] <+: impl_Buffered.revs xs.length) := ⟨⟨impl_Buffered.revs q, by rw [← hp3, List.append_assoc]; rfl⟩⟩
        clear hp3
        gi_wp2
        refine bodyPost_ret (results_none rfl _ _ _) rfl ?_
        exact ⟨⟨_, rfl⟩, .inr ⟨pre ++ [q], HP3.out, hJx3⟩⟩
set_option maxHeartbeats 1000000 in
theorem impl_Buffered.back_in (n : Nat) (A0 : Option Addr) (m c0 : Nat) (w : World) :
    CallsIn Fence.wide n Try.prog 50 #[.slice A0 m c0] w fun e w' => e = .returned (.func (.func 78) #[] #[.pointer (some ⟨w.heap.size, 0, none⟩)]) ∧ w' = w.alloc (.cells #[.slice A0 m c0] 38) := by
  refine callsIn_of_wp Try.func50 rfl trivial ?_ rfl
  simp only [Try.ntmps50, List.size_toArray, List.length_cons, List.length_nil, Nat.reduceAdd, Nat.reduceSub, Array.replicate_succ, Array.replicate_zero, List.push_toArray, List.append_toArray, List.nil_append, List.cons_append]
  gi_wp2
  go_ret
  exact ⟨rfl, rfl⟩
theorem impl_Buffered.back_stops (n : Nat) (hn : 1 ≤ n) (Bn : Nat) (A0 : Option Addr) (c0 : Nat) (xs : List S69) (w0 : World) (hBn : w0.cell? ⟨Bn, 0, none⟩ = some (.slice A0 xs.length c0)) (hlt : Bn < w0.heap.size) (hr : Kd.C k69 w0 A0 xs.length xs) :
    SeqStopsK Fence.wide n Try.prog 78 #[.pointer (some ⟨Bn, 0, none⟩)] (impl_Buffered.enc xs) (Below w0.heap.size) (fun ys => ys = impl_Buffered.revs xs.length) (fun pre => pre <+: impl_Buffered.revs xs.length) xs.length w0 := fun l J Jx W hW _ _ hY h0 =>
  impl_Buffered.back1 n hn l Bn w0.heap.size A0 c0 xs J Jx w0 hY W hBn hlt hr (Nat.le_refl _) hW h0
def impl_Buffered.hit (a1 : ByteArray) (t u : Int) (e : S69) : Bool := e.f2 && ((e.f1.toList == a1.toList) && (decide (wrap64 (t - u) ≤ e.f0) && decide (e.f0 ≤ t)))
def impl_Buffered.back (p : Nat → Bool) : Nat → Int
  | 0 => -1
  | n + 1 => if p n = true then (n : Int) else impl_Buffered.back p n
theorem impl_Buffered.back_none (p : Nat → Bool) : ∀ n, (∀ i ∈ impl_Buffered.revs n, p i = false) → impl_Buffered.back p n = -1
  | 0, _ => rfl
  | n + 1, h => by
    rw [impl_Buffered.back, if_neg (by rw [h n (by rw [impl_Buffered.revs]; exact List.mem_cons_self)]; decide)]
    exact impl_Buffered.back_none p n (fun i hi => h i (by rw [impl_Buffered.revs]; exact List.mem_cons_of_mem _ hi))
theorem impl_Buffered.back_some (p : Nat → Bool) : ∀ (n : Nat) (pre : List Nat) (i : Nat), pre ++ [i] <+: impl_Buffered.revs n → (∀ j ∈ pre, p j = false) → p i = true → impl_Buffered.back p n = (i : Int)
  | 0, pre, i, h, _, _ => by
    rw [impl_Buffered.revs, List.prefix_nil] at h
    simp at h
  | n + 1, [], i, h, _, hi => by
    rw [impl_Buffered.revs, List.nil_append, List.cons_prefix_cons] at h
    rw [impl_Buffered.back, if_pos (by rw [← h.1]; exact hi), h.1]
  | n + 1, q :: pre, i, h, hp, hi => by
    rw [impl_Buffered.revs, List.cons_append, List.cons_prefix_cons] at h
    rw [impl_Buffered.back, if_neg (by rw [← h.1, hp q List.mem_cons_self]; decide)]
    exact impl_Buffered.back_some p n pre i h.2 (fun j hj => hp j (List.mem_cons_of_mem _ hj)) hi
def impl_Buffered.f (k : Nat) (l0 : List S69) (a1 : ByteArray) (a2 a3 : Int) : Option (Int × Bool) := (impl_areMeant.f k l0).bind fun t => if t = true then ((impl_GoodName.f k a1).bind fun t => if t = true then ((impl_isTime.f a2).bind fun t => if t = true then ((impl_isTime.f a3).bind fun t => if t = true then some (impl_Buffered.back (fun i => impl_Buffered.hit a1 a2 a3 (rd_T69 l0 (i : Int))) l0.length, true) else some (0, false)) else some (0, false)) else some (0, false)) else some (0, false)
theorem impl_Buffered.mono : ∀ a0 a1 a2 a3 k, LeO (impl_Buffered.f k a0 a1 a2 a3) (impl_Buffered.f (k + 1) a0 a1 a2 a3) := by
  intro a0 a1 a2 a3 k
  unfold impl_Buffered.f
  exact LeO.bind (impl_areMeant.mono _ _) (fun _ => LeO.ite (LeO.bind (impl_GoodName.mono _ _) (fun _ => LeO.refl _)) (LeO.refl _))
structure impl_Buffered.Five (w W : World) (a1 : ByteArray) (a2 a3 : Int) (s : Nat) : Prop where
  b5 : W.heap[s]? = some (.cells #[.string a1] 9 (0, 0))
  b6 : W.heap[s + 1]? = some (.cells #[.int .i64 a2] 3 (0, 0))
  b7 : W.heap[s + 1 + 1]? = some (.cells #[.int .i64 a3] 3 (0, 0))
  b8 : W.heap[s + 1 + 1 + 1]? = some (.cells #[.int .i64 0] 3 (0, 0))
  b9 : W.heap[s + 1 + 1 + 1 + 1]? = some (.cells #[.bool false] 4 (0, 0))
  low : w.heap.size ≤ s
  be : Below w.heap.size w W
theorem impl_Buffered.Five.new (w : World) (a1 : ByteArray) (a2 a3 : Int) : impl_Buffered.Five w (((((w.alloc (Obj.cells #[Value.string a1] 9)).alloc (Obj.cells #[Value.int IntKind.i64 a2] 3)).alloc (Obj.cells #[Value.int IntKind.i64 a3] 3)).alloc (Obj.cells #[Value.int IntKind.i64 0] 3)).alloc (Obj.cells #[Value.bool false] 4)) a1 a2 a3 w.heap.size := by
  have e1 : (w.alloc (Obj.cells #[Value.string a1] 9)).heap.size = w.heap.size + 1 := World.size_alloc ..
  have e2 : ((w.alloc (Obj.cells #[Value.string a1] 9)).alloc (Obj.cells #[Value.int IntKind.i64 a2] 3)).heap.size = w.heap.size + 1 + 1 := by rw [World.size_alloc, e1]
  have e3 : (((w.alloc (Obj.cells #[Value.string a1] 9)).alloc (Obj.cells #[Value.int IntKind.i64 a2] 3)).alloc (Obj.cells #[Value.int IntKind.i64 a3] 3)).heap.size = w.heap.size + 1 + 1 + 1 := by rw [World.size_alloc, e2]
  have e4 : ((((w.alloc (Obj.cells #[Value.string a1] 9)).alloc (Obj.cells #[Value.int IntKind.i64 a2] 3)).alloc (Obj.cells #[Value.int IntKind.i64 a3] 3)).alloc (Obj.cells #[Value.int IntKind.i64 0] 3)).heap.size = w.heap.size + 1 + 1 + 1 + 1 := by rw [World.size_alloc, e3]
  refine ⟨blk_alloc (blk_alloc (blk_alloc (blk_alloc (blk_new _ _) _) _) _) _, ?_, ?_, ?_, ?_, Nat.le_refl _, ?_⟩
  · rw [← e1]
    exact blk_alloc (blk_alloc (blk_alloc (blk_new _ _) _) _) _
  · rw [← e2]
    exact blk_alloc (blk_alloc (blk_new _ _) _) _
  · rw [← e3]
    exact blk_alloc (blk_new _ _) _
  · rw [← e4]
    exact blk_new _ _
  · exact below_alloc (below_alloc (below_alloc (below_alloc (below_alloc (Below.refl _ _) _) _) _) _) _
theorem impl_Buffered.Five.step {w W W' : World} {a1 : ByteArray} {a2 a3 : Int} {s : Nat} (h : impl_Buffered.Five w W a1 a2 a3 s) (hb : Below W.heap.size W W') : impl_Buffered.Five w W' a1 a2 a3 s :=
  ⟨blk_below h.b5 hb, blk_below h.b6 hb, blk_below h.b7 hb, blk_below h.b8 hb, blk_below h.b9 hb, h.low, below_step h.be hb⟩
theorem impl_Buffered.drawn {w w' : World} (h : Drawn0 w w') : Below w.heap.size w w' := by
  obtain ⟨nd, rfl⟩ := h
  exact pw_below_drewN (Below.refl _ _) nd
theorem impl_Buffered.kf {w w' : World} (B : Nat) (h : Drawn0 w w') : KeepsFrom B w w' := by
  obtain ⟨nd, rfl⟩ := h
  exact ⟨Nat.le_refl _, fun k o _ hk _ => hk⟩
theorem impl_Buffered.drawnB {w w' : World} (B : Nat) (h : Drawn0 w w') : Below B w w' := by
  obtain ⟨nd, rfl⟩ := h
  exact ⟨rfl, rfl, rfl, Nat.le_refl _, fun _ _ => rfl⟩
theorem below_alloc' {B : Nat} {a w : World} (hB : B ≤ w.heap.size) (h : Below B a w) (o : Obj) : Below B a (w.alloc o) := h.alloc hB o
theorem impl_Buffered.in_impl (a b c : Int) : impl_inRange.f a b c = some (decide (b ≤ a) && decide (a ≤ c)) := by
  unfold impl_inRange.f
  by_cases h : b ≤ a <;> simp [h]
theorem impl_Buffered.Five.cells {w W : World} {a1 : ByteArray} {a2 a3 : Int} {s : Nat} (h : impl_Buffered.Five w W a1 a2 a3 s) (x : Int) (b : Bool) :
    ((W.setCell ⟨s + 1 + 1 + 1, 0, none⟩ (.int .i64 x)).setCell ⟨s + 1 + 1 + 1 + 1, 0, none⟩ (.bool b)).cell? ⟨s + 1 + 1 + 1, 0, none⟩ = some (.int .i64 x) ∧ ((W.setCell ⟨s + 1 + 1 + 1, 0, none⟩ (.int .i64 x)).setCell ⟨s + 1 + 1 + 1 + 1, 0, none⟩ (.bool b)).cell? ⟨s + 1 + 1 + 1 + 1, 0, none⟩ = some (.bool b) ∧ Below w.heap.size w ((W.setCell ⟨s + 1 + 1 + 1, 0, none⟩ (.int .i64 x)).setCell ⟨s + 1 + 1 + 1 + 1, 0, none⟩ (.bool b)) := by
  have h8 := blk_set h.b8 0 (.int .i64 x)
  have h9 := blk_far h.b9 (p := ⟨s + 1 + 1 + 1, 0, none⟩) (by simp) (.int .i64 x)
  have g8 := blk_far h8 (p := ⟨s + 1 + 1 + 1 + 1, 0, none⟩) (by simp) (.bool b)
  have g9 := blk_set h9 0 (.bool b)
  have hl := h.low
  exact ⟨(blk_cell g8 0).trans rfl, (blk_cell g9 0).trans rfl, below_set (below_set h.be (show w.heap.size ≤ s + 1 + 1 + 1 by omega)) (show w.heap.size ≤ s + 1 + 1 + 1 + 1 by omega)⟩
theorem impl_Buffered.leave {w W : World} {a1 : ByteArray} {a2 a3 : Int} {s : Nat} (h : impl_Buffered.Five w W a1 a2 a3 s) (x : Int) (b : Bool) (tmps : Array Value) (n : Nat) (h8 : tmps[8]?.getD undef = .pointer (some ⟨s + 1 + 1 + 1, 0, none⟩)) (h9 : tmps[9]?.getD undef = .pointer (some ⟨s + 1 + 1 + 1 + 1, 0, none⟩)) :
    bodyPostM Fence.wide n Try.prog Try.f21 (fun e w' => e = .returned (.tuple #[.int .i64 x, .bool b]) ∧ Below w.heap.size w w') .ret { tmps := tmps, defers := [] } ((W.setCell ⟨s + 1 + 1 + 1, 0, none⟩ (.int .i64 x)).setCell ⟨s + 1 + 1 + 1 + 1, 0, none⟩ (.bool b)) := by
  obtain ⟨c8, c9, hb⟩ := h.cells x b
  refine ⟨.tuple #[.int .i64 x, .bool b], ?_, rfl, hb⟩
  simp [results, Try.f21, go_sem, h8, h9, c8, c9]
theorem impl_Buffered.leave2 {w W2 : World} {s D : Nat} (x y : Int) (hxy : y = x) (b : Bool) (tmps : Array Value) (n : Nat) (hD : W2.heap[D]? = some (.deferred (some []))) (hDl : w.heap.size ≤ D) (c8 : W2.cell? ⟨s + 1 + 1 + 1, 0, none⟩ = some (.int .i64 x)) (c9 : W2.cell? ⟨s + 1 + 1 + 1 + 1, 0, none⟩ = some (.bool b)) (hb : Below w.heap.size w W2) (h8 : tmps[8]?.getD undef = .pointer (some ⟨s + 1 + 1 + 1, 0, none⟩)) (h9 : tmps[9]?.getD undef = .pointer (some ⟨s + 1 + 1 + 1 + 1, 0, none⟩)) :
    bodyPostM Fence.wide n Try.prog Try.f21 (fun e w' => e = .returned (.tuple #[.int .i64 y, .bool b]) ∧ Below w.heap.size w w') .ret { tmps := tmps, defers := [{ target := .collected D, args := #[] }] } W2 := by
  subst hxy
  refine ⟨by simp, .inl ⟨_, _, rfl, run_takeDeferred hD, ?_⟩⟩
  have k8 := cell_kept c8 (grownBy_putObj' W2 D (.deferred none)) (fun r e => by cases e; exact ⟨_, hD, rfl⟩)
  have k9 := cell_kept c9 (grownBy_putObj' W2 D (.deferred none)) (fun r e => by cases e; exact ⟨_, hD, rfl⟩)
  refine ⟨.tuple #[.int .i64 y, .bool b], ?_, rfl, hb.grown (grownBy_putObj' W2 D (.deferred none)) hb.size (fun k e => by cases e; exact hDl)⟩
  simp [results, Try.f21, go_sem, h8, h9, k8, k9]
set_option maxHeartbeats 8000000 in
set_option maxRecDepth 100000 in
theorem impl_Buffered.calls (k : Nat) (A0 : Option Addr) (c0 : Nat) (l0 : List (S69)) (a1 : ByteArray) (a2 : Int) (a3 : Int) (r1 : Int) (r2 : Bool) (w : World) (hr0 : Kd.C k69 w A0 l0.length l0) (hc0 : l0.length ≤ c0) (h : impl_Buffered.f k l0 a1 a2 a3 = some (r1, r2)) :
    Calls Try.prog 21 #[.slice A0 l0.length c0, .string a1, .int .i64 a2, .int .i64 a3] w fun e w' => e = .returned (.tuple #[.int .i64 r1, .bool r2]) ∧ Below w.heap.size w w' := by
  have HR0 := Aside0.mk hr0
  have HC0 := Aside0.mk hc0
  clear hr0 hc0
  unfold impl_Buffered.f at h
  obtain ⟨t0, ht0, h⟩ := Option.bind_eq_some_iff.mp h
  have A4 := Aside0.mk ht0
  have H := Aside0.mk h
  clear ht0 h
  refine (callsIn_wide (n := 5)).1 ?_
  refine callsIn_of_wp_marks Try.func21 rfl trivial ?_ rfl
  simp only [Try.ntmps21, List.size_toArray, List.length_cons, List.length_nil, Nat.reduceAdd, Nat.reduceSub, Array.replicate_succ, Array.replicate_zero, List.push_toArray, List.append_toArray, List.nil_append, List.cons_append]
  have hfn : ∀ f, Fence.wide.fn f := fun _ => trivial
  have F0 := Aside0.mk (impl_Buffered.Five.new w a1 a2 a3)
  cases t0 with
  | false =>
    have h := H.out
    rw [if_neg (by decide)] at h
    simp only [Option.some.injEq, Prod.mk.injEq] at h
    obtain ⟨rfl, rfl⟩ := h
    gi_wp2_with (gi_at_call 47; refine ((callsIn_wide (n := 4)).2 (impl_areMeant.calls k _ _ l0 false _ (Kd.C_below HR0.out F0.out.be) HC0.out A4.out)).mono ?_; rintro e w1 ⟨rfl, hb⟩; have F1 := Aside0.mk (F0.out.step hb); clear F0 hb; have h5 := blk_cell F1.out.b5 0; have h6 := blk_cell F1.out.b6 0; have h7 := blk_cell F1.out.b7 0; have h8 := blk_cell F1.out.b8 0; have h9 := blk_cell F1.out.b9 0; have f8 := blk_frozen F1.out.b8 0; have f9 := blk_frozen F1.out.b9 0; generalize w.heap.size = s at *)
    exact impl_Buffered.leave F1.out 0 false _ _ rfl rfl
  | true =>
    have h := H.out
    rw [if_pos rfl] at h
    obtain ⟨t1, ht, h2⟩ := Option.bind_eq_some_iff.mp h
    have A5 := Aside0.mk ht
    replace H := Aside0.mk h2
    clear ht h2 h
    cases t1 with
    | false =>
      have h := H.out
      rw [if_neg (by decide)] at h
      simp only [Option.some.injEq, Prod.mk.injEq] at h
      obtain ⟨rfl, rfl⟩ := h
      gi_wp2_with (first | (gi_at_call 47; refine ((callsIn_wide (n := 4)).2 (impl_areMeant.calls k _ _ l0 true _ (Kd.C_below HR0.out F0.out.be) HC0.out A4.out)).mono ?_; rintro e w1 ⟨rfl, hb⟩; have F1 := Aside0.mk (F0.out.step hb); clear F0 hb; have h5 := blk_cell F1.out.b5 0; have h6 := blk_cell F1.out.b6 0; have h7 := blk_cell F1.out.b7 0; have h8 := blk_cell F1.out.b8 0; have h9 := blk_cell F1.out.b9 0; have f8 := blk_frozen F1.out.b8 0; have f9 := blk_frozen F1.out.b9 0; generalize w.heap.size = s at *) | (gi_at_call 48; refine ((callsIn_wide (n := 4)).2 (impl_GoodName.calls k a1 false _ A5.out)).mono ?_; rintro e w1 ⟨rfl, hd⟩; have F2 := Aside0.mk (F1.out.step (impl_Buffered.drawn hd)); clear hd; clear F1 h5 h6 h7 h8 h9 f8 f9; have F1 := F2; clear F2; have h5 := blk_cell F1.out.b5 0; have h6 := blk_cell F1.out.b6 0; have h7 := blk_cell F1.out.b7 0; have h8 := blk_cell F1.out.b8 0; have h9 := blk_cell F1.out.b9 0; have f8 := blk_frozen F1.out.b8 0; have f9 := blk_frozen F1.out.b9 0))
      exact impl_Buffered.leave F1.out 0 false _ _ rfl rfl
    | true =>
      have h := H.out
      rw [if_pos rfl] at h
      obtain ⟨t2, ht, h2⟩ := Option.bind_eq_some_iff.mp h
      have A6 := Aside0.mk ht
      replace H := Aside0.mk h2
      clear ht h2 h
      cases t2 with
      | false =>
        have h := H.out
        rw [if_neg (by decide)] at h
        simp only [Option.some.injEq, Prod.mk.injEq] at h
        obtain ⟨rfl, rfl⟩ := h
        gi_wp2_with (first | (gi_at_call 47; refine ((callsIn_wide (n := 4)).2 (impl_areMeant.calls k _ _ l0 true _ (Kd.C_below HR0.out F0.out.be) HC0.out A4.out)).mono ?_; rintro e w1 ⟨rfl, hb⟩; have F1 := Aside0.mk (F0.out.step hb); clear F0 hb; have h5 := blk_cell F1.out.b5 0; have h6 := blk_cell F1.out.b6 0; have h7 := blk_cell F1.out.b7 0; have h8 := blk_cell F1.out.b8 0; have h9 := blk_cell F1.out.b9 0; have f8 := blk_frozen F1.out.b8 0; have f9 := blk_frozen F1.out.b9 0; generalize w.heap.size = s at *) | (gi_at_call 48; refine ((callsIn_wide (n := 4)).2 (impl_GoodName.calls k a1 true _ A5.out)).mono ?_; rintro e w1 ⟨rfl, hd⟩; have F2 := Aside0.mk (F1.out.step (impl_Buffered.drawn hd)); clear hd; clear F1 h5 h6 h7 h8 h9 f8 f9; have F1 := F2; clear F2; have h5 := blk_cell F1.out.b5 0; have h6 := blk_cell F1.out.b6 0; have h7 := blk_cell F1.out.b7 0; have h8 := blk_cell F1.out.b8 0; have h9 := blk_cell F1.out.b9 0; have f8 := blk_frozen F1.out.b8 0; have f9 := blk_frozen F1.out.b9 0) | (gi_at_call 49; refine ((callsIn_wide (n := 4)).2 (impl_isTime.calls a2 false _ A6.out)).mono ?_; rintro e w1 ⟨rfl, hd⟩; have F2 := Aside0.mk (F1.out.step (impl_Buffered.drawn hd)); clear hd; clear F1 h5 h6 h7 h8 h9 f8 f9; have F1 := F2; clear F2; have h5 := blk_cell F1.out.b5 0; have h6 := blk_cell F1.out.b6 0; have h7 := blk_cell F1.out.b7 0; have h8 := blk_cell F1.out.b8 0; have h9 := blk_cell F1.out.b9 0; have f8 := blk_frozen F1.out.b8 0; have f9 := blk_frozen F1.out.b9 0))
        exact impl_Buffered.leave F1.out 0 false _ _ rfl rfl
      | true =>
        have h := H.out
        rw [if_pos rfl] at h
        obtain ⟨t3, ht, h2⟩ := Option.bind_eq_some_iff.mp h
        have A7 := Aside0.mk ht
        replace H := Aside0.mk h2
        clear ht h2 h
        cases t3 with
        | false =>
          have h := H.out
          rw [if_neg (by decide)] at h
          simp only [Option.some.injEq, Prod.mk.injEq] at h
          obtain ⟨rfl, rfl⟩ := h
          gi_wp2_with (first | (gi_at_call 47; refine ((callsIn_wide (n := 4)).2 (impl_areMeant.calls k _ _ l0 true _ (Kd.C_below HR0.out F0.out.be) HC0.out A4.out)).mono ?_; rintro e w1 ⟨rfl, hb⟩; have F1 := Aside0.mk (F0.out.step hb); clear F0 hb; have h5 := blk_cell F1.out.b5 0; have h6 := blk_cell F1.out.b6 0; have h7 := blk_cell F1.out.b7 0; have h8 := blk_cell F1.out.b8 0; have h9 := blk_cell F1.out.b9 0; have f8 := blk_frozen F1.out.b8 0; have f9 := blk_frozen F1.out.b9 0; generalize w.heap.size = s at *) | (gi_at_call 48; refine ((callsIn_wide (n := 4)).2 (impl_GoodName.calls k a1 true _ A5.out)).mono ?_; rintro e w1 ⟨rfl, hd⟩; have F2 := Aside0.mk (F1.out.step (impl_Buffered.drawn hd)); clear hd; clear F1 h5 h6 h7 h8 h9 f8 f9; have F1 := F2; clear F2; have h5 := blk_cell F1.out.b5 0; have h6 := blk_cell F1.out.b6 0; have h7 := blk_cell F1.out.b7 0; have h8 := blk_cell F1.out.b8 0; have h9 := blk_cell F1.out.b9 0; have f8 := blk_frozen F1.out.b8 0; have f9 := blk_frozen F1.out.b9 0) | (gi_at_call 49; refine ((callsIn_wide (n := 4)).2 (impl_isTime.calls a2 true _ A6.out)).mono ?_; rintro e w1 ⟨rfl, hd⟩; have F2 := Aside0.mk (F1.out.step (impl_Buffered.drawn hd)); clear hd; clear F1 h5 h6 h7 h8 h9 f8 f9; have F1 := F2; clear F2; have h5 := blk_cell F1.out.b5 0; have h6 := blk_cell F1.out.b6 0; have h7 := blk_cell F1.out.b7 0; have h8 := blk_cell F1.out.b8 0; have h9 := blk_cell F1.out.b9 0; have f8 := blk_frozen F1.out.b8 0; have f9 := blk_frozen F1.out.b9 0) | (gi_at_call 49; refine ((callsIn_wide (n := 4)).2 (impl_isTime.calls a3 false _ A7.out)).mono ?_; rintro e w1 ⟨rfl, hd⟩; have F2 := Aside0.mk (F1.out.step (impl_Buffered.drawn hd)); clear hd; clear F1 h5 h6 h7 h8 h9 f8 f9; have F1 := F2; clear F2; have h5 := blk_cell F1.out.b5 0; have h6 := blk_cell F1.out.b6 0; have h7 := blk_cell F1.out.b7 0; have h8 := blk_cell F1.out.b8 0; have h9 := blk_cell F1.out.b9 0; have f8 := blk_frozen F1.out.b8 0; have f9 := blk_frozen F1.out.b9 0))
          exact impl_Buffered.leave F1.out 0 false _ _ rfl rfl
        | true =>
          have h := H.out
          rw [if_pos rfl] at h
          simp only [Option.some.injEq, Prod.mk.injEq] at h
          obtain ⟨rfl, rfl⟩ := h
          clear H
          gi_wp2_with (first | (gi_at_call 47; refine ((callsIn_wide (n := 4)).2 (impl_areMeant.calls k _ _ l0 true _ (Kd.C_below HR0.out F0.out.be) HC0.out A4.out)).mono ?_; rintro e w1 ⟨rfl, hb⟩; have F1 := Aside0.mk (F0.out.step hb); clear F0 hb; have h5 := blk_cell F1.out.b5 0; have h6 := blk_cell F1.out.b6 0; have h7 := blk_cell F1.out.b7 0; have h8 := blk_cell F1.out.b8 0; have h9 := blk_cell F1.out.b9 0; have f8 := blk_frozen F1.out.b8 0; have f9 := blk_frozen F1.out.b9 0; generalize w.heap.size = s at *) | (gi_at_call 48; refine ((callsIn_wide (n := 4)).2 (impl_GoodName.calls k a1 true _ A5.out)).mono ?_; rintro e w1 ⟨rfl, hd⟩; have F2 := Aside0.mk (F1.out.step (impl_Buffered.drawn hd)); clear hd; clear F1 h5 h6 h7 h8 h9 f8 f9; have F1 := F2; clear F2; have h5 := blk_cell F1.out.b5 0; have h6 := blk_cell F1.out.b6 0; have h7 := blk_cell F1.out.b7 0; have h8 := blk_cell F1.out.b8 0; have h9 := blk_cell F1.out.b9 0; have f8 := blk_frozen F1.out.b8 0; have f9 := blk_frozen F1.out.b9 0) | (gi_at_call 49; refine ((callsIn_wide (n := 4)).2 (impl_isTime.calls a2 true _ A6.out)).mono ?_; rintro e w1 ⟨rfl, hd⟩; have F2 := Aside0.mk (F1.out.step (impl_Buffered.drawn hd)); clear hd; clear F1 h5 h6 h7 h8 h9 f8 f9; have F1 := F2; clear F2; have h5 := blk_cell F1.out.b5 0; have h6 := blk_cell F1.out.b6 0; have h7 := blk_cell F1.out.b7 0; have h8 := blk_cell F1.out.b8 0; have h9 := blk_cell F1.out.b9 0; have f8 := blk_frozen F1.out.b8 0; have f9 := blk_frozen F1.out.b9 0) | (gi_at_call 49; refine ((callsIn_wide (n := 4)).2 (impl_isTime.calls a3 true _ A7.out)).mono ?_; rintro e w1 ⟨rfl, hd⟩; have F2 := Aside0.mk (F1.out.step (impl_Buffered.drawn hd)); clear hd; clear F1 h5 h6 h7 h8 h9 f8 f9; have F1 := F2; clear F2; have h5 := blk_cell F1.out.b5 0; have h6 := blk_cell F1.out.b6 0; have h7 := blk_cell F1.out.b7 0; have h8 := blk_cell F1.out.b8 0; have h9 := blk_cell F1.out.b9 0; have f8 := blk_frozen F1.out.b8 0; have f9 := blk_frozen F1.out.b9 0) | (gi_at_call 50; refine (impl_Buffered.back_in 4 A0 l0.length c0 _).mono ?_; rintro e w1 ⟨rfl, rfl⟩))
          clear h h5 h6 h7 h8 h9 f8 f9 A4 A5 A6 A7 hfn
          have F2 := F1.out.step (below_alloc (Below.refl _ _) (Obj.cells #[Value.slice A0 l0.length c0] 38))
          have hB2 := blk_new w1 (Obj.cells #[Value.slice A0 l0.length c0] 38)
          have hlt : w1.heap.size < (w1.alloc (Obj.cells #[Value.slice A0 l0.length c0] 38)).heap.size := by rw [World.size_alloc]; omega
          generalize w1.alloc (Obj.cells #[Value.slice A0 l0.length c0] 38) = W0 at F2 hB2 hlt ⊢
          generalize w1.heap.size = bB at hB2 hlt ⊢
          clear F1
          have hlow : w.heap.size ≤ W0.heap.size := below_size F2.be
          refine wpIn_rangeFunc_ownH (F := Fence.wide) (n := 5) rfl (by decide) (gf := 78) (lb := #[.pointer (some ⟨bB, 0, none⟩)]) rfl trivial (enters_of Try.func78 (by kernel_rfl) rfl) (impl_Buffered.back_stops 4 (by decide) bB A0 c0 l0 W0 ((blk_cell hB2 0).trans rfl) hlt (Kd.C_below HR0.out F2.be)) belowK_t (belowK_b (Nat.le_refl _)) (Below.refl _ _) (fun _ => rfl)
            (fun (pre : List Nat) W => (∀ i : Nat, i ∈ pre → impl_Buffered.hit a1 a2 a3 (rd_T69 l0 (i : Int)) = false) ∧ Below W0.heap.size W0 W)
            (fun c (pre : List Nat) W => c = .ret ∧ (∃ (pre' : List Nat) (i : Nat), pre = pre' ++ [i] ∧ (∀ j : Nat, j ∈ pre' → impl_Buffered.hit a1 a2 a3 (rd_T69 l0 (j : Int)) = false) ∧ impl_Buffered.hit a1 a2 a3 (rd_T69 l0 (i : Int)) = true ∧ W.cell? ⟨s + 1 + 1 + 1, 0, none⟩ = some (.int .i64 (i : Int))) ∧ W.cell? ⟨s + 1 + 1 + 1 + 1, 0, none⟩ = some (.bool true) ∧ Below w.heap.size w W)
            (fun pre W W' row hs hg hr => ⟨hs.1, hs.2.grown hg hs.2.size (fun k e => (hr k e).1)⟩)
            (fun c pre W W' row hs hg hr => ⟨hs.1, by
              obtain ⟨_, ⟨pre', i, e1, e2, e3, e4⟩, e5, e6⟩ := hs
              exact ⟨⟨pre', i, e1, e2, e3, cell_kept e4 hg (fun r e => (hr r e).2)⟩, cell_kept e5 hg (fun r e => (hr r e).2), e6.grown hg e6.size (fun k e => Nat.le_trans hlow (hr k e).1)⟩⟩)
            ⟨by simp, Below.refl _ _⟩
            (fun x a' W => ∃ g, W.heap[g]? = some (.cells #[.int .i64 (rd_T69 l0 (x : Int)).f0, .string (rd_T69 l0 (x : Int)).f1, .bool (rd_T69 l0 (x : Int)).f2] 69 (0, 0)) ∧ W0.heap.size ≤ g ∧ a' = { tmps := #[.slice A0 l0.length c0, .string a1, .int .i64 a2, .int .i64 a3, undef, .pointer (some ⟨s, 0, none⟩), .pointer (some ⟨s + 1, 0, none⟩), .pointer (some ⟨s + 1 + 1, 0, none⟩), .pointer (some ⟨s + 1 + 1 + 1, 0, none⟩), .pointer (some ⟨s + 1 + 1 + 1 + 1, 0, none⟩), .int .i64 (x : Int), .pointer (some ⟨g, 0, none⟩), .slice A0 l0.length c0, .bool true, .bool false, .bool false, .string a1, .bool true, .bool false, .bool false, .bool false, .int .i64 a2, .bool true, .bool false, .bool false, .bool false, .int .i64 a3, .bool true, .bool false, .bool false, .slice A0 l0.length c0, .func (.func 78) #[] #[.pointer (some ⟨bB, 0, none⟩)], .int .i64 (x : Int), .agg #[.int .i64 (rd_T69 l0 (x : Int)).f0, .string (rd_T69 l0 (x : Int)).f1, .bool (rd_T69 l0 (x : Int)).f2], undef, undef, undef, undef, undef, undef, undef, undef, undef, undef, undef, undef, undef, undef, undef, undef, undef, undef], defers := [] })
            ?ax ?assign ?body ?done ?stop
          case ax =>
            rintro x a' _ W W' row ⟨g, hg, hl, he⟩ hgr hr
            exact ⟨g, (hgr.block g (blk_lt hg) (fun e => by
              obtain ⟨_, o, ho, hc⟩ := hr g e.symm
              rw [hg] at ho
              cases ho
              cases hc)).trans hg, hl, he⟩
          case assign =>
            intro l pre x W K hI hK
            unfold impl_Buffered.enc
            gi_wp2
            exact hK _ _ (KeepsFrom.of_grownBy (World.grownBy_alloc W _ none) (fun j e => by cases e)) (below_alloc' hI.2.size (Below.refl _ _) _) ⟨hI.1, below_alloc' hI.2.size hI.2 _⟩ ⟨_, blk_new _ _, hI.2.size, rfl⟩
          case body =>
            rintro l pre x a' W - - hI0 ⟨g, hg, hgl, rfl⟩ -
            have hI := Aside0.mk hI0
            have FW := Aside0.mk (F2.step hI0.2)
            have h5 := blk_cell FW.out.b5 0
            have h6 := blk_cell FW.out.b6 0
            have h7 := blk_cell FW.out.b7 0
            have h8 := blk_cell FW.out.b8 0
            have h9 := blk_cell FW.out.b9 0
            have f8 := blk_frozen FW.out.b8 0
            have f9 := blk_frozen FW.out.b9 0
            have m0 := blk_cell hg 0
            have m1 := blk_cell hg 1
            have m2 := blk_cell hg 2
            have hfn : ∀ f, (Fence.wide.inRound l).fn f := fun _ => trivial
            have HH : Aside0 (impl_Buffered.hit a1 a2 a3 (rd_T69 l0 (x : Int)) = ((rd_T69 l0 (x : Int)).f2 && (((rd_T69 l0 (x : Int)).f1.toList == a1.toList) && (decide (wrap64 (a2 - a3) ≤ (rd_T69 l0 (x : Int)).f0) && decide ((rd_T69 l0 (x : Int)).f0 ≤ a2))))) := ⟨rfl⟩
            generalize hgoal : impl_Buffered.hit a1 a2 a3 (rd_T69 l0 (x : Int)) = hv at HH
            have HV := Aside0.mk hgoal
            have HGG := Aside0.mk hg
            clear hgoal hI0 hg
            generalize (rd_T69 l0 (x : Int)).f0 = e0 at *
            generalize (rd_T69 l0 (x : Int)).f1 = e1 at *
            generalize (rd_T69 l0 (x : Int)).f2 = e2 at *
            have miss : hv = false → ∀ i : Nat, i ∈ pre ++ [x] → impl_Buffered.hit a1 a2 a3 (rd_T69 l0 (i : Int)) = false := fun hf i hi => by
              rcases List.mem_append.1 hi with h | h
              · exact hI.out.1 i h
              · obtain rfl := List.mem_singleton.1 h
                exact HV.out.trans hf
            have MISS := Aside0.mk miss
            clear miss
            cases e2 with
            | false =>
              gi_wp2
              exact ⟨KeepsFrom.refl _ _, Below.refl _ _, MISS.out (by rw [HH.out]; rfl), hI.out.2⟩
            | true =>
              cases heq : (e1.toList == a1.toList) with
              | false =>
                gi_wp2
                exact ⟨KeepsFrom.refl _ _, Below.refl _ _, MISS.out (by rw [HH.out, heq]; rfl), hI.out.2⟩
              | true =>
                cases hrg : (decide (wrap64 (a2 - a3) ≤ e0) && decide (e0 ≤ a2)) with
                | false =>
                  have HRG : Aside0 (impl_inRange.f e0 (wrap64 (a2 - a3)) a2 = some false) := ⟨by rw [impl_Buffered.in_impl, hrg]⟩
                  have HV0 : Aside0 (hv = false) := ⟨by rw [HH.out, heq, hrg]; rfl⟩
                  clear hrg
                  gi_wp2_with (gi_at_call 51; refine (((callsIn_wide (n := _)).2 (impl_inRange.calls _ _ _ false _ HRG.out)).inRound l).mono ?_; rintro e_ w2 ⟨rfl, hd⟩; have FW2 := Aside0.mk (FW.out.step (impl_Buffered.drawn hd)); have KF := Aside0.mk (impl_Buffered.kf W0.heap.size hd); have KD := Aside0.mk (impl_Buffered.drawnB W0.heap.size hd); have KB := Aside0.mk (hI.out.2.trans ((impl_Buffered.drawnB W0.heap.size hd))); clear h5 h6 h7 h8 h9 f8 f9; have h8 := blk_cell FW2.out.b8 0; have h9 := blk_cell FW2.out.b9 0; have f8 := blk_frozen FW2.out.b8 0; have f9 := blk_frozen FW2.out.b9 0)
                  exact ⟨KF.out, KD.out, MISS.out HV0.out, KB.out⟩
                | true =>
                  have HRG : Aside0 (impl_inRange.f e0 (wrap64 (a2 - a3)) a2 = some true) := ⟨by rw [impl_Buffered.in_impl, hrg]⟩
                  have HV1 : Aside0 (hv = true) := ⟨by rw [HH.out, heq, hrg]; rfl⟩
                  clear hrg
                  gi_wp2_with (gi_at_call 51; refine (((callsIn_wide (n := _)).2 (impl_inRange.calls _ _ _ true _ HRG.out)).inRound l).mono ?_; rintro e_ w2 ⟨rfl, hd⟩; have FW2 := Aside0.mk (FW.out.step (impl_Buffered.drawn hd)); have KF := Aside0.mk (impl_Buffered.kf W0.heap.size hd); have KD := Aside0.mk (impl_Buffered.drawnB W0.heap.size hd); have KB := Aside0.mk (hI.out.2.trans ((impl_Buffered.drawnB W0.heap.size hd))); clear h5 h6 h7 h8 h9 f8 f9; have h8 := blk_cell FW2.out.b8 0; have h9 := blk_cell FW2.out.b9 0; have f8 := blk_frozen FW2.out.b8 0; have f9 := blk_frozen FW2.out.b9 0)
                  obtain ⟨c8, c9, hb⟩ := FW2.out.cells (x : Int) true
                  have l8 := blk_lt F2.b8
                  have l9 := blk_lt F2.b9
                  exact ⟨(KF.out.trans (KeepsFrom.of_grownBy (grownBy_setCell' w2 (s + 1 + 1 + 1) (.int .i64 (x : Int))) (fun j e => by cases e; exact l8))).trans (KeepsFrom.of_grownBy (grownBy_setCell' _ (s + 1 + 1 + 1 + 1) (.bool true)) (fun j e => by cases e; exact l9)), rfl, ⟨pre, x, rfl, hI.out.1, HV.out.trans HV1.out, c8⟩, c9, hb⟩
          case done =>
            rintro D xs W hDB hxs hI0 hD
            have hI := Aside0.mk hI0
            have HD := Aside0.mk hD
            have HXS := Aside0.mk hxs
            have FW := Aside0.mk (F2.step hI0.2)
            have h8 := blk_cell FW.out.b8 0
            have h9 := blk_cell FW.out.b9 0
            have f8 := blk_frozen FW.out.b8 0
            have f9 := blk_frozen FW.out.b9 0
            clear hI0 hD hxs
            gi_wp2
            obtain ⟨c8, c9, hb⟩ := FW.out.cells (-1) true
            have l8 := blk_lt F2.b8
            have l9 := blk_lt F2.b9
            have hn := impl_Buffered.back_none (fun i => impl_Buffered.hit a1 a2 a3 (rd_T69 l0 (i : Int))) l0.length (fun i hi => hI.out.1 i (by rw [HXS.out]; exact hi))
            have hD2 : ((W.setCell ⟨s + 1 + 1 + 1, 0, none⟩ (.int .i64 (-1))).setCell ⟨s + 1 + 1 + 1 + 1, 0, none⟩ (.bool true)).heap[D]? = some (.deferred (some [])) := ((Below.heap_setCell _ ⟨s + 1 + 1 + 1 + 1, 0, none⟩ _ D (show D ≠ s + 1 + 1 + 1 + 1 by omega)).trans (Below.heap_setCell _ ⟨s + 1 + 1 + 1, 0, none⟩ _ D (show D ≠ s + 1 + 1 + 1 by omega))).trans HD.out
            exact impl_Buffered.leave2 (-1) _ hn true _ _ hD2 (Nat.le_trans hlow hDB) c8 c9 hb rfl rfl
          case stop =>
            rintro D c pre W hDB hSp ⟨rfl, ⟨pre', i, he, h1, h2, c8⟩, c9, hb⟩ hD
            have hn := impl_Buffered.back_some (fun i => impl_Buffered.hit a1 a2 a3 (rd_T69 l0 (i : Int))) l0.length pre' i (by rw [← he]; exact hSp) h1 h2
            gi_wp2
            exact impl_Buffered.leave2 (i : Int) _ hn true _ _ hD (Nat.le_trans hlow hDB) c8 c9 hb rfl rfl
end

/-! ### laws_eqMeant: function 52 -/
def laws_eqMeant.f (a0_0 : Int) (a0_1 : ByteArray) (a0_2 : Bool) (a1_0 : Int) (a1_1 : ByteArray) (a1_2 : Bool) : Option (Bool) := if a0_0 = a1_0 then (if a0_1.toList = a1_1.toList then (if (a0_2 != a1_2) = true then (some false) else (some true)) else (some false)) else (some false)
set_option maxHeartbeats 8000000 in
set_option maxRecDepth 100000 in
theorem laws_eqMeant.calls (a0_0 : Int) (a0_1 : ByteArray) (a0_2 : Bool) (a1_0 : Int) (a1_1 : ByteArray) (a1_2 : Bool) (r : Bool) (w : World) (h : laws_eqMeant.f a0_0 a0_1 a0_2 a1_0 a1_1 a1_2 = some r) :
  Calls Try.prog 52 #[.agg #[.int .i64 a0_0, .string a0_1, .bool a0_2], .agg #[.int .i64 a1_0, .string a1_1, .bool a1_2]] w fun e w' => e = .returned (.bool r) ∧ Below w.heap.size w w' := by
 have hu69 := Try.underlying69
 have HB := Aside0.mk (Below.refl w.heap.size w)
 have H : (if a0_0 = a1_0 then (if a0_1.toList = a1_1.toList then (if (a0_2 != a1_2) = true then (some false) else (some true)) else (some false)) else (some false)) = some r := h
 clear h
 by_cases c3 : a0_0 = a1_0
 ·rw [if_pos c3] at H
  have c3b0 : (a0_0 == a1_0) = true := beq_iff_eq.mpr c3
  have c3b1 : (a0_0 != a1_0) = false := bne_eq_false_iff_eq.mpr c3
  clear c3
  by_cases c4 : a0_1.toList = a1_1.toList
  ·rw [if_pos c4] at H
   have c4b0 : (a0_1.toList == a1_1.toList) = true := beq_iff_eq.mpr c4
   have c4b1 : (a0_1.toList != a1_1.toList) = false := bne_eq_false_iff_eq.mpr c4
   clear c4
   by_cases c5 : (a0_2 != a1_2) = true
   ·rw [if_pos c5] at H
    have c5b0 : (a0_2 != a1_2) = true := c5
    (try (have c5b9 : (!(a0_2 == a1_2)) = true := c5b0))
    (try (have c5b1 : decide (a0_2 = a1_2) = false := by simpa using c5))
    (try (have c5b2 : (a0_2 == a1_2) = false := by simpa using c5))
    (try (have c5b3 : ¬ (a0_2 = a1_2) := by simpa using c5))
    clear c5
    obtain rfl := Option.some.inj H
    go_enter Try.func52, Try.ntmps52
    go_wp2_with (first | ((with_reducible refine gate_dst (N := 2) rfl ?_); refine bx_ 2 #[.int .i64 a0_0, .string a0_1, .bool a0_2] 69 ?_; intro gb139 hg w6 hbox hb; have n0_ := Aside0.mk (below_step (bw_ HB.out) hb); have n1_ := Aside0.mk (hbox); have n2_ := Aside0.mk (gs_ hg (bw_ HB.out)); have n3_ := Aside0.mk (gs_ hg (bw_ HB.out)); clear HB; have HB := n0_; have BK139 := n1_; have GW139 := n2_; have GE139 := n3_; clear n0_ n1_ n2_ n3_; clear hb hbox hg) | ((with_reducible refine gate_dst (N := 3) rfl ?_); refine bx_ 3 #[.int .i64 a1_0, .string a1_1, .bool a1_2] 69 ?_; intro gb140 hg w7 hbox hb; have n0_ := Aside0.mk (blk_below (bk_ BK139.out) hb); have n1_ := Aside0.mk (below_step (bw_ HB.out) hb); have n2_ := Aside0.mk (hbox); have n3_ := Aside0.mk (gs_ hg (bw_ HB.out)); have n4_ := Aside0.mk (gs_ hg (bw_ HB.out)); have n5_ := Aside0.mk (nl_ hg (bk_ BK139.out)); have n6_ := Aside0.mk (ng_ hg (bk_ BK139.out)); clear BK139; clear HB; have BK139 := n0_; have HB := n1_; have BK140 := n2_; have GW140 := n3_; have GE140 := n4_; have NB139_140 := n5_; have NB140_139 := n6_; clear n0_ n1_ n2_ n3_ n4_ n5_ n6_; clear hb hbox hg; have hnb8 := NB139_140.out; have hnc8 := NB140_139.out; have hcz9_0 := cz_ BK139.out 0; have hcz9_1 := cz_ BK139.out 1; have hcz9_2 := cz_ BK139.out 2; have hfz9_0 := blk_frozen BK139.out 0; have hfz9_1 := blk_frozen BK139.out 1; have hfz9_2 := blk_frozen BK139.out 2; have hcz10_0 := cz_ BK140.out 0; have hcz10_1 := cz_ BK140.out 1; have hcz10_2 := cz_ BK140.out 2; have hfz10_0 := blk_frozen BK140.out 0; have hfz10_1 := blk_frozen BK140.out 1; have hfz10_2 := blk_frozen BK140.out 2))
    go_ret
    exact ⟨by first | rfl | (simp [errW_none, errW_some] <;> rfl) | (simp [*, errW_none, errW_some] <;> rfl), bw_ HB.out⟩
   ·rw [if_neg c5] at H
    have c5b0 : (a0_2 != a1_2) = false := by simpa using c5
    (try (have c5b9 : (!(a0_2 == a1_2)) = false := c5b0))
    (try (have c5b1 : decide (a0_2 = a1_2) = true := by simpa using c5))
    (try (have c5b2 : (a0_2 == a1_2) = true := by simpa using c5))
    clear c5
    obtain rfl := Option.some.inj H
    go_enter Try.func52, Try.ntmps52
    go_wp2_with (first | ((with_reducible refine gate_dst (N := 2) rfl ?_); refine bx_ 2 #[.int .i64 a0_0, .string a0_1, .bool a0_2] 69 ?_; intro gb139 hg w11 hbox hb; have n0_ := Aside0.mk (below_step (bw_ HB.out) hb); have n1_ := Aside0.mk (hbox); have n2_ := Aside0.mk (gs_ hg (bw_ HB.out)); have n3_ := Aside0.mk (gs_ hg (bw_ HB.out)); clear HB; have HB := n0_; have BK139 := n1_; have GW139 := n2_; have GE139 := n3_; clear n0_ n1_ n2_ n3_; clear hb hbox hg) | ((with_reducible refine gate_dst (N := 3) rfl ?_); refine bx_ 3 #[.int .i64 a1_0, .string a1_1, .bool a1_2] 69 ?_; intro gb140 hg w12 hbox hb; have n0_ := Aside0.mk (blk_below (bk_ BK139.out) hb); have n1_ := Aside0.mk (below_step (bw_ HB.out) hb); have n2_ := Aside0.mk (hbox); have n3_ := Aside0.mk (gs_ hg (bw_ HB.out)); have n4_ := Aside0.mk (gs_ hg (bw_ HB.out)); have n5_ := Aside0.mk (nl_ hg (bk_ BK139.out)); have n6_ := Aside0.mk (ng_ hg (bk_ BK139.out)); clear BK139; clear HB; have BK139 := n0_; have HB := n1_; have BK140 := n2_; have GW140 := n3_; have GE140 := n4_; have NB139_140 := n5_; have NB140_139 := n6_; clear n0_ n1_ n2_ n3_ n4_ n5_ n6_; clear hb hbox hg; have hnb13 := NB139_140.out; have hnc13 := NB140_139.out; have hcz14_0 := cz_ BK139.out 0; have hcz14_1 := cz_ BK139.out 1; have hcz14_2 := cz_ BK139.out 2; have hfz14_0 := blk_frozen BK139.out 0; have hfz14_1 := blk_frozen BK139.out 1; have hfz14_2 := blk_frozen BK139.out 2; have hcz15_0 := cz_ BK140.out 0; have hcz15_1 := cz_ BK140.out 1; have hcz15_2 := cz_ BK140.out 2; have hfz15_0 := blk_frozen BK140.out 0; have hfz15_1 := blk_frozen BK140.out 1; have hfz15_2 := blk_frozen BK140.out 2))
    go_ret
    exact ⟨by first | rfl | (simp [errW_none, errW_some] <;> rfl) | (simp [*, errW_none, errW_some] <;> rfl), bw_ HB.out⟩
  ·rw [if_neg c4] at H
   have c4b0 : (a0_1.toList == a1_1.toList) = false := beq_eq_false_iff_ne.mpr c4
   have c4b1 : (a0_1.toList != a1_1.toList) = true := bne_iff_ne.mpr c4
   obtain rfl := Option.some.inj H
   go_enter Try.func52, Try.ntmps52
   go_wp2_with (first | ((with_reducible refine gate_dst (N := 2) rfl ?_); refine bx_ 2 #[.int .i64 a0_0, .string a0_1, .bool a0_2] 69 ?_; intro gb139 hg w16 hbox hb; have n0_ := Aside0.mk (below_step (bw_ HB.out) hb); have n1_ := Aside0.mk (hbox); have n2_ := Aside0.mk (gs_ hg (bw_ HB.out)); have n3_ := Aside0.mk (gs_ hg (bw_ HB.out)); clear HB; have HB := n0_; have BK139 := n1_; have GW139 := n2_; have GE139 := n3_; clear n0_ n1_ n2_ n3_; clear hb hbox hg) | ((with_reducible refine gate_dst (N := 3) rfl ?_); refine bx_ 3 #[.int .i64 a1_0, .string a1_1, .bool a1_2] 69 ?_; intro gb140 hg w17 hbox hb; have n0_ := Aside0.mk (blk_below (bk_ BK139.out) hb); have n1_ := Aside0.mk (below_step (bw_ HB.out) hb); have n2_ := Aside0.mk (hbox); have n3_ := Aside0.mk (gs_ hg (bw_ HB.out)); have n4_ := Aside0.mk (gs_ hg (bw_ HB.out)); have n5_ := Aside0.mk (nl_ hg (bk_ BK139.out)); have n6_ := Aside0.mk (ng_ hg (bk_ BK139.out)); clear BK139; clear HB; have BK139 := n0_; have HB := n1_; have BK140 := n2_; have GW140 := n3_; have GE140 := n4_; have NB139_140 := n5_; have NB140_139 := n6_; clear n0_ n1_ n2_ n3_ n4_ n5_ n6_; clear hb hbox hg; have hnb18 := NB139_140.out; have hnc18 := NB140_139.out; have hcz19_0 := cz_ BK139.out 0; have hcz19_1 := cz_ BK139.out 1; have hcz19_2 := cz_ BK139.out 2; have hfz19_0 := blk_frozen BK139.out 0; have hfz19_1 := blk_frozen BK139.out 1; have hfz19_2 := blk_frozen BK139.out 2; have hcz20_0 := cz_ BK140.out 0; have hcz20_1 := cz_ BK140.out 1; have hcz20_2 := cz_ BK140.out 2; have hfz20_0 := blk_frozen BK140.out 0; have hfz20_1 := blk_frozen BK140.out 1; have hfz20_2 := blk_frozen BK140.out 2))
   go_ret
   exact ⟨by first | rfl | (simp [errW_none, errW_some] <;> rfl) | (simp [*, errW_none, errW_some] <;> rfl), bw_ HB.out⟩
 ·rw [if_neg c3] at H
  have c3b0 : (a0_0 == a1_0) = false := beq_eq_false_iff_ne.mpr c3
  have c3b1 : (a0_0 != a1_0) = true := bne_iff_ne.mpr c3
  obtain rfl := Option.some.inj H
  go_enter Try.func52, Try.ntmps52
  go_wp2_with (first | ((with_reducible refine gate_dst (N := 2) rfl ?_); refine bx_ 2 #[.int .i64 a0_0, .string a0_1, .bool a0_2] 69 ?_; intro gb139 hg w21 hbox hb; have n0_ := Aside0.mk (below_step (bw_ HB.out) hb); have n1_ := Aside0.mk (hbox); have n2_ := Aside0.mk (gs_ hg (bw_ HB.out)); have n3_ := Aside0.mk (gs_ hg (bw_ HB.out)); clear HB; have HB := n0_; have BK139 := n1_; have GW139 := n2_; have GE139 := n3_; clear n0_ n1_ n2_ n3_; clear hb hbox hg) | ((with_reducible refine gate_dst (N := 3) rfl ?_); refine bx_ 3 #[.int .i64 a1_0, .string a1_1, .bool a1_2] 69 ?_; intro gb140 hg w22 hbox hb; have n0_ := Aside0.mk (blk_below (bk_ BK139.out) hb); have n1_ := Aside0.mk (below_step (bw_ HB.out) hb); have n2_ := Aside0.mk (hbox); have n3_ := Aside0.mk (gs_ hg (bw_ HB.out)); have n4_ := Aside0.mk (gs_ hg (bw_ HB.out)); have n5_ := Aside0.mk (nl_ hg (bk_ BK139.out)); have n6_ := Aside0.mk (ng_ hg (bk_ BK139.out)); clear BK139; clear HB; have BK139 := n0_; have HB := n1_; have BK140 := n2_; have GW140 := n3_; have GE140 := n4_; have NB139_140 := n5_; have NB140_139 := n6_; clear n0_ n1_ n2_ n3_ n4_ n5_ n6_; clear hb hbox hg; have hnb23 := NB139_140.out; have hnc23 := NB140_139.out; have hcz24_0 := cz_ BK139.out 0; have hcz24_1 := cz_ BK139.out 1; have hcz24_2 := cz_ BK139.out 2; have hfz24_0 := blk_frozen BK139.out 0; have hfz24_1 := blk_frozen BK139.out 1; have hfz24_2 := blk_frozen BK139.out 2; have hcz25_0 := cz_ BK140.out 0; have hcz25_1 := cz_ BK140.out 1; have hcz25_2 := cz_ BK140.out 2; have hfz25_0 := blk_frozen BK140.out 0; have hfz25_1 := blk_frozen BK140.out 1; have hfz25_2 := blk_frozen BK140.out 2))
  go_ret
  exact ⟨by first | rfl | (simp [errW_none, errW_some] <;> rfl) | (simp [*, errW_none, errW_some] <;> rfl), bw_ HB.out⟩

end Go.Proofs.Ytpfddgchlllkpaa.XFnExactBuffered
