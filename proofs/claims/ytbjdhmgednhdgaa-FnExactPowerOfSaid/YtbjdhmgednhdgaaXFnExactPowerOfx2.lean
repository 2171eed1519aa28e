/- What the Go functions that this law comes to compute, each walked; written by a program of this session. -/
import Derived.Test.YtbjdhmgednhdgaaXFlt
import Derived.Test.YtbjdhmgednhdgaaXMark
import Derived.Test.YtbjdhmgednhdgaaXFnExactPowerOfx0
import Derived.Test.YtbjdhmgednhdgaaXFnExactPowerOfx1
namespace Go.Proofs.Ytbjdhmgednhdgaa.XFnExactPowerOf
open Go.RowKit Go.Proofs.YtbjdhmgednhdgaaW.PrintWords Go.Proofs.YtbjdhmgednhdgaaW.PrintLast Go.Proofs.YtbjdhmgednhdgaaW.PrintMore
attribute [local go_sem] run_fadd run_fsub run_fmul run_fdiv run_fconv run_feq run_fneq run_flss run_fgtr run_fleq run_fgeq run_store_flt str_geq max2_int min2_int max_two min_two max_three min_three max_four min_four   -- for this text's walks alone
set_option linter.unusedVariables false
set_option linter.unusedSimpArgs false

/-! ### impl_areGood: function 36 -/
def impl_areGood.f (k : Nat) (l0 : List Int) : Option (Bool) := (slices_ContainsFunc_float64_float64_at_impl_areGood_1.f k l0).bind fun t131 => (some (!t131))
theorem impl_areGood.mono : ∀ a0 k, LeO (impl_areGood.f k a0) (impl_areGood.f (k + 1) a0) := by
 intro a0 k
 unfold impl_areGood.f
 repeat' first
   | (with_reducible exact slices_ContainsFunc_float64_float64_at_impl_areGood_1.mono _ _)
   | (with_reducible exact LeO.refl _)
   | (with_reducible exact LeO.none _)
   | (with_reducible refine LeO.ite ?_ ?_)
   | (with_reducible refine LeO.bind ?_ (fun _ => ?_))
   | exact slices_ContainsFunc_float64_float64_at_impl_areGood_1.mono _ _
   | exact LeO.none _
   | refine LeO.ite ?_ ?_
   | refine LeO.bind ?_ (fun _ => ?_)
set_option maxHeartbeats 8000000 in
set_option maxRecDepth 100000 in
theorem impl_areGood.calls (k : Nat) (A0 : Option Addr) (c0 : Nat) (l0 : List Int) (r : Bool) (w : World) (hr0 : Kd.C Kd.flt w A0 l0.length l0) (hc0 : l0.length ≤ c0) (h : impl_areGood.f k l0 = some r) :
  Calls Try.prog 36 #[.slice A0 l0.length c0] w fun e w' => e = .returned (.bool r) ∧ Below w.heap.size w w' := by
 have HR0 := Aside0.mk hr0
 have HC0 := Aside0.mk hc0
 clear hr0 hc0
 have HB := Aside0.mk (Below.refl w.heap.size w)
 have H : ((slices_ContainsFunc_float64_float64_at_impl_areGood_1.f k l0).bind fun t131 => (some (!t131))) = some r := h
 clear h
 obtain ⟨t131, A20, H⟩ := bE_ H
 have A2 := Aside0.mk A20
 clear A20
 obtain rfl := Option.some.inj H
 go_enter Try.func36, Try.ntmps36
 go_wp2_with (first | ((with_reducible refine gate_callee (f := 59) rfl ?_); refine goesL_ (some 4) rfl rfl Try.func59 (by kernel_rfl) rfl #[.slice A0 l0.length c0, .func (.func 60) #[] #[]] rfl (by (try simp only [List.map_toArray, List.map_cons, List.map_nil]); first | done | rfl | (simp only [List.length_drop, List.length_take]; rfl)) ?_; (with_reducible refine (slices_ContainsFunc_float64_float64_at_impl_areGood_1.calls k _ _ l0  t131 _ ?side1 ?side2 A2.out).mono ?_); (case side1 => repeat (first | exact HR0.out | (with_reducible refine Kd.C_alloc ?_ _) | (with_reducible refine Kd.C_drewN ?_ _) | (with_reducible refine Kd.C_drew ?_))); (case side2 => exact HC0.out); rintro e w3 ⟨rfl, hb⟩; refine ⟨_, rfl, ?_⟩; have n0_ := Aside0.mk (below_step (bw_ HB.out) hb); clear HB; have HB := n0_; clear n0_; (try clear hb); (try clear hb2); (try clear hk); (try clear hi)))
 go_ret
 exact ⟨by first | rfl | (simp [errW_none, errW_some] <;> rfl) | (simp [*, errW_none, errW_some] <;> rfl), bw_ HB.out⟩

/-! ### impl_areTurns_1: function 62 -/
def impl_areTurns_1.f (k : Nat) (a0_0 : Int) (a0_1 : Int) : Option (Bool) := (impl_areGood.f k (([a0_0, a0_1] : List Int))).bind fun t136 => (some (!t136))
theorem impl_areTurns_1.mono : ∀ a0 a1 k, LeO (impl_areTurns_1.f k a0 a1) (impl_areTurns_1.f (k + 1) a0 a1) := by
 intro a0 a1 k
 unfold impl_areTurns_1.f
 repeat' first
   | (with_reducible exact impl_areGood.mono _ _)
   | (with_reducible exact LeO.refl _)
   | (with_reducible exact LeO.none _)
   | (with_reducible refine LeO.ite ?_ ?_)
   | (with_reducible refine LeO.bind ?_ (fun _ => ?_))
   | exact impl_areGood.mono _ _
   | exact LeO.none _
   | refine LeO.ite ?_ ?_
   | refine LeO.bind ?_ (fun _ => ?_)
set_option maxHeartbeats 8000000 in
set_option maxRecDepth 100000 in
theorem impl_areTurns_1.calls (k : Nat) (a0_0 : Int) (a0_1 : Int) (r : Bool) (w : World) (h : impl_areTurns_1.f k a0_0 a0_1 = some r) :
  Calls Try.prog 62 #[.agg #[.float .f64 a0_0.toNat, .float .f64 a0_1.toNat]] w fun e w' => e = .returned (.bool r) ∧ Below w.heap.size w w' := by
 have hu33 := Try.underlying33
 have HB := Aside0.mk (Below.refl w.heap.size w)
 have H : ((impl_areGood.f k (([a0_0, a0_1] : List Int))).bind fun t136 => (some (!t136))) = some r := h
 clear h
 obtain ⟨y133, hy133⟩ : ∃ y_ : List Int, y_ = (([a0_0, a0_1] : List Int)) := ⟨_, rfl⟩
 replace H : ((impl_areGood.f k y133).bind fun t136 => (some (!t136))) = some r := by first | (rw [hy133]; with_reducible exact H) | (have H2_ := (Option.bind_some _ _).symm.trans H; rw [hy133]; with_reducible exact H2_) | (have H2_ := (Option.bind_some _ _).symm.trans H; with_reducible exact H2_) | with_reducible exact H | (rw [hy133]; exact H) | exact H
 have Ny133 := Aside0.mk hy133
 clear hy133
 obtain ⟨t136, A20, H⟩ := bE_ H
 have A2 := Aside0.mk A20
 clear A20
 obtain rfl := Option.some.inj H
 go_enter Try.func62, Try.ntmps62
 go_wp2_with (first | ((with_reducible refine gate_dst (N := 1) rfl ?_); refine bx_ 1 #[.float .f64 a0_0.toNat, .float .f64 a0_1.toNat] 33 ?_; intro gb132 hg w3 hbox hb; have n0_ := Aside0.mk (below_step (bw_ HB.out) hb); have n1_ := Aside0.mk (hbox); have n2_ := Aside0.mk (gs_ hg (bw_ HB.out)); have n3_ := Aside0.mk (gs_ hg (bw_ HB.out)); clear HB; have HB := n0_; have BK132 := n1_; have GW132 := n2_; have GE132 := n3_; clear n0_ n1_ n2_ n3_; clear hb hbox hg; have hcz4_0 := cz_ BK132.out 0; have hcz4_1 := cz_ BK132.out 1; have hfz4_0 := blk_frozen BK132.out 0; have hfz4_1 := blk_frozen BK132.out 1) | ((with_reducible refine gate_dst (N := 7) rfl ?_); refine Kd.R_lit Kd.flt _ 22 ?hg (N := 7) ?hd (xs := ([a0_0, a0_1] : List Int)) (inner := [.float .f64 a0_0.toNat, .float .f64 a0_1.toNat]) (ok := fun _ => True) (okp := fun _ => True) ?hr ?hp (fun _ hk => hk) trivial (Below.refl _ _) (Nat.le_refl _) (by simp) ?_; (case hd => rfl); (case hg => rfl); (case hr => first | (go_simp; done) | (go_simp; rfl)); (case hp => exact (Reps.one (show Kd.M Kd.flt _ _ _ a0_0 [.float .f64 a0_0.toNat] from rfl) (Reps.one (show Kd.M Kd.flt _ _ _ a0_1 [.float .f64 a0_1.toNat] from rfl) (Reps.none _ _)))); intro v134 w5 ho6 hb hg_ hnew_; clear hg_ hnew_; (first | rw [← Ny133.out] at ho6 | (simp only [Int.reduceToNat] at ho6; rw [← Ny133.out] at ho6)); have n0_ := Aside0.mk (Kd.R_lower ho6 (below_size (bw_ HB.out))); have n1_ := Aside0.mk (blk_below (bk_ BK132.out) hb); have n2_ := Aside0.mk (below_step (bw_ HB.out) hb); clear BK132; clear HB; have HO135 := n0_; have BK132 := n1_; have HB := n2_; clear n0_ n1_ n2_; clear hb ho6; obtain ⟨Ao7, co7, eo7⟩ := Kd.R_slice HO135.out; subst eo7) | ((with_reducible refine gate_callee (f := 36) rfl ?_); refine goesL_ (some 8) rfl rfl Try.func36 (by kernel_rfl) rfl #[.slice Ao7 y133.length co7] rfl (by (try simp only [List.map_toArray, List.map_cons, List.map_nil]); first | done | rfl | (simp only [List.length_drop, List.length_take]; rfl)) ?_; (with_reducible refine (impl_areGood.calls k _ _ y133 t136 _ ?side1 ?side2 A2.out).mono ?_); (case side1 => repeat (first | exact (Kd.R_reads' HO135.out).2.2 | (with_reducible refine Kd.C_alloc ?_ _) | (with_reducible refine Kd.C_drewN ?_ _) | (with_reducible refine Kd.C_drew ?_))); (case side2 => exact (Kd.R_reads' HO135.out).2.1); rintro e w8 ⟨rfl, hb⟩; refine ⟨_, rfl, ?_⟩; have n0_ := Aside0.mk (Kd.R_below (by (with_reducible repeat (first | apply Kd.R_alloc | apply Kd.R_drewN | apply Kd.R_drew)); exact HO135.out) hb); have n1_ := Aside0.mk (blk_below (bk_ BK132.out) hb); have n2_ := Aside0.mk (below_step (bw_ HB.out) hb); clear HO135; clear BK132; clear HB; have HO135 := n0_; have BK132 := n1_; have HB := n2_; clear n0_ n1_ n2_; (try clear hb); (try clear hb2); (try clear hk); (try clear hi)))
 go_ret
 exact ⟨by first | rfl | (simp [errW_none, errW_some] <;> rfl) | (simp [*, errW_none, errW_some] <;> rfl), bw_ HB.out⟩

/-! ### slices_IndexFunc_impl_Turn_impl_Turn_at_impl_areTurns_1: function 69 -/
def slices_IndexFunc_impl_Turn_impl_Turn_at_impl_areTurns_1.l0 : Nat → List (S33) → Int → Int → Option (Int)
 | 0, _, _, _ => none
 | k + 1, x0, x7, x8 => if x8 < x7 then (if 0 ≤ x8 then (if x8 < (x0.length : Int) then ((impl_areTurns_1.f k ((rd_T33 x0 x8).f0) ((rd_T33 x0 x8).f1)).bind fun t138 => (if t138 = true then (some x8) else (slices_IndexFunc_impl_Turn_impl_Turn_at_impl_areTurns_1.l0 k x0 x7 (wrap64 (x8 + 1))))) else (none)) else (none)) else (some (-1))
def slices_IndexFunc_impl_Turn_impl_Turn_at_impl_areTurns_1.f (k : Nat) (l0 : List (S33))  : Option (Int) := slices_IndexFunc_impl_Turn_impl_Turn_at_impl_areTurns_1.l0 k l0 (l0.length : Int) 0
theorem slices_IndexFunc_impl_Turn_impl_Turn_at_impl_areTurns_1.mono_l : ∀ k, (∀ y0 y1 y2, LeO (slices_IndexFunc_impl_Turn_impl_Turn_at_impl_areTurns_1.l0 k y0 y1 y2) (slices_IndexFunc_impl_Turn_impl_Turn_at_impl_areTurns_1.l0 (k + 1) y0 y1 y2))
 | 0 => fun _ _ _ r h => by simp [slices_IndexFunc_impl_Turn_impl_Turn_at_impl_areTurns_1.l0] at h
 | k + 1 => by
  have ih0 := slices_IndexFunc_impl_Turn_impl_Turn_at_impl_areTurns_1.mono_l k
  ·intro y0 y1 y2
   unfold slices_IndexFunc_impl_Turn_impl_Turn_at_impl_areTurns_1.l0
   repeat' first
   | (with_reducible exact ih0 _ _ _)
   | (with_reducible exact impl_areTurns_1.mono _ _ _)
   | (with_reducible exact LeO.refl _)
   | (with_reducible exact LeO.none _)
   | (with_reducible refine LeO.ite ?_ ?_)
   | (with_reducible refine LeO.bind ?_ (fun _ => ?_))
   | exact ih0 _ _ _
   | exact impl_areTurns_1.mono _ _ _
   | exact LeO.none _
   | refine LeO.ite ?_ ?_
   | refine LeO.bind ?_ (fun _ => ?_)
theorem slices_IndexFunc_impl_Turn_impl_Turn_at_impl_areTurns_1.mono : ∀ a0 k, LeO (slices_IndexFunc_impl_Turn_impl_Turn_at_impl_areTurns_1.f k a0) (slices_IndexFunc_impl_Turn_impl_Turn_at_impl_areTurns_1.f (k + 1) a0) := by
 intro a0 k
 have ih0 := slices_IndexFunc_impl_Turn_impl_Turn_at_impl_areTurns_1.mono_l k
 unfold slices_IndexFunc_impl_Turn_impl_Turn_at_impl_areTurns_1.f
 repeat' first
   | (with_reducible exact ih0 _ _ _)
   | (with_reducible exact impl_areTurns_1.mono _ _ _)
   | (with_reducible exact LeO.refl _)
   | (with_reducible exact LeO.none _)
   | (with_reducible refine LeO.ite ?_ ?_)
   | (with_reducible refine LeO.bind ?_ (fun _ => ?_))
   | exact ih0 _ _ _
   | exact impl_areTurns_1.mono _ _ _
   | exact LeO.none _
   | refine LeO.ite ?_ ?_
   | refine LeO.bind ?_ (fun _ => ?_)
set_option maxHeartbeats 8000000 in
set_option maxRecDepth 100000 in
theorem slices_IndexFunc_impl_Turn_impl_Turn_at_impl_areTurns_1.calls (k : Nat) (A0 : Option Addr) (c0 : Nat) (l0 : List (S33))  (r : Int) (w : World) (hr0 : Kd.C k33 w A0 l0.length l0) (hc0 : l0.length ≤ c0) (h : slices_IndexFunc_impl_Turn_impl_Turn_at_impl_areTurns_1.f k l0 = some r) :
  Calls Try.prog 69 #[.slice A0 l0.length c0, .func (.func 62) #[] #[]] w fun e w' => e = .returned (.int .i64 r) ∧ Below w.heap.size w w' := by
 have hu33 := Try.underlying33
 have HR0 := Aside0.mk hr0
 have HC0 := Aside0.mk hc0
 clear hr0 hc0
 have HB := Aside0.mk (Below.refl w.heap.size w)
 have H : (slices_IndexFunc_impl_Turn_impl_Turn_at_impl_areTurns_1.l0 k l0 (l0.length : Int) 0) = some r := h
 clear h
 have H' := Aside0.mk H
 clear H
 go_enter Try.func69, Try.ntmps69
 go_wp2
 go_loopg [8] k (fun kq v8 w' => ∃ (x8_1 : Int), v8 = .int .i64 x8_1 ∧ Aside0 (slices_IndexFunc_impl_Turn_impl_Turn_at_impl_areTurns_1.l0 kq l0 (l0.length : Int) x8_1 = some r) ∧ Aside0 (kq ≤ k) ∧ Aside0 (Below w.heap.size w w'))
 case atStart => exact ⟨(0), (by first | rfl | (simp; done) | (simp [*]; done) | (simp [wrap64]; done)), H', ⟨Nat.le_refl _⟩, ⟨bw_ HB.out⟩⟩
 case round =>
  clear H'
  try clear p2
  obtain ⟨x8_1, rfl, HA, HK1, HB⟩ := hrel
  cases gk with
  | zero => exact absurd HA.out (by simp [slices_IndexFunc_impl_Turn_impl_Turn_at_impl_areTurns_1.l0])
  | succ k1 =>
   have H := HA.out
   clear HA
   simp only [slices_IndexFunc_impl_Turn_impl_Turn_at_impl_areTurns_1.l0] at H
   by_cases c3 : x8_1 < (l0.length : Int)
   ·rw [if_pos c3] at H
    have c3b0 : decide (x8_1 < (l0.length : Int)) = true := decide_eq_true c3
    clear c3
    by_cases c4 : 0 ≤ x8_1
    ·rw [if_pos c4] at H
     have c4b0 : decide (0 ≤ x8_1) = true := decide_eq_true c4
     clear c4
     by_cases c5 : x8_1 < (l0.length : Int)
     ·rw [if_pos c5] at H
      have c5b0 : decide (x8_1 < (l0.length : Int)) = true := decide_eq_true c5
      clear c5
      obtain ⟨t138, A60, H⟩ := bE_ H
      have A6 := Aside0.mk A60
      clear A60
      by_cases c7 : t138 = true
      ·subst c7
       replace H := it_ H rfl
       obtain rfl := Option.some.inj H
       have p137 : 0 ≤ (x8_1 : Int) := of_decide_eq_true (by first | (with_reducible assumption) | assumption)
       have q137 : x8_1 < (l0.length : Int) := of_decide_eq_true (by first | (with_reducible assumption) | assumption)
       obtain ⟨ad137, e137, hx137_0, hx137_1⟩ := at_T33 HR0.out x8_1 p137 q137
       cases e137
       (try replace hx137_0 := (HB.out.cell (World.block_lt_of_cell? w _ hx137_0)).trans hx137_0)
       (try replace hx137_1 := (HB.out.cell (World.block_lt_of_cell? w _ hx137_1)).trans hx137_1)
       replace p137 := eq_true p137
       replace q137 := eq_true q137
       go_wp2_with (first | (go_at_call 62; (with_reducible refine (impl_areTurns_1.calls k1 ((rd_T33 l0 x8_1).f0) ((rd_T33 l0 x8_1).f1) true _ A6.out).mono ?_); rintro e w8 ⟨rfl, hb⟩; have n0_ := Aside0.mk (below_step (bw_ HB.out) hb); clear HB; have HB := n0_; clear n0_; (try clear hb); (try clear hb2); (try clear hk); (try clear hi)))
       go_ret
       exact ⟨by first | rfl | (simp [errW_none, errW_some] <;> rfl) | (simp [*, errW_none, errW_some] <;> rfl), bw_ HB.out⟩
      ·replace c7 := Bool.eq_false_iff.mpr c7
       subst c7
       replace H := if_ H Bool.false_ne_true
       have H' := Aside0.mk H
       clear H
       have p137 : 0 ≤ (x8_1 : Int) := of_decide_eq_true (by first | (with_reducible assumption) | assumption)
       have q137 : x8_1 < (l0.length : Int) := of_decide_eq_true (by first | (with_reducible assumption) | assumption)
       obtain ⟨ad137, e137, hx137_0, hx137_1⟩ := at_T33 HR0.out x8_1 p137 q137
       cases e137
       (try replace hx137_0 := (HB.out.cell (World.block_lt_of_cell? w _ hx137_0)).trans hx137_0)
       (try replace hx137_1 := (HB.out.cell (World.block_lt_of_cell? w _ hx137_1)).trans hx137_1)
       replace p137 := eq_true p137
       replace q137 := eq_true q137
       go_wp2_with (first | (go_at_call 62; (with_reducible refine (impl_areTurns_1.calls k1 ((rd_T33 l0 x8_1).f0) ((rd_T33 l0 x8_1).f1) false _ A6.out).mono ?_); rintro e w9 ⟨rfl, hb⟩; have n0_ := Aside0.mk (below_step (bw_ HB.out) hb); clear HB; have HB := n0_; clear n0_; (try clear hb); (try clear hb2); (try clear hk); (try clear hi)))
       go_roundg k1
       case measure => have := HK1.out; omega
       case rel => exact ⟨(wrap64 (x8_1 + 1)), (by first | rfl | (simp; done) | (simp [*]; done) | (simp [wrap64]; done)), H', ⟨by have := HK1.out; omega⟩, ⟨bw_ HB.out⟩⟩
     ·rw [if_neg c5] at H
      exact absurd H (by simp)
    ·rw [if_neg c4] at H
     exact absurd H (by simp)
   ·rw [if_neg c3] at H
    have c3b0 : decide (x8_1 < (l0.length : Int)) = false := decide_eq_false c3
    clear c3
    obtain rfl := Option.some.inj H
    go_wp2
    go_ret
    exact ⟨by first | rfl | (simp [errW_none, errW_some] <;> rfl) | (simp [*, errW_none, errW_some] <;> rfl), bw_ HB.out⟩

/-! ### slices_ContainsFunc_impl_Turn_impl_Turn_at_impl_areTurns_1: function 61 -/
def slices_ContainsFunc_impl_Turn_impl_Turn_at_impl_areTurns_1.f (k : Nat) (l0 : List (S33))  : Option (Bool) := (slices_IndexFunc_impl_Turn_impl_Turn_at_impl_areTurns_1.f k l0).bind fun t139 => (some (decide (t139 ≥ 0)))
theorem slices_ContainsFunc_impl_Turn_impl_Turn_at_impl_areTurns_1.mono : ∀ a0 k, LeO (slices_ContainsFunc_impl_Turn_impl_Turn_at_impl_areTurns_1.f k a0) (slices_ContainsFunc_impl_Turn_impl_Turn_at_impl_areTurns_1.f (k + 1) a0) := by
 intro a0 k
 unfold slices_ContainsFunc_impl_Turn_impl_Turn_at_impl_areTurns_1.f
 repeat' first
   | (with_reducible exact slices_IndexFunc_impl_Turn_impl_Turn_at_impl_areTurns_1.mono _ _)
   | (with_reducible exact LeO.refl _)
   | (with_reducible exact LeO.none _)
   | (with_reducible refine LeO.ite ?_ ?_)
   | (with_reducible refine LeO.bind ?_ (fun _ => ?_))
   | exact slices_IndexFunc_impl_Turn_impl_Turn_at_impl_areTurns_1.mono _ _
   | exact LeO.none _
   | refine LeO.ite ?_ ?_
   | refine LeO.bind ?_ (fun _ => ?_)
set_option maxHeartbeats 8000000 in
set_option maxRecDepth 100000 in
theorem slices_ContainsFunc_impl_Turn_impl_Turn_at_impl_areTurns_1.calls (k : Nat) (A0 : Option Addr) (c0 : Nat) (l0 : List (S33))  (r : Bool) (w : World) (hr0 : Kd.C k33 w A0 l0.length l0) (hc0 : l0.length ≤ c0) (h : slices_ContainsFunc_impl_Turn_impl_Turn_at_impl_areTurns_1.f k l0 = some r) :
  Calls Try.prog 61 #[.slice A0 l0.length c0, .func (.func 62) #[] #[]] w fun e w' => e = .returned (.bool r) ∧ Below w.heap.size w w' := by
 have HR0 := Aside0.mk hr0
 have HC0 := Aside0.mk hc0
 clear hr0 hc0
 have HB := Aside0.mk (Below.refl w.heap.size w)
 have H : ((slices_IndexFunc_impl_Turn_impl_Turn_at_impl_areTurns_1.f k l0).bind fun t139 => (some (decide (t139 ≥ 0)))) = some r := h
 clear h
 obtain ⟨t139, A30, H⟩ := bE_ H
 have A3 := Aside0.mk A30
 clear A30
 obtain rfl := Option.some.inj H
 go_enter Try.func61, Try.ntmps61
 go_wp2_with (first | ((with_reducible refine gate_callee (f := 69) rfl ?_); refine goesL_ (some 7) rfl rfl Try.func69 (by kernel_rfl) rfl #[.slice A0 l0.length c0, .func (.func 62) #[] #[]] rfl (by (try simp only [List.map_toArray, List.map_cons, List.map_nil]); first | done | rfl | (simp only [List.length_drop, List.length_take]; rfl)) ?_; (with_reducible refine (slices_IndexFunc_impl_Turn_impl_Turn_at_impl_areTurns_1.calls k _ _ l0  t139 _ ?side1 ?side2 A3.out).mono ?_); (case side1 => repeat (first | exact HR0.out | (with_reducible refine Kd.C_alloc ?_ _) | (with_reducible refine Kd.C_drewN ?_ _) | (with_reducible refine Kd.C_drew ?_))); (case side2 => exact HC0.out); rintro e w4 ⟨rfl, hb⟩; refine ⟨_, rfl, ?_⟩; have n0_ := Aside0.mk (below_step (bw_ HB.out) hb); clear HB; have HB := n0_; clear n0_; (try clear hb); (try clear hb2); (try clear hk); (try clear hi)))
 go_ret
 exact ⟨by first | rfl | (simp [errW_none, errW_some] <;> rfl) | (simp [*, errW_none, errW_some] <;> rfl), bw_ HB.out⟩

/-! ### impl_areTurns: function 41 -/
def impl_areTurns.f (k : Nat) (l0 : List (S33)) : Option (Bool) := (slices_ContainsFunc_impl_Turn_impl_Turn_at_impl_areTurns_1.f k l0).bind fun t140 => (some (!t140))
theorem impl_areTurns.mono : ∀ a0 k, LeO (impl_areTurns.f k a0) (impl_areTurns.f (k + 1) a0) := by
 intro a0 k
 unfold impl_areTurns.f
 repeat' first
   | (with_reducible exact slices_ContainsFunc_impl_Turn_impl_Turn_at_impl_areTurns_1.mono _ _)
   | (with_reducible exact LeO.refl _)
   | (with_reducible exact LeO.none _)
   | (with_reducible refine LeO.ite ?_ ?_)
   | (with_reducible refine LeO.bind ?_ (fun _ => ?_))
   | exact slices_ContainsFunc_impl_Turn_impl_Turn_at_impl_areTurns_1.mono _ _
   | exact LeO.none _
   | refine LeO.ite ?_ ?_
   | refine LeO.bind ?_ (fun _ => ?_)
set_option maxHeartbeats 8000000 in
set_option maxRecDepth 100000 in
theorem impl_areTurns.calls (k : Nat) (A0 : Option Addr) (c0 : Nat) (l0 : List (S33)) (r : Bool) (w : World) (hr0 : Kd.C k33 w A0 l0.length l0) (hc0 : l0.length ≤ c0) (h : impl_areTurns.f k l0 = some r) :
  Calls Try.prog 41 #[.slice A0 l0.length c0] w fun e w' => e = .returned (.bool r) ∧ Below w.heap.size w w' := by
 have HR0 := Aside0.mk hr0
 have HC0 := Aside0.mk hc0
 clear hr0 hc0
 have HB := Aside0.mk (Below.refl w.heap.size w)
 have H : ((slices_ContainsFunc_impl_Turn_impl_Turn_at_impl_areTurns_1.f k l0).bind fun t140 => (some (!t140))) = some r := h
 clear h
 obtain ⟨t140, A20, H⟩ := bE_ H
 have A2 := Aside0.mk A20
 clear A20
 obtain rfl := Option.some.inj H
 go_enter Try.func41, Try.ntmps41
 go_wp2_with (first | ((with_reducible refine gate_callee (f := 61) rfl ?_); refine goesL_ (some 4) rfl rfl Try.func61 (by kernel_rfl) rfl #[.slice A0 l0.length c0, .func (.func 62) #[] #[]] rfl (by (try simp only [List.map_toArray, List.map_cons, List.map_nil]); first | done | rfl | (simp only [List.length_drop, List.length_take]; rfl)) ?_; (with_reducible refine (slices_ContainsFunc_impl_Turn_impl_Turn_at_impl_areTurns_1.calls k _ _ l0  t140 _ ?side1 ?side2 A2.out).mono ?_); (case side1 => repeat (first | exact HR0.out | (with_reducible refine Kd.C_alloc ?_ _) | (with_reducible refine Kd.C_drewN ?_ _) | (with_reducible refine Kd.C_drew ?_))); (case side2 => exact HC0.out); rintro e w3 ⟨rfl, hb⟩; refine ⟨_, rfl, ?_⟩; have n0_ := Aside0.mk (below_step (bw_ HB.out) hb); clear HB; have HB := n0_; clear n0_; (try clear hb); (try clear hb2); (try clear hk); (try clear hi)))
 go_ret
 exact ⟨by first | rfl | (simp [errW_none, errW_some] <;> rfl) | (simp [*, errW_none, errW_some] <;> rfl), bw_ HB.out⟩

/-! ### impl_plain: function 43 -/
def impl_plain.f (a0 : Int) : Option (Int) := if (feq a0.toNat 0) = true then (some 0) else (some a0)
set_option maxHeartbeats 8000000 in
set_option maxRecDepth 100000 in
theorem impl_plain.calls (a0 : Int) (r : Int) (w : World) (h : impl_plain.f a0 = some r) :
  Calls Try.prog 43 #[.float .f64 a0.toNat] w fun e w' => e = .returned (.float .f64 r.toNat) ∧ Drawn0 w w' := by
 have H : (if (feq a0.toNat 0) = true then (some 0) else (some a0)) = some r := h
 clear h
 by_cases c2 : (feq a0.toNat 0) = true
 ·rw [if_pos c2] at H
  have c2b0 : (feq a0.toNat 0) = true := c2
  clear c2
  obtain rfl := Option.some.inj H
  go_enter Try.func43, Try.ntmps43
  go_wp2
  go_ret
  exact ⟨by first | rfl | (simp; done) | (simp [*]; done), by repeat (first | exact Drawn0.refl _ | apply Drawn0.step)⟩
 ·rw [if_neg c2] at H
  have c2b0 : (feq a0.toNat 0) = false := by simpa using c2
  clear c2
  obtain rfl := Option.some.inj H
  go_enter Try.func43, Try.ntmps43
  go_wp2
  go_ret
  exact ⟨by first | rfl | (simp; done) | (simp [*]; done), by repeat (first | exact Drawn0.refl _ | apply Drawn0.step)⟩

/-! ### impl_PowerOf: function 13 -/
/-! a power: its products may be NaNs, whose bits are left open; nothing hangs on them -/
def impl_PowerOf.f (k : Nat) (a0_0 a0_1 : Int) : Option (Int × Bool) := (impl_areTurns.f k [(⟨a0_0, a0_1⟩ : S33)]).bind fun t => if t = true then (if fmulOk a0_0.toNat a0_0.toNat = true then (if fmulOk a0_1.toNat a0_1.toNat = true then (if faddOk (fmul a0_0.toNat a0_0.toNat).toNat (fmul a0_1.toNat a0_1.toNat).toNat = true then ((impl_isFinite.f k [fmul a0_0.toNat a0_0.toNat, fmul a0_1.toNat a0_1.toNat, fadd (fmul a0_0.toNat a0_0.toNat).toNat (fmul a0_1.toNat a0_1.toNat).toNat]).bind fun t151 => (if t151 = true then ((impl_plain.f (fadd (fmul a0_0.toNat a0_0.toNat).toNat (fmul a0_1.toNat a0_1.toNat).toNat)).bind fun t152 => (some (t152, true))) else (some (0, false)))) else none) else none) else none) else some (0, false)
theorem impl_PowerOf.mono : ∀ a0 a1 k, LeO (impl_PowerOf.f k a0 a1) (impl_PowerOf.f (k + 1) a0 a1) := by
  intro a0 a1 k
  unfold impl_PowerOf.f
  exact LeO.bind (impl_areTurns.mono _ _) (fun _ => LeO.ite (LeO.ite (LeO.ite (LeO.ite (LeO.bind (impl_isFinite.mono _ _) (fun _ => LeO.refl _)) (LeO.refl _)) (LeO.refl _)) (LeO.refl _)) (LeO.refl _))
def impl_PowerOf.isP (x : Int) (r : Nat) : Prop := fmulOk x.toNat x.toNat = true → r = (fmul x.toNat x.toNat).toNat
theorem impl_PowerOf.run_nan {P : Program} (w : World) (t : TypeId) (a b : Nat) (h : ¬ fmulOk a b = true) : ∃ r : Nat, (binOp .mul t (.float .f64 a) (.float .f64 b)).run P w = .ok (.float .f64 r) w.drew := by
  have e : FloatKind.f64.format.mul a b = none := by
    unfold fmulOk at h
    cases hm : FloatKind.f64.format.mul a b with
    | none => rfl
    | some r => rw [hm] at h; exact absurd rfl h
  refine ⟨(Question.nanBits .f64 a b).cut (w.tape w.drawn (.nanBits .f64 a b)), ?_⟩
  simp [binOp, Op.floatArith, e, choose, Sem.run, Question.forced]
set_option maxRecDepth 100000 in
theorem impl_PowerOf.mulR (x y : Int) (w : World) : Calls Try.prog 40 #[.float .f64 x.toNat, .float .f64 y.toNat] w fun e w' => ∃ r : Nat, e = .returned (.float .f64 r) ∧ (fmulOk x.toNat y.toNat = true → r = (fmul x.toNat y.toNat).toNat) ∧ Drawn0 w w' := by
  by_cases h : fmulOk x.toNat y.toNat = true
  · refine (impl_mul.calls x y _ w (if_pos h)).mono ?_
    rintro e w' ⟨rfl, hd⟩
    exact ⟨_, rfl, fun _ => rfl, hd⟩
  · obtain ⟨r, hr⟩ := impl_PowerOf.run_nan (P := Try.prog) w 22 x.toNat y.toNat h
    go_enter Try.func40, Try.ntmps40
    go_wp2_with (simp only [hr])
    go_ret
    exact ⟨r, rfl, fun q => absurd q h, 1, rfl⟩
set_option maxHeartbeats 8000000 in
set_option maxRecDepth 100000 in
theorem impl_PowerOf.calls (k : Nat) (a0_0 : Int) (a0_1 : Int) (r1 : Int) (r2 : Bool) (w : World) (h : impl_PowerOf.f k a0_0 a0_1 = some (r1, r2)) :
    Calls Try.prog 13 #[.agg #[.float .f64 a0_0.toNat, .float .f64 a0_1.toNat]] w fun e w' => e = .returned (.tuple #[.float .f64 r1.toNat, .bool r2]) ∧ Below w.heap.size w w' := by
  have hu33 := Try.underlying33
  have HB := Aside0.mk (Below.refl w.heap.size w)
  unfold impl_PowerOf.f at h
  obtain ⟨t147, ht, h2⟩ := Option.bind_eq_some_iff.mp h
  have A4_ := Aside0.mk ht
  have H_ := Aside0.mk h2
  clear ht h h2
  obtain ⟨y144, hy144⟩ : ∃ y_ : List (S33), y_ = (([(⟨a0_0, a0_1⟩ : S33)] : List (S33))) := ⟨_, rfl⟩
  have A4 : Aside0 (impl_areTurns.f k y144 = some t147) := ⟨by rw [hy144]; exact A4_.out⟩
  have Ny144 := Aside0.mk hy144
  clear hy144 A4_
  go_enter Try.func13, Try.ntmps13
  go_wp2_with ((with_reducible refine gate_dst (N := 1) rfl ?_); refine bx_ 1 #[.float .f64 a0_0.toNat, .float .f64 a0_1.toNat] 33 ?_; intro gb hg w10 hbox hb; have n0_ := Aside0.mk (below_step (bw_ HB.out) hb); have n1_ := Aside0.mk (hbox); clear HB; have HB := n0_; have BK141 := n1_; clear n0_ n1_; clear hb hbox hg)
  have hS := Aside0.mk (show w10.drew.cell? ⟨gb, 0, none⟩ = some (.float .f64 a0_0.toNat) ∧ w10.drew.cell? ⟨gb, 1, none⟩ = some (.float .f64 a0_1.toNat) from ⟨cz_ BK141.out 0, cz_ BK141.out 1⟩)
  refine start_ (n := 12) (S := fun w' => w'.cell? ⟨gb, 0, none⟩ = some (.float .f64 a0_0.toNat) ∧ w'.cell? ⟨gb, 1, none⟩ = some (.float .f64 a0_1.toNat)) (ds := []) (Array.replicate 12 false) (by kernel_rfl) rfl rfl ⟨hS.out.1, hS.out.2⟩ (fun hHeld => ?_)
  refine pure_ (i := 0) (N := some 6) (v := ?_) (a' := ?_) #[true, false, false, false, false, false, false, false, false, false, false, false] rfl rfl (by kernel_rfl) (fun _ _ _ h => h) (Or.inl ⟨by rfl, ?_⟩) ?_ ?_
  rotate_left
  · intro w'
    go_simp
    with_reducible rfl
  rotate_left
  · simp only [Act.put, List.setIfInBounds_toArray, List.set_cons_zero, List.set_cons_succ, i64_w, i32_w]
    rfl
  refine pure_ (i := 2) (N := some 8) (v := ?_) (a' := ?_) #[true, false, true, false, false, false, false, false, false, false, false, false] rfl rfl (by kernel_rfl) (fun _ _ _ h => h) (Or.inl ⟨by rfl, ?_⟩) ?_ ?_
  rotate_left
  · intro w'
    go_simp
    with_reducible rfl
  rotate_left
  · simp only [Act.put, List.setIfInBounds_toArray, List.set_cons_zero, List.set_cons_succ, i64_w, i32_w]
    rfl
  refine pure_ (i := 5) (N := some 11) (v := ?_) (a' := ?_) #[true, false, true, false, false, true, false, false, false, false, false, false] rfl rfl (by kernel_rfl) (fun _ _ _ h => h) (Or.inl ⟨by rfl, ?_⟩) ?_ ?_
  rotate_left
  · intro w'
    go_simp
    with_reducible rfl
  rotate_left
  · simp only [Act.put, List.setIfInBounds_toArray, List.set_cons_zero, List.set_cons_succ, i64_w, i32_w]
    rfl
  refine pure_ (i := 7) (N := some 13) (v := ?_) (a' := ?_) #[true, false, true, false, false, true, false, true, false, false, false, false] rfl rfl (by kernel_rfl) (fun _ _ _ h => h) (Or.inl ⟨by rfl, ?_⟩) ?_ ?_
  rotate_left
  · intro w'
    go_simp
    with_reducible rfl
  rotate_left
  · simp only [Act.put, List.setIfInBounds_toArray, List.set_cons_zero, List.set_cons_succ, i64_w, i32_w]
    rfl
  refine take_ (i := 1) (N := some 7) (v := ?_) (a' := ?_) #[true, true, true, false, false, true, false, true, false, false, false, false] rfl rfl (by kernel_rfl) (fun _ _ _ h => h) (Or.inl ⟨by rfl, ?_⟩) hHeld ?_ ?_
  rotate_left
  · rintro w' ⟨s0, s1⟩
    go_simp
    with_reducible rfl
  rotate_left
  · simp only [Act.put, List.setIfInBounds_toArray, List.set_cons_zero, List.set_cons_succ, i64_w, i32_w]
    rfl
  refine take_ (i := 3) (N := some 9) (v := ?_) (a' := ?_) #[true, true, true, true, false, true, false, true, false, false, false, false] rfl rfl (by kernel_rfl) (fun _ _ _ h => h) (Or.inl ⟨by rfl, ?_⟩) hHeld ?_ ?_
  rotate_left
  · rintro w' ⟨s0, s1⟩
    go_simp
    with_reducible rfl
  rotate_left
  · simp only [Act.put, List.setIfInBounds_toArray, List.set_cons_zero, List.set_cons_succ, i64_w, i32_w]
    rfl
  refine take_ (i := 6) (N := some 12) (v := ?_) (a' := ?_) #[true, true, true, true, false, true, true, true, false, false, false, false] rfl rfl (by kernel_rfl) (fun _ _ _ h => h) (Or.inl ⟨by rfl, ?_⟩) hHeld ?_ ?_
  rotate_left
  · rintro w' ⟨s0, s1⟩
    go_simp
    with_reducible rfl
  rotate_left
  · simp only [Act.put, List.setIfInBounds_toArray, List.set_cons_zero, List.set_cons_succ, i64_w, i32_w]
    rfl
  refine take_ (i := 8) (N := some 14) (v := ?_) (a' := ?_) #[true, true, true, true, false, true, true, true, true, false, false, false] rfl rfl (by kernel_rfl) (fun _ _ _ h => h) (Or.inl ⟨by rfl, ?_⟩) hHeld ?_ ?_
  rotate_left
  · rintro w' ⟨s0, s1⟩
    go_simp
    with_reducible rfl
  rotate_left
  · simp only [Act.put, List.setIfInBounds_toArray, List.set_cons_zero, List.set_cons_succ, i64_w, i32_w]
    rfl
  refine one_ (i := 4) (N := some 10) #[true, true, true, true, true, true, true, true, true, false, false, false] rfl rfl (by kernel_rfl) (by decide) (fun K hK => ?_)
  refine goes_ Try.func40 (by kernel_rfl) rfl #[.float .f64 a0_0.toNat, .float .f64 a0_0.toNat] (by rfl) rfl rfl (by simp only [List.map_toArray, List.map_cons, List.map_nil]; rfl) ?_
  with_reducible refine (impl_PowerOf.mulR a0_0 a0_0 _).mono ?_
  rintro e w' ⟨ra, rfl, hra, ndra, rfl⟩
  refine ⟨_, rfl, ?_⟩
  refine hK.out _ _ ⟨hHeld.1, hHeld.2⟩ (fun hHeld => ?_)
  clear hK K
  refine norm_ (a' := ?_) ?_ ?_
  rotate_left
  · show Act.put _ (some 10) _ = _
    simp only [Act.put, List.setIfInBounds_toArray, List.set_cons_zero, List.set_cons_succ, i64_w, i32_w]
    rfl
  refine one_ (i := 9) (N := some 15) #[true, true, true, true, true, true, true, true, true, true, false, false] rfl rfl (by kernel_rfl) (by decide) (fun K hK => ?_)
  refine goes_ Try.func40 (by kernel_rfl) rfl #[.float .f64 a0_1.toNat, .float .f64 a0_1.toNat] (by rfl) rfl rfl (by simp only [List.map_toArray, List.map_cons, List.map_nil]; rfl) ?_
  with_reducible refine (impl_PowerOf.mulR a0_1 a0_1 _).mono ?_
  rintro e w' ⟨rb, rfl, hrb, ndrb, rfl⟩
  refine ⟨_, rfl, ?_⟩
  refine hK.out _ _ ⟨hHeld.1, hHeld.2⟩ (fun hHeld => ?_)
  clear hK K
  refine norm_ (a' := ?_) ?_ ?_
  rotate_left
  · show Act.put _ (some 15) _ = _
    simp only [Act.put, List.setIfInBounds_toArray, List.set_cons_zero, List.set_cons_succ, i64_w, i32_w]
    rfl
  refine pure_ (i := 10) (N := some 4) (v := ?_) (a' := ?_) #[true, true, true, true, true, true, true, true, true, true, true, false] rfl rfl (by kernel_rfl) (fun _ _ _ h => h) (Or.inl ⟨by rfl, ?_⟩) ?_ ?_
  rotate_left
  · intro w'
    go_simp
    with_reducible rfl
  rotate_left
  · simp only [Act.put, List.setIfInBounds_toArray, List.set_cons_zero, List.set_cons_succ, i64_w, i32_w]
    rfl
  refine pure_ (i := 11) (N := some 5) (v := ?_) (a' := ?_) #[true, true, true, true, true, true, true, true, true, true, true, true] rfl rfl (by kernel_rfl) (fun _ _ _ h => h) (Or.inl ⟨by rfl, ?_⟩) ?_ ?_
  rotate_left
  · intro w'
    go_simp
    with_reducible rfl
  rotate_left
  · simp only [Act.put, List.setIfInBounds_toArray, List.set_cons_zero, List.set_cons_succ, i64_w, i32_w]
    rfl
  refine done_ (by kernel_rfl) ?_
  have HRA := Aside0.mk hra
  have HRB := Aside0.mk hrb
  clear hra hrb hHeld hS
  have HB2 := Aside0.mk (pw_below_drewN (pw_below_drewN HB.out.drew ndra) ndrb)
  have BK2 := Aside0.mk (blk_drewN (blk_drewN (blk_drew BK141.out) ndra) ndrb)
  clear HB BK141
  generalize ((w10.drew.drewN ndra).drewN ndrb) = W2 at HB2 BK2 ⊢
  have HB := HB2
  have BK141 := BK2
  clear HB2 BK2
  have hcz11_0 := cz_ BK141.out 0
  have hcz11_1 := cz_ BK141.out 1
  have hfz11_0 := blk_frozen BK141.out 0
  have hfz11_1 := blk_frozen BK141.out 1
  cases t147 with
  | false =>
    have h := H_.out
    rw [if_neg (by decide)] at h
    simp only [Option.some.injEq, Prod.mk.injEq] at h
    obtain ⟨rfl, rfl⟩ := h
    go_wp2_with (first | ((with_reducible refine gate_dst (N := 17) rfl ?_); (try (refine gate_guard (by rfl) ?_; dsimp only)); refine Kd.R_lit k33 _ 33 ?hg (N := 17) ?hd (xs := ([(⟨a0_0, a0_1⟩ : S33)] : List (S33))) (inner := [.float .f64 a0_0.toNat, .float .f64 a0_1.toNat]) (ok := fun _ => True) (okp := fun _ => True) ?hr ?hp (fun _ hk => hk) trivial (Below.refl _ _) (Nat.le_refl _) (by simp) ?_; (case hd => rfl); (case hg => rfl); (case hr => first | (go_simp; done) | (go_simp; rfl)); (case hp => exact (Reps.c2 (show Kd.M k33 _ _ _ (⟨a0_0, a0_1⟩ : S33) [.float .f64 a0_0.toNat, .float .f64 a0_1.toNat] from (k33_mkM _ _ _ (⟨a0_0, a0_1⟩ : S33) )) (Reps.none _ _))); intro v145 w12 ho13 hb hg_ hnew_; clear hg_ hnew_; rw [← Ny144.out] at ho13; have n0_ := Aside0.mk (Kd.R_lower ho13 (below_size (bw_ HB.out))); have n1_ := Aside0.mk (blk_below (bk_ BK141.out) hb); have n2_ := Aside0.mk (below_step (bw_ HB.out) hb); clear BK141; clear HB; have HO146 := n0_; have BK141 := n1_; have HB := n2_; clear n0_ n1_ n2_; clear hb ho13; obtain ⟨Ao14, co14, eo14⟩ := Kd.R_slice HO146.out; subst eo14) | (go_at_call 41; (with_reducible refine (impl_areTurns.calls k _ _ y144 false _ ?side1 ?side2 A4.out).mono ?_); (case side1 => repeat (first | exact (Kd.R_reads' HO146.out).2.2 | (with_reducible refine Kd.C_alloc ?_ _) | (with_reducible refine Kd.C_drewN ?_ _) | (with_reducible refine Kd.C_drew ?_))); (case side2 => exact (Kd.R_reads' HO146.out).2.1); rintro e w15 ⟨rfl, hb⟩; have n1_ := Aside0.mk (blk_below (bk_ BK141.out) hb); have n2_ := Aside0.mk (below_step (bw_ HB.out) hb); clear HO146; clear BK141; clear HB; have BK141 := n1_; have HB := n2_; clear n1_ n2_; clear hb))
    go_ret2
    exact ⟨rfl, bw_ HB.out⟩
  | true =>
    have h := H_.out
    rw [if_pos rfl] at h
    split at h
    case isFalse => cases h
    rename_i o1
    split at h
    case isFalse => cases h
    rename_i o2
    obtain rfl := HRA.out o1
    obtain rfl := HRB.out o2
    generalize fmul a0_0.toNat a0_0.toNat = t142 at *
    generalize fmul a0_1.toNat a0_1.toNat = t143 at *
    clear H_ HRA HRB o1 o2
    split at h
    case isFalse => cases h
    rename_i c6b0
    obtain ⟨t151, ht, h2⟩ := Option.bind_eq_some_iff.mp h
    clear h
    obtain ⟨y148, hy148⟩ : ∃ y_ : List Int, y_ = (([t142, t143, fadd t142.toNat t143.toNat] : List Int)) := ⟨_, rfl⟩
    have A7 : Aside0 (impl_isFinite.f k y148 = some t151) := ⟨by rw [hy148]; exact ht⟩
    have Ny148 := Aside0.mk hy148
    clear hy148 ht
    cases t151 with
    | false =>
      rw [if_neg (by decide)] at h2
      simp only [Option.some.injEq, Prod.mk.injEq] at h2
      obtain ⟨rfl, rfl⟩ := h2
      go_wp2_with (first | ((with_reducible refine gate_dst (N := 17) rfl ?_); (try (refine gate_guard (by rfl) ?_; dsimp only)); refine Kd.R_lit k33 _ 33 ?hg (N := 17) ?hd (xs := ([(⟨a0_0, a0_1⟩ : S33)] : List (S33))) (inner := [.float .f64 a0_0.toNat, .float .f64 a0_1.toNat]) (ok := fun _ => True) (okp := fun _ => True) ?hr ?hp (fun _ hk => hk) trivial (Below.refl _ _) (Nat.le_refl _) (by simp) ?_; (case hd => rfl); (case hg => rfl); (case hr => first | (go_simp; done) | (go_simp; rfl)); (case hp => exact (Reps.c2 (show Kd.M k33 _ _ _ (⟨a0_0, a0_1⟩ : S33) [.float .f64 a0_0.toNat, .float .f64 a0_1.toNat] from (k33_mkM _ _ _ (⟨a0_0, a0_1⟩ : S33) )) (Reps.none _ _))); intro v145 w12 ho13 hb hg_ hnew_; clear hg_ hnew_; rw [← Ny144.out] at ho13; have n0_ := Aside0.mk (Kd.R_lower ho13 (below_size (bw_ HB.out))); have n1_ := Aside0.mk (blk_below (bk_ BK141.out) hb); have n2_ := Aside0.mk (below_step (bw_ HB.out) hb); clear BK141; clear HB; have HO146 := n0_; have BK141 := n1_; have HB := n2_; clear n0_ n1_ n2_; clear hb ho13; obtain ⟨Ao14, co14, eo14⟩ := Kd.R_slice HO146.out; subst eo14) | (go_at_call 41; (with_reducible refine (impl_areTurns.calls k _ _ y144 true _ ?side1 ?side2 A4.out).mono ?_); (case side1 => repeat (first | exact (Kd.R_reads' HO146.out).2.2 | (with_reducible refine Kd.C_alloc ?_ _) | (with_reducible refine Kd.C_drewN ?_ _) | (with_reducible refine Kd.C_drew ?_))); (case side2 => exact (Kd.R_reads' HO146.out).2.1); rintro e w15 ⟨rfl, hb⟩; have n1_ := Aside0.mk (blk_below (bk_ BK141.out) hb); have n2_ := Aside0.mk (below_step (bw_ HB.out) hb); clear HO146; clear BK141; clear HB; have BK141 := n1_; have HB := n2_; clear n1_ n2_; clear hb) | ((with_reducible refine gate_dst (N := 26) rfl ?_); (try (refine gate_guard (by rfl) ?_; dsimp only)); refine Kd.R_lit Kd.flt _ 22 ?hg (N := 26) ?hd (xs := ([t142, t143, fadd t142.toNat t143.toNat] : List Int)) (inner := [.float .f64 t142.toNat, .float .f64 t143.toNat, .float .f64 (fadd t142.toNat t143.toNat).toNat]) (ok := fun _ => True) (okp := fun _ => True) ?hr ?hp (fun _ hk => hk) trivial (Below.refl _ _) (Nat.le_refl _) (by simp) ?_; (case hd => rfl); (case hg => rfl); (case hr => first | (go_simp; done) | (go_simp; rfl)); (case hp => exact (Reps.one (show Kd.M Kd.flt _ _ _ t142 [.float .f64 t142.toNat] from rfl) (Reps.one (show Kd.M Kd.flt _ _ _ t143 [.float .f64 t143.toNat] from rfl) (Reps.one (show Kd.M Kd.flt _ _ _ (fadd t142.toNat t143.toNat) [.float .f64 (fadd t142.toNat t143.toNat).toNat] from rfl) (Reps.none _ _))))); intro v149 w16 ho17 hb hg_ hnew_; clear hg_ hnew_; rw [← Ny148.out] at ho17; have n1_ := Aside0.mk (Kd.R_lower ho17 (below_size (bw_ HB.out))); have n2_ := Aside0.mk (blk_below (bk_ BK141.out) hb); have n3_ := Aside0.mk (below_step (bw_ HB.out) hb); clear BK141; clear HB; have HO150 := n1_; have BK141 := n2_; have HB := n3_; clear n1_ n2_ n3_; clear hb ho17; obtain ⟨Ao18, co18, eo18⟩ := Kd.R_slice HO150.out; subst eo18) | (go_at_call 42; (with_reducible refine (impl_isFinite.calls k _ _ y148 false _ ?side1 ?side2 A7.out).mono ?_); (case side1 => repeat (first | exact (Kd.R_reads' HO150.out).2.2 | (with_reducible refine Kd.C_alloc ?_ _) | (with_reducible refine Kd.C_drewN ?_ _) | (with_reducible refine Kd.C_drew ?_))); (case side2 => exact (Kd.R_reads' HO150.out).2.1); rintro e w' ⟨rfl, ⟨nd, rfl⟩⟩))
      go_ret2
      exact ⟨rfl, bw_ HB.out⟩
    | true =>
      rw [if_pos rfl] at h2
      obtain ⟨t152, ht, h3⟩ := Option.bind_eq_some_iff.mp h2
      have A9 := Aside0.mk ht
      simp only [Option.some.injEq, Prod.mk.injEq] at h3
      obtain ⟨rfl, rfl⟩ := h3
      clear ht h2
      go_wp2_with (first | ((with_reducible refine gate_dst (N := 17) rfl ?_); (try (refine gate_guard (by rfl) ?_; dsimp only)); refine Kd.R_lit k33 _ 33 ?hg (N := 17) ?hd (xs := ([(⟨a0_0, a0_1⟩ : S33)] : List (S33))) (inner := [.float .f64 a0_0.toNat, .float .f64 a0_1.toNat]) (ok := fun _ => True) (okp := fun _ => True) ?hr ?hp (fun _ hk => hk) trivial (Below.refl _ _) (Nat.le_refl _) (by simp) ?_; (case hd => rfl); (case hg => rfl); (case hr => first | (go_simp; done) | (go_simp; rfl)); (case hp => exact (Reps.c2 (show Kd.M k33 _ _ _ (⟨a0_0, a0_1⟩ : S33) [.float .f64 a0_0.toNat, .float .f64 a0_1.toNat] from (k33_mkM _ _ _ (⟨a0_0, a0_1⟩ : S33) )) (Reps.none _ _))); intro v145 w12 ho13 hb hg_ hnew_; clear hg_ hnew_; rw [← Ny144.out] at ho13; have n0_ := Aside0.mk (Kd.R_lower ho13 (below_size (bw_ HB.out))); have n1_ := Aside0.mk (blk_below (bk_ BK141.out) hb); have n2_ := Aside0.mk (below_step (bw_ HB.out) hb); clear BK141; clear HB; have HO146 := n0_; have BK141 := n1_; have HB := n2_; clear n0_ n1_ n2_; clear hb ho13; obtain ⟨Ao14, co14, eo14⟩ := Kd.R_slice HO146.out; subst eo14) | (go_at_call 41; (with_reducible refine (impl_areTurns.calls k _ _ y144 true _ ?side1 ?side2 A4.out).mono ?_); (case side1 => repeat (first | exact (Kd.R_reads' HO146.out).2.2 | (with_reducible refine Kd.C_alloc ?_ _) | (with_reducible refine Kd.C_drewN ?_ _) | (with_reducible refine Kd.C_drew ?_))); (case side2 => exact (Kd.R_reads' HO146.out).2.1); rintro e w15 ⟨rfl, hb⟩; have n1_ := Aside0.mk (blk_below (bk_ BK141.out) hb); have n2_ := Aside0.mk (below_step (bw_ HB.out) hb); clear HO146; clear BK141; clear HB; have BK141 := n1_; have HB := n2_; clear n1_ n2_; clear hb) | ((with_reducible refine gate_dst (N := 26) rfl ?_); (try (refine gate_guard (by rfl) ?_; dsimp only)); refine Kd.R_lit Kd.flt _ 22 ?hg (N := 26) ?hd (xs := ([t142, t143, fadd t142.toNat t143.toNat] : List Int)) (inner := [.float .f64 t142.toNat, .float .f64 t143.toNat, .float .f64 (fadd t142.toNat t143.toNat).toNat]) (ok := fun _ => True) (okp := fun _ => True) ?hr ?hp (fun _ hk => hk) trivial (Below.refl _ _) (Nat.le_refl _) (by simp) ?_; (case hd => rfl); (case hg => rfl); (case hr => first | (go_simp; done) | (go_simp; rfl)); (case hp => exact (Reps.one (show Kd.M Kd.flt _ _ _ t142 [.float .f64 t142.toNat] from rfl) (Reps.one (show Kd.M Kd.flt _ _ _ t143 [.float .f64 t143.toNat] from rfl) (Reps.one (show Kd.M Kd.flt _ _ _ (fadd t142.toNat t143.toNat) [.float .f64 (fadd t142.toNat t143.toNat).toNat] from rfl) (Reps.none _ _))))); intro v149 w16 ho17 hb hg_ hnew_; clear hg_ hnew_; rw [← Ny148.out] at ho17; have n1_ := Aside0.mk (Kd.R_lower ho17 (below_size (bw_ HB.out))); have n2_ := Aside0.mk (blk_below (bk_ BK141.out) hb); have n3_ := Aside0.mk (below_step (bw_ HB.out) hb); clear BK141; clear HB; have HO150 := n1_; have BK141 := n2_; have HB := n3_; clear n1_ n2_ n3_; clear hb ho17; obtain ⟨Ao18, co18, eo18⟩ := Kd.R_slice HO150.out; subst eo18) | (go_at_call 42; (with_reducible refine (impl_isFinite.calls k _ _ y148 true _ ?side1 ?side2 A7.out).mono ?_); (case side1 => repeat (first | exact (Kd.R_reads' HO150.out).2.2 | (with_reducible refine Kd.C_alloc ?_ _) | (with_reducible refine Kd.C_drewN ?_ _) | (with_reducible refine Kd.C_drew ?_))); (case side2 => exact (Kd.R_reads' HO150.out).2.1); rintro e w' ⟨rfl, ⟨nd, rfl⟩⟩) | (go_at_call 43; (with_reducible refine (impl_plain.calls (fadd t142.toNat t143.toNat) t152 _ A9.out).mono ?_); rintro e w' ⟨rfl, ⟨nd, rfl⟩⟩))
      go_ret2
      exact ⟨rfl, bw_ HB.out⟩

/-! ### laws_sameFloat: function 14 -/
def laws_sameFloat.j0 : Nat → Int → Int → Bool → Option (Bool)
 | 0, _, _, _ => none
 | k + 1, x0, x1, x12 => if x12 = true then (if (!feq x0.toNat x0.toNat) = true then (some (!feq x1.toNat x1.toNat)) else (some false)) else (if (feq x0.toNat 0) = true then (if (feq x1.toNat 0) = true then (if fdivOk 4607182418800017408 x0.toNat = true then (if fdivOk 4607182418800017408 x1.toNat = true then (some ((fgt (fdiv 4607182418800017408 x0.toNat).toNat 0) == (fgt (fdiv 4607182418800017408 x1.toNat).toNat 0))) else (none)) else (none)) else (some (feq x0.toNat x1.toNat))) else (some (feq x0.toNat x1.toNat)))
def laws_sameFloat.f (k : Nat) (a0 : Int) (a1 : Int) : Option (Bool) := if (!feq a0.toNat a0.toNat) = true then (laws_sameFloat.j0 k a0 a1 true) else (laws_sameFloat.j0 k a0 a1 (!feq a1.toNat a1.toNat))
theorem laws_sameFloat.mono_l : ∀ k, (∀ y0 y1 y2, LeO (laws_sameFloat.j0 k y0 y1 y2) (laws_sameFloat.j0 (k + 1) y0 y1 y2))
 | 0 => fun _ _ _ r h => by simp [laws_sameFloat.j0] at h
 | k + 1 => by
  have ih0 := laws_sameFloat.mono_l k
  ·intro y0 y1 y2
   unfold laws_sameFloat.j0
   repeat' first
   | (with_reducible exact ih0 _ _ _)
   | (with_reducible exact LeO.refl _)
   | (with_reducible exact LeO.none _)
   | (with_reducible refine LeO.ite ?_ ?_)
   | (with_reducible refine LeO.bind ?_ (fun _ => ?_))
   | exact ih0 _ _ _
   | exact LeO.none _
   | refine LeO.ite ?_ ?_
   | refine LeO.bind ?_ (fun _ => ?_)
theorem laws_sameFloat.mono : ∀ a0 a1 k, LeO (laws_sameFloat.f k a0 a1) (laws_sameFloat.f (k + 1) a0 a1) := by
 intro a0 a1 k
 have ih0 := laws_sameFloat.mono_l k
 unfold laws_sameFloat.f
 repeat' first
   | (with_reducible exact ih0 _ _ _)
   | (with_reducible exact LeO.refl _)
   | (with_reducible exact LeO.none _)
   | (with_reducible refine LeO.ite ?_ ?_)
   | (with_reducible refine LeO.bind ?_ (fun _ => ?_))
   | exact ih0 _ _ _
   | exact LeO.none _
   | refine LeO.ite ?_ ?_
   | refine LeO.bind ?_ (fun _ => ?_)
set_option maxHeartbeats 8000000 in
set_option maxRecDepth 100000 in
theorem laws_sameFloat.calls (k : Nat) (a0 : Int) (a1 : Int) (r : Bool) (w : World) (h : laws_sameFloat.f k a0 a1 = some r) :
  Calls Try.prog 14 #[.float .f64 a0.toNat, .float .f64 a1.toNat] w fun e w' => e = .returned (.bool r) ∧ Drawn0 w w' := by
 have H : (if (!feq a0.toNat a0.toNat) = true then (laws_sameFloat.j0 k a0 a1 true) else (laws_sameFloat.j0 k a0 a1 (!feq a1.toNat a1.toNat))) = some r := h
 clear h
 have HC3 := Aside0.mk H
 clear H
 go_enter Try.func14, Try.ntmps14
 go_upto_region 1 with (fail)
 go_cut [12] (fun v12 wc => ∃ (kq : Nat) (x12_2 : Bool), v12 = .bool x12_2 ∧ Aside0 (laws_sameFloat.j0 kq a0 a1 x12_2 = some r) ∧ Aside0 (kq ≤ k) ∧ Drawn0 w wc)
 case first =>
  have H := HC3.out
  clear HC3
  by_cases c4 : (!feq a0.toNat a0.toNat) = true
  ·rw [if_pos c4] at H
   have c4b0 : (!feq a0.toNat a0.toNat) = true := c4
   clear c4
   (first | rw [c4b0] | (simp only [i64_w, i32_w]; rw [c4b0]) | skip)
   have H' := Aside0.mk H
   clear H
   go_wp2
   go_meet
   case rel => exact ⟨_, (true), (by first | rfl | (simp; done) | (simp [*]; done) | (simp [wrap64]; done)), H', ⟨by first | omega | exact Nat.le_refl _⟩, by repeat (first | exact Drawn0.refl _ | apply Drawn0.step)⟩
  ·rw [if_neg c4] at H
   have c4b0 : (!feq a0.toNat a0.toNat) = false := by simpa using c4
   clear c4
   (first | rw [c4b0] | (simp only [i64_w, i32_w]; rw [c4b0]) | skip)
   have H' := Aside0.mk H
   clear H
   go_wp2
   go_meet
   case rel => exact ⟨_, ((!feq a1.toNat a1.toNat)), (by first | rfl | (simp; done) | (simp [*]; done) | (simp [wrap64]; done)), H', ⟨by first | omega | exact Nat.le_refl _⟩, by repeat (first | exact Drawn0.refl _ | apply Drawn0.step)⟩
 case rest =>
  clear HC3
  try clear c1
  try clear p2
  try clear c4
  try clear c4b0
  obtain ⟨kq, x12_2, rfl, HA, HJ2, ⟨mc2, rfl⟩⟩ := hcut
  cases kq with
  | zero => exact absurd HA.out (by simp [laws_sameFloat.j0])
  | succ kj2 =>
   have H := HA.out
   clear HA
   simp only [laws_sameFloat.j0] at H
   by_cases c5 : x12_2 = true
   ·subst c5
    replace H := it_ H rfl
    by_cases c6 : (!feq a0.toNat a0.toNat) = true
    ·rw [if_pos c6] at H
     have c6b0 : (!feq a0.toNat a0.toNat) = true := c6
     clear c6
     obtain rfl := Option.some.inj H
     go_wp2
     go_ret
     exact ⟨by first | rfl | (simp; done) | (simp [*]; done), by repeat (first | exact Drawn0.refl _ | apply Drawn0.step)⟩
    ·rw [if_neg c6] at H
     have c6b0 : (!feq a0.toNat a0.toNat) = false := by simpa using c6
     clear c6
     obtain rfl := Option.some.inj H
     go_wp2
     go_ret
     exact ⟨by first | rfl | (simp; done) | (simp [*]; done), by repeat (first | exact Drawn0.refl _ | apply Drawn0.step)⟩
   ·replace c5 := Bool.eq_false_iff.mpr c5
    subst c5
    replace H := if_ H Bool.false_ne_true
    by_cases c7 : (feq a0.toNat 0) = true
    ·rw [if_pos c7] at H
     have c7b0 : (feq a0.toNat 0) = true := c7
     clear c7
     by_cases c8 : (feq a1.toNat 0) = true
     ·rw [if_pos c8] at H
      have c8b0 : (feq a1.toNat 0) = true := c8
      clear c8
      by_cases c9 : fdivOk 4607182418800017408 a0.toNat = true
      ·rw [if_pos c9] at H
       have c9b0 : fdivOk 4607182418800017408 a0.toNat = true := c9
       clear c9
       by_cases c10 : fdivOk 4607182418800017408 a1.toNat = true
       ·rw [if_pos c10] at H
        have c10b0 : fdivOk 4607182418800017408 a1.toNat = true := c10
        clear c10
        obtain rfl := Option.some.inj H
        go_wp2
        go_ret
        exact ⟨by first | rfl | (simp; done) | (simp [*]; done), by repeat (first | exact Drawn0.refl _ | apply Drawn0.step)⟩
       ·rw [if_neg c10] at H
        exact absurd H (by simp)
      ·rw [if_neg c9] at H
       exact absurd H (by simp)
     ·rw [if_neg c8] at H
      have c8b0 : (feq a1.toNat 0) = false := by simpa using c8
      clear c8
      obtain rfl := Option.some.inj H
      go_wp2
      go_ret
      exact ⟨by first | rfl | (simp; done) | (simp [*]; done), by repeat (first | exact Drawn0.refl _ | apply Drawn0.step)⟩
    ·rw [if_neg c7] at H
     have c7b0 : (feq a0.toNat 0) = false := by simpa using c7
     clear c7
     obtain rfl := Option.some.inj H
     go_wp2
     go_ret
     exact ⟨by first | rfl | (simp; done) | (simp [*]; done), by repeat (first | exact Drawn0.refl _ | apply Drawn0.step)⟩

/-! ### laws_FnExactPowerOf: function 4 -/
def laws_FnExactPowerOf.f (k : Nat) (a0_0 : Int) (a0_1 : Int) : Option (Bool) := (laws_toTurn.f a0_0 a0_1).bind fun t2 => (spec_PowerOf.f t2.1 t2.2).bind fun t3 => (laws_toTurn.f a0_0 a0_1).bind fun t4 => (impl_PowerOf.f k t4.1 t4.2).bind fun t5 => (laws_sameFloat.f k t5.1 t3.1).bind fun t6 => if t6 = true then (if t5.2 = t3.2 then (some true) else none) else none
theorem laws_FnExactPowerOf.mono : ∀ a0 a1 k, LeO (laws_FnExactPowerOf.f k a0 a1) (laws_FnExactPowerOf.f (k + 1) a0 a1) := by
  intro a0 a1 k
  unfold laws_FnExactPowerOf.f
  repeat' first
  | (with_reducible exact impl_PowerOf.mono _ _ _)
  | (with_reducible exact laws_sameFloat.mono _ _ _)
  | (with_reducible exact LeO.refl _)
  | (with_reducible exact LeO.none _)
  | (with_reducible refine LeO.ite ?_ ?_)
  | refine LeO.bind ?_ (fun _ => ?_)
  | exact LeO.none _
set_option maxHeartbeats 8000000 in
set_option maxRecDepth 100000 in
theorem laws_FnExactPowerOf.calls (k : Nat) (a0_0 : Int) (a0_1 : Int) (r : Bool) (w : World) (h : laws_FnExactPowerOf.f k a0_0 a0_1 = some r) :
    Calls Try.prog 4 #[.agg #[.float .f64 a0_0.toNat, .float .f64 a0_1.toNat]] w fun e w' => e = .returned (.bool r) ∧ Below w.heap.size w w' := by
  have HB := Aside0.mk (Below.refl w.heap.size w)
  unfold laws_FnExactPowerOf.f at h
  have H := h
  clear h
  replace H := bE_ H
  obtain ⟨⟨t2_0, t2_1⟩, hA2, H⟩ := H
  try dsimp only at H
  have A2 := Aside0.mk hA2
  clear hA2
  replace H := bE_ H
  obtain ⟨⟨t3_0, t3_1⟩, hA3, H⟩ := H
  try dsimp only at H
  have A3 := Aside0.mk hA3
  clear hA3
  replace H := bE_ H
  obtain ⟨⟨t4_0, t4_1⟩, hA4, H⟩ := H
  try dsimp only at H
  have A4 := Aside0.mk hA4
  clear hA4
  replace H := bE_ H
  obtain ⟨⟨t5_0, t5_1⟩, hA5, H⟩ := H
  try dsimp only at H
  have A5 := Aside0.mk hA5
  clear hA5
  replace H := bE_ H
  obtain ⟨t6, hA6, H⟩ := H
  have A6 := Aside0.mk hA6
  clear hA6
  replace H := nd_ H
  obtain ⟨c_, H⟩ := H
  subst c_
  replace H := nd_ H
  obtain ⟨c_, H⟩ := H
  subst c_
  first | have fb7 : (t5_1 == t5_1) = true := beq_self_eq_true _ | have fb7 : (t5_1.toList == t5_1.toList) = true := beq_self_eq_true _
  first | have fb8 : (t5_1 != t5_1) = false := by simp | have fb8 : (t5_1.toList != t5_1.toList) = false := by simp
  obtain rfl := Option.some.inj H
  go_enter Try.func4, Try.ntmps4
  go_wp2_with (first | ((with_reducible refine gate_dst (N := 1) rfl ?_); refine bx_ 1 #[.float .f64 a0_0.toNat, .float .f64 a0_1.toNat] 30 ?_; intro g1 hg w1001 hbox hb; have n0_ := Aside0.mk (below_step HB.out hb); have SZ1 := Aside0.mk (show w.heap.size ≤ w1001.heap.size from (hb).size); clear HB; have HB := n0_; clear n0_; have BK1 := Aside0.mk hbox; have GL1 := Aside0.mk (show w.heap.size ≤ g1 from Nat.le_of_eq hg.symm); have GU1 := Aside0.mk (blk_lt hbox); clear hbox hg hb; have hx1_0 := cz_ BK1.out 0; have hf1_0 : w1001.frozen? ⟨g1, 0, none⟩ = false := blk_frozen BK1.out 0; have hx1_1 := cz_ BK1.out 1; have hf1_1 : w1001.frozen? ⟨g1, 1, none⟩ = false := blk_frozen BK1.out 1) | (go_at_call 12; (with_reducible refine (laws_toTurn.calls a0_0 a0_1 t2_0 t2_1 _  A2.out).mono ?_); rintro e w1002 ⟨rfl, hb⟩; have hs_ := below_size HB.out; clear hx1_0 hf1_0 hx1_1 hf1_1; have n0_ := Aside0.mk (below_step HB.out hb); have n1_ := Aside0.mk (blk_below BK1.out hb); have SZ2 := Aside0.mk (show w1001.heap.size ≤ w1002.heap.size from (hb).size); clear HB BK1; have HB := n0_; have BK1 := n1_; clear n0_ n1_; clear hb hs_; have hx1_0 := cz_ BK1.out 0; have hf1_0 : w1002.frozen? ⟨g1, 0, none⟩ = false := blk_frozen BK1.out 0; have hx1_1 := cz_ BK1.out 1; have hf1_1 : w1002.frozen? ⟨g1, 1, none⟩ = false := blk_frozen BK1.out 1) | (go_at_call 11; (with_reducible refine (spec_PowerOf.calls t2_0 t2_1 t3_0 t5_1 _  A3.out).mono ?_); rintro e w1003 ⟨rfl, hb⟩; have hs_ := below_size HB.out; clear hx1_0 hf1_0 hx1_1 hf1_1; have n0_ := Aside0.mk (below_step HB.out hb); have n1_ := Aside0.mk (blk_below BK1.out hb); have SZ3 := Aside0.mk (show w1002.heap.size ≤ w1003.heap.size from (hb).size); clear HB BK1; have HB := n0_; have BK1 := n1_; clear n0_ n1_; clear hb hs_; have hx1_0 := cz_ BK1.out 0; have hf1_0 : w1003.frozen? ⟨g1, 0, none⟩ = false := blk_frozen BK1.out 0; have hx1_1 := cz_ BK1.out 1; have hf1_1 : w1003.frozen? ⟨g1, 1, none⟩ = false := blk_frozen BK1.out 1) | (go_at_call 12; (with_reducible refine (laws_toTurn.calls a0_0 a0_1 t4_0 t4_1 _  A4.out).mono ?_); rintro e w1004 ⟨rfl, hb⟩; have hs_ := below_size HB.out; clear hx1_0 hf1_0 hx1_1 hf1_1; have n0_ := Aside0.mk (below_step HB.out hb); have n1_ := Aside0.mk (blk_below BK1.out hb); have SZ4 := Aside0.mk (show w1003.heap.size ≤ w1004.heap.size from (hb).size); clear HB BK1; have HB := n0_; have BK1 := n1_; clear n0_ n1_; clear hb hs_; have hx1_0 := cz_ BK1.out 0; have hf1_0 : w1004.frozen? ⟨g1, 0, none⟩ = false := blk_frozen BK1.out 0; have hx1_1 := cz_ BK1.out 1; have hf1_1 : w1004.frozen? ⟨g1, 1, none⟩ = false := blk_frozen BK1.out 1) | (go_at_call 13; (with_reducible refine (impl_PowerOf.calls k t4_0 t4_1 t5_0 t5_1 _  A5.out).mono ?_); rintro e w1005 ⟨rfl, hb⟩; have hs_ := below_size HB.out; clear hx1_0 hf1_0 hx1_1 hf1_1; have n0_ := Aside0.mk (below_step HB.out hb); have n1_ := Aside0.mk (blk_below BK1.out hb); have SZ5 := Aside0.mk (show w1004.heap.size ≤ w1005.heap.size from (hb).size); clear HB BK1; have HB := n0_; have BK1 := n1_; clear n0_ n1_; clear hb hs_; have hx1_0 := cz_ BK1.out 0; have hf1_0 : w1005.frozen? ⟨g1, 0, none⟩ = false := blk_frozen BK1.out 0; have hx1_1 := cz_ BK1.out 1; have hf1_1 : w1005.frozen? ⟨g1, 1, none⟩ = false := blk_frozen BK1.out 1) | (go_at_call 14; (with_reducible refine (laws_sameFloat.calls k t5_0 t3_0 true _  A6.out).mono ?_); rintro e w1006 ⟨rfl, hd⟩; have hb := hd.below; clear hd; have hs_ := below_size HB.out; clear hx1_0 hf1_0 hx1_1 hf1_1; have n0_ := Aside0.mk (below_step HB.out hb); have n1_ := Aside0.mk (blk_below BK1.out hb); have SZ6 := Aside0.mk (show w1005.heap.size ≤ w1006.heap.size from (hb).size); clear HB BK1; have HB := n0_; have BK1 := n1_; clear n0_ n1_; clear hb hs_; have hx1_0 := cz_ BK1.out 0; have hf1_0 : w1006.frozen? ⟨g1, 0, none⟩ = false := blk_frozen BK1.out 0; have hx1_1 := cz_ BK1.out 1; have hf1_1 : w1006.frozen? ⟨g1, 1, none⟩ = false := blk_frozen BK1.out 1))
  go_ret
  exact ⟨rfl, HB.out⟩

/-! the law's reading -/
def ok30 (z : S30) : Prop := ((Lit.float .f64 z.f0.toNat).wf = true) ∧ ((Lit.float .f64 z.f1.toNat).wf = true)
/-- THE ONE PURE STATEMENT of laws_FnExactPowerOf. -/
def laws_FnExactPowerOf.Pure : Prop := ∀ (a0_0 : Int) (a0_1 : Int), ((Lit.float .f64 a0_0.toNat).wf = true) → ((Lit.float .f64 a0_1.toNat).wf = true) → ∃ k, laws_FnExactPowerOf.f k a0_0 a0_1 = some true


end Go.Proofs.Ytbjdhmgednhdgaa.XFnExactPowerOf
