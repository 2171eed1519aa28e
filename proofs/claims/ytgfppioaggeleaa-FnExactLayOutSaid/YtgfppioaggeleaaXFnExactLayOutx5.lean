/- What the Go functions that this law comes to compute, each walked; written by a program of this session. -/
import Derived.Test.YtgfppioaggeleaaXShort
import Derived.Test.YtgfppioaggeleaaXMark
import Derived.Test.YtgfppioaggeleaaXFnExactLayOutx0
namespace Go.Proofs.Ytgfppioaggeleaa.XFnExactLayOut
open Go.RowKit Go.Proofs.YtgfppioaggeleaaW.PrintWords Go.Proofs.YtgfppioaggeleaaW.PrintLast Go.Proofs.YtgfppioaggeleaaW.PrintMore
attribute [local go_sem] str_geq max2_int min2_int max_two min_two max_three min_three max_four min_four   -- for this text's walks alone
set_option linter.unusedVariables false
set_option linter.unusedSimpArgs false

/-! ### laws_toBox: function 42 -/
def laws_toBox.f (a0_0 : Int) (a0_1 : Int) (a0_2 : Int) (a0_3 : Int) (a0_4 : Int) : Option (Int × Int × Int × Int × Int) := some (a0_0, a0_1, a0_2, a0_3, a0_4)
set_option maxHeartbeats 8000000 in
set_option maxRecDepth 100000 in
theorem laws_toBox.calls (a0_0 : Int) (a0_1 : Int) (a0_2 : Int) (a0_3 : Int) (a0_4 : Int) (r1 : Int) (r2 : Int) (r3 : Int) (r4 : Int) (r5 : Int) (w : World) (h : laws_toBox.f a0_0 a0_1 a0_2 a0_3 a0_4 = some (r1, r2, r3, r4, r5)) :
  Calls Try.prog 42 #[.agg #[.int .i64 a0_0, .int .i64 a0_1, .int .i64 a0_2, .int .i64 a0_3, .int .i64 a0_4]] w fun e w' => e = .returned (.agg #[.int .i64 r1, .int .i64 r2, .int .i64 r3, .int .i64 r4, .int .i64 r5]) ∧ Below w.heap.size w w' := by
 have hu77 := Try.underlying77
 have hu74 := Try.underlying74
 have HB := am_ (Below.refl w.heap.size w)
 have H : (some (a0_0, a0_1, a0_2, a0_3, a0_4)) = some (r1, r2, r3, r4, r5) := h
 clear h
 simp only [Option.some.injEq, Prod.mk.injEq] at H
 obtain ⟨rfl, rfl, rfl, rfl, rfl⟩ := H
 go_enter Try.func42, Try.ntmps42
 go_wp2_with (first | ((with_reducible refine gate_dst (N := 1) rfl ?_); refine bx_ 1 #[.int .i64 a0_0, .int .i64 a0_1, .int .i64 a0_2, .int .i64 a0_3, .int .i64 a0_4] 77 ?_; intro gb180 hg w2 hbox hb; have n0_ := am_ (below_step (bw_ HB.out) hb); have n1_ := am_ (hbox); have n2_ := am_ (gs_ hg (bw_ HB.out)); have n3_ := am_ (gs_ hg (bw_ HB.out)); replace HB := n0_; have BK180 := n1_; have GW180 := n2_; have GE180 := n3_; clear n0_ n1_ n2_ n3_; clear hb hbox hg) | ((with_reducible refine gate_dst (N := 2) rfl ?_); refine bx_ 2 #[.int .i64 0, .int .i64 0, .int .i64 0, .int .i64 0, .int .i64 0] 74 ?_; intro gb181 hg w3 hbox hb; have n0_ := am_ (blk_below (bk_ BK180.out) hb); have n1_ := am_ (below_step (bw_ HB.out) hb); have n2_ := am_ (hbox); have n3_ := am_ (gs_ hg (bw_ HB.out)); have n4_ := am_ (gs_ hg (bw_ HB.out)); have n5_ := am_ (nl_ hg (bk_ BK180.out)); have n6_ := am_ (ng_ hg (bk_ BK180.out)); replace BK180 := n0_; replace HB := n1_; have BK181 := n2_; have GW181 := n3_; have GE181 := n4_; have NB180_181 := n5_; have NB181_180 := n6_; clear n0_ n1_ n2_ n3_ n4_ n5_ n6_; clear hb hbox hg) | ((with_reducible refine gate_dst (N := 3) rfl ?_); refine bx_ 3 #[.int .i64 0, .int .i64 0, .int .i64 0, .int .i64 0, .int .i64 0] 74 ?_; intro gb182 hg w4 hbox hb; have n0_ := am_ (blk_below (bk_ BK180.out) hb); have n1_ := am_ (blk_below (bk_ BK181.out) hb); have n2_ := am_ (below_step (bw_ HB.out) hb); have n3_ := am_ (hbox); have n4_ := am_ (gs_ hg (bw_ HB.out)); have n5_ := am_ (gs_ hg (bw_ HB.out)); have n6_ := am_ (nl_ hg (bk_ BK180.out)); have n7_ := am_ (ng_ hg (bk_ BK180.out)); have n8_ := am_ (nl_ hg (bk_ BK181.out)); have n9_ := am_ (ng_ hg (bk_ BK181.out)); replace BK180 := n0_; replace BK181 := n1_; replace HB := n2_; have BK182 := n3_; have GW182 := n4_; have GE182 := n5_; have NB180_182 := n6_; have NB182_180 := n7_; have NB181_182 := n8_; have NB182_181 := n9_; clear n0_ n1_ n2_ n3_ n4_ n5_ n6_ n7_ n8_ n9_; clear hb hbox hg; have hnb5 := NB180_181.out; have hnc5 := NB181_180.out; have hnb6 := NB180_182.out; have hnc6 := NB182_180.out; have hcz7_0 := cz_ BK180.out 0; have hcz7_1 := cz_ BK180.out 1; have hcz7_2 := cz_ BK180.out 2; have hcz7_3 := cz_ BK180.out 3; have hcz7_4 := cz_ BK180.out 4; have hfz7_0 := blk_frozen BK180.out 0; have hfz7_1 := blk_frozen BK180.out 1; have hfz7_2 := blk_frozen BK180.out 2; have hfz7_3 := blk_frozen BK180.out 3; have hfz7_4 := blk_frozen BK180.out 4; have hnb8 := NB182_181.out; have hnc8 := NB181_182.out; have hcz9_0 := cz_ BK182.out 0; have hcz9_1 := cz_ BK182.out 1; have hcz9_2 := cz_ BK182.out 2; have hcz9_3 := cz_ BK182.out 3; have hcz9_4 := cz_ BK182.out 4; have hfz9_0 := blk_frozen BK182.out 0; have hfz9_1 := blk_frozen BK182.out 1; have hfz9_2 := blk_frozen BK182.out 2; have hfz9_3 := blk_frozen BK182.out 3; have hfz9_4 := blk_frozen BK182.out 4; have hcz10_0 := cz_ BK181.out 0; have hcz10_1 := cz_ BK181.out 1; have hcz10_2 := cz_ BK181.out 2; have hcz10_3 := cz_ BK181.out 3; have hcz10_4 := cz_ BK181.out 4; have hfz10_0 := blk_frozen BK181.out 0; have hfz10_1 := blk_frozen BK181.out 1; have hfz10_2 := blk_frozen BK181.out 2; have hfz10_3 := blk_frozen BK181.out 3; have hfz10_4 := blk_frozen BK181.out 4))
 refine bodyPost_ret (results_cell_row rfl _ _ gb181 74 #[.int .i64 a0_0, .int .i64 a0_1, .int .i64 a0_2, .int .i64 a0_3, .int .i64 a0_4] (0, 0) _ rfl (by (with_reducible repeat (first | refine blk_drewN ?_ _ | refine blk_drew ?_ | refine blk_alloc ?_ _)); refine blk_put (cs := #[.int .i64 a0_0, .int .i64 a0_1, .int .i64 a0_2, .int .i64 a0_3, .int .i64 0]) ?_ 4 _ rfl; (with_reducible repeat (first | refine blk_drewN ?_ _ | refine blk_drew ?_ | refine blk_alloc ?_ _)); refine blk_put (cs := #[.int .i64 a0_0, .int .i64 a0_1, .int .i64 a0_2, .int .i64 0, .int .i64 0]) ?_ 3 _ rfl; (with_reducible repeat (first | refine blk_drewN ?_ _ | refine blk_drew ?_ | refine blk_alloc ?_ _)); refine blk_put (cs := #[.int .i64 a0_0, .int .i64 a0_1, .int .i64 0, .int .i64 0, .int .i64 0]) ?_ 2 _ rfl; (with_reducible repeat (first | refine blk_drewN ?_ _ | refine blk_drew ?_ | refine blk_alloc ?_ _)); refine blk_put (cs := #[.int .i64 a0_0, .int .i64 0, .int .i64 0, .int .i64 0, .int .i64 0]) ?_ 1 _ rfl; (with_reducible repeat (first | refine blk_drewN ?_ _ | refine blk_drew ?_ | refine blk_alloc ?_ _)); refine blk_put (cs := #[.int .i64 0, .int .i64 0, .int .i64 0, .int .i64 0, .int .i64 0]) ?_ 0 _ rfl; (with_reducible repeat (first | refine blk_drewN ?_ _ | refine blk_drew ?_ | refine blk_alloc ?_ _)); refine blk_far ?_ NB181_182.out _; (with_reducible repeat (first | refine blk_drewN ?_ _ | refine blk_drew ?_ | refine blk_alloc ?_ _)); refine blk_far ?_ NB181_182.out _; (with_reducible repeat (first | refine blk_drewN ?_ _ | refine blk_drew ?_ | refine blk_alloc ?_ _)); refine blk_far ?_ NB181_182.out _; (with_reducible repeat (first | refine blk_drewN ?_ _ | refine blk_drew ?_ | refine blk_alloc ?_ _)); refine blk_far ?_ NB181_182.out _; (with_reducible repeat (first | refine blk_drewN ?_ _ | refine blk_drew ?_ | refine blk_alloc ?_ _)); refine blk_far ?_ NB181_182.out _; (with_reducible repeat (first | refine blk_drewN ?_ _ | refine blk_drew ?_ | refine blk_alloc ?_ _)); exact BK181.out) Try.underlying74 rfl (by kernel_rfl)) rfl ?_
 exact ⟨by first | rfl | (simp [errW_none, errW_some] <;> rfl) | (simp [*, errW_none, errW_some] <;> rfl), bw_ HB.out⟩

/-! ### laws_toBoxS: function 16 -/
def laws_toBoxS.l0 : Nat → List (S77) → List (S74) → Int → Option ((List (S74)))
 | 0, _, _, _ => none
 | k + 1, x0, x3, x4 => if x4 < (x0.length : Int) then (if 0 ≤ x4 then ((laws_toBox.f ((rd_T77 x0 x4).f0) ((rd_T77 x0 x4).f1) ((rd_T77 x0 x4).f2) ((rd_T77 x0 x4).f3) ((rd_T77 x0 x4).f4)).bind fun bt187 => (if x4 < (x3.length : Int) then (laws_toBoxS.l0 k x0 (x3.set (x4 : Int).toNat (⟨bt187.1, bt187.2.1, bt187.2.2.1, bt187.2.2.2.1, bt187.2.2.2.2⟩ : S74)) (wrap64 (x4 + 1))) else (none))) else (none)) else (some x3)
def laws_toBoxS.f (k : Nat) (l0 : List (S77)) : Option ((List (S74))) := if 0 ≤ (l0.length : Int) then (if ((l0.length : Int) : Int).toNat ≤ 7036874417766 then (laws_toBoxS.l0 k l0 (List.replicate ((l0.length : Int) : Int).toNat z74) 0) else (none)) else (none)
theorem laws_toBoxS.mono_l : ∀ k, (∀ y0 y1 y2, LeO (laws_toBoxS.l0 k y0 y1 y2) (laws_toBoxS.l0 (k + 1) y0 y1 y2))
 | 0 => fun _ _ _ r h => by simp [laws_toBoxS.l0] at h
 | k + 1 => by
  have ih0 := laws_toBoxS.mono_l k
  ·intro y0 y1 y2
   unfold laws_toBoxS.l0
   repeat' first
   | (with_reducible exact ih0 _ _ _)
   | (with_reducible exact LeO.refl _)
   | (with_reducible exact LeO.none _)
   | (with_reducible refine LeO.ite ?_ ?_)
   | (with_reducible refine LeO.bind ?_ (fun _ => ?_))
   | exact ih0 _ _ _
   | exact LeO.none _
   | refine LeO.ite ?_ ?_
   | refine LeO.bind ?_ (fun _ => ?_)
theorem laws_toBoxS.mono : ∀ a0 k, LeO (laws_toBoxS.f k a0) (laws_toBoxS.f (k + 1) a0) := by
 intro a0 k
 have ih0 := laws_toBoxS.mono_l k
 unfold laws_toBoxS.f
 repeat' first
   | (with_reducible exact ih0 _ _ _)
   | (with_reducible exact LeO.refl _)
   | (with_reducible exact LeO.none _)
   | (with_reducible refine LeO.ite ?_ ?_)
   | (with_reducible refine LeO.bind ?_ (fun _ => ?_))
   | exact ih0 _ _ _
   | exact LeO.none _
   | refine LeO.ite ?_ ?_
   | refine LeO.bind ?_ (fun _ => ?_)
set_option maxHeartbeats 8000000 in
set_option maxRecDepth 100000 in
theorem laws_toBoxS.calls (k : Nat) (A0 : Option Addr) (c0 : Nat) (l0 : List (S77)) (r : List (S74)) (w : World) (hr0 : Kd.C k77 w A0 l0.length l0) (hc0 : l0.length ≤ c0) (h : laws_toBoxS.f k l0 = some r) :
  Calls Try.prog 16 #[.slice A0 l0.length c0] w fun e w' => ∃ v0_ : Value, e = .returned (v0_) ∧ Kd.R k74 74 w' w.heap.size (fun _ => True) v0_ r ∧ Below w.heap.size w w' := by
 have hu77 := Try.underlying77
 have hu74 := Try.underlying74
 have HR0 := am_ hr0
 have HC0 := am_ hc0
 clear hr0 hc0
 have HB := am_ (Below.refl w.heap.size w)
 have H : (if 0 ≤ (l0.length : Int) then (if ((l0.length : Int) : Int).toNat ≤ 7036874417766 then (laws_toBoxS.l0 k l0 (List.replicate ((l0.length : Int) : Int).toNat z74) 0) else (none)) else (none)) = some r := h
 clear h
 obtain ⟨c2, H⟩ := ifn_ H
 have c2b0 := eq_true c2
 have c2b1 : decide (0 ≤ (l0.length : Int)) = true := decide_eq_true c2
 clear c2
 obtain ⟨c3, H⟩ := ifn_ H
 have c3b0 := eq_true c3
 have c3b1 : decide (((l0.length : Int) : Int).toNat ≤ 7036874417766) = true := decide_eq_true c3
 clear c3
 obtain ⟨y183, hy183⟩ : ∃ y_ : List (S74), y_ = (List.replicate ((l0.length : Int) : Int).toNat z74) := ⟨_, rfl⟩
 replace H : (laws_toBoxS.l0 k l0 y183 0) = some r := by first | (rw [hy183]; with_reducible exact H) | (have H2_ := (Option.bind_some _ _).symm.trans H; rw [hy183]; with_reducible exact H2_) | (have H2_ := (Option.bind_some _ _).symm.trans H; with_reducible exact H2_) | with_reducible exact H | (rw [hy183]; exact H) | exact H
 have Ny183 := am_ hy183
 clear hy183
 have H' := am_ H
 clear H
 go_enter Try.func16, Try.ntmps16
 go_wp2_with (first | ((with_reducible refine gate_dst (N := 7) rfl ?_); refine Kd.R_make k74 _ 74 rfl (N := 7) rfl 39 _ _ rfl (l0.length : Int) rfl rfl Try.underlying39 (.agg #[(.int .i64 0), (.int .i64 0), (.int .i64 0), (.int .i64 0), (.int .i64 0)]) 40 info74 rfl (by decide) (by omega) z74 (ok := fun _ => True) (okp := fun _ => True) (k74_mkM _ _ _ z74 ) (fun _ hk => hk) trivial od_ (Nat.le_trans (Nat.mul_le_mul_right _ (od_ : (l0.length : Int).toNat ≤ 7036874417766)) (by omega)) (Below.refl _ _) (Nat.le_refl _) ?_; intro v184 w4 ho5 hb hg_ hnew_; clear hg_ hnew_; (first | rw [← Ny183.out] at ho5 | (simp only [Int.reduceToNat] at ho5; rw [← Ny183.out] at ho5)); have n0_ := am_ (Kd.R_lower ho5 (below_size (bw_ HB.out))); have n1_ := am_ (below_step (bw_ HB.out) hb); have HO185 := n0_; replace HB := n1_; clear n0_ n1_; clear hb ho5))
 go_loopg [4] k (fun kq v4 w' => ∃ (x3_1 : List (S74)) (x4_1 : Int), v4 = .int .i64 x4_1 ∧ Aside0 (laws_toBoxS.l0 kq l0 x3_1 x4_1 = some r) ∧ Aside0 (kq ≤ k) ∧ Aside0 (Kd.R k74 74 w' w.heap.size (fun _ => True) v184 x3_1) ∧ Aside0 (Below w.heap.size w w'))
 case atStart => exact ⟨(y183), (0), sq_, H', ⟨Nat.le_refl _⟩, ⟨ra_ HO185.out⟩, ⟨bw_ HB.out⟩⟩
 case round =>
  clear H'
  try clear c2
  try clear c2b0
  try clear c2b1
  try clear c3
  try clear c3b0
  try clear c3b1
  obtain ⟨x3_1, x4_1, rfl, HA, HK1, HO_3, HB⟩ := hrel
  cases gk with
  | zero => exact absurd HA.out (by simp [laws_toBoxS.l0])
  | succ k1 =>
   have H := HA.out
   clear HA
   simp only [laws_toBoxS.l0] at H
   by_cases c6 : x4_1 < (l0.length : Int)
   ·rw [if_pos c6] at H
    have c6b0 : decide (x4_1 < (l0.length : Int)) = true := decide_eq_true c6
    clear c6
    obtain ⟨c7, H⟩ := ifn_ H
    have c7b0 : decide (0 ≤ x4_1) = true := decide_eq_true c7
    clear c7
    replace H := Option.bind_eq_some_iff.mp H
    obtain ⟨⟨t187, t188, t189, t190, t191⟩, A80, H⟩ := H
    replace H : (if x4_1 < (x3_1.length : Int) then (laws_toBoxS.l0 k1 l0 (x3_1.set (x4_1 : Int).toNat (⟨t187, t188, t189, t190, t191⟩ : S74)) (wrap64 (x4_1 + 1))) else (none)) = some r := H
    have A8 := am_ A80
    clear A80
    obtain ⟨c9, H⟩ := ifn_ H
    have c9b0 : decide (x4_1 < (x3_1.length : Int)) = true := decide_eq_true c9
    clear c9
    obtain ⟨y192, hy192⟩ : ∃ y_ : List (S74), y_ = (x3_1.set (x4_1 : Int).toNat (⟨t187, t188, t189, t190, t191⟩ : S74)) := ⟨_, rfl⟩
    replace H : (laws_toBoxS.l0 k1 l0 y192 (wrap64 (x4_1 + 1))) = some r := by first | (rw [hy192]; with_reducible exact H) | (have H2_ := (Option.bind_some _ _).symm.trans H; rw [hy192]; with_reducible exact H2_) | (have H2_ := (Option.bind_some _ _).symm.trans H; with_reducible exact H2_) | with_reducible exact H | (rw [hy192]; exact H) | exact H
    have Ny192 := am_ hy192
    clear hy192
    have H' := am_ H
    clear H
    have p186 : 0 ≤ (x4_1 : Int) := od_
    have q186 : x4_1 < (l0.length : Int) := od_
    obtain ⟨ad186, e186, hx186_0, hx186_1, hx186_2, hx186_3, hx186_4⟩ := at_T77 HR0.out x4_1 p186 q186
    cases e186
    (try replace hx186_0 := hc_ HB.out hx186_0)
    (try replace hx186_1 := hc_ HB.out hx186_1)
    (try replace hx186_2 := hc_ HB.out hx186_2)
    (try replace hx186_3 := hc_ HB.out hx186_3)
    (try replace hx186_4 := hc_ HB.out hx186_4)
    replace p186 := eq_true p186
    replace q186 := eq_true q186
    go_wp2_with (first | ((with_reducible refine gate_callee (f := 42) rfl ?_); refine goesL_ (some 20) rfl rfl Try.func42 (by kernel_rfl) rfl #[.agg #[.int .i64 ((rd_T77 l0 x4_1).f0), .int .i64 ((rd_T77 l0 x4_1).f1), .int .i64 ((rd_T77 l0 x4_1).f2), .int .i64 ((rd_T77 l0 x4_1).f3), .int .i64 ((rd_T77 l0 x4_1).f4)]] rfl (by (try simp only [List.map_toArray, List.map_cons, List.map_nil]); first | done | rfl | (simp only [List.length_drop, List.length_take]; rfl)) ?_; (with_reducible refine (laws_toBox.calls ((rd_T77 l0 x4_1).f0) ((rd_T77 l0 x4_1).f1) ((rd_T77 l0 x4_1).f2) ((rd_T77 l0 x4_1).f3) ((rd_T77 l0 x4_1).f4) t187 t188 t189 t190 t191 _ A8.out).mono ?_); rintro e w11 ⟨rfl, hb⟩; refine ⟨_, rfl, ?_⟩; have n0_ := am_ (Kd.R_below (ra_ HO_3.out) hb); have n1_ := am_ (below_step (bw_ HB.out) hb); replace HO_3 := n0_; replace HB := n1_; clear n0_ n1_; (try clear hb); (try clear hb2); (try clear hk); (try clear hi); have p10 : 0 ≤ (x4_1 : Int) := od_; have q10 : (x4_1 : Int) < ((x3_1.length : Int) : Int) := od_; obtain ⟨go10, co10, eo10, gb10, gl10, cl10, HG10⟩ := Kd.R_form HO_3.out (by omega); (first | cases eo10 | (injection eo10 with ea_ en_ ec_; (first | subst ea_ | (injection ea_ with ea_; subst ea_)); subst ec_; clear en_)); have GB10 := am_ gb10; have GG10 := am_ HG10; clear gb10 gl10 HG10; obtain ⟨ce10, hcl10, hM10, hcc10, hfr10⟩ := Kd.R_elem HO_3.out z74 (x4_1 : Int) p10 q10; obtain rfl := k74_openM hM10; have hx10_0 : w11.cell? ⟨go10, (x4_1 : Int).toNat * 5, none⟩ = some (.int .i64 ((rd_T74 x3_1 x4_1).f0)) := hcc10 0 _ rfl; have hx10_1 : w11.cell? ⟨go10, (x4_1 : Int).toNat * 5 + 1, none⟩ = some (.int .i64 ((rd_T74 x3_1 x4_1).f1)) := hcc10 1 _ rfl; have hx10_2 : w11.cell? ⟨go10, (x4_1 : Int).toNat * 5 + 2, none⟩ = some (.int .i64 ((rd_T74 x3_1 x4_1).f2)) := hcc10 2 _ rfl; have hx10_3 : w11.cell? ⟨go10, (x4_1 : Int).toNat * 5 + 3, none⟩ = some (.int .i64 ((rd_T74 x3_1 x4_1).f3)) := hcc10 3 _ rfl; have hx10_4 : w11.cell? ⟨go10, (x4_1 : Int).toNat * 5 + 4, none⟩ = some (.int .i64 ((rd_T74 x3_1 x4_1).f4)) := hcc10 4 _ rfl; have hf10_0 : w11.frozen? ⟨go10, (x4_1 : Int).toNat * 5, none⟩ = false := hfr10 0; have hf10_1 : w11.frozen? ⟨go10, (x4_1 : Int).toNat * 5 + 1, none⟩ = false := hfr10 1; have hf10_2 : w11.frozen? ⟨go10, (x4_1 : Int).toNat * 5 + 2, none⟩ = false := hfr10 2; have hf10_3 : w11.frozen? ⟨go10, (x4_1 : Int).toNat * 5 + 3, none⟩ = false := hfr10 3; have hf10_4 : w11.frozen? ⟨go10, (x4_1 : Int).toNat * 5 + 4, none⟩ = false := hfr10 4; clear hcl10 hcc10 hfr10; (try clear hM10); replace p10 := eq_true p10; replace q10 := eq_true q10; have HX12 := am_ (show Kd.R k74 74 w11 w.heap.size (fun _ => True) (.slice (some ⟨go10, 0, none⟩) x3_1.length co10) x3_1 from (ra_ HO_3.out)); obtain ⟨ce12, hcl12, hM12, hcc12, hfr12⟩ := Kd.R_elem HX12.out z74 (x4_1 : Int) od_ (by have h_ : (x4_1 : Int) < ((x3_1.length : Int) : Int) := od_; first | exact h_ | (have e_ := (Kd.R_reads' HO_3.out).1; omega) | simpa using h_); obtain rfl := k74_openM hM12; have HP12 := Kd.R_seg HX12.out (x4_1 : Int) od_ (by have h_ : (x4_1 : Int) < ((x3_1.length : Int) : Int) := od_; first | exact h_ | (have e_ := (Kd.R_reads' HO_3.out).1; omega) | simpa using h_) (seg := [.int .i64 t187, .int .i64 t188, .int .i64 t189, .int .i64 t190, .int .i64 t191]) (j := 0) hcl12 hcc12 (show 5 ≤ 5 from by decide) (x' := (⟨t187, t188, t189, t190, t191⟩ : S74)) (k74_mkM _ _ _ (⟨t187, t188, t189, t190, t191⟩ : S74) ) (fun _ hk => hk); have hx12_0 := hcc12 0 _ rfl; (try simp only [show (k74).sz = 5 from rfl, Nat.mul_one, Nat.add_zero] at hx12_0); have hf12_0 := hfr12 0; (try simp only [show (k74).sz = 5 from rfl, Nat.mul_one, Nat.add_zero] at hf12_0); have hx12_1 := hcc12 1 _ rfl; (try simp only [show (k74).sz = 5 from rfl, Nat.mul_one, Nat.add_zero] at hx12_1); have hf12_1 := hfr12 1; (try simp only [show (k74).sz = 5 from rfl, Nat.mul_one, Nat.add_zero] at hf12_1); have hx12_2 := hcc12 2 _ rfl; (try simp only [show (k74).sz = 5 from rfl, Nat.mul_one, Nat.add_zero] at hx12_2); have hf12_2 := hfr12 2; (try simp only [show (k74).sz = 5 from rfl, Nat.mul_one, Nat.add_zero] at hf12_2); have hx12_3 := hcc12 3 _ rfl; (try simp only [show (k74).sz = 5 from rfl, Nat.mul_one, Nat.add_zero] at hx12_3); have hf12_3 := hfr12 3; (try simp only [show (k74).sz = 5 from rfl, Nat.mul_one, Nat.add_zero] at hf12_3); have hx12_4 := hcc12 4 _ rfl; (try simp only [show (k74).sz = 5 from rfl, Nat.mul_one, Nat.add_zero] at hx12_4); have hf12_4 := hfr12 4; (try simp only [show (k74).sz = 5 from rfl, Nat.mul_one, Nat.add_zero] at hf12_4); clear hcl12 hcc12 hfr12; (try clear hM12)) | ((with_reducible refine gate_store (t := 74) (p := 21) rfl ?_); refine se_ 74 21 (((((w11.setCell ⟨go10, (x4_1 : Int).toNat * 5, none⟩ (.int .i64 t187)).setCell ⟨go10, (x4_1 : Int).toNat * 5 + 1, none⟩ (.int .i64 t188)).setCell ⟨go10, (x4_1 : Int).toNat * 5 + 2, none⟩ (.int .i64 t189)).setCell ⟨go10, (x4_1 : Int).toNat * 5 + 3, none⟩ (.int .i64 t190)).setCell ⟨go10, (x4_1 : Int).toNat * 5 + 4, none⟩ (.int .i64 t191)) ?_; intro w13 hw; have hg : w11.grownBy w13 (some go10) := (by rw [hw]; exact HP12.2); have hp_ : Kd.R k74 74 w13 w.heap.size (fun _ => True) (.slice (some ⟨go10, 0, none⟩) x3_1.length co10) y192 := (by rw [hw, Ny192.out]; exact HP12.1); clear HP12; have n0_ := am_ (hp_); have n1_ := am_ ((by rw [hw]; exact below_set (below_set (below_set (below_set (below_set (HB.out) GB10.out) GB10.out) GB10.out) GB10.out) GB10.out : Below w.heap.size w w13)); replace HO_3 := n0_; replace HB := n1_; clear n0_ n1_; clear hg hw hp_))
    go_roundg k1
    case measure => have := HK1.out; omega
    case rel => exact ⟨(y192), (wrap64 (x4_1 + 1)), sq_, H', ⟨by have := HK1.out; omega⟩, ⟨ra_ HO_3.out⟩, ⟨bw_ HB.out⟩⟩
   ·rw [if_neg c6] at H
    have c6b0 : decide (x4_1 < (l0.length : Int)) = false := decide_eq_false c6
    clear c6
    obtain rfl := Option.some.inj H
    go_wp2
    go_ret
    exact ⟨_, by first | rfl | (simp [errW_none, errW_some] <;> rfl) | (simp [*, errW_none, errW_some] <;> rfl), ra_ HO_3.out, bw_ HB.out⟩
/-! ### impl_inRange: function 44 -/
def impl_inRange.f (a0 : Int) (a1 : Int) (a2 : Int) : Option (Bool) := if a1 ≤ a0 then (some (decide (a0 ≤ a2))) else (some false)
set_option maxHeartbeats 8000000 in
set_option maxRecDepth 100000 in
theorem impl_inRange.calls (a0 : Int) (a1 : Int) (a2 : Int) (r : Bool) (w : World) (h : impl_inRange.f a0 a1 a2 = some r) :
  Calls Try.prog 44 #[.int .i64 a0, .int .i64 a1, .int .i64 a2] w fun e w' => e = .returned (.bool r) ∧ Drawn0 w w' := by
 have H : (if a1 ≤ a0 then (some (decide (a0 ≤ a2))) else (some false)) = some r := h
 clear h
 by_cases c4 : a1 ≤ a0
 ·rw [if_pos c4] at H
  have c4b0 : decide (a1 ≤ a0) = true := decide_eq_true c4
  clear c4
  obtain rfl := Option.some.inj H
  go_enter Try.func44, Try.ntmps44
  go_wp2
  go_ret
  exact ⟨by first | rfl | (simp; done) | (simp [*]; done), by repeat (first | exact Drawn0.refl _ | apply Drawn0.step)⟩
 ·rw [if_neg c4] at H
  have c4b0 : decide (a1 ≤ a0) = false := decide_eq_false c4
  clear c4
  obtain rfl := Option.some.inj H
  go_enter Try.func44, Try.ntmps44
  go_wp2
  go_ret
  exact ⟨by first | rfl | (simp; done) | (simp [*]; done), by repeat (first | exact Drawn0.refl _ | apply Drawn0.step)⟩

/-! ### impl_GoodBoxes: function 43 -/
mutual
def impl_GoodBoxes.l0 : Nat → List (S74) → List (S74) → Int → Int → Option (Bool)
 | 0, _, _, _, _ => none
 | k + 1, x0, x5, x6, x7 => if x7 < x6 then (if 0 ≤ x7 then (if x7 < (x5.length : Int) then (if x7 = 0 then (if ((rd_T74 x5 x7).f0) = (-1) then (if x7 > 0 then ((impl_inRange.f ((rd_T74 x5 x7).f0) 0 (wrap64 (x7 - 1))).bind fun t196 => (if t196 = true then ((impl_inRange.f ((rd_T74 x5 x7).f1) 1 2).bind fun t197 => (impl_GoodBoxes.j1 k x0 x5 x6 x7 (!t197) ((rd_T74 x5 x7).f0) ((rd_T74 x5 x7).f1) ((rd_T74 x5 x7).f2) ((rd_T74 x5 x7).f3) ((rd_T74 x5 x7).f4))) else (impl_GoodBoxes.j1 k x0 x5 x6 x7 true ((rd_T74 x5 x7).f0) ((rd_T74 x5 x7).f1) ((rd_T74 x5 x7).f2) ((rd_T74 x5 x7).f3) ((rd_T74 x5 x7).f4)))) else ((impl_inRange.f ((rd_T74 x5 x7).f1) 1 2).bind fun t198 => (impl_GoodBoxes.j1 k x0 x5 x6 x7 (!t198) ((rd_T74 x5 x7).f0) ((rd_T74 x5 x7).f1) ((rd_T74 x5 x7).f2) ((rd_T74 x5 x7).f3) ((rd_T74 x5 x7).f4)))) else (impl_GoodBoxes.j1 k x0 x5 x6 x7 true ((rd_T74 x5 x7).f0) ((rd_T74 x5 x7).f1) ((rd_T74 x5 x7).f2) ((rd_T74 x5 x7).f3) ((rd_T74 x5 x7).f4))) else (if x7 > 0 then ((impl_inRange.f ((rd_T74 x5 x7).f0) 0 (wrap64 (x7 - 1))).bind fun t199 => (if t199 = true then ((impl_inRange.f ((rd_T74 x5 x7).f1) 1 2).bind fun t200 => (impl_GoodBoxes.j1 k x0 x5 x6 x7 (!t200) ((rd_T74 x5 x7).f0) ((rd_T74 x5 x7).f1) ((rd_T74 x5 x7).f2) ((rd_T74 x5 x7).f3) ((rd_T74 x5 x7).f4))) else (impl_GoodBoxes.j1 k x0 x5 x6 x7 true ((rd_T74 x5 x7).f0) ((rd_T74 x5 x7).f1) ((rd_T74 x5 x7).f2) ((rd_T74 x5 x7).f3) ((rd_T74 x5 x7).f4)))) else ((impl_inRange.f ((rd_T74 x5 x7).f1) 1 2).bind fun t201 => (impl_GoodBoxes.j1 k x0 x5 x6 x7 (!t201) ((rd_T74 x5 x7).f0) ((rd_T74 x5 x7).f1) ((rd_T74 x5 x7).f2) ((rd_T74 x5 x7).f3) ((rd_T74 x5 x7).f4))))) else (none)) else (none)) else ((impl_inRange.f (x0.length : Int) 1 40).bind fun t193 => (some t193))
def impl_GoodBoxes.j1 : Nat → List (S74) → List (S74) → Int → Int → Bool → Int → Int → Int → Int → Int → Option (Bool)
 | 0, _, _, _, _, _, _, _, _, _, _ => none
 | k + 1, x0, x5, x6, x7, x36, x196000, x196001, x196002, x196003, x196004 => if x36 = true then (some false) else ((impl_inRange.f x196002 0 10000).bind fun t202 => (if t202 = true then ((impl_inRange.f x196003 0 1000).bind fun t203 => (if t203 = true then ((impl_inRange.f x196004 0 100).bind fun t204 => (if t204 = true then (impl_GoodBoxes.l0 k x0 x5 x6 (wrap64 (x7 + 1))) else (some false))) else (some false))) else (some false)))
end
def impl_GoodBoxes.f (k : Nat) (l0 : List (S74)) : Option (Bool) := impl_GoodBoxes.l0 k l0 l0 (l0.length : Int) 0
theorem impl_GoodBoxes.mono_l : ∀ k, (∀ y0 y1 y2 y3, LeO (impl_GoodBoxes.l0 k y0 y1 y2 y3) (impl_GoodBoxes.l0 (k + 1) y0 y1 y2 y3)) ∧ (∀ y0 y1 y2 y3 y4 y5 y6 y7 y8 y9, LeO (impl_GoodBoxes.j1 k y0 y1 y2 y3 y4 y5 y6 y7 y8 y9) (impl_GoodBoxes.j1 (k + 1) y0 y1 y2 y3 y4 y5 y6 y7 y8 y9))
 | 0 => ⟨fun _ _ _ _ r h => by simp [impl_GoodBoxes.l0] at h, fun _ _ _ _ _ _ _ _ _ _ r h => by simp [impl_GoodBoxes.j1] at h⟩
 | k + 1 => by
  obtain ⟨ih0, ih1⟩ := impl_GoodBoxes.mono_l k
  refine ⟨?_, ?_⟩
  ·intro y0 y1 y2 y3
   unfold impl_GoodBoxes.l0
   repeat' first
   | (with_reducible exact ih0 _ _ _ _)
   | (with_reducible exact ih1 _ _ _ _ _ _ _ _ _ _)
   | (with_reducible exact LeO.refl _)
   | (with_reducible exact LeO.none _)
   | (with_reducible refine LeO.ite ?_ ?_)
   | (with_reducible refine LeO.bind ?_ (fun _ => ?_))
   | exact ih0 _ _ _ _
   | exact ih1 _ _ _ _ _ _ _ _ _ _
   | exact LeO.none _
   | refine LeO.ite ?_ ?_
   | refine LeO.bind ?_ (fun _ => ?_)
  ·intro y0 y1 y2 y3 y4 y5 y6 y7 y8 y9
   unfold impl_GoodBoxes.j1
   repeat' first
   | (with_reducible exact ih0 _ _ _ _)
   | (with_reducible exact ih1 _ _ _ _ _ _ _ _ _ _)
   | (with_reducible exact LeO.refl _)
   | (with_reducible exact LeO.none _)
   | (with_reducible refine LeO.ite ?_ ?_)
   | (with_reducible refine LeO.bind ?_ (fun _ => ?_))
   | exact ih0 _ _ _ _
   | exact ih1 _ _ _ _ _ _ _ _ _ _
   | exact LeO.none _
   | refine LeO.ite ?_ ?_
   | refine LeO.bind ?_ (fun _ => ?_)
theorem impl_GoodBoxes.mono : ∀ a0 k, LeO (impl_GoodBoxes.f k a0) (impl_GoodBoxes.f (k + 1) a0) := by
 intro a0 k
 obtain ⟨ih0, ih1⟩ := impl_GoodBoxes.mono_l k
 unfold impl_GoodBoxes.f
 repeat' first
   | (with_reducible exact ih0 _ _ _ _)
   | (with_reducible exact ih1 _ _ _ _ _ _ _ _ _ _)
   | (with_reducible exact LeO.refl _)
   | (with_reducible exact LeO.none _)
   | (with_reducible refine LeO.ite ?_ ?_)
   | (with_reducible refine LeO.bind ?_ (fun _ => ?_))
   | exact ih0 _ _ _ _
   | exact ih1 _ _ _ _ _ _ _ _ _ _
   | exact LeO.none _
   | refine LeO.ite ?_ ?_
   | refine LeO.bind ?_ (fun _ => ?_)
set_option maxHeartbeats 8000000 in
set_option maxRecDepth 100000 in
theorem impl_GoodBoxes.calls (k : Nat) (A0 : Option Addr) (c0 : Nat) (l0 : List (S74)) (r : Bool) (w : World) (hr0 : Kd.C k74 w A0 l0.length l0) (hc0 : l0.length ≤ c0) (h : impl_GoodBoxes.f k l0 = some r) :
  Calls Try.prog 43 #[.slice A0 l0.length c0] w fun e w' => e = .returned (.bool r) ∧ Below w.heap.size w w' := by
 have hu74 := Try.underlying74
 have HR0 := am_ hr0
 have HC0 := am_ hc0
 clear hr0 hc0
 have HB := am_ (Below.refl w.heap.size w)
 have H : (impl_GoodBoxes.l0 k l0 l0 (l0.length : Int) 0) = some r := h
 clear h
 have H' := am_ H
 clear H
 go_enter Try.func43, Try.ntmps43
 go_wp2
 go_loopg [7] k (fun kq v7 w' => ∃ (x7_1 : Int), v7 = .int .i64 x7_1 ∧ Aside0 (impl_GoodBoxes.l0 kq l0 l0 (l0.length : Int) x7_1 = some r) ∧ Aside0 (kq ≤ k) ∧ Aside0 (Below w.heap.size w w'))
 case atStart => exact ⟨(0), sq_, H', ⟨Nat.le_refl _⟩, ⟨bw_ HB.out⟩⟩
 case round =>
  clear H'
  obtain ⟨x7_1, rfl, HA, HK1, HB⟩ := hrel
  cases gk with
  | zero => exact absurd HA.out (by simp [impl_GoodBoxes.l0])
  | succ k1 =>
   have H := HA.out
   clear HA
   simp only [impl_GoodBoxes.l0] at H
   by_cases c2 : x7_1 < (l0.length : Int)
   ·rw [if_pos c2] at H
    have c2b0 : decide (x7_1 < (l0.length : Int)) = true := decide_eq_true c2
    clear c2
    obtain ⟨c3, H⟩ := ifn_ H
    have c3b0 : decide (0 ≤ x7_1) = true := decide_eq_true c3
    clear c3
    obtain ⟨c4, H⟩ := ifn_ H
    have c4b0 : decide (x7_1 < (l0.length : Int)) = true := decide_eq_true c4
    clear c4
    have HC5 := am_ H
    clear H
    have p194 : 0 ≤ (x7_1 : Int) := od_
    have q194 : x7_1 < (l0.length : Int) := od_
    obtain ⟨ad194, e194, hx194_0, hx194_1, hx194_2, hx194_3, hx194_4⟩ := at_T74 HR0.out x7_1 p194 q194
    cases e194
    (try replace hx194_0 := hc_ HB.out hx194_0)
    (try replace hx194_1 := hc_ HB.out hx194_1)
    (try replace hx194_2 := hc_ HB.out hx194_2)
    (try replace hx194_3 := hc_ HB.out hx194_3)
    (try replace hx194_4 := hc_ HB.out hx194_4)
    replace p194 := eq_true p194
    replace q194 := eq_true q194
    go_upto_region 4 with (first | ((with_reducible refine gate_dst (N := 4) rfl ?_); refine bx_ 4 #[.int .i64 0, .int .i64 0, .int .i64 0, .int .i64 0, .int .i64 0] 74 ?_; intro gb195 hg w6 hbox hb; have n0_ := am_ (below_step (bw_ HB.out) hb); have n1_ := am_ (hbox); have n2_ := am_ (gs_ hg (bw_ HB.out)); have n3_ := am_ (gs_ hg (bw_ HB.out)); replace HB := n0_; have BK195 := n1_; have GW195 := n2_; have GE195 := n3_; clear n0_ n1_ n2_ n3_; clear hb hbox hg; have hcz7_0 := cz_ BK195.out 0; have hcz7_1 := cz_ BK195.out 1; have hcz7_2 := cz_ BK195.out 2; have hcz7_3 := cz_ BK195.out 3; have hcz7_4 := cz_ BK195.out 4; have hfz7_0 := blk_frozen BK195.out 0; have hfz7_1 := blk_frozen BK195.out 1; have hfz7_2 := blk_frozen BK195.out 2; have hfz7_3 := blk_frozen BK195.out 3; have hfz7_4 := blk_frozen BK195.out 4))
    (try simp only [Act.put, List.setIfInBounds_toArray, List.set_cons_zero, List.set_cons_succ])
    go_cut [36] (fun v36 wc => ∃ (kq : Nat) (x36_4 : Bool), v36 = .bool x36_4 ∧ Aside0 (impl_GoodBoxes.j1 kq l0 l0 (l0.length : Int) x7_1 x36_4 ((rd_T74 l0 x7_1).f0) ((rd_T74 l0 x7_1).f1) ((rd_T74 l0 x7_1).f2) ((rd_T74 l0 x7_1).f3) ((rd_T74 l0 x7_1).f4) = some r) ∧ Aside0 (kq ≤ k1) ∧ Aside0 (wc.heap[gb195]? = some (.cells #[.int .i64 ((rd_T74 l0 x7_1).f0), .int .i64 ((rd_T74 l0 x7_1).f1), .int .i64 ((rd_T74 l0 x7_1).f2), .int .i64 ((rd_T74 l0 x7_1).f3), .int .i64 ((rd_T74 l0 x7_1).f4)] 74 (0, 0))) ∧ Aside0 (Below w.heap.size w wc))
    case first =>
     have H := HC5.out
     clear HC5
     by_cases c8 : x7_1 = 0
     ·rw [if_pos c8] at H
      have c8b0 : (x7_1 == 0) = true := beq_iff_eq.mpr c8
      have c8b1 : (x7_1 != 0) = false := bne_eq_false_iff_eq.mpr c8
      clear c8
      (first | rw [c8b0] | (simp only [i64_w, i32_w]; rw [c8b0]) | skip)
      by_cases c9 : ((rd_T74 l0 x7_1).f0) = (-1)
      ·rw [if_pos c9] at H
       have c9b0 : (((rd_T74 l0 x7_1).f0) == (-1)) = true := beq_iff_eq.mpr c9
       have c9b1 : (((rd_T74 l0 x7_1).f0) != (-1)) = false := bne_eq_false_iff_eq.mpr c9
       clear c9
       by_cases c10 : x7_1 > 0
       ·rw [if_pos c10] at H
        have c10b0 : decide (0 < x7_1) = true := decide_eq_true c10
        clear c10
        obtain ⟨t196, A110, H⟩ := bE_ H
        have A11 := am_ A110
        clear A110
        by_cases c12 : t196 = true
        ·subst c12
         replace H := it_ H rfl
         obtain ⟨t197, A130, H⟩ := bE_ H
         have A13 := am_ A130
         clear A130
         have H' := am_ H
         clear H
         have hcz14_0 := cz_ BK195.out 0
         have hcz14_1 := cz_ BK195.out 1
         have hcz14_2 := cz_ BK195.out 2
         have hcz14_3 := cz_ BK195.out 3
         have hcz14_4 := cz_ BK195.out 4
         have hfz14_0 := blk_frozen BK195.out 0
         have hfz14_1 := blk_frozen BK195.out 1
         have hfz14_2 := blk_frozen BK195.out 2
         have hfz14_3 := blk_frozen BK195.out 3
         have hfz14_4 := blk_frozen BK195.out 4
         go_wp2_with (first | (go_at_call 44; (try simp only [i64_w]); (with_reducible refine (impl_inRange.calls ((rd_T74 l0 x7_1).f0) 0 (wrap64 (x7_1 - 1)) true _ A11.out).mono ?_); rintro e w' ⟨rfl, ⟨nd, rfl⟩⟩) | (go_at_call 44; (with_reducible refine (impl_inRange.calls ((rd_T74 l0 x7_1).f1) 1 2 t197 _ A13.out).mono ?_); rintro e w' ⟨rfl, ⟨nd, rfl⟩⟩))
         go_meet
         case rel => exact ⟨_, (!t197), sq_, H', ⟨by have := HK1.out; first | omega | exact Nat.le_refl _⟩, ⟨by (with_reducible repeat (first | refine blk_drewN ?_ _ | refine blk_drew ?_ | refine blk_alloc ?_ _)); refine blk_put (cs := #[.int .i64 ((rd_T74 l0 x7_1).f0), .int .i64 ((rd_T74 l0 x7_1).f1), .int .i64 ((rd_T74 l0 x7_1).f2), .int .i64 ((rd_T74 l0 x7_1).f3), .int .i64 0]) ?_ 4 _ rfl; (with_reducible repeat (first | refine blk_drewN ?_ _ | refine blk_drew ?_ | refine blk_alloc ?_ _)); refine blk_put (cs := #[.int .i64 ((rd_T74 l0 x7_1).f0), .int .i64 ((rd_T74 l0 x7_1).f1), .int .i64 ((rd_T74 l0 x7_1).f2), .int .i64 0, .int .i64 0]) ?_ 3 _ rfl; (with_reducible repeat (first | refine blk_drewN ?_ _ | refine blk_drew ?_ | refine blk_alloc ?_ _)); refine blk_put (cs := #[.int .i64 ((rd_T74 l0 x7_1).f0), .int .i64 ((rd_T74 l0 x7_1).f1), .int .i64 0, .int .i64 0, .int .i64 0]) ?_ 2 _ rfl; (with_reducible repeat (first | refine blk_drewN ?_ _ | refine blk_drew ?_ | refine blk_alloc ?_ _)); refine blk_put (cs := #[.int .i64 ((rd_T74 l0 x7_1).f0), .int .i64 0, .int .i64 0, .int .i64 0, .int .i64 0]) ?_ 1 _ rfl; (with_reducible repeat (first | refine blk_drewN ?_ _ | refine blk_drew ?_ | refine blk_alloc ?_ _)); refine blk_put (cs := #[.int .i64 0, .int .i64 0, .int .i64 0, .int .i64 0, .int .i64 0]) ?_ 0 _ rfl; (with_reducible repeat (first | refine blk_drewN ?_ _ | refine blk_drew ?_ | refine blk_alloc ?_ _)); exact BK195.out⟩, ⟨bw_ HB.out⟩⟩
        ·replace c12 := Bool.eq_false_iff.mpr c12
         subst c12
         replace H := if_ H Bool.false_ne_true
         have H' := am_ H
         clear H
         have hcz15_0 := cz_ BK195.out 0
         have hcz15_1 := cz_ BK195.out 1
         have hcz15_2 := cz_ BK195.out 2
         have hcz15_3 := cz_ BK195.out 3
         have hcz15_4 := cz_ BK195.out 4
         have hfz15_0 := blk_frozen BK195.out 0
         have hfz15_1 := blk_frozen BK195.out 1
         have hfz15_2 := blk_frozen BK195.out 2
         have hfz15_3 := blk_frozen BK195.out 3
         have hfz15_4 := blk_frozen BK195.out 4
         go_wp2_with (first | (go_at_call 44; (try simp only [i64_w]); (with_reducible refine (impl_inRange.calls ((rd_T74 l0 x7_1).f0) 0 (wrap64 (x7_1 - 1)) false _ A11.out).mono ?_); rintro e w' ⟨rfl, ⟨nd, rfl⟩⟩))
         go_meet
         case rel => exact ⟨_, (true), sq_, H', ⟨by have := HK1.out; first | omega | exact Nat.le_refl _⟩, ⟨by (with_reducible repeat (first | refine blk_drewN ?_ _ | refine blk_drew ?_ | refine blk_alloc ?_ _)); refine blk_put (cs := #[.int .i64 ((rd_T74 l0 x7_1).f0), .int .i64 ((rd_T74 l0 x7_1).f1), .int .i64 ((rd_T74 l0 x7_1).f2), .int .i64 ((rd_T74 l0 x7_1).f3), .int .i64 0]) ?_ 4 _ rfl; (with_reducible repeat (first | refine blk_drewN ?_ _ | refine blk_drew ?_ | refine blk_alloc ?_ _)); refine blk_put (cs := #[.int .i64 ((rd_T74 l0 x7_1).f0), .int .i64 ((rd_T74 l0 x7_1).f1), .int .i64 ((rd_T74 l0 x7_1).f2), .int .i64 0, .int .i64 0]) ?_ 3 _ rfl; (with_reducible repeat (first | refine blk_drewN ?_ _ | refine blk_drew ?_ | refine blk_alloc ?_ _)); refine blk_put (cs := #[.int .i64 ((rd_T74 l0 x7_1).f0), .int .i64 ((rd_T74 l0 x7_1).f1), .int .i64 0, .int .i64 0, .int .i64 0]) ?_ 2 _ rfl; (with_reducible repeat (first | refine blk_drewN ?_ _ | refine blk_drew ?_ | refine blk_alloc ?_ _)); refine blk_put (cs := #[.int .i64 ((rd_T74 l0 x7_1).f0), .int .i64 0, .int .i64 0, .int .i64 0, .int .i64 0]) ?_ 1 _ rfl; (with_reducible repeat (first | refine blk_drewN ?_ _ | refine blk_drew ?_ | refine blk_alloc ?_ _)); refine blk_put (cs := #[.int .i64 0, .int .i64 0, .int .i64 0, .int .i64 0, .int .i64 0]) ?_ 0 _ rfl; (with_reducible repeat (first | refine blk_drewN ?_ _ | refine blk_drew ?_ | refine blk_alloc ?_ _)); exact BK195.out⟩, ⟨bw_ HB.out⟩⟩
       ·rw [if_neg c10] at H
        have c10b0 : decide (0 < x7_1) = false := decide_eq_false c10
        clear c10
        obtain ⟨t198, A160, H⟩ := bE_ H
        have A16 := am_ A160
        clear A160
        have H' := am_ H
        clear H
        have hcz17_0 := cz_ BK195.out 0
        have hcz17_1 := cz_ BK195.out 1
        have hcz17_2 := cz_ BK195.out 2
        have hcz17_3 := cz_ BK195.out 3
        have hcz17_4 := cz_ BK195.out 4
        have hfz17_0 := blk_frozen BK195.out 0
        have hfz17_1 := blk_frozen BK195.out 1
        have hfz17_2 := blk_frozen BK195.out 2
        have hfz17_3 := blk_frozen BK195.out 3
        have hfz17_4 := blk_frozen BK195.out 4
        go_wp2_with (first | (go_at_call 44; (with_reducible refine (impl_inRange.calls ((rd_T74 l0 x7_1).f1) 1 2 t198 _ A16.out).mono ?_); rintro e w' ⟨rfl, ⟨nd, rfl⟩⟩))
        go_meet
        case rel => exact ⟨_, (!t198), sq_, H', ⟨by have := HK1.out; first | omega | exact Nat.le_refl _⟩, ⟨by (with_reducible repeat (first | refine blk_drewN ?_ _ | refine blk_drew ?_ | refine blk_alloc ?_ _)); refine blk_put (cs := #[.int .i64 ((rd_T74 l0 x7_1).f0), .int .i64 ((rd_T74 l0 x7_1).f1), .int .i64 ((rd_T74 l0 x7_1).f2), .int .i64 ((rd_T74 l0 x7_1).f3), .int .i64 0]) ?_ 4 _ rfl; (with_reducible repeat (first | refine blk_drewN ?_ _ | refine blk_drew ?_ | refine blk_alloc ?_ _)); refine blk_put (cs := #[.int .i64 ((rd_T74 l0 x7_1).f0), .int .i64 ((rd_T74 l0 x7_1).f1), .int .i64 ((rd_T74 l0 x7_1).f2), .int .i64 0, .int .i64 0]) ?_ 3 _ rfl; (with_reducible repeat (first | refine blk_drewN ?_ _ | refine blk_drew ?_ | refine blk_alloc ?_ _)); refine blk_put (cs := #[.int .i64 ((rd_T74 l0 x7_1).f0), .int .i64 ((rd_T74 l0 x7_1).f1), .int .i64 0, .int .i64 0, .int .i64 0]) ?_ 2 _ rfl; (with_reducible repeat (first | refine blk_drewN ?_ _ | refine blk_drew ?_ | refine blk_alloc ?_ _)); refine blk_put (cs := #[.int .i64 ((rd_T74 l0 x7_1).f0), .int .i64 0, .int .i64 0, .int .i64 0, .int .i64 0]) ?_ 1 _ rfl; (with_reducible repeat (first | refine blk_drewN ?_ _ | refine blk_drew ?_ | refine blk_alloc ?_ _)); refine blk_put (cs := #[.int .i64 0, .int .i64 0, .int .i64 0, .int .i64 0, .int .i64 0]) ?_ 0 _ rfl; (with_reducible repeat (first | refine blk_drewN ?_ _ | refine blk_drew ?_ | refine blk_alloc ?_ _)); exact BK195.out⟩, ⟨bw_ HB.out⟩⟩
      ·rw [if_neg c9] at H
       have c9b0 : (((rd_T74 l0 x7_1).f0) == (-1)) = false := beq_eq_false_iff_ne.mpr c9
       have c9b1 : (((rd_T74 l0 x7_1).f0) != (-1)) = true := bne_iff_ne.mpr c9
       have H' := am_ H
       clear H
       have hcz18_0 := cz_ BK195.out 0
       have hcz18_1 := cz_ BK195.out 1
       have hcz18_2 := cz_ BK195.out 2
       have hcz18_3 := cz_ BK195.out 3
       have hcz18_4 := cz_ BK195.out 4
       have hfz18_0 := blk_frozen BK195.out 0
       have hfz18_1 := blk_frozen BK195.out 1
       have hfz18_2 := blk_frozen BK195.out 2
       have hfz18_3 := blk_frozen BK195.out 3
       have hfz18_4 := blk_frozen BK195.out 4
       go_wp2
       go_meet
       case rel => exact ⟨_, (true), sq_, H', ⟨by have := HK1.out; first | omega | exact Nat.le_refl _⟩, ⟨by (with_reducible repeat (first | refine blk_drewN ?_ _ | refine blk_drew ?_ | refine blk_alloc ?_ _)); refine blk_put (cs := #[.int .i64 ((rd_T74 l0 x7_1).f0), .int .i64 ((rd_T74 l0 x7_1).f1), .int .i64 ((rd_T74 l0 x7_1).f2), .int .i64 ((rd_T74 l0 x7_1).f3), .int .i64 0]) ?_ 4 _ rfl; (with_reducible repeat (first | refine blk_drewN ?_ _ | refine blk_drew ?_ | refine blk_alloc ?_ _)); refine blk_put (cs := #[.int .i64 ((rd_T74 l0 x7_1).f0), .int .i64 ((rd_T74 l0 x7_1).f1), .int .i64 ((rd_T74 l0 x7_1).f2), .int .i64 0, .int .i64 0]) ?_ 3 _ rfl; (with_reducible repeat (first | refine blk_drewN ?_ _ | refine blk_drew ?_ | refine blk_alloc ?_ _)); refine blk_put (cs := #[.int .i64 ((rd_T74 l0 x7_1).f0), .int .i64 ((rd_T74 l0 x7_1).f1), .int .i64 0, .int .i64 0, .int .i64 0]) ?_ 2 _ rfl; (with_reducible repeat (first | refine blk_drewN ?_ _ | refine blk_drew ?_ | refine blk_alloc ?_ _)); refine blk_put (cs := #[.int .i64 ((rd_T74 l0 x7_1).f0), .int .i64 0, .int .i64 0, .int .i64 0, .int .i64 0]) ?_ 1 _ rfl; (with_reducible repeat (first | refine blk_drewN ?_ _ | refine blk_drew ?_ | refine blk_alloc ?_ _)); refine blk_put (cs := #[.int .i64 0, .int .i64 0, .int .i64 0, .int .i64 0, .int .i64 0]) ?_ 0 _ rfl; (with_reducible repeat (first | refine blk_drewN ?_ _ | refine blk_drew ?_ | refine blk_alloc ?_ _)); exact BK195.out⟩, ⟨bw_ HB.out⟩⟩
     ·rw [if_neg c8] at H
      have c8b0 : (x7_1 == 0) = false := beq_eq_false_iff_ne.mpr c8
      have c8b1 : (x7_1 != 0) = true := bne_iff_ne.mpr c8
      (first | rw [c8b0] | (simp only [i64_w, i32_w]; rw [c8b0]) | skip)
      by_cases c19 : x7_1 > 0
      ·rw [if_pos c19] at H
       have c19b0 : decide (0 < x7_1) = true := decide_eq_true c19
       clear c19
       obtain ⟨t199, A200, H⟩ := bE_ H
       have A20 := am_ A200
       clear A200
       by_cases c21 : t199 = true
       ·subst c21
        replace H := it_ H rfl
        obtain ⟨t200, A220, H⟩ := bE_ H
        have A22 := am_ A220
        clear A220
        have H' := am_ H
        clear H
        have hcz23_0 := cz_ BK195.out 0
        have hcz23_1 := cz_ BK195.out 1
        have hcz23_2 := cz_ BK195.out 2
        have hcz23_3 := cz_ BK195.out 3
        have hcz23_4 := cz_ BK195.out 4
        have hfz23_0 := blk_frozen BK195.out 0
        have hfz23_1 := blk_frozen BK195.out 1
        have hfz23_2 := blk_frozen BK195.out 2
        have hfz23_3 := blk_frozen BK195.out 3
        have hfz23_4 := blk_frozen BK195.out 4
        go_wp2_with (first | (go_at_call 44; (try simp only [i64_w]); (with_reducible refine (impl_inRange.calls ((rd_T74 l0 x7_1).f0) 0 (wrap64 (x7_1 - 1)) true _ A20.out).mono ?_); rintro e w' ⟨rfl, ⟨nd, rfl⟩⟩) | (go_at_call 44; (with_reducible refine (impl_inRange.calls ((rd_T74 l0 x7_1).f1) 1 2 t200 _ A22.out).mono ?_); rintro e w' ⟨rfl, ⟨nd, rfl⟩⟩))
        go_meet
        case rel => exact ⟨_, (!t200), sq_, H', ⟨by have := HK1.out; first | omega | exact Nat.le_refl _⟩, ⟨by (with_reducible repeat (first | refine blk_drewN ?_ _ | refine blk_drew ?_ | refine blk_alloc ?_ _)); refine blk_put (cs := #[.int .i64 ((rd_T74 l0 x7_1).f0), .int .i64 ((rd_T74 l0 x7_1).f1), .int .i64 ((rd_T74 l0 x7_1).f2), .int .i64 ((rd_T74 l0 x7_1).f3), .int .i64 0]) ?_ 4 _ rfl; (with_reducible repeat (first | refine blk_drewN ?_ _ | refine blk_drew ?_ | refine blk_alloc ?_ _)); refine blk_put (cs := #[.int .i64 ((rd_T74 l0 x7_1).f0), .int .i64 ((rd_T74 l0 x7_1).f1), .int .i64 ((rd_T74 l0 x7_1).f2), .int .i64 0, .int .i64 0]) ?_ 3 _ rfl; (with_reducible repeat (first | refine blk_drewN ?_ _ | refine blk_drew ?_ | refine blk_alloc ?_ _)); refine blk_put (cs := #[.int .i64 ((rd_T74 l0 x7_1).f0), .int .i64 ((rd_T74 l0 x7_1).f1), .int .i64 0, .int .i64 0, .int .i64 0]) ?_ 2 _ rfl; (with_reducible repeat (first | refine blk_drewN ?_ _ | refine blk_drew ?_ | refine blk_alloc ?_ _)); refine blk_put (cs := #[.int .i64 ((rd_T74 l0 x7_1).f0), .int .i64 0, .int .i64 0, .int .i64 0, .int .i64 0]) ?_ 1 _ rfl; (with_reducible repeat (first | refine blk_drewN ?_ _ | refine blk_drew ?_ | refine blk_alloc ?_ _)); refine blk_put (cs := #[.int .i64 0, .int .i64 0, .int .i64 0, .int .i64 0, .int .i64 0]) ?_ 0 _ rfl; (with_reducible repeat (first | refine blk_drewN ?_ _ | refine blk_drew ?_ | refine blk_alloc ?_ _)); exact BK195.out⟩, ⟨bw_ HB.out⟩⟩
       ·replace c21 := Bool.eq_false_iff.mpr c21
        subst c21
        replace H := if_ H Bool.false_ne_true
        have H' := am_ H
        clear H
        have hcz24_0 := cz_ BK195.out 0
        have hcz24_1 := cz_ BK195.out 1
        have hcz24_2 := cz_ BK195.out 2
        have hcz24_3 := cz_ BK195.out 3
        have hcz24_4 := cz_ BK195.out 4
        have hfz24_0 := blk_frozen BK195.out 0
        have hfz24_1 := blk_frozen BK195.out 1
        have hfz24_2 := blk_frozen BK195.out 2
        have hfz24_3 := blk_frozen BK195.out 3
        have hfz24_4 := blk_frozen BK195.out 4
        go_wp2_with (first | (go_at_call 44; (try simp only [i64_w]); (with_reducible refine (impl_inRange.calls ((rd_T74 l0 x7_1).f0) 0 (wrap64 (x7_1 - 1)) false _ A20.out).mono ?_); rintro e w' ⟨rfl, ⟨nd, rfl⟩⟩))
        go_meet
        case rel => exact ⟨_, (true), sq_, H', ⟨by have := HK1.out; first | omega | exact Nat.le_refl _⟩, ⟨by (with_reducible repeat (first | refine blk_drewN ?_ _ | refine blk_drew ?_ | refine blk_alloc ?_ _)); refine blk_put (cs := #[.int .i64 ((rd_T74 l0 x7_1).f0), .int .i64 ((rd_T74 l0 x7_1).f1), .int .i64 ((rd_T74 l0 x7_1).f2), .int .i64 ((rd_T74 l0 x7_1).f3), .int .i64 0]) ?_ 4 _ rfl; (with_reducible repeat (first | refine blk_drewN ?_ _ | refine blk_drew ?_ | refine blk_alloc ?_ _)); refine blk_put (cs := #[.int .i64 ((rd_T74 l0 x7_1).f0), .int .i64 ((rd_T74 l0 x7_1).f1), .int .i64 ((rd_T74 l0 x7_1).f2), .int .i64 0, .int .i64 0]) ?_ 3 _ rfl; (with_reducible repeat (first | refine blk_drewN ?_ _ | refine blk_drew ?_ | refine blk_alloc ?_ _)); refine blk_put (cs := #[.int .i64 ((rd_T74 l0 x7_1).f0), .int .i64 ((rd_T74 l0 x7_1).f1), .int .i64 0, .int .i64 0, .int .i64 0]) ?_ 2 _ rfl; (with_reducible repeat (first | refine blk_drewN ?_ _ | refine blk_drew ?_ | refine blk_alloc ?_ _)); refine blk_put (cs := #[.int .i64 ((rd_T74 l0 x7_1).f0), .int .i64 0, .int .i64 0, .int .i64 0, .int .i64 0]) ?_ 1 _ rfl; (with_reducible repeat (first | refine blk_drewN ?_ _ | refine blk_drew ?_ | refine blk_alloc ?_ _)); refine blk_put (cs := #[.int .i64 0, .int .i64 0, .int .i64 0, .int .i64 0, .int .i64 0]) ?_ 0 _ rfl; (with_reducible repeat (first | refine blk_drewN ?_ _ | refine blk_drew ?_ | refine blk_alloc ?_ _)); exact BK195.out⟩, ⟨bw_ HB.out⟩⟩
      ·rw [if_neg c19] at H
       have c19b0 : decide (0 < x7_1) = false := decide_eq_false c19
       clear c19
       obtain ⟨t201, A250, H⟩ := bE_ H
       have A25 := am_ A250
       clear A250
       have H' := am_ H
       clear H
       have hcz26_0 := cz_ BK195.out 0
       have hcz26_1 := cz_ BK195.out 1
       have hcz26_2 := cz_ BK195.out 2
       have hcz26_3 := cz_ BK195.out 3
       have hcz26_4 := cz_ BK195.out 4
       have hfz26_0 := blk_frozen BK195.out 0
       have hfz26_1 := blk_frozen BK195.out 1
       have hfz26_2 := blk_frozen BK195.out 2
       have hfz26_3 := blk_frozen BK195.out 3
       have hfz26_4 := blk_frozen BK195.out 4
       go_wp2_with (first | (go_at_call 44; (with_reducible refine (impl_inRange.calls ((rd_T74 l0 x7_1).f1) 1 2 t201 _ A25.out).mono ?_); rintro e w' ⟨rfl, ⟨nd, rfl⟩⟩))
       go_meet
       case rel => exact ⟨_, (!t201), sq_, H', ⟨by have := HK1.out; first | omega | exact Nat.le_refl _⟩, ⟨by (with_reducible repeat (first | refine blk_drewN ?_ _ | refine blk_drew ?_ | refine blk_alloc ?_ _)); refine blk_put (cs := #[.int .i64 ((rd_T74 l0 x7_1).f0), .int .i64 ((rd_T74 l0 x7_1).f1), .int .i64 ((rd_T74 l0 x7_1).f2), .int .i64 ((rd_T74 l0 x7_1).f3), .int .i64 0]) ?_ 4 _ rfl; (with_reducible repeat (first | refine blk_drewN ?_ _ | refine blk_drew ?_ | refine blk_alloc ?_ _)); refine blk_put (cs := #[.int .i64 ((rd_T74 l0 x7_1).f0), .int .i64 ((rd_T74 l0 x7_1).f1), .int .i64 ((rd_T74 l0 x7_1).f2), .int .i64 0, .int .i64 0]) ?_ 3 _ rfl; (with_reducible repeat (first | refine blk_drewN ?_ _ | refine blk_drew ?_ | refine blk_alloc ?_ _)); refine blk_put (cs := #[.int .i64 ((rd_T74 l0 x7_1).f0), .int .i64 ((rd_T74 l0 x7_1).f1), .int .i64 0, .int .i64 0, .int .i64 0]) ?_ 2 _ rfl; (with_reducible repeat (first | refine blk_drewN ?_ _ | refine blk_drew ?_ | refine blk_alloc ?_ _)); refine blk_put (cs := #[.int .i64 ((rd_T74 l0 x7_1).f0), .int .i64 0, .int .i64 0, .int .i64 0, .int .i64 0]) ?_ 1 _ rfl; (with_reducible repeat (first | refine blk_drewN ?_ _ | refine blk_drew ?_ | refine blk_alloc ?_ _)); refine blk_put (cs := #[.int .i64 0, .int .i64 0, .int .i64 0, .int .i64 0, .int .i64 0]) ?_ 0 _ rfl; (with_reducible repeat (first | refine blk_drewN ?_ _ | refine blk_drew ?_ | refine blk_alloc ?_ _)); exact BK195.out⟩, ⟨bw_ HB.out⟩⟩
    case rest =>
     clear HC5
     try clear c2
     try clear c2b0
     try clear c3
     try clear c3b0
     try clear c4
     try clear c4b0
     try clear hcz7_0
     try clear hcz7_1
     try clear hcz7_2
     try clear hcz7_3
     try clear hcz7_4
     try clear hfz7_0
     try clear hfz7_1
     try clear hfz7_2
     try clear hfz7_3
     try clear hfz7_4
     try clear hx194_0
     try clear hx194_1
     try clear hx194_2
     try clear hx194_3
     try clear hx194_4
     try clear p194
     try clear q194
     obtain ⟨kq, x36_4, rfl, HA, HJ4, BK195, HB⟩ := hcut
     cases kq with
     | zero => exact absurd HA.out (by simp [impl_GoodBoxes.j1])
     | succ kj4 =>
      have H := HA.out
      clear HA
      simp only [impl_GoodBoxes.j1] at H
      by_cases c27 : x36_4 = true
      ·subst c27
       replace H := it_ H rfl
       obtain rfl := Option.some.inj H
       go_wp2
       go_ret
       exact ⟨by first | rfl | (simp [errW_none, errW_some] <;> rfl) | (simp [*, errW_none, errW_some] <;> rfl), bw_ HB.out⟩
      ·replace c27 := Bool.eq_false_iff.mpr c27
       subst c27
       replace H := if_ H Bool.false_ne_true
       obtain ⟨t202, A280, H⟩ := bE_ H
       have A28 := am_ A280
       clear A280
       by_cases c29 : t202 = true
       ·subst c29
        replace H := it_ H rfl
        obtain ⟨t203, A300, H⟩ := bE_ H
        have A30 := am_ A300
        clear A300
        by_cases c31 : t203 = true
        ·subst c31
         replace H := it_ H rfl
         obtain ⟨t204, A320, H⟩ := bE_ H
         have A32 := am_ A320
         clear A320
         by_cases c33 : t204 = true
         ·subst c33
          replace H := it_ H rfl
          have H' := am_ H
          clear H
          have hcz34_0 := cz_ BK195.out 0
          have hcz34_1 := cz_ BK195.out 1
          have hcz34_2 := cz_ BK195.out 2
          have hcz34_3 := cz_ BK195.out 3
          have hcz34_4 := cz_ BK195.out 4
          have hfz34_0 := blk_frozen BK195.out 0
          have hfz34_1 := blk_frozen BK195.out 1
          have hfz34_2 := blk_frozen BK195.out 2
          have hfz34_3 := blk_frozen BK195.out 3
          have hfz34_4 := blk_frozen BK195.out 4
          go_wp2_with (first | ((with_reducible refine gate_callee (f := 44) rfl ?_); refine goesL_ (some 39) rfl rfl Try.func44 (by kernel_rfl) rfl #[.int .i64 ((rd_T74 l0 x7_1).f2), .int .i64 0, .int .i64 10000] rfl (by (try simp only [List.map_toArray, List.map_cons, List.map_nil]); first | done | rfl | (simp only [List.length_drop, List.length_take]; rfl)) ?_; (with_reducible refine (impl_inRange.calls ((rd_T74 l0 x7_1).f2) 0 10000 true _ A28.out).mono ?_); rintro e w' ⟨rfl, ⟨nd, rfl⟩⟩; refine ⟨_, rfl, ?_⟩) | (go_at_call 44; (with_reducible refine (impl_inRange.calls ((rd_T74 l0 x7_1).f3) 0 1000 true _ A30.out).mono ?_); rintro e w' ⟨rfl, ⟨nd, rfl⟩⟩) | (go_at_call 44; (with_reducible refine (impl_inRange.calls ((rd_T74 l0 x7_1).f4) 0 100 true _ A32.out).mono ?_); rintro e w' ⟨rfl, ⟨nd, rfl⟩⟩))
          go_roundg kj4
          case measure => have := HK1.out; have := HJ4.out; omega
          case rel => exact ⟨(wrap64 (x7_1 + 1)), sq_, H', ⟨by have := HK1.out; have := HJ4.out; omega⟩, ⟨bw_ HB.out⟩⟩
         ·replace c33 := Bool.eq_false_iff.mpr c33
          subst c33
          replace H := if_ H Bool.false_ne_true
          obtain rfl := Option.some.inj H
          have hcz35_0 := cz_ BK195.out 0
          have hcz35_1 := cz_ BK195.out 1
          have hcz35_2 := cz_ BK195.out 2
          have hcz35_3 := cz_ BK195.out 3
          have hcz35_4 := cz_ BK195.out 4
          have hfz35_0 := blk_frozen BK195.out 0
          have hfz35_1 := blk_frozen BK195.out 1
          have hfz35_2 := blk_frozen BK195.out 2
          have hfz35_3 := blk_frozen BK195.out 3
          have hfz35_4 := blk_frozen BK195.out 4
          go_wp2_with (first | ((with_reducible refine gate_callee (f := 44) rfl ?_); refine goesL_ (some 39) rfl rfl Try.func44 (by kernel_rfl) rfl #[.int .i64 ((rd_T74 l0 x7_1).f2), .int .i64 0, .int .i64 10000] rfl (by (try simp only [List.map_toArray, List.map_cons, List.map_nil]); first | done | rfl | (simp only [List.length_drop, List.length_take]; rfl)) ?_; (with_reducible refine (impl_inRange.calls ((rd_T74 l0 x7_1).f2) 0 10000 true _ A28.out).mono ?_); rintro e w' ⟨rfl, ⟨nd, rfl⟩⟩; refine ⟨_, rfl, ?_⟩) | (go_at_call 44; (with_reducible refine (impl_inRange.calls ((rd_T74 l0 x7_1).f3) 0 1000 true _ A30.out).mono ?_); rintro e w' ⟨rfl, ⟨nd, rfl⟩⟩) | (go_at_call 44; (with_reducible refine (impl_inRange.calls ((rd_T74 l0 x7_1).f4) 0 100 false _ A32.out).mono ?_); rintro e w' ⟨rfl, ⟨nd, rfl⟩⟩))
          go_ret
          exact ⟨by first | rfl | (simp [errW_none, errW_some] <;> rfl) | (simp [*, errW_none, errW_some] <;> rfl), bw_ HB.out⟩
        ·replace c31 := Bool.eq_false_iff.mpr c31
         subst c31
         replace H := if_ H Bool.false_ne_true
         obtain rfl := Option.some.inj H
         have hcz36_0 := cz_ BK195.out 0
         have hcz36_1 := cz_ BK195.out 1
         have hcz36_2 := cz_ BK195.out 2
         have hcz36_3 := cz_ BK195.out 3
         have hcz36_4 := cz_ BK195.out 4
         have hfz36_0 := blk_frozen BK195.out 0
         have hfz36_1 := blk_frozen BK195.out 1
         have hfz36_2 := blk_frozen BK195.out 2
         have hfz36_3 := blk_frozen BK195.out 3
         have hfz36_4 := blk_frozen BK195.out 4
         go_wp2_with (first | ((with_reducible refine gate_callee (f := 44) rfl ?_); refine goesL_ (some 39) rfl rfl Try.func44 (by kernel_rfl) rfl #[.int .i64 ((rd_T74 l0 x7_1).f2), .int .i64 0, .int .i64 10000] rfl (by (try simp only [List.map_toArray, List.map_cons, List.map_nil]); first | done | rfl | (simp only [List.length_drop, List.length_take]; rfl)) ?_; (with_reducible refine (impl_inRange.calls ((rd_T74 l0 x7_1).f2) 0 10000 true _ A28.out).mono ?_); rintro e w' ⟨rfl, ⟨nd, rfl⟩⟩; refine ⟨_, rfl, ?_⟩) | (go_at_call 44; (with_reducible refine (impl_inRange.calls ((rd_T74 l0 x7_1).f3) 0 1000 false _ A30.out).mono ?_); rintro e w' ⟨rfl, ⟨nd, rfl⟩⟩))
         go_ret
         exact ⟨by first | rfl | (simp [errW_none, errW_some] <;> rfl) | (simp [*, errW_none, errW_some] <;> rfl), bw_ HB.out⟩
       ·replace c29 := Bool.eq_false_iff.mpr c29
        subst c29
        replace H := if_ H Bool.false_ne_true
        obtain rfl := Option.some.inj H
        have hcz37_0 := cz_ BK195.out 0
        have hcz37_1 := cz_ BK195.out 1
        have hcz37_2 := cz_ BK195.out 2
        have hcz37_3 := cz_ BK195.out 3
        have hcz37_4 := cz_ BK195.out 4
        have hfz37_0 := blk_frozen BK195.out 0
        have hfz37_1 := blk_frozen BK195.out 1
        have hfz37_2 := blk_frozen BK195.out 2
        have hfz37_3 := blk_frozen BK195.out 3
        have hfz37_4 := blk_frozen BK195.out 4
        go_wp2_with (first | ((with_reducible refine gate_callee (f := 44) rfl ?_); refine goesL_ (some 39) rfl rfl Try.func44 (by kernel_rfl) rfl #[.int .i64 ((rd_T74 l0 x7_1).f2), .int .i64 0, .int .i64 10000] rfl (by (try simp only [List.map_toArray, List.map_cons, List.map_nil]); first | done | rfl | (simp only [List.length_drop, List.length_take]; rfl)) ?_; (with_reducible refine (impl_inRange.calls ((rd_T74 l0 x7_1).f2) 0 10000 false _ A28.out).mono ?_); rintro e w' ⟨rfl, ⟨nd, rfl⟩⟩; refine ⟨_, rfl, ?_⟩))
        go_ret
        exact ⟨by first | rfl | (simp [errW_none, errW_some] <;> rfl) | (simp [*, errW_none, errW_some] <;> rfl), bw_ HB.out⟩
   ·rw [if_neg c2] at H
    have c2b0 : decide (x7_1 < (l0.length : Int)) = false := decide_eq_false c2
    clear c2
    obtain ⟨t193, A380, H⟩ := bE_ H
    have A38 := am_ A380
    clear A380
    obtain rfl := Option.some.inj H
    go_wp2_with (first | ((with_reducible refine gate_callee (f := 44) rfl ?_); refine goesL_ (some 56) rfl rfl Try.func44 (by kernel_rfl) rfl #[.int .i64 (l0.length : Int), .int .i64 1, .int .i64 40] rfl (by (try simp only [List.map_toArray, List.map_cons, List.map_nil]); first | done | rfl | (simp only [List.length_drop, List.length_take]; rfl)) ?_; (with_reducible refine (impl_inRange.calls (l0.length : Int) 1 40 t193 _ A38.out).mono ?_); rintro e w' ⟨rfl, ⟨nd, rfl⟩⟩; refine ⟨_, rfl, ?_⟩))
    go_ret
    exact ⟨by first | rfl | (simp [errW_none, errW_some] <;> rfl) | (simp [*, errW_none, errW_some] <;> rfl), bw_ HB.out⟩

/-! ### slices_Clone_int_int: function 34 -/
def slices_Clone_int_int.f (l0 : List Int) : Option (List Int) := (some (([] : List Int) : List Int)).bind fun y205 => (if y205.length + l0.length < 17592186044416 then (some (y205 ++ l0)) else (none))
theorem eqlNil24 (w : World) (A : Option Addr) (n c m k : Nat) : (binOp .eql 24 (.slice A n c) (.slice none m k)).run Try.prog w = .ok (.bool A.isNone) w := eqlNil_of Try.underlying24 w A n c m k
attribute [local go_sem high] eqlNil24
set_option maxHeartbeats 8000000 in
set_option maxRecDepth 100000 in
theorem slices_Clone_int_int.calls (A0 : Option Addr) (c0 : Nat) (l0 : List Int) (r : List Int) (w : World) (hr0 : Kd.C (Kd.int .i64) w A0 l0.length l0) (hc0 : l0.length ≤ c0) (h : slices_Clone_int_int.f l0 = some r) :
  Calls Try.prog 34 #[.slice A0 l0.length c0] w fun e w' => ∃ v0_ : Value, e = .returned (v0_) ∧ Kd.R (Kd.int .i64) 3 w' w.heap.size (fun _ => True) v0_ r ∧ Below w.heap.size w w' := by
 have HR0 := am_ hr0
 have HC0 := am_ hc0
 clear hr0 hc0
 have HB := am_ (Below.refl w.heap.size w)
 have H : ((some (([] : List Int) : List Int)).bind fun y205 => (if y205.length + l0.length < 17592186044416 then (some (y205 ++ l0)) else (none))) = some r := h
 clear h
 rcases A0 with _ | ad0_
 ·have e0_ : l0 = [] := List.eq_nil_of_length_eq_zero (Nat.eq_zero_of_not_pos fun hp_ => by obtain ⟨ad_, ha_, _⟩ := HR0.out.2.2 hp_; cases ha_)
  subst e0_
  have e1_ : r = [] := by simpa using H.symm
  subst e1_
  go_enter Try.func34, Try.ntmps34
  go_wp2
  go_ret
  exact ⟨_, by first | rfl | (simp; done), Kd.R_nil _ _ _ _ _, bw_ HB.out⟩
 obtain ⟨y205, hy205⟩ : ∃ y_ : List Int, y_ = (([] : List Int)) := ⟨_, rfl⟩
 replace H : (if y205.length + l0.length < 17592186044416 then (some (y205 ++ l0)) else (none)) = some r := by first | (rw [hy205]; with_reducible exact H) | (have H2_ := (Option.bind_some _ _).symm.trans H; rw [hy205]; with_reducible exact H2_) | (have H2_ := (Option.bind_some _ _).symm.trans H; with_reducible exact H2_) | with_reducible exact H | (rw [hy205]; exact H) | exact H
 have Ny205 := am_ hy205
 clear hy205
 obtain ⟨c2, H⟩ := ifn_ H
 have LMc2 := am_ c2
 clear c2
 obtain ⟨y208, hy208⟩ : ∃ y_ : List Int, y_ = (y205 ++ l0) := ⟨_, rfl⟩
 replace H : (some y208) = some r := by first | (rw [hy208]; with_reducible exact H) | (have H2_ := (Option.bind_some _ _).symm.trans H; rw [hy208]; with_reducible exact H2_) | (have H2_ := (Option.bind_some _ _).symm.trans H; with_reducible exact H2_) | with_reducible exact H | (rw [hy208]; exact H) | exact H
 have Ny208 := am_ hy208
 clear hy208
 obtain rfl := Option.some.inj H
 go_enter Try.func34, Try.ntmps34
 go_wp2_with (first | ((with_reducible refine gate_dst (N := 5) rfl ?_); refine Kd.R_lit (Kd.int .i64) _ 3 ?hg (N := 5) ?hd (xs := ([] : List Int)) (inner := []) (ok := fun _ => True) (okp := fun _ => True) ?hr ?hp (fun _ hk => hk) trivial (Below.refl _ _) (Nat.le_refl _) (by simp) ?_; (case hd => rfl); (case hg => rfl); (case hr => first | (go_simp; done) | (go_simp; rfl)); (case hp => exact (Reps.none _ _)); intro v206 w3 ho4 hb hg_ hnew_; clear hg_ hnew_; (first | rw [← Ny205.out] at ho4 | (simp only [Int.reduceToNat] at ho4; rw [← Ny205.out] at ho4)); have n0_ := am_ (Kd.R_lower ho4 (below_size (bw_ HB.out))); have n1_ := am_ (below_step (bw_ HB.out) hb); have HO207 := n0_; replace HB := n1_; clear n0_ n1_; clear hb ho4) | ((with_reducible refine gate_builtin (b := .append) (xs := #[.tmp 5, .tmp 6]) rfl ?_); at_builtin; refine Kd.R_append_rows (Kd.int .i64) (w0 := w) w.heap.size rfl (.tmp 5) (.tmp 6) 24 3 (.int .i64 0) 8 rfl Try.underlying24 info3 rfl (by decide) (by omega) v206 y205 l0 _ _ _ (fun _ => True) (fun _ => False) rfl rfl ?aO ?aR (fun _ _ h => h) (fun _ h => h.elim) ?aF ?aB ?aS ?aL ?_; (case aR => repeat (first | exact (Kd.C_below HR0.out HB.out) | (with_reducible refine Kd.C_alloc ?_ _) | (with_reducible refine Kd.C_drewN ?_ _) | (with_reducible refine Kd.C_drew ?_))); (case aB => exact (bw_ HB.out)); (case aF => exact (fun _ _ => trivial)); (case aO => exact (ra_ HO207.out)); (case aS => exact (below_size (bw_ HB.out))); (case aL => have := LMc2.out; omega); intro v209 w5 ho hb hg hat; rw [← Ny208.out] at ho; have n0_ := am_ (hb); have n1_ := am_ (ho); clear HO207; replace HB := n0_; have HO210 := n1_; clear n0_ n1_; clear ho hb hg hat))
 go_ret
 exact ⟨_, by first | rfl | (simp [errW_none, errW_some] <;> rfl) | (simp [*, errW_none, errW_some] <;> rfl), ra_ HO210.out, bw_ HB.out⟩
-- NOT PRINTED: function 68 (slices_insertionSortCmpFunc_int)

-- NOT PRINTED: function 71 (slices_swapRangeCmpFunc_int)

-- NOT PRINTED: function 70 (slices_rotateCmpFunc_int)

-- NOT PRINTED: function 69 (slices_symMergeCmpFunc_int)

-- NOT PRINTED: function 62 (slices_stableCmpFunc_int)

-- NOT PRINTED: function 55 (slices_SortStableFunc_int_int)

/-! ### cmp_isNaN_int: function 63 -/
def cmp_isNaN_int.f (a0 : Int) : Option (Bool) := some (a0 != a0)
set_option maxHeartbeats 8000000 in
set_option maxRecDepth 100000 in
theorem cmp_isNaN_int.calls (a0 : Int) (r : Bool) (w : World) (h : cmp_isNaN_int.f a0 = some r) :
  Calls Try.prog 63 #[.int .i64 a0] w fun e w' => e = .returned (.bool r) ∧ Drawn0 w w' := by
 have H : (some (a0 != a0)) = some r := h
 clear h
 obtain rfl := Option.some.inj H
 go_enter Try.func63, Try.ntmps63
 go_wp2
 go_ret
 exact ⟨by first | rfl | (simp; done) | (simp [*]; done), by repeat (first | exact Drawn0.refl _ | apply Drawn0.step)⟩

end Go.Proofs.Ytgfppioaggeleaa.XFnExactLayOut
