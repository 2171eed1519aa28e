/- What the Go functions that this law comes to compute, each walked; written by a program of this session. -/
import Derived.Test.YtfgdfnnddoncjaaXShort
import Derived.Test.YtfgdfnnddoncjaaXMark
import Derived.Test.YtfgdfnnddoncjaaXFnExactMeantByx0
import Derived.Test.YtfgdfnnddoncjaaXFnExactMeantByx5
namespace Go.Proofs.Ytfgdfnnddoncjaa.XFnExactMeantBy
open Go.RowKit Go.Proofs.YtfgdfnnddoncjaaW.PrintWords Go.Proofs.YtfgdfnnddoncjaaW.PrintLast Go.Proofs.YtfgdfnnddoncjaaW.PrintMore
attribute [local go_sem] str_geq max2_int min2_int max_two min_two max_three min_three max_four min_four   -- for this text's walks alone
set_option linter.unusedVariables false
set_option linter.unusedSimpArgs false

/-! ### spec_l17Holds: function 44 -/
mutual
def spec_l17Holds.l0 : Nat → List (S53) → List Int → List Bool → List (S53) → Int → Int → Option (List Bool)
 | 0, _, _, _, _, _, _ => none
 | k + 1, x0, x1, x5, x13, x14, x15 => if x15 < x14 then (if 0 ≤ x15 then (if x15 < (x13.length : Int) then ((spec_l17All.f k ((rd_T53 x13 x15).f1) x1).bind fun t214 => (if x15 < (x5.length : Int) then (spec_l17Holds.l1 k x0 x1 (x5.set (x15 : Int).toNat t214) x15 x13 x14 x15 x0 (x0.length : Int) 0 ((rd_T53 x13 x15).f0) ((rd_T53 x13 x15).f1)) else (none))) else (none)) else (none)) else (some x5)
def spec_l17Holds.l1 : Nat → List (S53) → List Int → List Bool → Int → List (S53) → Int → Int → List (S53) → Int → Int → ByteArray → List Int → Option (List Bool)
 | 0, _, _, _, _, _, _, _, _, _, _, _, _ => none
 | k + 1, x0, x1, x5, x6, x13, x14, x15, x27, x28, x29, x214000, x214001 => if x29 < x28 then (if 0 ≤ x29 then (if x29 < (x27.length : Int) then (if (((rd_T53 x27 x29).f1).length : Int) > (x214001.length : Int) then ((spec_l17All.f k ((rd_T53 x27 x29).f1) x1).bind fun t218 => (if t218 = true then ((spec_l17All.f k x214001 ((rd_T53 x27 x29).f1)).bind fun t219 => (if t219 = true then (if 0 ≤ x6 then (if x6 < (x5.length : Int) then (spec_l17Holds.l1 k x0 x1 (x5.set (x6 : Int).toNat false) x6 x13 x14 x15 x27 x28 (wrap64 (x29 + 1)) x214000 x214001) else (none)) else (none)) else (spec_l17Holds.l1 k x0 x1 x5 x6 x13 x14 x15 x27 x28 (wrap64 (x29 + 1)) x214000 x214001))) else (spec_l17Holds.l1 k x0 x1 x5 x6 x13 x14 x15 x27 x28 (wrap64 (x29 + 1)) x214000 x214001))) else (spec_l17Holds.l1 k x0 x1 x5 x6 x13 x14 x15 x27 x28 (wrap64 (x29 + 1)) x214000 x214001)) else (none)) else (none)) else (spec_l17Holds.l0 k x0 x1 x5 x13 x14 (wrap64 (x15 + 1)))
end
def spec_l17Holds.f (k : Nat) (l0 : List (S53)) (l1 : List Int) : Option (List Bool) := if 0 ≤ (l0.length : Int) then (if ((l0.length : Int) : Int).toNat ≤ 281474976710656 then (spec_l17Holds.l0 k l0 l1 (List.replicate ((l0.length : Int) : Int).toNat false) l0 (l0.length : Int) 0) else (none)) else (none)
theorem spec_l17Holds.mono_l : ∀ k, (∀ y0 y1 y2 y3 y4 y5, LeO (spec_l17Holds.l0 k y0 y1 y2 y3 y4 y5) (spec_l17Holds.l0 (k + 1) y0 y1 y2 y3 y4 y5)) ∧ (∀ y0 y1 y2 y3 y4 y5 y6 y7 y8 y9 y10 y11, LeO (spec_l17Holds.l1 k y0 y1 y2 y3 y4 y5 y6 y7 y8 y9 y10 y11) (spec_l17Holds.l1 (k + 1) y0 y1 y2 y3 y4 y5 y6 y7 y8 y9 y10 y11))
 | 0 => ⟨fun _ _ _ _ _ _ r h => by simp [spec_l17Holds.l0] at h, fun _ _ _ _ _ _ _ _ _ _ _ _ r h => by simp [spec_l17Holds.l1] at h⟩
 | k + 1 => by
  obtain ⟨ih0, ih1⟩ := spec_l17Holds.mono_l k
  refine ⟨?_, ?_⟩
  ·intro y0 y1 y2 y3 y4 y5
   unfold spec_l17Holds.l0
   repeat' first
   | (with_reducible exact ih0 _ _ _ _ _ _)
   | (with_reducible exact ih1 _ _ _ _ _ _ _ _ _ _ _ _)
   | (with_reducible exact spec_l17All.mono _ _ _)
   | (with_reducible exact LeO.refl _)
   | (with_reducible exact LeO.none _)
   | (with_reducible refine LeO.ite ?_ ?_)
   | (with_reducible refine LeO.bind ?_ (fun _ => ?_))
   | exact ih0 _ _ _ _ _ _
   | exact ih1 _ _ _ _ _ _ _ _ _ _ _ _
   | exact spec_l17All.mono _ _ _
   | exact LeO.none _
   | refine LeO.ite ?_ ?_
   | refine LeO.bind ?_ (fun _ => ?_)
  ·intro y0 y1 y2 y3 y4 y5 y6 y7 y8 y9 y10 y11
   unfold spec_l17Holds.l1
   repeat' first
   | (with_reducible exact ih0 _ _ _ _ _ _)
   | (with_reducible exact ih1 _ _ _ _ _ _ _ _ _ _ _ _)
   | (with_reducible exact spec_l17All.mono _ _ _)
   | (with_reducible exact LeO.refl _)
   | (with_reducible exact LeO.none _)
   | (with_reducible refine LeO.ite ?_ ?_)
   | (with_reducible refine LeO.bind ?_ (fun _ => ?_))
   | exact ih0 _ _ _ _ _ _
   | exact ih1 _ _ _ _ _ _ _ _ _ _ _ _
   | exact spec_l17All.mono _ _ _
   | exact LeO.none _
   | refine LeO.ite ?_ ?_
   | refine LeO.bind ?_ (fun _ => ?_)
theorem spec_l17Holds.mono : ∀ a0 a1 k, LeO (spec_l17Holds.f k a0 a1) (spec_l17Holds.f (k + 1) a0 a1) := by
 intro a0 a1 k
 obtain ⟨ih0, ih1⟩ := spec_l17Holds.mono_l k
 unfold spec_l17Holds.f
 repeat' first
   | (with_reducible exact ih0 _ _ _ _ _ _)
   | (with_reducible exact ih1 _ _ _ _ _ _ _ _ _ _ _ _)
   | (with_reducible exact spec_l17All.mono _ _ _)
   | (with_reducible exact LeO.refl _)
   | (with_reducible exact LeO.none _)
   | (with_reducible refine LeO.ite ?_ ?_)
   | (with_reducible refine LeO.bind ?_ (fun _ => ?_))
   | exact ih0 _ _ _ _ _ _
   | exact ih1 _ _ _ _ _ _ _ _ _ _ _ _
   | exact spec_l17All.mono _ _ _
   | exact LeO.none _
   | refine LeO.ite ?_ ?_
   | refine LeO.bind ?_ (fun _ => ?_)
set_option maxHeartbeats 8000000 in
set_option maxRecDepth 100000 in
theorem spec_l17Holds.calls (k : Nat) (A0 : Option Addr) (c0 : Nat) (l0 : List (S53)) (A1 : Option Addr) (c1 : Nat) (l1 : List Int) (r : List Bool) (w : World) (hr0 : Kd.C k53 w A0 l0.length l0) (hc0 : l0.length ≤ c0) (hr1 : Kd.C (Kd.int .i64) w A1 l1.length l1) (hc1 : l1.length ≤ c1) (h : spec_l17Holds.f k l0 l1 = some r) :
  Calls Try.prog 44 #[.slice A0 l0.length c0, .slice A1 l1.length c1] w fun e w' => ∃ v0_ : Value, e = .returned (v0_) ∧ Kd.R Kd.bool 4 w' w.heap.size (fun _ => True) v0_ r ∧ Below w.heap.size w w' := by
 have hu53 := Try.underlying53
 have HR0 := am_ hr0
 have HC0 := am_ hc0
 clear hr0 hc0
 have HR1 := am_ hr1
 have HC1 := am_ hc1
 clear hr1 hc1
 have HB := am_ (Below.refl w.heap.size w)
 have H : (if 0 ≤ (l0.length : Int) then (if ((l0.length : Int) : Int).toNat ≤ 281474976710656 then (spec_l17Holds.l0 k l0 l1 (List.replicate ((l0.length : Int) : Int).toNat false) l0 (l0.length : Int) 0) else (none)) else (none)) = some r := h
 clear h
 obtain ⟨c3, H⟩ := ifn_ H
 have c3b0 := eq_true c3
 have c3b1 : decide (0 ≤ (l0.length : Int)) = true := decide_eq_true c3
 clear c3
 obtain ⟨c4, H⟩ := ifn_ H
 have c4b0 := eq_true c4
 have c4b1 : decide (((l0.length : Int) : Int).toNat ≤ 281474976710656) = true := decide_eq_true c4
 clear c4
 obtain ⟨y209, hy209⟩ : ∃ y_ : List Bool, y_ = (List.replicate ((l0.length : Int) : Int).toNat false) := ⟨_, rfl⟩
 replace H : (spec_l17Holds.l0 k l0 l1 y209 l0 (l0.length : Int) 0) = some r := by first | (rw [hy209]; with_reducible exact H) | (have H2_ := (Option.bind_some _ _).symm.trans H; rw [hy209]; with_reducible exact H2_) | (have H2_ := (Option.bind_some _ _).symm.trans H; with_reducible exact H2_) | with_reducible exact H | (rw [hy209]; exact H) | exact H
 have Ny209 := am_ hy209
 clear hy209
 have H' := am_ H
 clear H
 go_enter Try.func44, Try.ntmps44
 go_wp2_with (first | ((with_reducible refine gate_dst (N := 12) rfl ?_); refine Kd.R_make Kd.bool _ 4 rfl (N := 12) rfl 63 _ _ rfl (l0.length : Int) rfl rfl Try.underlying63 (.bool false) 1 info4 rfl (by decide) (by omega) false (ok := fun _ => True) (okp := fun _ => True) rfl (fun _ hk => hk) trivial od_ (Nat.le_trans (Nat.mul_le_mul_right _ (od_ : (l0.length : Int).toNat ≤ 281474976710656)) (by omega)) (Below.refl _ _) (Nat.le_refl _) ?_; intro v210 w5 ho6 hb hg_ hnew_; clear hg_ hnew_; (first | rw [← Ny209.out] at ho6 | (simp only [Int.reduceToNat] at ho6; rw [← Ny209.out] at ho6)); have n0_ := am_ (Kd.R_lower ho6 (below_size (bw_ HB.out))); have n1_ := am_ (below_step (bw_ HB.out) hb); have HO211 := n0_; replace HB := n1_; clear n0_ n1_; clear hb ho6))
 go_loopg [15] k (fun kq v15 w' => ∃ (x5_1 : List Bool) (x15_1 : Int), v15 = .int .i64 x15_1 ∧ Aside0 (spec_l17Holds.l0 kq l0 l1 x5_1 l0 (l0.length : Int) x15_1 = some r) ∧ Aside0 (kq ≤ k) ∧ Aside0 (Kd.R Kd.bool 4 w' w.heap.size (fun _ => True) v210 x5_1) ∧ Aside0 (Below w.heap.size w w'))
 case atStart => exact ⟨(y209), (0), sq_, H', ⟨Nat.le_refl _⟩, ⟨ra_ HO211.out⟩, ⟨bw_ HB.out⟩⟩
 case round =>
  clear H'
  try clear c1
  try clear c3
  try clear c3b0
  try clear c3b1
  try clear c4
  try clear c4b0
  try clear c4b1
  obtain ⟨x5_1, x15_1, rfl, HA, HK1, HO_5, HB⟩ := hrel
  cases gk with
  | zero => exact absurd HA.out (by simp [spec_l17Holds.l0])
  | succ k1 =>
   have H := HA.out
   clear HA
   simp only [spec_l17Holds.l0] at H
   by_cases c7 : x15_1 < (l0.length : Int)
   ·rw [if_pos c7] at H
    have c7b0 : decide (x15_1 < (l0.length : Int)) = true := decide_eq_true c7
    clear c7
    obtain ⟨c8, H⟩ := ifn_ H
    have c8b0 : decide (0 ≤ x15_1) = true := decide_eq_true c8
    clear c8
    obtain ⟨c9, H⟩ := ifn_ H
    have c9b0 : decide (x15_1 < (l0.length : Int)) = true := decide_eq_true c9
    clear c9
    obtain ⟨t214, A100, H⟩ := bE_ H
    have A10 := am_ A100
    clear A100
    obtain ⟨c11, H⟩ := ifn_ H
    have c11b0 : decide (x15_1 < (x5_1.length : Int)) = true := decide_eq_true c11
    clear c11
    obtain ⟨y215, hy215⟩ : ∃ y_ : List Bool, y_ = (x5_1.set (x15_1 : Int).toNat t214) := ⟨_, rfl⟩
    replace H : (spec_l17Holds.l1 k1 l0 l1 y215 x15_1 l0 (l0.length : Int) x15_1 l0 (l0.length : Int) 0 ((rd_T53 l0 x15_1).f0) ((rd_T53 l0 x15_1).f1)) = some r := by first | (rw [hy215]; with_reducible exact H) | (have H2_ := (Option.bind_some _ _).symm.trans H; rw [hy215]; with_reducible exact H2_) | (have H2_ := (Option.bind_some _ _).symm.trans H; with_reducible exact H2_) | with_reducible exact H | (rw [hy215]; exact H) | exact H
    have Ny215 := am_ hy215
    clear hy215
    have H' := am_ H
    clear H
    have p212 : 0 ≤ (x15_1 : Int) := od_
    have q212 : x15_1 < (l0.length : Int) := od_
    obtain ⟨ad212, A212_1, c212_1, e212, hx212_0, hx212_1, hl212_1, hi212_1⟩ := at_T53 HR0.out x15_1 p212 q212
    cases e212
    (try replace hx212_0 := hc_ HB.out hx212_0)
    (try replace hx212_1 := hc_ HB.out hx212_1)
    have HR212_1 := am_ hi212_1
    have HC212_1 := am_ hl212_1
    clear hi212_1 hl212_1
    replace p212 := eq_true p212
    replace q212 := eq_true q212
    go_wp2_with (first | ((with_reducible refine gate_dst (N := 7) rfl ?_); refine bx_ 7 #[.string (⟨#[]⟩ : ByteArray), .slice none 0 0] 53 ?_; intro gb213 hg w13 hbox hb; have n0_ := am_ (Kd.R_below (ra_ HO_5.out) hb); have n1_ := am_ (below_step (bw_ HB.out) hb); have n2_ := am_ (hbox); have n3_ := am_ (gs_ hg (bw_ HB.out)); have n4_ := am_ (gs_ hg (bw_ HB.out)); replace HO_5 := n0_; replace HB := n1_; have BK213 := n2_; have GW213 := n3_; have GE213 := n4_; clear n0_ n1_ n2_ n3_ n4_; clear hb hbox hg; have hcz14_0 := cz_ BK213.out 0; have hcz14_1 := cz_ BK213.out 1; have hfz14_0 := blk_frozen BK213.out 0; have hfz14_1 := blk_frozen BK213.out 1) | ((with_reducible refine gate_store (t := 53) (p := 7) rfl ?_); refine se_ 53 7 ((w13.setCell ⟨gb213, 0, none⟩ (.string ((rd_T53 l0 x15_1).f0))).setCell ⟨gb213, 1, none⟩ (.slice A212_1 ((rd_T53 l0 x15_1).f1).length c212_1)) ?_; intro w15 hw; have n0_ : Aside0 (Kd.R Kd.bool 4 w15 w.heap.size (fun _ => True) v210 x5_1) := ⟨(by rw [hw]; exact (ra_ (Kd.R_mono (Kd.R_far (p := ⟨gb213, 1, none⟩) (Kd.R_far (p := ⟨gb213, 0, none⟩) (Kd.R_types HO_5.out BK213.out (by decide)) (fun _ hk => hk.2) (.string ((rd_T53 l0 x15_1).f0))) (fun _ hk => hk.2) (.slice A212_1 ((rd_T53 l0 x15_1).f1).length c212_1)) (fun _ hk => trivial))))⟩; have n1_ : Aside0 (w15.heap[gb213]? = some (.cells #[.string ((rd_T53 l0 x15_1).f0), .slice A212_1 ((rd_T53 l0 x15_1).f1).length c212_1] 53 (0, 0))) := ⟨(by rw [hw]; exact (by (with_reducible repeat (first | refine blk_drewN ?_ _ | refine blk_drew ?_ | refine blk_alloc ?_ _)); refine blk_put (cs := #[.string ((rd_T53 l0 x15_1).f0), .slice none 0 0]) ?_ 1 _ rfl; (with_reducible repeat (first | refine blk_drewN ?_ _ | refine blk_drew ?_ | refine blk_alloc ?_ _)); refine blk_put (cs := #[.string (⟨#[]⟩ : ByteArray), .slice none 0 0]) ?_ 0 _ rfl; (with_reducible repeat (first | refine blk_drewN ?_ _ | refine blk_drew ?_ | refine blk_alloc ?_ _)); exact BK213.out))⟩; have n2_ : Aside0 (Below w.heap.size w w15) := ⟨(by rw [hw]; exact (bw_ HB.out))⟩; clear hw; replace HO_5 := n0_; replace BK213 := n1_; replace HB := n2_; clear n0_ n1_ n2_; have hcz16_0 := cz_ BK213.out 0; have hcz16_1 := cz_ BK213.out 1; have hfz16_0 := blk_frozen BK213.out 0; have hfz16_1 := blk_frozen BK213.out 1) | ((with_reducible refine gate_callee (f := 63) rfl ?_); refine goesL_ (some 25) rfl rfl Try.func63 (by kernel_rfl) rfl #[.slice A212_1 ((rd_T53 l0 x15_1).f1).length c212_1, .slice A1 l1.length c1] rfl (by (try simp only [List.map_toArray, List.map_cons, List.map_nil]); first | done | rfl | (simp only [List.length_drop, List.length_take]; rfl)) ?_; (with_reducible refine (spec_l17All.calls k1 _ _ ((rd_T53 l0 x15_1).f1) _ _ l1 t214 _ ?side1 ?side2 ?side3 ?side4 A10.out).mono ?_); (case side1 => repeat (first | exact (Kd.C_below HR212_1.out HB.out) | (with_reducible refine Kd.C_alloc ?_ _) | (with_reducible refine Kd.C_drewN ?_ _) | (with_reducible refine Kd.C_drew ?_))); (case side2 => exact HC212_1.out); (case side3 => repeat (first | exact (Kd.C_below HR1.out HB.out) | (with_reducible refine Kd.C_alloc ?_ _) | (with_reducible refine Kd.C_drewN ?_ _) | (with_reducible refine Kd.C_drew ?_))); (case side4 => exact HC1.out); rintro e w' ⟨rfl, ⟨nd, rfl⟩⟩; refine ⟨_, rfl, ?_⟩; (try (rw [drewN_self w15]; generalize hq_ : World.drewN w15 _ = w15; have n0_ : Aside0 (Kd.R Kd.bool 4 w15 w.heap.size (fun _ => True) v210 x5_1) := ⟨by rw [← hq_]; exact (ra_ HO_5.out)⟩; have n1_ : Aside0 (w15.heap[gb213]? = some (.cells #[.string ((rd_T53 l0 x15_1).f0), .slice A212_1 ((rd_T53 l0 x15_1).f1).length c212_1] 53 (0, 0))) := ⟨by rw [← hq_]; exact (bk_ BK213.out)⟩; have n2_ : Aside0 (Below w.heap.size w w15) := ⟨by rw [← hq_]; exact (bw_ HB.out)⟩; clear HO_5 BK213 HB hq_; have HO_5 := n0_; have BK213 := n1_; have HB := n2_; clear n0_ n1_ n2_; have hczg213_0 := cz_ BK213.out 0; have hczg213_1 := cz_ BK213.out 1)); have p12 : 0 ≤ (x15_1 : Int) := od_; have q12 : (x15_1 : Int) < ((x5_1.length : Int) : Int) := od_; obtain ⟨go12, co12, eo12, gb12, gl12, cl12, HG12⟩ := Kd.R_form HO_5.out (by omega); (first | cases eo12 | (injection eo12 with ea_ en_ ec_; (first | subst ea_ | (injection ea_ with ea_; subst ea_)); subst ec_; clear en_)); have GB12 := am_ gb12; have GG12 := am_ HG12; clear gb12 gl12 HG12; obtain ⟨hx12_0, hf12_0⟩ := Kd.R_celln false HO_5.out (x15_1 : Int) p12 q12; replace p12 := eq_true p12; replace q12 := eq_true q12; obtain ⟨hy17_, hz17_⟩ := Kd.R_celln false HO_5.out (x15_1 : Int) od_ od_; have HP17 := Kd.R_putg HO_5.out (x15_1 : Int) t214) | ((with_reducible refine gate_store (t := 4) (p := 26) rfl ?_); refine se_ 4 26 (w15.setCell ⟨go12, (x15_1 : Int).toNat, none⟩ (.bool t214)) ?_; intro w18 hw; have hg : w15.grownBy w18 (some go12) := (by rw [hw]; exact HP17.2); have hp_ : Kd.R Kd.bool 4 w18 w.heap.size (fun _ => True) (.slice (some ⟨go12, 0, none⟩) x5_1.length co12) y215 := (by rw [hw, Ny215.out]; exact HP17.1); clear HP17; have n0_ := am_ (hp_); have n1_ := am_ (blk_grown (bk_ BK213.out) hg (Kd.R_ne HO_5.out BK213.out (by decide))); have n2_ := am_ ((by rw [hw]; exact below_set (HB.out) GB12.out : Below w.heap.size w w18)); replace HO_5 := n0_; replace BK213 := n1_; replace HB := n2_; clear n0_ n1_ n2_; clear hg hw hp_))
    go_loopg [29] k1 (fun kq v29 w' => ∃ (x5_2 : List Bool) (x29_2 : Int), v29 = .int .i64 x29_2 ∧ Aside0 (spec_l17Holds.l1 kq l0 l1 x5_2 x15_1 l0 (l0.length : Int) x15_1 l0 (l0.length : Int) x29_2 ((rd_T53 l0 x15_1).f0) ((rd_T53 l0 x15_1).f1) = some r) ∧ Aside0 (kq ≤ k1) ∧ Aside0 (Kd.R Kd.bool 4 w' w.heap.size (fun _ => True) (.slice (some ⟨go12, 0, none⟩) x5_1.length co12) x5_2) ∧ Aside0 (w'.heap[gb213]? = some (.cells #[.string ((rd_T53 l0 x15_1).f0), (.slice A212_1 ((rd_T53 l0 x15_1).f1).length c212_1)] 53 (0, 0))) ∧ Aside0 (Below w.heap.size w w'))
    case atStart => exact ⟨(y215), (0), sq_, H', ⟨Nat.le_refl _⟩, ⟨ra_ HO_5.out⟩, ⟨bk_ BK213.out⟩, ⟨bw_ HB.out⟩⟩
    case round =>
     clear H'
     try clear c1
     try clear c3
     try clear c3b0
     try clear c3b1
     try clear c4
     try clear c4b0
     try clear c4b1
     try clear c7
     try clear c7b0
     try clear c8
     try clear c8b0
     try clear c9
     try clear c9b0
     try clear c11
     try clear c11b0
     try clear p12
     try clear q12
     try clear hcz14_0
     try clear hcz14_1
     try clear hcz16_0
     try clear hcz16_1
     try clear hfz14_0
     try clear hfz14_1
     try clear hfz16_0
     try clear hfz16_1
     try clear hx12_0
     try clear hx212_0
     try clear hx212_1
     try clear p12
     try clear p212
     try clear q12
     try clear q212
     obtain ⟨x5_2, x29_2, rfl, HA, HK2, HO_5, BK213, HB⟩ := hrel
     have hl5_2 := (Kd.R_reads' HO_5.out).1
     rw [hl5_2] at HO_5
     (try simp only [hl5_2])
     (try simp only [hl5_2] at BK213)
     cases gk with
     | zero => exact absurd HA.out (by simp [spec_l17Holds.l1])
     | succ k2 =>
      have H := HA.out
      clear HA
      simp only [spec_l17Holds.l1] at H
      by_cases c19 : x29_2 < (l0.length : Int)
      ·rw [if_pos c19] at H
       have c19b0 : decide (x29_2 < (l0.length : Int)) = true := decide_eq_true c19
       (try rw [hl5_2] at c19b0)
       clear c19
       obtain ⟨c20, H⟩ := ifn_ H
       have c20b0 : decide (0 ≤ x29_2) = true := decide_eq_true c20
       clear c20
       obtain ⟨c21, H⟩ := ifn_ H
       have c21b0 : decide (x29_2 < (l0.length : Int)) = true := decide_eq_true c21
       (try rw [hl5_2] at c21b0)
       clear c21
       by_cases c22 : (((rd_T53 l0 x29_2).f1).length : Int) > (((rd_T53 l0 x15_1).f1).length : Int)
       ·rw [if_pos c22] at H
        have c22b0 : decide ((((rd_T53 l0 x15_1).f1).length : Int) < (((rd_T53 l0 x29_2).f1).length : Int)) = true := decide_eq_true c22
        (try rw [hl5_2] at c22b0)
        have c22b1 : decide (((rd_T53 l0 x15_1).f1).length < ((rd_T53 l0 x29_2).f1).length) = true := decide_eq_true (Int.ofNat_lt.mp c22)
        clear c22
        obtain ⟨t218, A230, H⟩ := bE_ H
        have A23 := am_ A230
        clear A230
        by_cases c24 : t218 = true
        ·subst c24
         replace H := it_ H rfl
         obtain ⟨t219, A250, H⟩ := bE_ H
         have A25 := am_ A250
         clear A250
         by_cases c26 : t219 = true
         ·subst c26
          replace H := it_ H rfl
          obtain ⟨c27, H⟩ := ifn_ H
          have c27b0 : decide (0 ≤ x15_1) = true := decide_eq_true c27
          clear c27
          obtain ⟨c28, H⟩ := ifn_ H
          have c28b0 : decide (x15_1 < (x5_2.length : Int)) = true := decide_eq_true c28
          (try rw [hl5_2] at c28b0)
          clear c28
          obtain ⟨y220, hy220⟩ : ∃ y_ : List Bool, y_ = (x5_2.set (x15_1 : Int).toNat false) := ⟨_, rfl⟩
          replace H : (spec_l17Holds.l1 k2 l0 l1 y220 x15_1 l0 (l0.length : Int) x15_1 l0 (l0.length : Int) (wrap64 (x29_2 + 1)) ((rd_T53 l0 x15_1).f0) ((rd_T53 l0 x15_1).f1)) = some r := by first | (rw [hy220]; with_reducible exact H) | (have H2_ := (Option.bind_some _ _).symm.trans H; rw [hy220]; with_reducible exact H2_) | (have H2_ := (Option.bind_some _ _).symm.trans H; with_reducible exact H2_) | with_reducible exact H | (rw [hy220]; exact H) | exact H
          have Ny220 := am_ hy220
          clear hy220
          have H' := am_ H
          clear H
          have p216 : 0 ≤ (x29_2 : Int) := od_
          have q216 : x29_2 < (l0.length : Int) := od_
          obtain ⟨ad216, A216_1, c216_1, e216, hx216_0, hx216_1, hl216_1, hi216_1⟩ := at_T53 HR0.out x29_2 p216 q216
          obtain rfl : ad212 = ad216 := (by injection e216)
          (try replace hx216_0 := hc_ HB.out hx216_0)
          (try replace hx216_1 := hc_ HB.out hx216_1)
          have HR216_1 := am_ hi216_1
          have HC216_1 := am_ hl216_1
          clear hi216_1 hl216_1
          replace p216 := eq_true p216
          replace q216 := eq_true q216
          go_wp2_with (first | ((with_reducible refine gate_dst (N := 9) rfl ?_); refine bx_ 9 #[.string (⟨#[]⟩ : ByteArray), .slice none 0 0] 53 ?_; intro gb217 hg w30 hbox hb; have n0_ := am_ (Kd.R_below (ra_ HO_5.out) hb); have n1_ := am_ (blk_below (bk_ BK213.out) hb); have n2_ := am_ (below_step (bw_ HB.out) hb); have n3_ := am_ (hbox); have n4_ := am_ (gs_ hg (bw_ HB.out)); have n5_ := am_ (gs_ hg (bw_ HB.out)); have n6_ := am_ (nl_ hg (bk_ BK213.out)); have n7_ := am_ (ng_ hg (bk_ BK213.out)); replace HO_5 := n0_; replace BK213 := n1_; replace HB := n2_; have BK217 := n3_; have GW217 := n4_; have GE217 := n5_; have NB213_217 := n6_; have NB217_213 := n7_; clear n0_ n1_ n2_ n3_ n4_ n5_ n6_ n7_; clear hb hbox hg; have hnb31 := NB217_213.out; have hnc31 := NB213_217.out; have hcz32_0 := cz_ BK217.out 0; have hcz32_1 := cz_ BK217.out 1; have hfz32_0 := blk_frozen BK217.out 0; have hfz32_1 := blk_frozen BK217.out 1) | ((with_reducible refine gate_store (t := 53) (p := 9) rfl ?_); refine se_ 53 9 ((w30.setCell ⟨gb217, 0, none⟩ (.string ((rd_T53 l0 x29_2).f0))).setCell ⟨gb217, 1, none⟩ (.slice A216_1 ((rd_T53 l0 x29_2).f1).length c216_1)) ?_; intro w33 hw; have n0_ : Aside0 (Kd.R Kd.bool 4 w33 w.heap.size (fun _ => True) (.slice (some ⟨go12, 0, none⟩) x5_2.length co12) x5_2) := ⟨(by rw [hw]; exact (ra_ (Kd.R_mono (Kd.R_far (p := ⟨gb217, 1, none⟩) (Kd.R_far (p := ⟨gb217, 0, none⟩) (Kd.R_types HO_5.out BK217.out (by decide)) (fun _ hk => hk.2) (.string ((rd_T53 l0 x29_2).f0))) (fun _ hk => hk.2) (.slice A216_1 ((rd_T53 l0 x29_2).f1).length c216_1)) (fun _ hk => trivial))))⟩; have n1_ : Aside0 (w33.heap[gb213]? = some (.cells #[.string ((rd_T53 l0 x15_1).f0), .slice A212_1 ((rd_T53 l0 x15_1).f1).length c212_1] 53 (0, 0))) := ⟨(by rw [hw]; exact (by (with_reducible repeat (first | refine blk_drewN ?_ _ | refine blk_drew ?_ | refine blk_alloc ?_ _)); refine blk_far ?_ NB213_217.out _; (with_reducible repeat (first | refine blk_drewN ?_ _ | refine blk_drew ?_ | refine blk_alloc ?_ _)); refine blk_far ?_ NB213_217.out _; (with_reducible repeat (first | refine blk_drewN ?_ _ | refine blk_drew ?_ | refine blk_alloc ?_ _)); exact BK213.out))⟩; have n2_ : Aside0 (w33.heap[gb217]? = some (.cells #[.string ((rd_T53 l0 x29_2).f0), .slice A216_1 ((rd_T53 l0 x29_2).f1).length c216_1] 53 (0, 0))) := ⟨(by rw [hw]; exact (by (with_reducible repeat (first | refine blk_drewN ?_ _ | refine blk_drew ?_ | refine blk_alloc ?_ _)); refine blk_put (cs := #[.string ((rd_T53 l0 x29_2).f0), .slice none 0 0]) ?_ 1 _ rfl; (with_reducible repeat (first | refine blk_drewN ?_ _ | refine blk_drew ?_ | refine blk_alloc ?_ _)); refine blk_put (cs := #[.string (⟨#[]⟩ : ByteArray), .slice none 0 0]) ?_ 0 _ rfl; (with_reducible repeat (first | refine blk_drewN ?_ _ | refine blk_drew ?_ | refine blk_alloc ?_ _)); exact BK217.out))⟩; have n3_ : Aside0 (Below w.heap.size w w33) := ⟨(by rw [hw]; exact (bw_ HB.out))⟩; clear hw; replace HO_5 := n0_; replace BK213 := n1_; replace BK217 := n2_; replace HB := n3_; clear n0_ n1_ n2_ n3_; have hcz34_0 := cz_ BK217.out 0; have hcz34_1 := cz_ BK217.out 1; have hfz34_0 := blk_frozen BK217.out 0; have hfz34_1 := blk_frozen BK217.out 1; have hcz35_0 := cz_ BK213.out 0; have hcz35_1 := cz_ BK213.out 1; have hfz35_0 := blk_frozen BK213.out 0; have hfz35_1 := blk_frozen BK213.out 1) | (go_at_call 63; (with_reducible refine (spec_l17All.calls k2 _ _ ((rd_T53 l0 x29_2).f1) _ _ l1 true _ ?side1 ?side2 ?side3 ?side4 A23.out).mono ?_); (case side1 => repeat (first | exact (Kd.C_below HR216_1.out HB.out) | (with_reducible refine Kd.C_alloc ?_ _) | (with_reducible refine Kd.C_drewN ?_ _) | (with_reducible refine Kd.C_drew ?_))); (case side2 => exact HC216_1.out); (case side3 => repeat (first | exact (Kd.C_below HR1.out HB.out) | (with_reducible refine Kd.C_alloc ?_ _) | (with_reducible refine Kd.C_drewN ?_ _) | (with_reducible refine Kd.C_drew ?_))); (case side4 => exact HC1.out); rintro e w' ⟨rfl, ⟨nd, rfl⟩⟩; (try (rw [drewN_self w33]; generalize hq_ : World.drewN w33 _ = w33; have n0_ : Aside0 (Kd.R Kd.bool 4 w33 w.heap.size (fun _ => True) (.slice (some ⟨go12, 0, none⟩) x5_2.length co12) x5_2) := ⟨by rw [← hq_]; exact (ra_ HO_5.out)⟩; have n1_ : Aside0 (w33.heap[gb213]? = some (.cells #[.string ((rd_T53 l0 x15_1).f0), .slice A212_1 ((rd_T53 l0 x15_1).f1).length c212_1] 53 (0, 0))) := ⟨by rw [← hq_]; exact (bk_ BK213.out)⟩; have n2_ : Aside0 (w33.heap[gb217]? = some (.cells #[.string ((rd_T53 l0 x29_2).f0), .slice A216_1 ((rd_T53 l0 x29_2).f1).length c216_1] 53 (0, 0))) := ⟨by rw [← hq_]; exact (bk_ BK217.out)⟩; have n3_ : Aside0 (Below w.heap.size w w33) := ⟨by rw [← hq_]; exact (bw_ HB.out)⟩; clear HO_5 BK213 BK217 HB hq_; have HO_5 := n0_; have BK213 := n1_; have BK217 := n2_; have HB := n3_; clear n0_ n1_ n2_ n3_; have hczg213_0 := cz_ BK213.out 0; have hczg213_1 := cz_ BK213.out 1; have hczg217_0 := cz_ BK217.out 0; have hczg217_1 := cz_ BK217.out 1))) | (go_at_call 63; (with_reducible refine (spec_l17All.calls k2 _ _ ((rd_T53 l0 x15_1).f1) _ _ ((rd_T53 l0 x29_2).f1) true _ ?side1 ?side2 ?side3 ?side4 A25.out).mono ?_); (case side1 => repeat (first | exact (Kd.C_below HR212_1.out HB.out) | (with_reducible refine Kd.C_alloc ?_ _) | (with_reducible refine Kd.C_drewN ?_ _) | (with_reducible refine Kd.C_drew ?_))); (case side2 => exact HC212_1.out); (case side3 => repeat (first | exact (Kd.C_below HR216_1.out HB.out) | (with_reducible refine Kd.C_alloc ?_ _) | (with_reducible refine Kd.C_drewN ?_ _) | (with_reducible refine Kd.C_drew ?_))); (case side4 => exact HC216_1.out); rintro e w' ⟨rfl, ⟨nd, rfl⟩⟩; (try (rw [drewN_self w33]; generalize hq_ : World.drewN w33 _ = w33; have n0_ : Aside0 (Kd.R Kd.bool 4 w33 w.heap.size (fun _ => True) (.slice (some ⟨go12, 0, none⟩) x5_2.length co12) x5_2) := ⟨by rw [← hq_]; exact (ra_ HO_5.out)⟩; have n1_ : Aside0 (w33.heap[gb213]? = some (.cells #[.string ((rd_T53 l0 x15_1).f0), .slice A212_1 ((rd_T53 l0 x15_1).f1).length c212_1] 53 (0, 0))) := ⟨by rw [← hq_]; exact (bk_ BK213.out)⟩; have n2_ : Aside0 (w33.heap[gb217]? = some (.cells #[.string ((rd_T53 l0 x29_2).f0), .slice A216_1 ((rd_T53 l0 x29_2).f1).length c216_1] 53 (0, 0))) := ⟨by rw [← hq_]; exact (bk_ BK217.out)⟩; have n3_ : Aside0 (Below w.heap.size w w33) := ⟨by rw [← hq_]; exact (bw_ HB.out)⟩; clear HO_5 BK213 BK217 HB hq_; have HO_5 := n0_; have BK213 := n1_; have BK217 := n2_; have HB := n3_; clear n0_ n1_ n2_ n3_; have hczg213_0 := cz_ BK213.out 0; have hczg213_1 := cz_ BK213.out 1; have hczg217_0 := cz_ BK217.out 0; have hczg217_1 := cz_ BK217.out 1)); have p29 : 0 ≤ (x15_1 : Int) := od_; have q29 : (x15_1 : Int) < ((x5_2.length : Int) : Int) := od_; obtain ⟨hx29_0, hf29_0⟩ := Kd.R_celln false HO_5.out (x15_1 : Int) p29 q29; replace p29 := eq_true p29; replace q29 := eq_true q29; obtain ⟨hy36_, hz36_⟩ := Kd.R_celln false HO_5.out (x15_1 : Int) od_ od_; have HP36 := Kd.R_putg HO_5.out (x15_1 : Int) false) | ((with_reducible refine gate_store (t := 4) (p := 55) rfl ?_); refine se_ 4 55 (w33.setCell ⟨go12, (x15_1 : Int).toNat, none⟩ (.bool false)) ?_; intro w37 hw; have hg : w33.grownBy w37 (some go12) := (by rw [hw]; exact HP36.2); have hp_ : Kd.R Kd.bool 4 w37 w.heap.size (fun _ => True) (.slice (some ⟨go12, 0, none⟩) x5_2.length co12) y220 := (by rw [hw, Ny220.out]; exact HP36.1); clear HP36; have n0_ := am_ (hp_); have n1_ := am_ (blk_grown (bk_ BK213.out) hg (Kd.R_ne HO_5.out BK213.out (by decide))); have n2_ := am_ (blk_grown (bk_ BK217.out) hg (Kd.R_ne HO_5.out BK217.out (by decide))); have n3_ := am_ ((by rw [hw]; exact below_set (HB.out) GB12.out : Below w.heap.size w w37)); replace HO_5 := n0_; replace BK213 := n1_; replace BK217 := n2_; replace HB := n3_; clear n0_ n1_ n2_ n3_; clear hg hw hp_))
          (try simp only [← hl5_2])
          go_roundg k2
          case measure => have := HK1.out; have := HK2.out; omega
          case rel => exact ⟨(y220), (wrap64 (x29_2 + 1)), sq_, H', ⟨by have := HK1.out; have := HK2.out; omega⟩, ⟨by (try simp only [hl5_2]); (with_reducible repeat (first | apply Kd.R_alloc | apply Kd.R_drewN | apply Kd.R_drew)); exact HO_5.out⟩, ⟨by (try simp only [hl5_2]); (with_reducible repeat (first | refine blk_drewN ?_ _ | refine blk_drew ?_ | refine blk_alloc ?_ _)); exact BK213.out⟩, ⟨bw_ HB.out⟩⟩
         ·replace c26 := Bool.eq_false_iff.mpr c26
          subst c26
          replace H := if_ H Bool.false_ne_true
          have H' := am_ H
          clear H
          have p216 : 0 ≤ (x29_2 : Int) := od_
          have q216 : x29_2 < (l0.length : Int) := od_
          obtain ⟨ad216, A216_1, c216_1, e216, hx216_0, hx216_1, hl216_1, hi216_1⟩ := at_T53 HR0.out x29_2 p216 q216
          obtain rfl : ad212 = ad216 := (by injection e216)
          (try replace hx216_0 := hc_ HB.out hx216_0)
          (try replace hx216_1 := hc_ HB.out hx216_1)
          have HR216_1 := am_ hi216_1
          have HC216_1 := am_ hl216_1
          clear hi216_1 hl216_1
          replace p216 := eq_true p216
          replace q216 := eq_true q216
          go_wp2_with (first | ((with_reducible refine gate_dst (N := 9) rfl ?_); refine bx_ 9 #[.string (⟨#[]⟩ : ByteArray), .slice none 0 0] 53 ?_; intro gb217 hg w38 hbox hb; have n0_ := am_ (Kd.R_below (ra_ HO_5.out) hb); have n1_ := am_ (blk_below (bk_ BK213.out) hb); have n2_ := am_ (below_step (bw_ HB.out) hb); have n3_ := am_ (hbox); have n4_ := am_ (gs_ hg (bw_ HB.out)); have n5_ := am_ (gs_ hg (bw_ HB.out)); have n6_ := am_ (nl_ hg (bk_ BK213.out)); have n7_ := am_ (ng_ hg (bk_ BK213.out)); replace HO_5 := n0_; replace BK213 := n1_; replace HB := n2_; have BK217 := n3_; have GW217 := n4_; have GE217 := n5_; have NB213_217 := n6_; have NB217_213 := n7_; clear n0_ n1_ n2_ n3_ n4_ n5_ n6_ n7_; clear hb hbox hg; have hnb39 := NB217_213.out; have hnc39 := NB213_217.out; have hcz40_0 := cz_ BK217.out 0; have hcz40_1 := cz_ BK217.out 1; have hfz40_0 := blk_frozen BK217.out 0; have hfz40_1 := blk_frozen BK217.out 1; have hcz41_0 := cz_ BK213.out 0; have hcz41_1 := cz_ BK213.out 1; have hfz41_0 := blk_frozen BK213.out 0; have hfz41_1 := blk_frozen BK213.out 1) | (go_at_call 63; (with_reducible refine (spec_l17All.calls k2 _ _ ((rd_T53 l0 x29_2).f1) _ _ l1 true _ ?side1 ?side2 ?side3 ?side4 A23.out).mono ?_); (case side1 => exact Kd.C_below HR216_1.out (bw_ HB.out)); (case side2 => exact HC216_1.out); (case side3 => exact Kd.C_below HR1.out (bw_ HB.out)); (case side4 => exact HC1.out); rintro e w' ⟨rfl, ⟨nd, rfl⟩⟩) | (go_at_call 63; (with_reducible refine (spec_l17All.calls k2 _ _ ((rd_T53 l0 x15_1).f1) _ _ ((rd_T53 l0 x29_2).f1) false _ ?side1 ?side2 ?side3 ?side4 A25.out).mono ?_); (case side1 => exact Kd.C_below HR212_1.out (bw_ HB.out)); (case side2 => exact HC212_1.out); (case side3 => exact Kd.C_below HR216_1.out (bw_ HB.out)); (case side4 => exact HC216_1.out); rintro e w' ⟨rfl, ⟨nd, rfl⟩⟩))
          (try simp only [← hl5_2])
          go_roundg k2
          case measure => have := HK1.out; have := HK2.out; omega
          case rel => exact ⟨(x5_2), (wrap64 (x29_2 + 1)), sq_, H', ⟨by have := HK1.out; have := HK2.out; omega⟩, ⟨by (try simp only [hl5_2]); (with_reducible repeat (first | apply Kd.R_alloc | apply Kd.R_drewN | apply Kd.R_drew)); exact Kd.R_mono (Kd.R_far (p := ⟨gb217, 1, none⟩) (Kd.R_far (p := ⟨gb217, 0, none⟩) (Kd.R_types HO_5.out BK217.out (by decide)) (fun _ hk => hk.2) (.string ((rd_T53 l0 x29_2).f0))) (fun _ hk => hk.2) (.slice A216_1 ((rd_T53 l0 x29_2).f1).length c216_1)) (fun _ hk => trivial)⟩, ⟨by (try simp only [hl5_2]); (with_reducible repeat (first | refine blk_drewN ?_ _ | refine blk_drew ?_ | refine blk_alloc ?_ _)); refine blk_far ?_ NB213_217.out _; (with_reducible repeat (first | refine blk_drewN ?_ _ | refine blk_drew ?_ | refine blk_alloc ?_ _)); refine blk_far ?_ NB213_217.out _; (with_reducible repeat (first | refine blk_drewN ?_ _ | refine blk_drew ?_ | refine blk_alloc ?_ _)); exact BK213.out⟩, ⟨bw_ HB.out⟩⟩
        ·replace c24 := Bool.eq_false_iff.mpr c24
         subst c24
         replace H := if_ H Bool.false_ne_true
         have H' := am_ H
         clear H
         have p216 : 0 ≤ (x29_2 : Int) := od_
         have q216 : x29_2 < (l0.length : Int) := od_
         obtain ⟨ad216, A216_1, c216_1, e216, hx216_0, hx216_1, hl216_1, hi216_1⟩ := at_T53 HR0.out x29_2 p216 q216
         obtain rfl : ad212 = ad216 := (by injection e216)
         (try replace hx216_0 := hc_ HB.out hx216_0)
         (try replace hx216_1 := hc_ HB.out hx216_1)
         have HR216_1 := am_ hi216_1
         have HC216_1 := am_ hl216_1
         clear hi216_1 hl216_1
         replace p216 := eq_true p216
         replace q216 := eq_true q216
         go_wp2_with (first | ((with_reducible refine gate_dst (N := 9) rfl ?_); refine bx_ 9 #[.string (⟨#[]⟩ : ByteArray), .slice none 0 0] 53 ?_; intro gb217 hg w42 hbox hb; have n0_ := am_ (Kd.R_below (ra_ HO_5.out) hb); have n1_ := am_ (blk_below (bk_ BK213.out) hb); have n2_ := am_ (below_step (bw_ HB.out) hb); have n3_ := am_ (hbox); have n4_ := am_ (gs_ hg (bw_ HB.out)); have n5_ := am_ (gs_ hg (bw_ HB.out)); have n6_ := am_ (nl_ hg (bk_ BK213.out)); have n7_ := am_ (ng_ hg (bk_ BK213.out)); replace HO_5 := n0_; replace BK213 := n1_; replace HB := n2_; have BK217 := n3_; have GW217 := n4_; have GE217 := n5_; have NB213_217 := n6_; have NB217_213 := n7_; clear n0_ n1_ n2_ n3_ n4_ n5_ n6_ n7_; clear hb hbox hg; have hnb43 := NB217_213.out; have hnc43 := NB213_217.out; have hcz44_0 := cz_ BK217.out 0; have hcz44_1 := cz_ BK217.out 1; have hfz44_0 := blk_frozen BK217.out 0; have hfz44_1 := blk_frozen BK217.out 1; have hcz45_0 := cz_ BK213.out 0; have hcz45_1 := cz_ BK213.out 1; have hfz45_0 := blk_frozen BK213.out 0; have hfz45_1 := blk_frozen BK213.out 1) | (go_at_call 63; (with_reducible refine (spec_l17All.calls k2 _ _ ((rd_T53 l0 x29_2).f1) _ _ l1 false _ ?side1 ?side2 ?side3 ?side4 A23.out).mono ?_); (case side1 => exact Kd.C_below HR216_1.out (bw_ HB.out)); (case side2 => exact HC216_1.out); (case side3 => exact Kd.C_below HR1.out (bw_ HB.out)); (case side4 => exact HC1.out); rintro e w' ⟨rfl, ⟨nd, rfl⟩⟩))
         (try simp only [← hl5_2])
         go_roundg k2
         case measure => have := HK1.out; have := HK2.out; omega
         case rel => exact ⟨(x5_2), (wrap64 (x29_2 + 1)), sq_, H', ⟨by have := HK1.out; have := HK2.out; omega⟩, ⟨by (try simp only [hl5_2]); (with_reducible repeat (first | apply Kd.R_alloc | apply Kd.R_drewN | apply Kd.R_drew)); exact Kd.R_mono (Kd.R_far (p := ⟨gb217, 1, none⟩) (Kd.R_far (p := ⟨gb217, 0, none⟩) (Kd.R_types HO_5.out BK217.out (by decide)) (fun _ hk => hk.2) (.string ((rd_T53 l0 x29_2).f0))) (fun _ hk => hk.2) (.slice A216_1 ((rd_T53 l0 x29_2).f1).length c216_1)) (fun _ hk => trivial)⟩, ⟨by (try simp only [hl5_2]); (with_reducible repeat (first | refine blk_drewN ?_ _ | refine blk_drew ?_ | refine blk_alloc ?_ _)); refine blk_far ?_ NB213_217.out _; (with_reducible repeat (first | refine blk_drewN ?_ _ | refine blk_drew ?_ | refine blk_alloc ?_ _)); refine blk_far ?_ NB213_217.out _; (with_reducible repeat (first | refine blk_drewN ?_ _ | refine blk_drew ?_ | refine blk_alloc ?_ _)); exact BK213.out⟩, ⟨bw_ HB.out⟩⟩
       ·rw [if_neg c22] at H
        have c22b0 : decide ((((rd_T53 l0 x15_1).f1).length : Int) < (((rd_T53 l0 x29_2).f1).length : Int)) = false := decide_eq_false c22
        (try rw [hl5_2] at c22b0)
        have c22b1 : decide (((rd_T53 l0 x15_1).f1).length < ((rd_T53 l0 x29_2).f1).length) = false := decide_eq_false (fun h => c22 (Int.ofNat_lt.mpr h))
        clear c22
        have H' := am_ H
        clear H
        have p216 : 0 ≤ (x29_2 : Int) := od_
        have q216 : x29_2 < (l0.length : Int) := od_
        obtain ⟨ad216, A216_1, c216_1, e216, hx216_0, hx216_1, hl216_1, hi216_1⟩ := at_T53 HR0.out x29_2 p216 q216
        obtain rfl : ad212 = ad216 := (by injection e216)
        (try replace hx216_0 := hc_ HB.out hx216_0)
        (try replace hx216_1 := hc_ HB.out hx216_1)
        have HR216_1 := am_ hi216_1
        have HC216_1 := am_ hl216_1
        clear hi216_1 hl216_1
        replace p216 := eq_true p216
        replace q216 := eq_true q216
        go_wp2_with (first | ((with_reducible refine gate_dst (N := 9) rfl ?_); refine bx_ 9 #[.string (⟨#[]⟩ : ByteArray), .slice none 0 0] 53 ?_; intro gb217 hg w46 hbox hb; have n0_ := am_ (Kd.R_below (ra_ HO_5.out) hb); have n1_ := am_ (blk_below (bk_ BK213.out) hb); have n2_ := am_ (below_step (bw_ HB.out) hb); have n3_ := am_ (hbox); have n4_ := am_ (gs_ hg (bw_ HB.out)); have n5_ := am_ (gs_ hg (bw_ HB.out)); have n6_ := am_ (nl_ hg (bk_ BK213.out)); have n7_ := am_ (ng_ hg (bk_ BK213.out)); replace HO_5 := n0_; replace BK213 := n1_; replace HB := n2_; have BK217 := n3_; have GW217 := n4_; have GE217 := n5_; have NB213_217 := n6_; have NB217_213 := n7_; clear n0_ n1_ n2_ n3_ n4_ n5_ n6_ n7_; clear hb hbox hg; have hnb47 := NB217_213.out; have hnc47 := NB213_217.out; have hcz48_0 := cz_ BK217.out 0; have hcz48_1 := cz_ BK217.out 1; have hfz48_0 := blk_frozen BK217.out 0; have hfz48_1 := blk_frozen BK217.out 1; have hcz49_0 := cz_ BK213.out 0; have hcz49_1 := cz_ BK213.out 1; have hfz49_0 := blk_frozen BK213.out 0; have hfz49_1 := blk_frozen BK213.out 1))
        (try simp only [← hl5_2])
        go_roundg k2
        case measure => have := HK1.out; have := HK2.out; omega
        case rel => exact ⟨(x5_2), (wrap64 (x29_2 + 1)), sq_, H', ⟨by have := HK1.out; have := HK2.out; omega⟩, ⟨by (try simp only [hl5_2]); (with_reducible repeat (first | apply Kd.R_alloc | apply Kd.R_drewN | apply Kd.R_drew)); exact Kd.R_mono (Kd.R_far (p := ⟨gb217, 1, none⟩) (Kd.R_far (p := ⟨gb217, 0, none⟩) (Kd.R_types HO_5.out BK217.out (by decide)) (fun _ hk => hk.2) (.string ((rd_T53 l0 x29_2).f0))) (fun _ hk => hk.2) (.slice A216_1 ((rd_T53 l0 x29_2).f1).length c216_1)) (fun _ hk => trivial)⟩, ⟨by (try simp only [hl5_2]); (with_reducible repeat (first | refine blk_drewN ?_ _ | refine blk_drew ?_ | refine blk_alloc ?_ _)); refine blk_far ?_ NB213_217.out _; (with_reducible repeat (first | refine blk_drewN ?_ _ | refine blk_drew ?_ | refine blk_alloc ?_ _)); refine blk_far ?_ NB213_217.out _; (with_reducible repeat (first | refine blk_drewN ?_ _ | refine blk_drew ?_ | refine blk_alloc ?_ _)); exact BK213.out⟩, ⟨bw_ HB.out⟩⟩
      ·rw [if_neg c19] at H
       have c19b0 : decide (x29_2 < (l0.length : Int)) = false := decide_eq_false c19
       (try rw [hl5_2] at c19b0)
       clear c19
       have H' := am_ H
       clear H
       go_wp2
       (try simp only [← hl5_2])
       go_roundg k2
       case measure => have := HK1.out; have := HK2.out; omega
       case rel => exact ⟨(x5_2), (wrap64 (x15_1 + 1)), sq_, H', ⟨by have := HK1.out; have := HK2.out; omega⟩, ⟨by (try simp only [hl5_2]); (with_reducible repeat (first | apply Kd.R_alloc | apply Kd.R_drewN | apply Kd.R_drew)); exact HO_5.out⟩, ⟨bw_ HB.out⟩⟩
   ·rw [if_neg c7] at H
    have c7b0 : decide (x15_1 < (l0.length : Int)) = false := decide_eq_false c7
    clear c7
    obtain rfl := Option.some.inj H
    go_wp2
    go_ret
    exact ⟨_, by first | rfl | (simp [errW_none, errW_some] <;> rfl) | (simp [*, errW_none, errW_some] <;> rfl), ra_ HO_5.out, bw_ HB.out⟩
end Go.Proofs.Ytfgdfnnddoncjaa.XFnExactMeantBy
