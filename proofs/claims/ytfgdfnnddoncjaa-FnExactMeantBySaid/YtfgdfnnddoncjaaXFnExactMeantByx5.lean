/- What the Go functions that this law comes to compute, each walked; written by a program of this session. -/
import Derived.Test.YtfgdfnnddoncjaaXShort
import Derived.Test.YtfgdfnnddoncjaaXMark
import Derived.Test.YtfgdfnnddoncjaaXFnExactMeantByx0
namespace Go.Proofs.Ytfgdfnnddoncjaa.XFnExactMeantBy
open Go.RowKit Go.Proofs.YtfgdfnnddoncjaaW.PrintWords Go.Proofs.YtfgdfnnddoncjaaW.PrintLast Go.Proofs.YtfgdfnnddoncjaaW.PrintMore
attribute [local go_sem] str_geq max2_int min2_int max_two min_two max_three min_three max_four min_four   -- for this text's walks alone
set_option linter.unusedVariables false
set_option linter.unusedSimpArgs false

/-! ### spec_l1Put: function 62 -/
def spec_l1Put.l0 : Nat → List Int → Int → Int → Option (List Int)
 | 0, _, _, _ => none
 | k + 1, x0, x1, x5 => if x5 < (x0.length : Int) then (if 0 ≤ x5 then (if (rd x0 x5) < x1 then (spec_l1Put.l0 k x0 x1 (wrap64 (x5 + 1))) else (if (rd x0 x5) = x1 then (some x0) else (if x5 ≤ (x0.length : Int) then ((some (x0.take (x5 : Int).toNat : List Int)).bind fun y164 => (if ([] : List Int).length + y164.length < 17592186044416 then ((some (([] : List Int) ++ y164 : List Int)).bind fun y168 => (if y168.length < 17592186044416 then ((some (y168 ++ [x1] : List Int)).bind fun y171 => ((some (x0.drop (x5 : Int).toNat : List Int)).bind fun y174 => (if y171.length + y174.length < 17592186044416 then (some (y171 ++ y174)) else (none)))) else (none))) else (none))) else (none)))) else (none)) else (if 0 ≤ x5 then (if x5 ≤ (x0.length : Int) then ((some (x0.take (x5 : Int).toNat : List Int)).bind fun y181 => (if ([] : List Int).length + y181.length < 17592186044416 then ((some (([] : List Int) ++ y181 : List Int)).bind fun y185 => (if y185.length < 17592186044416 then ((some (y185 ++ [x1] : List Int)).bind fun y188 => ((some (x0.drop (x5 : Int).toNat : List Int)).bind fun y191 => (if y188.length + y191.length < 17592186044416 then (some (y188 ++ y191)) else (none)))) else (none))) else (none))) else (none)) else (none))
def spec_l1Put.f (k : Nat) (l0 : List Int) (a1 : Int) : Option (List Int) := spec_l1Put.l0 k l0 a1 0
theorem spec_l1Put.mono_l : ∀ k, (∀ y0 y1 y2, LeO (spec_l1Put.l0 k y0 y1 y2) (spec_l1Put.l0 (k + 1) y0 y1 y2))
 | 0 => fun _ _ _ r h => by simp [spec_l1Put.l0] at h
 | k + 1 => by
  have ih0 := spec_l1Put.mono_l k
  ·intro y0 y1 y2
   unfold spec_l1Put.l0
   repeat' first
   | (with_reducible exact ih0 _ _ _)
   | (with_reducible exact LeO.refl _)
   | (with_reducible exact LeO.none _)
   | (with_reducible refine LeO.ite ?_ ?_)
   | (with_reducible refine LeO.bind ?_ (fun _ => ?_))
   | exact ih0 _ _ _
   | exact LeO.none _
   | refine LeO.ite ?_ ?_
   | refine LeO.bind ?_ (fun _ => ?_)
theorem spec_l1Put.mono : ∀ a0 a1 k, LeO (spec_l1Put.f k a0 a1) (spec_l1Put.f (k + 1) a0 a1) := by
 intro a0 a1 k
 have ih0 := spec_l1Put.mono_l k
 unfold spec_l1Put.f
 repeat' first
   | (with_reducible exact ih0 _ _ _)
   | (with_reducible exact LeO.refl _)
   | (with_reducible exact LeO.none _)
   | (with_reducible refine LeO.ite ?_ ?_)
   | (with_reducible refine LeO.bind ?_ (fun _ => ?_))
   | exact ih0 _ _ _
   | exact LeO.none _
   | refine LeO.ite ?_ ?_
   | refine LeO.bind ?_ (fun _ => ?_)
set_option maxHeartbeats 8000000 in
set_option maxRecDepth 100000 in
theorem spec_l1Put.calls (k : Nat) (P0_ : Nat → Prop) (u9000_ : Value) (l0 : List Int) (a1 : Int) (r : List Int) (w0 w : World) (hB : Below w0.heap.size w0 w) (ho0 : Kd.R (Kd.int .i64) 3 w w0.heap.size P0_ u9000_ l0) (h : spec_l1Put.f k l0 a1 = some r) :
  Calls Try.prog 62 #[u9000_, .int .i64 a1] w fun e w' => ∃ v0_ : Value, e = .returned (v0_) ∧ Kd.R (Kd.int .i64) 3 w' w0.heap.size (fun k_ => (P0_ k_ ∨ w.heap.size ≤ k_)) v0_ r ∧ Below w0.heap.size w0 w' ∧ Kept w w' (fun k_ => P0_ k_) := by
 have HO0 := am_ (show Kd.R (Kd.int .i64) 3 w w0.heap.size (fun k_ => (P0_ k_ ∨ w.heap.size ≤ k_)) u9000_ l0 from Kd.R_mono ho0 (fun k_ hk => (.inl hk)))
 have HK := am_ (Kept.refl w (fun k_ => P0_ k_))
 have HW0 := am_ hB.size
 have HB := am_ hB
 clear hB
 have H : (spec_l1Put.l0 k l0 a1 0) = some r := h
 clear h
 have H' := am_ H
 clear H
 go_enter Try.func62, Try.ntmps62
 go_wp2
 go_loopg [5] k (fun kq v5 w' => ∃ (x5_1 : Int), v5 = .int .i64 x5_1 ∧ Aside0 (spec_l1Put.l0 kq l0 a1 x5_1 = some r) ∧ Aside0 (kq ≤ k) ∧ Aside0 (Kd.R (Kd.int .i64) 3 w' w0.heap.size (fun k_ => (P0_ k_ ∨ w.heap.size ≤ k_)) u9000_ l0) ∧ Aside0 (Kept w w' (fun k_ => P0_ k_)) ∧ Aside0 (Below w0.heap.size w0 w'))
 case atStart => exact ⟨(0), sq_, H', ⟨Nat.le_refl _⟩, ⟨ra_ HO0.out⟩, ⟨kk_ HK.out⟩, ⟨bw_ HB.out⟩⟩
 case round =>
  clear H'
  obtain ⟨x5_1, rfl, HA, HK1, HO_0, HK, HB⟩ := hrel
  cases gk with
  | zero => exact absurd HA.out (by simp [spec_l1Put.l0])
  | succ k1 =>
   have H := HA.out
   clear HA
   simp only [spec_l1Put.l0] at H
   by_cases c3 : x5_1 < (l0.length : Int)
   ·rw [if_pos c3] at H
    have c3b0 : decide (x5_1 < (l0.length : Int)) = true := decide_eq_true c3
    clear c3
    obtain ⟨c4, H⟩ := ifn_ H
    have c4b0 : decide (0 ≤ x5_1) = true := decide_eq_true c4
    clear c4
    by_cases c5 : (rd l0 x5_1) < a1
    ·rw [if_pos c5] at H
     have c5b0 : decide ((rd l0 x5_1) < a1) = true := decide_eq_true c5
     clear c5
     have H' := am_ H
     clear H
     obtain ⟨Ao6, co6, eo6⟩ := Kd.R_slice HO_0.out
     subst eo6
     have p162 : 0 ≤ (x5_1 : Int) := od_
     have q162 : x5_1 < (l0.length : Int) := od_
     obtain ⟨ad162, e162, hx162_0⟩ := Kd.at_int (Kd.R_reads' HO_0.out).2.2 x5_1 p162 q162
     cases e162
     replace p162 := eq_true p162
     replace q162 := eq_true q162
     go_wp2
     go_roundg k1
     case measure => have := HK1.out; omega
     case rel => exact ⟨(wrap64 (x5_1 + 1)), sq_, H', ⟨by have := HK1.out; omega⟩, ⟨ra_ HO_0.out⟩, ⟨kk_ HK.out⟩, ⟨bw_ HB.out⟩⟩
    ·rw [if_neg c5] at H
     have c5b0 : decide ((rd l0 x5_1) < a1) = false := decide_eq_false c5
     clear c5
     by_cases c7 : (rd l0 x5_1) = a1
     ·rw [if_pos c7] at H
      have c7b0 : ((rd l0 x5_1) == a1) = true := beq_iff_eq.mpr c7
      have c7b1 : ((rd l0 x5_1) != a1) = false := bne_eq_false_iff_eq.mpr c7
      clear c7
      obtain rfl := Option.some.inj H
      obtain ⟨Ao8, co8, eo8⟩ := Kd.R_slice HO_0.out
      subst eo8
      have p162 : 0 ≤ (x5_1 : Int) := od_
      have q162 : x5_1 < (l0.length : Int) := od_
      obtain ⟨ad162, e162, hx162_0⟩ := Kd.at_int (Kd.R_reads' HO_0.out).2.2 x5_1 p162 q162
      cases e162
      replace p162 := eq_true p162
      replace q162 := eq_true q162
      have p163 : 0 ≤ (x5_1 : Int) := od_
      have q163 : x5_1 < (l0.length : Int) := od_
      obtain ⟨ad163, e163, hx163_0⟩ := Kd.at_int (Kd.R_reads' HO_0.out).2.2 x5_1 p163 q163
      obtain rfl : ad162 = ad163 := (by injection e163)
      replace p163 := eq_true p163
      replace q163 := eq_true q163
      go_wp2
      go_ret
      exact ⟨_, by first | rfl | (simp [errW_none, errW_some] <;> rfl) | (simp [*, errW_none, errW_some] <;> rfl), ra_ HO_0.out, bw_ HB.out, kk_ HK.out⟩
     ·rw [if_neg c7] at H
      have c7b0 : ((rd l0 x5_1) == a1) = false := beq_eq_false_iff_ne.mpr c7
      have c7b1 : ((rd l0 x5_1) != a1) = true := bne_iff_ne.mpr c7
      have c9b0 := eq_true (od_ : 0 ≤ x5_1)
      obtain ⟨c10, H⟩ := ifn_ H
      have c10b0 := eq_true c10
      have c10b1 : decide (x5_1 ≤ (l0.length : Int)) = true := decide_eq_true c10
      clear c10
      obtain ⟨y164, hy164⟩ : ∃ y_ : List Int, y_ = (l0.take (x5_1 : Int).toNat) := ⟨_, rfl⟩
      replace H : (if ([] : List Int).length + y164.length < 17592186044416 then ((some (([] : List Int) ++ y164 : List Int)).bind fun y168 => (if y168.length < 17592186044416 then ((some (y168 ++ [a1] : List Int)).bind fun y171 => ((some (l0.drop (x5_1 : Int).toNat : List Int)).bind fun y174 => (if y171.length + y174.length < 17592186044416 then (some (y171 ++ y174)) else (none)))) else (none))) else (none)) = some r := by first | (rw [hy164]; with_reducible exact H) | (have H2_ := (Option.bind_some _ _).symm.trans H; rw [hy164]; with_reducible exact H2_) | (have H2_ := (Option.bind_some _ _).symm.trans H; with_reducible exact H2_) | with_reducible exact H | (rw [hy164]; exact H) | exact H
      have Ny164 := am_ hy164
      clear hy164
      obtain ⟨c11, H⟩ := ifn_ H
      have LMc11 := am_ c11
      clear c11
      obtain ⟨y168, hy168⟩ : ∃ y_ : List Int, y_ = (([] : List Int) ++ y164) := ⟨_, rfl⟩
      replace H : (if y168.length < 17592186044416 then ((some (y168 ++ [a1] : List Int)).bind fun y171 => ((some (l0.drop (x5_1 : Int).toNat : List Int)).bind fun y174 => (if y171.length + y174.length < 17592186044416 then (some (y171 ++ y174)) else (none)))) else (none)) = some r := by first | (rw [hy168]; with_reducible exact H) | (have H2_ := (Option.bind_some _ _).symm.trans H; rw [hy168]; with_reducible exact H2_) | (have H2_ := (Option.bind_some _ _).symm.trans H; with_reducible exact H2_) | with_reducible exact H | (rw [hy168]; exact H) | exact H
      have Ny168 := am_ hy168
      clear hy168
      obtain ⟨c12, H⟩ := ifn_ H
      have LMc12 := am_ c12
      clear c12
      obtain ⟨y171, hy171⟩ : ∃ y_ : List Int, y_ = (y168 ++ [a1]) := ⟨_, rfl⟩
      replace H : ((some (l0.drop (x5_1 : Int).toNat : List Int)).bind fun y174 => (if y171.length + y174.length < 17592186044416 then (some (y171 ++ y174)) else (none))) = some r := by first | (rw [hy171]; with_reducible exact H) | (have H2_ := (Option.bind_some _ _).symm.trans H; rw [hy171]; with_reducible exact H2_) | (have H2_ := (Option.bind_some _ _).symm.trans H; with_reducible exact H2_) | with_reducible exact H | (rw [hy171]; exact H) | exact H
      have Ny171 := am_ hy171
      clear hy171
      have c13b0 := eq_true (od_ : 0 ≤ x5_1)
      have c14b0 := eq_true (od_ : x5_1 ≤ (l0.length : Int))
      obtain ⟨y174, hy174⟩ : ∃ y_ : List Int, y_ = (l0.drop (x5_1 : Int).toNat) := ⟨_, rfl⟩
      replace H : (if y171.length + y174.length < 17592186044416 then (some (y171 ++ y174)) else (none)) = some r := by first | (rw [hy174]; with_reducible exact H) | (have H2_ := (Option.bind_some _ _).symm.trans H; rw [hy174]; with_reducible exact H2_) | (have H2_ := (Option.bind_some _ _).symm.trans H; with_reducible exact H2_) | with_reducible exact H | (rw [hy174]; exact H) | exact H
      have Ny174 := am_ hy174
      clear hy174
      obtain ⟨c15, H⟩ := ifn_ H
      have LMc15 := am_ c15
      clear c15
      obtain ⟨y178, hy178⟩ : ∃ y_ : List Int, y_ = (y171 ++ y174) := ⟨_, rfl⟩
      replace H : (some y178) = some r := by first | (rw [hy178]; with_reducible exact H) | (have H2_ := (Option.bind_some _ _).symm.trans H; rw [hy178]; with_reducible exact H2_) | (have H2_ := (Option.bind_some _ _).symm.trans H; with_reducible exact H2_) | with_reducible exact H | (rw [hy178]; exact H) | exact H
      have Ny178 := am_ hy178
      clear hy178
      obtain rfl := Option.some.inj H
      obtain ⟨Ao16, co16, eo16⟩ := Kd.R_slice HO_0.out
      subst eo16
      have p162 : 0 ≤ (x5_1 : Int) := od_
      have q162 : x5_1 < (l0.length : Int) := od_
      obtain ⟨ad162, e162, hx162_0⟩ := Kd.at_int (Kd.R_reads' HO_0.out).2.2 x5_1 p162 q162
      cases e162
      replace p162 := eq_true p162
      replace q162 := eq_true q162
      have p163 : 0 ≤ (x5_1 : Int) := od_
      have q163 : x5_1 < (l0.length : Int) := od_
      obtain ⟨ad163, e163, hx163_0⟩ := Kd.at_int (Kd.R_reads' HO_0.out).2.2 x5_1 p163 q163
      obtain rfl : ad162 = ad163 := (by injection e163)
      replace p163 := eq_true p163
      replace q163 := eq_true q163
      have q17 : (x5_1 : Int) ≤ ((l0.length : Int) : Int) := od_
      obtain ⟨i017, hi017, _, hsz17, _⟩ := info_parts info3
      have hroom17 : l0.length ≤ co16 := (Kd.R_reads' HO_0.out).2.1
      have hC17 : Kd.C (Kd.int .i64) _ (some ad162) l0.length l0 := (Kd.R_reads' HO_0.out).2.2
      have hcut17 := cut_to (P := Try.prog) 23 3 .i64 Try.underlying23 hi017 (some ad162) l0.length co16 x5_1 od_ q17 hroom17
      have hr17 := Kd.C_take (m := (x5_1 : Int).toNat) hC17 (by omega)
      have hy17 : y164.length = (x5_1 : Int).toNat := (by rw [Ny164.out, List.length_take]; omega)
      rw [← Ny164.out] at hr17
      rw [← hy17] at hcut17
      have HR167 := am_ hr17
      have HC167 := am_ (show y164.length ≤ co16 from by omega)
      clear hr17 hC17 hroom17 hi017 hsz17
      have KY17 := am_ hy17
      clear hy17
      have KL17 := am_ (show (x5_1 : Int).toNat ≤ l0.length from by omega)
      replace q17 := eq_true q17
      go_wp2_with (first | ((with_reducible refine gate_builtin (b := .append) (xs := #[.tmp 34, .tmp 37]) rfl ?_); at_builtin; refine Kd.R_append_rows (Kd.int .i64) (w0 := w0) w0.heap.size rfl (.tmp 34) (.tmp 37) 23 3 (.int .i64 0) 8 rfl Try.underlying23 info3 rfl (by decide) (by omega) (.slice none 0 0) ([] : List Int) y164 _ _ _ (fun k_ => (P0_ k_ ∨ w.heap.size ≤ k_) ∧ nb k_ (.slice (some ad162) l0.length co16)) (fun _ => False) rfl rfl ?aO ?aR (fun _ _ h => h) (fun _ h => h.elim) ?aF ?aB ?aS ?aL ?_; (case aR => repeat (first | exact (by repeat (first | (with_reducible exact HR167.out) | (with_reducible refine Kd.C_alloc ?_ _) | (with_reducible refine Kd.C_drewN ?_ _) | (with_reducible refine Kd.C_drew ?_) | exact HR167.out)) | (with_reducible refine Kd.C_alloc ?_ _) | (with_reducible refine Kd.C_drewN ?_ _) | (with_reducible refine Kd.C_drew ?_))); (case aB => exact (bw_ HB.out)); (case aF => exact (fun k_ hk => ⟨(.inr (Nat.le_trans (by first | exact HK.out.1 | exact (show Kept w _ (fun k_ => P0_ k_) from kk_ HK.out).1) hk)), Kd.fresh' (Kd.R_lt (ra_ HO_0.out)) k_ hk⟩)); (case aO => exact ((Kd.R_nil _ _ _ _ (fun k_ => (P0_ k_ ∨ w.heap.size ≤ k_) ∧ nb k_ (.slice (some ad162) l0.length co16))))); (case aS => exact (below_size (bw_ HB.out))); (case aL => have := LMc11.out; omega); intro v169 w18 ho hb hg hat; rw [← Ny168.out] at ho; have n0_ := am_ (Kd.R_after (Kd.R_apart_nil (ra_ HO_0.out)) hg hat); have n1_ := am_ (hb); have n2_ := am_ (Kept.of_grown (S := (fun k_ => P0_ k_)) hg (kk_ HK.out) (fun k_ e_ => by simp [Value.ownBlock] at e_)); have n3_ := am_ ((show Kd.C (Kd.int .i64) w18 (some ad162) y164.length y164 from by rw [Ny164.out]; exact Kd.C_take (m := (x5_1 : Int).toNat) ((Kd.R_reads' (Kd.R_after (Kd.R_apart_nil (ra_ HO_0.out)) hg hat)).2.2) KL17.out)); have n4_ := am_ (ho); replace HO_0 := n0_; replace HB := n1_; replace HK := n2_; replace HR167 := n3_; have HO170 := n4_; clear n0_ n1_ n2_ n3_ n4_; clear ho hb hg hat) | ((with_reducible refine gate_builtin (b := .append) (xs := #[.tmp 39, .tmp 41]) rfl ?_); at_builtin; refine Kd.R_append (Kd.int .i64) (w0 := w0) w0.heap.size rfl (.tmp 39) (.tmp 41) 23 3 (.int .i64 0) 8 rfl Try.underlying23 info3 rfl (by decide) (by omega) v169 y168 a1 [.int .i64 a1] (fun k_ => (P0_ k_ ∨ w.heap.size ≤ k_) ∧ nb k_ (.slice (some ad162) l0.length co16)) (fun _ => False) rfl rfl ?aP (fun _ hk => hk.elim) ?aF ?aO ?aB ?aS ?aL ?_; (case aP => exact rfl); (case aB => exact (bw_ HB.out)); (case aF => exact (fun k_ hk => ⟨(.inr (Nat.le_trans (by first | exact HK.out.1 | exact (show Kept w _ (fun k_ => P0_ k_) from kk_ HK.out).1) hk)), Kd.fresh' (Kd.R_lt (ra_ HO_0.out)) k_ hk⟩)); (case aO => exact (ra_ HO170.out)); (case aS => exact (below_size (bw_ HB.out))); (case aL => have := LMc12.out; omega); intro v172 w19 ho hb hg hat; rw [← Ny171.out] at ho; have n0_ := am_ (Kd.R_after (ok := (fun k_ => (P0_ k_ ∨ w.heap.size ≤ k_))) (ra_ HO_0.out) hg hat); have n1_ := am_ (hb); have n2_ := am_ (Kept.of_grown (S := (fun k_ => P0_ k_)) hg (kk_ HK.out) (fun k_ e_ => (HO170.out.1 k_ e_).1)); have n3_ := am_ ((show Kd.C (Kd.int .i64) w19 (some ad162) y164.length y164 from by rw [Ny164.out]; exact Kd.C_take (m := (x5_1 : Int).toNat) ((Kd.R_reads' (Kd.R_after (ok := (fun k_ => (P0_ k_ ∨ w.heap.size ≤ k_))) (ra_ HO_0.out) hg hat)).2.2) KL17.out)); have n4_ := am_ (ho); clear HO170; replace HO_0 := n0_; replace HB := n1_; replace HK := n2_; replace HR167 := n3_; have HO173 := n4_; clear n0_ n1_ n2_ n3_ n4_; clear ho hb hg hat; have q20 : (x5_1 : Int) ≤ ((l0.length : Int) : Int) := od_; obtain ⟨i020, hi020, _, hsz20, _⟩ := info_parts info3; have hroom20 : l0.length ≤ co16 := (Kd.R_reads' HO_0.out).2.1; have hC20 : Kd.C (Kd.int .i64) _ (some ad162) l0.length l0 := (Kd.R_reads' HO_0.out).2.2; have q020 : (0 : Int) ≤ (x5_1 : Int) := od_; have hcut20 := cut_from (P := Try.prog) 23 3 .i64 Try.underlying23 hi020 1 hsz20 (some ad162) l0.length co16 x5_1 q020 q20; have hr20 := Kd.C_drop (m := (x5_1 : Int).toNat) (c := co16) hC20 (by omega) hroom20; obtain ⟨A20, hA20⟩ : ∃ A1, A1 = (if co16 = (x5_1 : Int).toNat then (some ad162) else ((some ad162) : Option Addr).map (·.add ((x5_1 : Int).toNat * 1))) := ⟨_, rfl⟩; obtain ⟨c20, hc20⟩ : ∃ c1, c1 = co16 - (x5_1 : Int).toNat := ⟨_, rfl⟩; have hy20 : y174.length = l0.length - (x5_1 : Int).toNat := (by rw [Ny174.out, List.length_drop] <;> omega); rw [show (l0).drop (x5_1 : Int).toNat = y174 from Ny174.out.symm] at hr20; replace hr20 : Kd.C (Kd.int .i64) _ A20 y174.length y174 := (by rw [hA20]; exact hr20); rw [← hy20, ← hA20, ← hc20] at hcut20; have HR177 := am_ hr20; have HC177 := am_ (show y174.length ≤ c20 from by rw [hy20, hc20]; exact Nat.sub_le_sub_right hroom20 _); clear hr20 hC20 hroom20 hi020 hsz20 hc20; have KY20 := am_ hy20; have KA20 := am_ hA20; clear hy20 hA20; have KL20 := am_ (show (x5_1 : Int).toNat ≤ l0.length from by omega); replace q20 := eq_true q20) | ((with_reducible refine gate_builtin (b := .append) (xs := #[.tmp 43, .tmp 46]) rfl ?_); at_builtin; refine Kd.R_append_rows (Kd.int .i64) (w0 := w0) w0.heap.size rfl (.tmp 43) (.tmp 46) 23 3 (.int .i64 0) 8 rfl Try.underlying23 info3 rfl (by decide) (by omega) v172 y171 y174 _ _ _ (fun k_ => (P0_ k_ ∨ w.heap.size ≤ k_) ∧ nb k_ (.slice (some ad162) l0.length co16)) (fun _ => False) rfl rfl ?aO ?aR (fun _ _ h => h) (fun _ h => h.elim) ?aF ?aB ?aS ?aL ?_; (case aR => repeat (first | exact (by repeat (first | (with_reducible exact HR177.out) | (with_reducible refine Kd.C_alloc ?_ _) | (with_reducible refine Kd.C_drewN ?_ _) | (with_reducible refine Kd.C_drew ?_) | exact HR177.out)) | (with_reducible refine Kd.C_alloc ?_ _) | (with_reducible refine Kd.C_drewN ?_ _) | (with_reducible refine Kd.C_drew ?_))); (case aB => exact (bw_ HB.out)); (case aF => exact (fun k_ hk => ⟨(.inr (Nat.le_trans (by first | exact HK.out.1 | exact (show Kept w _ (fun k_ => P0_ k_) from kk_ HK.out).1) hk)), Kd.fresh' (Kd.R_lt (ra_ HO_0.out)) k_ hk⟩)); (case aO => exact (ra_ HO173.out)); (case aS => exact (below_size (bw_ HB.out))); (case aL => have := LMc15.out; omega); intro v179 w21 ho hb hg hat; rw [← Ny178.out] at ho; have n0_ := am_ (Kd.R_after (ok := (fun k_ => (P0_ k_ ∨ w.heap.size ≤ k_))) (ra_ HO_0.out) hg hat); have n1_ := am_ (hb); have n2_ := am_ (Kept.of_grown (S := (fun k_ => P0_ k_)) hg (kk_ HK.out) (fun k_ e_ => (HO173.out.1 k_ e_).1)); have n3_ := am_ ((show Kd.C (Kd.int .i64) w21 (some ad162) y164.length y164 from by rw [Ny164.out]; exact Kd.C_take (m := (x5_1 : Int).toNat) ((Kd.R_reads' (Kd.R_after (ok := (fun k_ => (P0_ k_ ∨ w.heap.size ≤ k_))) (ra_ HO_0.out) hg hat)).2.2) KL17.out)); have n4_ := am_ ((show Kd.C (Kd.int .i64) w21 _ y174.length y174 from by rw [Ny174.out]; exact C_at KA20 (Kd.C_drop (m := (x5_1 : Int).toNat) (c := co16) ((Kd.R_reads' (Kd.R_after (ok := (fun k_ => (P0_ k_ ∨ w.heap.size ≤ k_))) (ra_ HO_0.out) hg hat)).2.2) KL20.out ((Kd.R_reads' (Kd.R_after (ok := (fun k_ => (P0_ k_ ∨ w.heap.size ≤ k_))) (ra_ HO_0.out) hg hat)).2.1)))); have n5_ := am_ (ho); clear HO173; replace HO_0 := n0_; replace HB := n1_; replace HK := n2_; replace HR167 := n3_; replace HR177 := n4_; have HO180 := n5_; clear n0_ n1_ n2_ n3_ n4_ n5_; clear ho hb hg hat))
      go_ret
      exact ⟨_, by first | rfl | (simp [errW_none, errW_some] <;> rfl) | (simp [*, errW_none, errW_some] <;> rfl), ra_ (Kd.R_mono HO180.out (fun _ hk => hk.1)), bw_ HB.out, kk_ HK.out⟩
   ·rw [if_neg c3] at H
    have c3b0 : decide (x5_1 < (l0.length : Int)) = false := decide_eq_false c3
    clear c3
    obtain ⟨c22, H⟩ := ifn_ H
    have c22b0 := eq_true c22
    have c22b1 : decide (0 ≤ x5_1) = true := decide_eq_true c22
    clear c22
    obtain ⟨c23, H⟩ := ifn_ H
    have c23b0 := eq_true c23
    have c23b1 : decide (x5_1 ≤ (l0.length : Int)) = true := decide_eq_true c23
    clear c23
    obtain ⟨y181, hy181⟩ : ∃ y_ : List Int, y_ = (l0.take (x5_1 : Int).toNat) := ⟨_, rfl⟩
    replace H : (if ([] : List Int).length + y181.length < 17592186044416 then ((some (([] : List Int) ++ y181 : List Int)).bind fun y185 => (if y185.length < 17592186044416 then ((some (y185 ++ [a1] : List Int)).bind fun y188 => ((some (l0.drop (x5_1 : Int).toNat : List Int)).bind fun y191 => (if y188.length + y191.length < 17592186044416 then (some (y188 ++ y191)) else (none)))) else (none))) else (none)) = some r := by first | (rw [hy181]; with_reducible exact H) | (have H2_ := (Option.bind_some _ _).symm.trans H; rw [hy181]; with_reducible exact H2_) | (have H2_ := (Option.bind_some _ _).symm.trans H; with_reducible exact H2_) | with_reducible exact H | (rw [hy181]; exact H) | exact H
    have Ny181 := am_ hy181
    clear hy181
    obtain ⟨c24, H⟩ := ifn_ H
    have LMc24 := am_ c24
    clear c24
    obtain ⟨y185, hy185⟩ : ∃ y_ : List Int, y_ = (([] : List Int) ++ y181) := ⟨_, rfl⟩
    replace H : (if y185.length < 17592186044416 then ((some (y185 ++ [a1] : List Int)).bind fun y188 => ((some (l0.drop (x5_1 : Int).toNat : List Int)).bind fun y191 => (if y188.length + y191.length < 17592186044416 then (some (y188 ++ y191)) else (none)))) else (none)) = some r := by first | (rw [hy185]; with_reducible exact H) | (have H2_ := (Option.bind_some _ _).symm.trans H; rw [hy185]; with_reducible exact H2_) | (have H2_ := (Option.bind_some _ _).symm.trans H; with_reducible exact H2_) | with_reducible exact H | (rw [hy185]; exact H) | exact H
    have Ny185 := am_ hy185
    clear hy185
    obtain ⟨c25, H⟩ := ifn_ H
    have LMc25 := am_ c25
    clear c25
    obtain ⟨y188, hy188⟩ : ∃ y_ : List Int, y_ = (y185 ++ [a1]) := ⟨_, rfl⟩
    replace H : ((some (l0.drop (x5_1 : Int).toNat : List Int)).bind fun y191 => (if y188.length + y191.length < 17592186044416 then (some (y188 ++ y191)) else (none))) = some r := by first | (rw [hy188]; with_reducible exact H) | (have H2_ := (Option.bind_some _ _).symm.trans H; rw [hy188]; with_reducible exact H2_) | (have H2_ := (Option.bind_some _ _).symm.trans H; with_reducible exact H2_) | with_reducible exact H | (rw [hy188]; exact H) | exact H
    have Ny188 := am_ hy188
    clear hy188
    have c26b0 := eq_true (od_ : 0 ≤ x5_1)
    have c27b0 := eq_true (od_ : x5_1 ≤ (l0.length : Int))
    obtain ⟨y191, hy191⟩ : ∃ y_ : List Int, y_ = (l0.drop (x5_1 : Int).toNat) := ⟨_, rfl⟩
    replace H : (if y188.length + y191.length < 17592186044416 then (some (y188 ++ y191)) else (none)) = some r := by first | (rw [hy191]; with_reducible exact H) | (have H2_ := (Option.bind_some _ _).symm.trans H; rw [hy191]; with_reducible exact H2_) | (have H2_ := (Option.bind_some _ _).symm.trans H; with_reducible exact H2_) | with_reducible exact H | (rw [hy191]; exact H) | exact H
    have Ny191 := am_ hy191
    clear hy191
    obtain ⟨c28, H⟩ := ifn_ H
    have LMc28 := am_ c28
    clear c28
    obtain ⟨y195, hy195⟩ : ∃ y_ : List Int, y_ = (y188 ++ y191) := ⟨_, rfl⟩
    replace H : (some y195) = some r := by first | (rw [hy195]; with_reducible exact H) | (have H2_ := (Option.bind_some _ _).symm.trans H; rw [hy195]; with_reducible exact H2_) | (have H2_ := (Option.bind_some _ _).symm.trans H; with_reducible exact H2_) | with_reducible exact H | (rw [hy195]; exact H) | exact H
    have Ny195 := am_ hy195
    clear hy195
    obtain rfl := Option.some.inj H
    obtain ⟨Ao29, co29, eo29⟩ := Kd.R_slice HO_0.out
    subst eo29
    have q30 : (x5_1 : Int) ≤ ((l0.length : Int) : Int) := od_
    obtain ⟨i030, hi030, _, hsz30, _⟩ := info_parts info3
    have hroom30 : l0.length ≤ co29 := (Kd.R_reads' HO_0.out).2.1
    have hC30 : Kd.C (Kd.int .i64) _ Ao29 l0.length l0 := (Kd.R_reads' HO_0.out).2.2
    have hcut30 := cut_to (P := Try.prog) 23 3 .i64 Try.underlying23 hi030 Ao29 l0.length co29 x5_1 od_ q30 hroom30
    have hr30 := Kd.C_take (m := (x5_1 : Int).toNat) hC30 (by omega)
    have hy30 : y181.length = (x5_1 : Int).toNat := (by rw [Ny181.out, List.length_take]; omega)
    rw [← Ny181.out] at hr30
    rw [← hy30] at hcut30
    have HR184 := am_ hr30
    have HC184 := am_ (show y181.length ≤ co29 from by omega)
    clear hr30 hC30 hroom30 hi030 hsz30
    have KY30 := am_ hy30
    clear hy30
    have KL30 := am_ (show (x5_1 : Int).toNat ≤ l0.length from by omega)
    replace q30 := eq_true q30
    go_wp2_with (first | ((with_reducible refine gate_builtin (b := .append) (xs := #[.tmp 34, .tmp 37]) rfl ?_); at_builtin; refine Kd.R_append_rows (Kd.int .i64) (w0 := w0) w0.heap.size rfl (.tmp 34) (.tmp 37) 23 3 (.int .i64 0) 8 rfl Try.underlying23 info3 rfl (by decide) (by omega) (.slice none 0 0) ([] : List Int) y181 _ _ _ (fun k_ => (P0_ k_ ∨ w.heap.size ≤ k_) ∧ nb k_ (.slice Ao29 l0.length co29)) (fun _ => False) rfl rfl ?aO ?aR (fun _ _ h => h) (fun _ h => h.elim) ?aF ?aB ?aS ?aL ?_; (case aR => repeat (first | exact (by repeat (first | (with_reducible exact HR184.out) | (with_reducible refine Kd.C_alloc ?_ _) | (with_reducible refine Kd.C_drewN ?_ _) | (with_reducible refine Kd.C_drew ?_) | exact HR184.out)) | (with_reducible refine Kd.C_alloc ?_ _) | (with_reducible refine Kd.C_drewN ?_ _) | (with_reducible refine Kd.C_drew ?_))); (case aB => exact (bw_ HB.out)); (case aF => exact (fun k_ hk => ⟨(.inr (Nat.le_trans (by first | exact HK.out.1 | exact (show Kept w _ (fun k_ => P0_ k_) from kk_ HK.out).1) hk)), Kd.fresh' (Kd.R_lt (ra_ HO_0.out)) k_ hk⟩)); (case aO => exact ((Kd.R_nil _ _ _ _ (fun k_ => (P0_ k_ ∨ w.heap.size ≤ k_) ∧ nb k_ (.slice Ao29 l0.length co29))))); (case aS => exact (below_size (bw_ HB.out))); (case aL => have := LMc24.out; omega); intro v186 w31 ho hb hg hat; rw [← Ny185.out] at ho; have n0_ := am_ (Kd.R_after (Kd.R_apart_nil (ra_ HO_0.out)) hg hat); have n1_ := am_ (hb); have n2_ := am_ (Kept.of_grown (S := (fun k_ => P0_ k_)) hg (kk_ HK.out) (fun k_ e_ => by simp [Value.ownBlock] at e_)); have n3_ := am_ ((show Kd.C (Kd.int .i64) w31 Ao29 y181.length y181 from by rw [Ny181.out]; exact Kd.C_take (m := (x5_1 : Int).toNat) ((Kd.R_reads' (Kd.R_after (Kd.R_apart_nil (ra_ HO_0.out)) hg hat)).2.2) KL30.out)); have n4_ := am_ (ho); replace HO_0 := n0_; replace HB := n1_; replace HK := n2_; replace HR184 := n3_; have HO187 := n4_; clear n0_ n1_ n2_ n3_ n4_; clear ho hb hg hat) | ((with_reducible refine gate_builtin (b := .append) (xs := #[.tmp 39, .tmp 41]) rfl ?_); at_builtin; refine Kd.R_append (Kd.int .i64) (w0 := w0) w0.heap.size rfl (.tmp 39) (.tmp 41) 23 3 (.int .i64 0) 8 rfl Try.underlying23 info3 rfl (by decide) (by omega) v186 y185 a1 [.int .i64 a1] (fun k_ => (P0_ k_ ∨ w.heap.size ≤ k_) ∧ nb k_ (.slice Ao29 l0.length co29)) (fun _ => False) rfl rfl ?aP (fun _ hk => hk.elim) ?aF ?aO ?aB ?aS ?aL ?_; (case aP => exact rfl); (case aB => exact (bw_ HB.out)); (case aF => exact (fun k_ hk => ⟨(.inr (Nat.le_trans (by first | exact HK.out.1 | exact (show Kept w _ (fun k_ => P0_ k_) from kk_ HK.out).1) hk)), Kd.fresh' (Kd.R_lt (ra_ HO_0.out)) k_ hk⟩)); (case aO => exact (ra_ HO187.out)); (case aS => exact (below_size (bw_ HB.out))); (case aL => have := LMc25.out; omega); intro v189 w32 ho hb hg hat; rw [← Ny188.out] at ho; have n0_ := am_ (Kd.R_after (ok := (fun k_ => (P0_ k_ ∨ w.heap.size ≤ k_))) (ra_ HO_0.out) hg hat); have n1_ := am_ (hb); have n2_ := am_ (Kept.of_grown (S := (fun k_ => P0_ k_)) hg (kk_ HK.out) (fun k_ e_ => (HO187.out.1 k_ e_).1)); have n3_ := am_ ((show Kd.C (Kd.int .i64) w32 Ao29 y181.length y181 from by rw [Ny181.out]; exact Kd.C_take (m := (x5_1 : Int).toNat) ((Kd.R_reads' (Kd.R_after (ok := (fun k_ => (P0_ k_ ∨ w.heap.size ≤ k_))) (ra_ HO_0.out) hg hat)).2.2) KL30.out)); have n4_ := am_ (ho); clear HO187; replace HO_0 := n0_; replace HB := n1_; replace HK := n2_; replace HR184 := n3_; have HO190 := n4_; clear n0_ n1_ n2_ n3_ n4_; clear ho hb hg hat; have q33 : (x5_1 : Int) ≤ ((l0.length : Int) : Int) := od_; obtain ⟨i033, hi033, _, hsz33, _⟩ := info_parts info3; have hroom33 : l0.length ≤ co29 := (Kd.R_reads' HO_0.out).2.1; have hC33 : Kd.C (Kd.int .i64) _ Ao29 l0.length l0 := (Kd.R_reads' HO_0.out).2.2; have q033 : (0 : Int) ≤ (x5_1 : Int) := od_; have hcut33 := cut_from (P := Try.prog) 23 3 .i64 Try.underlying23 hi033 1 hsz33 Ao29 l0.length co29 x5_1 q033 q33; have hr33 := Kd.C_drop (m := (x5_1 : Int).toNat) (c := co29) hC33 (by omega) hroom33; obtain ⟨A33, hA33⟩ : ∃ A1, A1 = (if co29 = (x5_1 : Int).toNat then Ao29 else (Ao29 : Option Addr).map (·.add ((x5_1 : Int).toNat * 1))) := ⟨_, rfl⟩; obtain ⟨c33, hc33⟩ : ∃ c1, c1 = co29 - (x5_1 : Int).toNat := ⟨_, rfl⟩; have hy33 : y191.length = l0.length - (x5_1 : Int).toNat := (by rw [Ny191.out, List.length_drop] <;> omega); rw [show (l0).drop (x5_1 : Int).toNat = y191 from Ny191.out.symm] at hr33; replace hr33 : Kd.C (Kd.int .i64) _ A33 y191.length y191 := (by rw [hA33]; exact hr33); rw [← hy33, ← hA33, ← hc33] at hcut33; have HR194 := am_ hr33; have HC194 := am_ (show y191.length ≤ c33 from by rw [hy33, hc33]; exact Nat.sub_le_sub_right hroom33 _); clear hr33 hC33 hroom33 hi033 hsz33 hc33; have KY33 := am_ hy33; have KA33 := am_ hA33; clear hy33 hA33; have KL33 := am_ (show (x5_1 : Int).toNat ≤ l0.length from by omega); replace q33 := eq_true q33) | ((with_reducible refine gate_builtin (b := .append) (xs := #[.tmp 43, .tmp 46]) rfl ?_); at_builtin; refine Kd.R_append_rows (Kd.int .i64) (w0 := w0) w0.heap.size rfl (.tmp 43) (.tmp 46) 23 3 (.int .i64 0) 8 rfl Try.underlying23 info3 rfl (by decide) (by omega) v189 y188 y191 _ _ _ (fun k_ => (P0_ k_ ∨ w.heap.size ≤ k_) ∧ nb k_ (.slice Ao29 l0.length co29)) (fun _ => False) rfl rfl ?aO ?aR (fun _ _ h => h) (fun _ h => h.elim) ?aF ?aB ?aS ?aL ?_; (case aR => repeat (first | exact (by repeat (first | (with_reducible exact HR194.out) | (with_reducible refine Kd.C_alloc ?_ _) | (with_reducible refine Kd.C_drewN ?_ _) | (with_reducible refine Kd.C_drew ?_) | exact HR194.out)) | (with_reducible refine Kd.C_alloc ?_ _) | (with_reducible refine Kd.C_drewN ?_ _) | (with_reducible refine Kd.C_drew ?_))); (case aB => exact (bw_ HB.out)); (case aF => exact (fun k_ hk => ⟨(.inr (Nat.le_trans (by first | exact HK.out.1 | exact (show Kept w _ (fun k_ => P0_ k_) from kk_ HK.out).1) hk)), Kd.fresh' (Kd.R_lt (ra_ HO_0.out)) k_ hk⟩)); (case aO => exact (ra_ HO190.out)); (case aS => exact (below_size (bw_ HB.out))); (case aL => have := LMc28.out; omega); intro v196 w34 ho hb hg hat; rw [← Ny195.out] at ho; have n0_ := am_ (Kd.R_after (ok := (fun k_ => (P0_ k_ ∨ w.heap.size ≤ k_))) (ra_ HO_0.out) hg hat); have n1_ := am_ (hb); have n2_ := am_ (Kept.of_grown (S := (fun k_ => P0_ k_)) hg (kk_ HK.out) (fun k_ e_ => (HO190.out.1 k_ e_).1)); have n3_ := am_ ((show Kd.C (Kd.int .i64) w34 Ao29 y181.length y181 from by rw [Ny181.out]; exact Kd.C_take (m := (x5_1 : Int).toNat) ((Kd.R_reads' (Kd.R_after (ok := (fun k_ => (P0_ k_ ∨ w.heap.size ≤ k_))) (ra_ HO_0.out) hg hat)).2.2) KL30.out)); have n4_ := am_ ((show Kd.C (Kd.int .i64) w34 _ y191.length y191 from by rw [Ny191.out]; exact C_at KA33 (Kd.C_drop (m := (x5_1 : Int).toNat) (c := co29) ((Kd.R_reads' (Kd.R_after (ok := (fun k_ => (P0_ k_ ∨ w.heap.size ≤ k_))) (ra_ HO_0.out) hg hat)).2.2) KL33.out ((Kd.R_reads' (Kd.R_after (ok := (fun k_ => (P0_ k_ ∨ w.heap.size ≤ k_))) (ra_ HO_0.out) hg hat)).2.1)))); have n5_ := am_ (ho); clear HO190; replace HO_0 := n0_; replace HB := n1_; replace HK := n2_; replace HR184 := n3_; replace HR194 := n4_; have HO197 := n5_; clear n0_ n1_ n2_ n3_ n4_ n5_; clear ho hb hg hat))
    go_ret
    exact ⟨_, by first | rfl | (simp [errW_none, errW_some] <;> rfl) | (simp [*, errW_none, errW_some] <;> rfl), ra_ (Kd.R_mono HO197.out (fun _ hk => hk.1)), bw_ HB.out, kk_ HK.out⟩
/-! ### spec_l17Press: function 43 -/
def spec_l17Press.l0 : Nat → List Int → List Int → Int → Int → Int → Int → Bool → Option (List Int)
 | 0, _, _, _, _, _, _, _ => none
 | k + 1, x5, x14, x15, x16, x199000, x199001, x199002 => if x16 < x15 then (if 0 ≤ x16 then (if x16 < (x14.length : Int) then (if (rd x14 x16) = x199001 then (spec_l17Press.l0 k x5 x14 x15 (wrap64 (x16 + 1)) x199000 x199001 x199002) else (if x5.length < 17592186044416 then (spec_l17Press.l0 k (x5 ++ [rd x14 x16]) x14 x15 (wrap64 (x16 + 1)) x199000 x199001 x199002) else (none))) else (none)) else (none)) else (some x5)
def spec_l17Press.f (k : Nat) (l0 : List Int) (a1_0 : Int) (a1_1 : Int) (a1_2 : Bool) : Option (List Int) := if a1_2 = true then ((spec_l1Put.f k l0 a1_1).bind fun t199 => (some t199)) else (spec_l17Press.l0 k ([] : List Int) l0 (l0.length : Int) 0 a1_0 a1_1 a1_2)
theorem spec_l17Press.mono_l : ∀ k, (∀ y0 y1 y2 y3 y4 y5 y6, LeO (spec_l17Press.l0 k y0 y1 y2 y3 y4 y5 y6) (spec_l17Press.l0 (k + 1) y0 y1 y2 y3 y4 y5 y6))
 | 0 => fun _ _ _ _ _ _ _ r h => by simp [spec_l17Press.l0] at h
 | k + 1 => by
  have ih0 := spec_l17Press.mono_l k
  ·intro y0 y1 y2 y3 y4 y5 y6
   unfold spec_l17Press.l0
   repeat' first
   | (with_reducible exact ih0 _ _ _ _ _ _ _)
   | (with_reducible exact spec_l1Put.mono _ _ _)
   | (with_reducible exact LeO.refl _)
   | (with_reducible exact LeO.none _)
   | (with_reducible refine LeO.ite ?_ ?_)
   | (with_reducible refine LeO.bind ?_ (fun _ => ?_))
   | exact ih0 _ _ _ _ _ _ _
   | exact spec_l1Put.mono _ _ _
   | exact LeO.none _
   | refine LeO.ite ?_ ?_
   | refine LeO.bind ?_ (fun _ => ?_)
theorem spec_l17Press.mono : ∀ a0 a1 a2 a3 k, LeO (spec_l17Press.f k a0 a1 a2 a3) (spec_l17Press.f (k + 1) a0 a1 a2 a3) := by
 intro a0 a1 a2 a3 k
 have ih0 := spec_l17Press.mono_l k
 unfold spec_l17Press.f
 repeat' first
   | (with_reducible exact ih0 _ _ _ _ _ _ _)
   | (with_reducible exact spec_l1Put.mono _ _ _)
   | (with_reducible exact LeO.refl _)
   | (with_reducible exact LeO.none _)
   | (with_reducible refine LeO.ite ?_ ?_)
   | (with_reducible refine LeO.bind ?_ (fun _ => ?_))
   | exact ih0 _ _ _ _ _ _ _
   | exact spec_l1Put.mono _ _ _
   | exact LeO.none _
   | refine LeO.ite ?_ ?_
   | refine LeO.bind ?_ (fun _ => ?_)
set_option maxHeartbeats 8000000 in
set_option maxRecDepth 100000 in
theorem spec_l17Press.calls (k : Nat) (P0_ : Nat → Prop) (u9000_ : Value) (l0 : List Int) (a1_0 : Int) (a1_1 : Int) (a1_2 : Bool) (r : List Int) (w0 w : World) (hB : Below w0.heap.size w0 w) (ho0 : Kd.R (Kd.int .i64) 3 w w0.heap.size P0_ u9000_ l0) (h : spec_l17Press.f k l0 a1_0 a1_1 a1_2 = some r) :
  Calls Try.prog 43 #[u9000_, .agg #[.int .i64 a1_0, .int .i64 a1_1, .bool a1_2]] w fun e w' => ∃ v0_ : Value, e = .returned (v0_) ∧ Kd.R (Kd.int .i64) 3 w' w0.heap.size (fun k_ => (P0_ k_ ∨ w.heap.size ≤ k_)) v0_ r ∧ Below w0.heap.size w0 w' ∧ Kept w w' (fun k_ => P0_ k_) := by
 have hu65 := Try.underlying65
 have HO0 := am_ (show Kd.R (Kd.int .i64) 3 w w0.heap.size (fun k_ => (P0_ k_ ∨ w.heap.size ≤ k_)) u9000_ l0 from Kd.R_mono ho0 (fun k_ hk => (.inl hk)))
 have HK := am_ (Kept.refl w (fun k_ => P0_ k_))
 have HW0 := am_ hB.size
 have HB := am_ hB
 clear hB
 have H : (if a1_2 = true then ((spec_l1Put.f k l0 a1_1).bind fun t199 => (some t199)) else (spec_l17Press.l0 k ([] : List Int) l0 (l0.length : Int) 0 a1_0 a1_1 a1_2)) = some r := h
 clear h
 by_cases c3 : a1_2 = true
 ·subst c3
  replace H := it_ H rfl
  obtain ⟨t199, A40, H⟩ := bE_ H
  have A4 := am_ A40
  clear A40
  obtain rfl := Option.some.inj H
  go_enter Try.func43, Try.ntmps43
  go_wp2_with (first | ((with_reducible refine gate_dst (N := 3) rfl ?_); refine bx_ 3 #[.int .i64 a1_0, .int .i64 a1_1, .bool true] 65 ?_; intro gb198 hg w5 hbox hb; have n0_ := am_ (Kd.R_below (ra_ HO0.out) hb); have n1_ := am_ (Kept.below (S := (fun k_ => P0_ k_)) (kk_ HK.out) hb); have n2_ := am_ (below_step (bw_ HB.out) hb); have n3_ := am_ (hbox); have n4_ := am_ ((by rw [hg]; exact (by first | exact HK.out.1 | exact (show Kept w _ (fun k_ => P0_ k_) from kk_ HK.out).1) : w.heap.size ≤ gb198)); have n5_ := am_ ((by rw [hg]; exact (below_size (bw_ HB.out)) : w0.heap.size ≤ gb198)); replace HO0 := n0_; replace HK := n1_; replace HB := n2_; have BK198 := n3_; have GW198 := n4_; have GE198 := n5_; clear n0_ n1_ n2_ n3_ n4_ n5_; clear hb hbox hg; have hcz6_0 := cz_ BK198.out 0; have hcz6_1 := cz_ BK198.out 1; have hcz6_2 := cz_ BK198.out 2; have hfz6_0 := blk_frozen BK198.out 0; have hfz6_1 := blk_frozen BK198.out 1; have hfz6_2 := blk_frozen BK198.out 2; obtain ⟨Ao7, co7, eo7⟩ := Kd.R_slice HO0.out; subst eo7) | ((with_reducible refine gate_callee (f := 62) rfl ?_); refine goesL_ (some 13) rfl rfl Try.func62 (by kernel_rfl) rfl #[.slice Ao7 l0.length co7, .int .i64 a1_1] rfl (by (try simp only [List.map_toArray, List.map_cons, List.map_nil]); first | done | rfl | (simp only [List.length_drop, List.length_take]; rfl)) ?_; (with_reducible refine (spec_l1Put.calls k (fun k_ => some k_ = (.slice Ao7 l0.length co7 : Value).ownBlock) (.slice Ao7 l0.length co7) l0 a1_1 t199 w0 _ ?side1 ?side2 A4.out).mono ?_); (case side1 => repeat (first | (with_reducible first | exact HB.out | apply below_alloc | apply pw_below_drewN | apply below_drew1 | refine below_set ?_ GE198.out) | exact HB.out)); (case side2 => exact Kd.R_tight rfl HO0.out); rintro e w8 ⟨v200, rfl, ho0, hb, hkp⟩; refine ⟨_, rfl, ?_⟩; (first | have n0_ := am_ (blk_kept BK198.out hkp (Kd.R_ne HO0.out BK198.out (by decide))) | have n0_ := am_ (blk_kept (blk_drewN BK198.out _) hkp (Kd.R_ne HO0.out BK198.out (by decide)))); have n1_ := am_ (Kd.R_mono (ok' := fun k_ => (P0_ k_ ∨ w.heap.size ≤ k_)) ho0 (fun k_ hk_ => Or.elim hk_ (fun hs_ => (HO0.out.1 k_ (hs_).symm)) (fun hn_ => (.inr (Nat.le_trans (by first | exact HK.out.1 | exact (show Kept w _ (fun k_ => P0_ k_) from by repeat (first | (with_reducible first | exact HK.out | apply Kept.alloc | apply Kept.drewN | apply Kept.drew | refine Kept.setCell ?_ (.inr GW198.out) _) | exact HK.out)).1) hn_))))); have n2_ := am_ (Kept.then_ (S := (fun k_ => P0_ k_)) (by repeat (first | (with_reducible first | exact HK.out | apply Kept.alloc | apply Kept.drewN | apply Kept.drew | refine Kept.setCell ?_ (.inr GW198.out) _) | exact HK.out)) hkp (fun k_ hs_ => (fun e_ => (HO0.out.1 k_ e_.symm)) hs_)); have n3_ := am_ (hb); clear HO0; replace BK198 := n0_; have HO201 := n1_; replace HK := n2_; replace HB := n3_; clear n0_ n1_ n2_ n3_; (try clear hb); (try clear hkp); (try clear ho0)))
  go_ret
  exact ⟨_, by first | rfl | (simp [errW_none, errW_some] <;> rfl) | (simp [*, errW_none, errW_some] <;> rfl), ra_ HO201.out, bw_ HB.out, by repeat (first | (with_reducible first | exact HK.out | apply Kept.alloc | apply Kept.drewN | apply Kept.drew | refine Kept.setCell ?_ (.inr GW198.out) _) | exact HK.out)⟩
 ·replace c3 := Bool.eq_false_iff.mpr c3
  subst c3
  replace H := if_ H Bool.false_ne_true
  have H' := am_ H
  clear H
  go_enter Try.func43, Try.ntmps43
  go_wp2_with (first | ((with_reducible refine gate_dst (N := 3) rfl ?_); refine bx_ 3 #[.int .i64 a1_0, .int .i64 a1_1, .bool false] 65 ?_; intro gb198 hg w9 hbox hb; have n0_ := am_ (Kd.R_below (ra_ HO0.out) hb); have n1_ := am_ (Kept.below (S := (fun k_ => P0_ k_)) (kk_ HK.out) hb); have n2_ := am_ (below_step (bw_ HB.out) hb); have n3_ := am_ (hbox); have n4_ := am_ ((by rw [hg]; exact (by first | exact HK.out.1 | exact (show Kept w _ (fun k_ => P0_ k_) from kk_ HK.out).1) : w.heap.size ≤ gb198)); have n5_ := am_ ((by rw [hg]; exact (below_size (bw_ HB.out)) : w0.heap.size ≤ gb198)); replace HO0 := n0_; replace HK := n1_; replace HB := n2_; have BK198 := n3_; have GW198 := n4_; have GE198 := n5_; clear n0_ n1_ n2_ n3_ n4_ n5_; clear hb hbox hg; have hcz10_0 := cz_ BK198.out 0; have hcz10_1 := cz_ BK198.out 1; have hcz10_2 := cz_ BK198.out 2; have hfz10_0 := blk_frozen BK198.out 0; have hfz10_1 := blk_frozen BK198.out 1; have hfz10_2 := blk_frozen BK198.out 2; obtain ⟨Ao11, co11, eo11⟩ := Kd.R_slice HO0.out; subst eo11))
  go_loopg [5, 16] k (fun kq v5 v16 w' => ∃ (x5_1 : List Int) (x16_1 : Int), v16 = .int .i64 x16_1 ∧ Aside0 (spec_l17Press.l0 kq x5_1 l0 (l0.length : Int) x16_1 a1_0 a1_1 false = some r) ∧ Aside0 (kq ≤ k) ∧ Aside0 (Kd.R (Kd.int .i64) 3 w' w0.heap.size (fun k_ => (P0_ k_ ∨ w.heap.size ≤ k_) ∧ nb k_ (.slice Ao11 l0.length co11)) v5 x5_1) ∧ Aside0 (Kd.R (Kd.int .i64) 3 w' w0.heap.size (fun k_ => (P0_ k_ ∨ w.heap.size ≤ k_) ∧ nb k_ v5) (.slice Ao11 l0.length co11) l0) ∧ Aside0 (w'.heap[gb198]? = some (.cells #[.int .i64 a1_0, .int .i64 a1_1, .bool false] 65 (0, 0))) ∧ Aside0 (Kept w w' (fun k_ => P0_ k_)) ∧ Aside0 (Below w0.heap.size w0 w'))
  case atStart => exact ⟨(([] : List Int)), (0), sq_, H', ⟨Nat.le_refl _⟩, ⟨by first | exact Kd.R_nil _ _ _ _ _ | exact Kd.N_nil _ _ _ _ _ | exact Kd.V_nil _ _ _ _ _ | exact Kd.Q_nil _ _ _ _ _ | exact Kd.S_nil _ _ _ _ _⟩, ⟨ra_ (Kd.R_mono HO0.out (fun _ hk => ⟨hk, (by simp [Value.ownBlock])⟩))⟩, ⟨bk_ BK198.out⟩, ⟨by repeat (first | (with_reducible first | exact HK.out | apply Kept.alloc | apply Kept.drewN | apply Kept.drew | refine Kept.setCell ?_ (.inr GW198.out) _) | exact HK.out)⟩, ⟨bw_ HB.out⟩⟩
  case round =>
   clear H'
   try clear c3
   try clear hcz10_0
   try clear hcz10_1
   try clear hcz10_2
   try clear hfz10_0
   try clear hfz10_1
   try clear hfz10_2
   obtain ⟨x5_1, x16_1, rfl, HA, HK1, HO_5, HO_14, BK198, HK, HB⟩ := hrel
   cases gk with
   | zero => exact absurd HA.out (by simp [spec_l17Press.l0])
   | succ k1 =>
    have H := HA.out
    clear HA
    simp only [spec_l17Press.l0] at H
    by_cases c12 : x16_1 < (l0.length : Int)
    ·rw [if_pos c12] at H
     have c12b0 : decide (x16_1 < (l0.length : Int)) = true := decide_eq_true c12
     clear c12
     obtain ⟨c13, H⟩ := ifn_ H
     have c13b0 : decide (0 ≤ x16_1) = true := decide_eq_true c13
     clear c13
     obtain ⟨c14, H⟩ := ifn_ H
     have c14b0 : decide (x16_1 < (l0.length : Int)) = true := decide_eq_true c14
     clear c14
     by_cases c15 : (rd l0 x16_1) = a1_1
     ·rw [if_pos c15] at H
      have c15b0 : ((rd l0 x16_1) == a1_1) = true := beq_iff_eq.mpr c15
      have c15b1 : ((rd l0 x16_1) != a1_1) = false := bne_eq_false_iff_eq.mpr c15
      clear c15
      have H' := am_ H
      clear H
      have p202 : 0 ≤ (x16_1 : Int) := od_
      have q202 : x16_1 < (l0.length : Int) := od_
      obtain ⟨ad202, e202, hx202_0⟩ := Kd.at_int (Kd.R_reads' HO_14.out).2.2 x16_1 p202 q202
      cases e202
      replace p202 := eq_true p202
      replace q202 := eq_true q202
      have hcz16_0 := cz_ BK198.out 0
      have hcz16_1 := cz_ BK198.out 1
      have hcz16_2 := cz_ BK198.out 2
      have hfz16_0 := blk_frozen BK198.out 0
      have hfz16_1 := blk_frozen BK198.out 1
      have hfz16_2 := blk_frozen BK198.out 2
      go_wp2
      go_roundg k1
      case measure => have := HK1.out; omega
      case rel => exact ⟨(x5_1), (wrap64 (x16_1 + 1)), sq_, H', ⟨by have := HK1.out; omega⟩, ⟨ra_ HO_5.out⟩, ⟨ra_ HO_14.out⟩, ⟨bk_ BK198.out⟩, ⟨by repeat (first | (with_reducible first | exact HK.out | apply Kept.alloc | apply Kept.drewN | apply Kept.drew | refine Kept.setCell ?_ (.inr GW198.out) _) | exact HK.out)⟩, ⟨bw_ HB.out⟩⟩
     ·rw [if_neg c15] at H
      have c15b0 : ((rd l0 x16_1) == a1_1) = false := beq_eq_false_iff_ne.mpr c15
      have c15b1 : ((rd l0 x16_1) != a1_1) = true := bne_iff_ne.mpr c15
      obtain ⟨c17, H⟩ := ifn_ H
      have LMc17 := am_ c17
      clear c17
      obtain ⟨y203, hy203⟩ : ∃ y_ : List Int, y_ = (x5_1 ++ [rd l0 x16_1]) := ⟨_, rfl⟩
      replace H : (spec_l17Press.l0 k1 y203 l0 (l0.length : Int) (wrap64 (x16_1 + 1)) a1_0 a1_1 false) = some r := by first | (rw [hy203]; with_reducible exact H) | (have H2_ := (Option.bind_some _ _).symm.trans H; rw [hy203]; with_reducible exact H2_) | (have H2_ := (Option.bind_some _ _).symm.trans H; with_reducible exact H2_) | with_reducible exact H | (rw [hy203]; exact H) | exact H
      have Ny203 := am_ hy203
      clear hy203
      have H' := am_ H
      clear H
      have p202 : 0 ≤ (x16_1 : Int) := od_
      have q202 : x16_1 < (l0.length : Int) := od_
      obtain ⟨ad202, e202, hx202_0⟩ := Kd.at_int (Kd.R_reads' HO_14.out).2.2 x16_1 p202 q202
      cases e202
      replace p202 := eq_true p202
      replace q202 := eq_true q202
      have hcz18_0 := cz_ BK198.out 0
      have hcz18_1 := cz_ BK198.out 1
      have hcz18_2 := cz_ BK198.out 2
      have hfz18_0 := blk_frozen BK198.out 0
      have hfz18_1 := blk_frozen BK198.out 1
      have hfz18_2 := blk_frozen BK198.out 2
      go_wp2_with (first | ((with_reducible refine gate_builtin (b := .append) (xs := #[.tmp 24, .tmp 26]) rfl ?_); at_builtin; refine Kd.R_append (Kd.int .i64) (w0 := w0) w0.heap.size rfl (.tmp 24) (.tmp 26) 23 3 (.int .i64 0) 8 rfl Try.underlying23 info3 rfl (by decide) (by omega) u5 x5_1 (rd l0 x16_1) [.int .i64 (rd l0 x16_1)] (fun k_ => (P0_ k_ ∨ w.heap.size ≤ k_) ∧ nb k_ (.slice (some ad202) l0.length co11)) (fun _ => False) rfl rfl ?aP (fun _ hk => hk.elim) ?aF ?aO ?aB ?aS ?aL ?_; (case aP => exact rfl); (case aB => exact (bw_ HB.out)); (case aF => exact (fun k_ hk => ⟨(.inr (Nat.le_trans (by first | exact HK.out.1 | exact (show Kept w _ (fun k_ => P0_ k_) from by repeat (first | (with_reducible first | exact HK.out | apply Kept.alloc | apply Kept.drewN | apply Kept.drew | refine Kept.setCell ?_ (.inr GW198.out) _) | exact HK.out)).1) hk)), Kd.fresh' (Kd.R_lt (ra_ HO_14.out)) k_ hk⟩)); (case aO => exact (ra_ HO_5.out)); (case aS => exact (below_size (bw_ HB.out))); (case aL => have := LMc17.out; omega); intro v204 w19 ho hb hg hat; rw [← Ny203.out] at ho; have n0_ := am_ (Kd.R_after (ok := (fun k_ => (P0_ k_ ∨ w.heap.size ≤ k_))) (ra_ HO_14.out) hg hat); have n1_ := am_ (blk_grown (bk_ BK198.out) hg (Kd.R_ne HO_5.out BK198.out (by decide))); have n2_ := am_ (hb); have n3_ := am_ (Kept.of_grown (S := (fun k_ => P0_ k_)) hg (by repeat (first | (with_reducible first | exact HK.out | apply Kept.alloc | apply Kept.drewN | apply Kept.drew | refine Kept.setCell ?_ (.inr GW198.out) _) | exact HK.out)) (fun k_ e_ => (HO_5.out.1 k_ e_).1)); have n4_ := am_ (ho); clear HO_5; replace HO_14 := n0_; replace BK198 := n1_; replace HB := n2_; replace HK := n3_; have HO205 := n4_; clear n0_ n1_ n2_ n3_ n4_; clear ho hb hg hat))
      go_roundg k1
      case measure => have := HK1.out; omega
      case rel => exact ⟨(y203), (wrap64 (x16_1 + 1)), sq_, H', ⟨by have := HK1.out; omega⟩, ⟨ra_ HO205.out⟩, ⟨ra_ HO_14.out⟩, ⟨bk_ BK198.out⟩, ⟨by repeat (first | (with_reducible first | exact HK.out | apply Kept.alloc | apply Kept.drewN | apply Kept.drew | refine Kept.setCell ?_ (.inr GW198.out) _) | exact HK.out)⟩, ⟨bw_ HB.out⟩⟩
    ·rw [if_neg c12] at H
     have c12b0 : decide (x16_1 < (l0.length : Int)) = false := decide_eq_false c12
     clear c12
     obtain rfl := Option.some.inj H
     go_wp2
     go_ret
     exact ⟨_, by first | rfl | (simp [errW_none, errW_some] <;> rfl) | (simp [*, errW_none, errW_some] <;> rfl), ra_ (Kd.R_mono HO_5.out (fun _ hk => hk.1)), bw_ HB.out, by repeat (first | (with_reducible first | exact HK.out | apply Kept.alloc | apply Kept.drewN | apply Kept.drew | refine Kept.setCell ?_ (.inr GW198.out) _) | exact HK.out)⟩

/-! ### spec_l14In: function 75 -/
def spec_l14In.l0 : Nat → Int → List Int → Int → Int → Option (Bool)
 | 0, _, _, _, _ => none
 | k + 1, x1, x7, x8, x9 => if x9 < x8 then (if 0 ≤ x9 then (if x9 < (x7.length : Int) then (if (rd x7 x9) = x1 then (some true) else (spec_l14In.l0 k x1 x7 x8 (wrap64 (x9 + 1)))) else (none)) else (none)) else (some false)
def spec_l14In.f (k : Nat) (l0 : List Int) (a1 : Int) : Option (Bool) := spec_l14In.l0 k a1 l0 (l0.length : Int) 0
theorem spec_l14In.mono_l : ∀ k, (∀ y0 y1 y2 y3, LeO (spec_l14In.l0 k y0 y1 y2 y3) (spec_l14In.l0 (k + 1) y0 y1 y2 y3))
 | 0 => fun _ _ _ _ r h => by simp [spec_l14In.l0] at h
 | k + 1 => by
  have ih0 := spec_l14In.mono_l k
  ·intro y0 y1 y2 y3
   unfold spec_l14In.l0
   repeat' first
   | (with_reducible exact ih0 _ _ _ _)
   | (with_reducible exact LeO.refl _)
   | (with_reducible exact LeO.none _)
   | (with_reducible refine LeO.ite ?_ ?_)
   | (with_reducible refine LeO.bind ?_ (fun _ => ?_))
   | exact ih0 _ _ _ _
   | exact LeO.none _
   | refine LeO.ite ?_ ?_
   | refine LeO.bind ?_ (fun _ => ?_)
theorem spec_l14In.mono : ∀ a0 a1 k, LeO (spec_l14In.f k a0 a1) (spec_l14In.f (k + 1) a0 a1) := by
 intro a0 a1 k
 have ih0 := spec_l14In.mono_l k
 unfold spec_l14In.f
 repeat' first
   | (with_reducible exact ih0 _ _ _ _)
   | (with_reducible exact LeO.refl _)
   | (with_reducible exact LeO.none _)
   | (with_reducible refine LeO.ite ?_ ?_)
   | (with_reducible refine LeO.bind ?_ (fun _ => ?_))
   | exact ih0 _ _ _ _
   | exact LeO.none _
   | refine LeO.ite ?_ ?_
   | refine LeO.bind ?_ (fun _ => ?_)
set_option maxHeartbeats 8000000 in
set_option maxRecDepth 100000 in
theorem spec_l14In.calls (k : Nat) (A0 : Option Addr) (c0 : Nat) (l0 : List Int) (a1 : Int) (r : Bool) (w : World) (hr0 : Kd.C (Kd.int .i64) w A0 l0.length l0) (hc0 : l0.length ≤ c0) (h : spec_l14In.f k l0 a1 = some r) :
  Calls Try.prog 75 #[.slice A0 l0.length c0, .int .i64 a1] w fun e w' => e = .returned (.bool r) ∧ Drawn0 w w' := by
 have HR0 := am_ hr0
 have HC0 := am_ hc0
 clear hr0 hc0
 have H : (spec_l14In.l0 k a1 l0 (l0.length : Int) 0) = some r := h
 clear h
 have H' := am_ H
 clear H
 go_enter Try.func75, Try.ntmps75
 go_wp2
 go_loopg [9] k (fun kq v9 w' => ∃ (x9_1 : Int), v9 = .int .i64 x9_1 ∧ Aside0 (spec_l14In.l0 kq a1 l0 (l0.length : Int) x9_1 = some r) ∧ Aside0 (kq ≤ k) ∧ Drawn0 w w')
 case atStart => exact ⟨(0), sq_, H', ⟨Nat.le_refl _⟩, by repeat (first | exact Drawn0.refl _ | apply Drawn0.step)⟩
 case round =>
  clear H'
  obtain ⟨x9_1, rfl, HA, HK1, ⟨m1, rfl⟩⟩ := hrel
  cases gk with
  | zero => exact absurd HA.out (by simp [spec_l14In.l0])
  | succ k1 =>
   have H := HA.out
   clear HA
   simp only [spec_l14In.l0] at H
   by_cases c3 : x9_1 < (l0.length : Int)
   ·rw [if_pos c3] at H
    have c3b0 : decide (x9_1 < (l0.length : Int)) = true := decide_eq_true c3
    clear c3
    obtain ⟨c4, H⟩ := ifn_ H
    have c4b0 : decide (0 ≤ x9_1) = true := decide_eq_true c4
    clear c4
    obtain ⟨c5, H⟩ := ifn_ H
    have c5b0 : decide (x9_1 < (l0.length : Int)) = true := decide_eq_true c5
    clear c5
    by_cases c6 : (rd l0 x9_1) = a1
    ·rw [if_pos c6] at H
     have c6b0 : ((rd l0 x9_1) == a1) = true := beq_iff_eq.mpr c6
     have c6b1 : ((rd l0 x9_1) != a1) = false := bne_eq_false_iff_eq.mpr c6
     clear c6
     obtain rfl := Option.some.inj H
     have p206 : 0 ≤ (x9_1 : Int) := od_
     have q206 : x9_1 < (l0.length : Int) := od_
     obtain ⟨ad206, e206, hx206_0⟩ := Kd.at_int HR0.out x9_1 p206 q206
     cases e206
     replace p206 := eq_true p206
     replace q206 := eq_true q206
     go_wp2
     go_ret
     exact ⟨by first | rfl | (simp; done) | (simp [*]; done), by repeat (first | exact Drawn0.refl _ | apply Drawn0.step)⟩
    ·rw [if_neg c6] at H
     have c6b0 : ((rd l0 x9_1) == a1) = false := beq_eq_false_iff_ne.mpr c6
     have c6b1 : ((rd l0 x9_1) != a1) = true := bne_iff_ne.mpr c6
     have H' := am_ H
     clear H
     have p206 : 0 ≤ (x9_1 : Int) := od_
     have q206 : x9_1 < (l0.length : Int) := od_
     obtain ⟨ad206, e206, hx206_0⟩ := Kd.at_int HR0.out x9_1 p206 q206
     cases e206
     replace p206 := eq_true p206
     replace q206 := eq_true q206
     go_wp2
     go_roundg k1
     case measure => have := HK1.out; omega
     case rel => exact ⟨(wrap64 (x9_1 + 1)), sq_, H', ⟨by have := HK1.out; omega⟩, by repeat (first | exact Drawn0.refl _ | apply Drawn0.step)⟩
   ·rw [if_neg c3] at H
    have c3b0 : decide (x9_1 < (l0.length : Int)) = false := decide_eq_false c3
    clear c3
    obtain rfl := Option.some.inj H
    go_wp2
    go_ret
    exact ⟨by first | rfl | (simp; done) | (simp [*]; done), by repeat (first | exact Drawn0.refl _ | apply Drawn0.step)⟩

/-! ### spec_l17All: function 63 -/
def spec_l17All.l0 : Nat → List Int → List Int → Int → Int → Option (Bool)
 | 0, _, _, _, _ => none
 | k + 1, x1, x7, x8, x9 => if x9 < x8 then (if 0 ≤ x9 then (if x9 < (x7.length : Int) then ((spec_l14In.f k x1 (rd x7 x9)).bind fun t208 => (if t208 = true then (spec_l17All.l0 k x1 x7 x8 (wrap64 (x9 + 1))) else (some false))) else (none)) else (none)) else (some true)
def spec_l17All.f (k : Nat) (l0 : List Int) (l1 : List Int) : Option (Bool) := spec_l17All.l0 k l1 l0 (l0.length : Int) 0
theorem spec_l17All.mono_l : ∀ k, (∀ y0 y1 y2 y3, LeO (spec_l17All.l0 k y0 y1 y2 y3) (spec_l17All.l0 (k + 1) y0 y1 y2 y3))
 | 0 => fun _ _ _ _ r h => by simp [spec_l17All.l0] at h
 | k + 1 => by
  have ih0 := spec_l17All.mono_l k
  ·intro y0 y1 y2 y3
   unfold spec_l17All.l0
   repeat' first
   | (with_reducible exact ih0 _ _ _ _)
   | (with_reducible exact spec_l14In.mono _ _ _)
   | (with_reducible exact LeO.refl _)
   | (with_reducible exact LeO.none _)
   | (with_reducible refine LeO.ite ?_ ?_)
   | (with_reducible refine LeO.bind ?_ (fun _ => ?_))
   | exact ih0 _ _ _ _
   | exact spec_l14In.mono _ _ _
   | exact LeO.none _
   | refine LeO.ite ?_ ?_
   | refine LeO.bind ?_ (fun _ => ?_)
theorem spec_l17All.mono : ∀ a0 a1 k, LeO (spec_l17All.f k a0 a1) (spec_l17All.f (k + 1) a0 a1) := by
 intro a0 a1 k
 have ih0 := spec_l17All.mono_l k
 unfold spec_l17All.f
 repeat' first
   | (with_reducible exact ih0 _ _ _ _)
   | (with_reducible exact spec_l14In.mono _ _ _)
   | (with_reducible exact LeO.refl _)
   | (with_reducible exact LeO.none _)
   | (with_reducible refine LeO.ite ?_ ?_)
   | (with_reducible refine LeO.bind ?_ (fun _ => ?_))
   | exact ih0 _ _ _ _
   | exact spec_l14In.mono _ _ _
   | exact LeO.none _
   | refine LeO.ite ?_ ?_
   | refine LeO.bind ?_ (fun _ => ?_)
set_option maxHeartbeats 8000000 in
set_option maxRecDepth 100000 in
theorem spec_l17All.calls (k : Nat) (A0 : Option Addr) (c0 : Nat) (l0 : List Int) (A1 : Option Addr) (c1 : Nat) (l1 : List Int) (r : Bool) (w : World) (hr0 : Kd.C (Kd.int .i64) w A0 l0.length l0) (hc0 : l0.length ≤ c0) (hr1 : Kd.C (Kd.int .i64) w A1 l1.length l1) (hc1 : l1.length ≤ c1) (h : spec_l17All.f k l0 l1 = some r) :
  Calls Try.prog 63 #[.slice A0 l0.length c0, .slice A1 l1.length c1] w fun e w' => e = .returned (.bool r) ∧ Drawn0 w w' := by
 have HR0 := am_ hr0
 have HC0 := am_ hc0
 clear hr0 hc0
 have HR1 := am_ hr1
 have HC1 := am_ hc1
 clear hr1 hc1
 have H : (spec_l17All.l0 k l1 l0 (l0.length : Int) 0) = some r := h
 clear h
 have H' := am_ H
 clear H
 go_enter Try.func63, Try.ntmps63
 go_wp2
 go_loopg [9] k (fun kq v9 w' => ∃ (x9_1 : Int), v9 = .int .i64 x9_1 ∧ Aside0 (spec_l17All.l0 kq l1 l0 (l0.length : Int) x9_1 = some r) ∧ Aside0 (kq ≤ k) ∧ Drawn0 w w')
 case atStart => exact ⟨(0), sq_, H', ⟨Nat.le_refl _⟩, by repeat (first | exact Drawn0.refl _ | apply Drawn0.step)⟩
 case round =>
  clear H'
  try clear c1
  obtain ⟨x9_1, rfl, HA, HK1, ⟨m1, rfl⟩⟩ := hrel
  cases gk with
  | zero => exact absurd HA.out (by simp [spec_l17All.l0])
  | succ k1 =>
   have H := HA.out
   clear HA
   simp only [spec_l17All.l0] at H
   by_cases c3 : x9_1 < (l0.length : Int)
   ·rw [if_pos c3] at H
    have c3b0 : decide (x9_1 < (l0.length : Int)) = true := decide_eq_true c3
    clear c3
    obtain ⟨c4, H⟩ := ifn_ H
    have c4b0 : decide (0 ≤ x9_1) = true := decide_eq_true c4
    clear c4
    obtain ⟨c5, H⟩ := ifn_ H
    have c5b0 : decide (x9_1 < (l0.length : Int)) = true := decide_eq_true c5
    clear c5
    obtain ⟨t208, A60, H⟩ := bE_ H
    have A6 := am_ A60
    clear A60
    by_cases c7 : t208 = true
    ·subst c7
     replace H := it_ H rfl
     have H' := am_ H
     clear H
     have p207 : 0 ≤ (x9_1 : Int) := od_
     have q207 : x9_1 < (l0.length : Int) := od_
     obtain ⟨ad207, e207, hx207_0⟩ := Kd.at_int HR0.out x9_1 p207 q207
     cases e207
     replace p207 := eq_true p207
     replace q207 := eq_true q207
     go_wp2_with (first | ((with_reducible refine gate_callee (f := 75) rfl ?_); refine goesL_ (some 15) rfl rfl Try.func75 (by kernel_rfl) rfl #[.slice A1 l1.length c1, .int .i64 (rd l0 x9_1)] rfl (by (try simp only [List.map_toArray, List.map_cons, List.map_nil]); first | done | rfl | (simp only [List.length_drop, List.length_take]; rfl)) ?_; (with_reducible refine (spec_l14In.calls k1 _ _ l1 (rd l0 x9_1) true _ ?side1 ?side2 A6.out).mono ?_); (case side1 => repeat (first | exact HR1.out | (with_reducible refine Kd.C_alloc ?_ _) | (with_reducible refine Kd.C_drewN ?_ _) | (with_reducible refine Kd.C_drew ?_))); (case side2 => exact HC1.out); rintro e w' ⟨rfl, ⟨nd, rfl⟩⟩; refine ⟨_, rfl, ?_⟩))
     go_roundg k1
     case measure => have := HK1.out; omega
     case rel => exact ⟨(wrap64 (x9_1 + 1)), sq_, H', ⟨by have := HK1.out; omega⟩, by repeat (first | exact Drawn0.refl _ | apply Drawn0.step)⟩
    ·replace c7 := Bool.eq_false_iff.mpr c7
     subst c7
     replace H := if_ H Bool.false_ne_true
     obtain rfl := Option.some.inj H
     have p207 : 0 ≤ (x9_1 : Int) := od_
     have q207 : x9_1 < (l0.length : Int) := od_
     obtain ⟨ad207, e207, hx207_0⟩ := Kd.at_int HR0.out x9_1 p207 q207
     cases e207
     replace p207 := eq_true p207
     replace q207 := eq_true q207
     go_wp2_with (first | ((with_reducible refine gate_callee (f := 75) rfl ?_); refine goesL_ (some 15) rfl rfl Try.func75 (by kernel_rfl) rfl #[.slice A1 l1.length c1, .int .i64 (rd l0 x9_1)] rfl (by (try simp only [List.map_toArray, List.map_cons, List.map_nil]); first | done | rfl | (simp only [List.length_drop, List.length_take]; rfl)) ?_; (with_reducible refine (spec_l14In.calls k1 _ _ l1 (rd l0 x9_1) false _ ?side1 ?side2 A6.out).mono ?_); (case side1 => repeat (first | exact HR1.out | (with_reducible refine Kd.C_alloc ?_ _) | (with_reducible refine Kd.C_drewN ?_ _) | (with_reducible refine Kd.C_drew ?_))); (case side2 => exact HC1.out); rintro e w' ⟨rfl, ⟨nd, rfl⟩⟩; refine ⟨_, rfl, ?_⟩))
     go_ret
     exact ⟨by first | rfl | (simp; done) | (simp [*]; done), by repeat (first | exact Drawn0.refl _ | apply Drawn0.step)⟩
   ·rw [if_neg c3] at H
    have c3b0 : decide (x9_1 < (l0.length : Int)) = false := decide_eq_false c3
    clear c3
    obtain rfl := Option.some.inj H
    go_wp2
    go_ret
    exact ⟨by first | rfl | (simp; done) | (simp [*]; done), by repeat (first | exact Drawn0.refl _ | apply Drawn0.step)⟩

end Go.Proofs.Ytfgdfnnddoncjaa.XFnExactMeantBy
