/- What the Go functions that this law comes to compute, each walked; written by a program of this session. -/
import Derived.Test.YtbnbgmpkemlfbaaXShort
import Derived.Test.YtbnbgmpkemlfbaaXMark
import Derived.Test.YtbnbgmpkemlfbaaXFnExactMixVoicesx0
import Derived.Test.YtbnbgmpkemlfbaaXFnExactMixVoicesx3
import Derived.Test.YtbnbgmpkemlfbaaXFnExactMixVoicesx4
import Derived.Test.YtbnbgmpkemlfbaaXFnExactMixVoicesx5
namespace Go.Proofs.Ytbnbgmpkemlfbaa.XFnExactMixVoices
open Go.RowKit Go.Proofs.YtbnbgmpkemlfbaaW.PrintWords Go.Proofs.YtbnbgmpkemlfbaaW.PrintLast Go.Proofs.YtbnbgmpkemlfbaaW.PrintMore
attribute [local go_sem] str_geq max2_int min2_int max_two min_two max_three min_three max_four min_four   -- for this text's walks alone
set_option linter.unusedVariables false
set_option linter.unusedSimpArgs false

theorem ldr_ {P : Program} {ops : Array Oper} {rest : List Oper} {o : Oper} {a : Act} {w : World} {Q : Exit → Act → World → Prop} {d : TypeDesc} {z : Option Value} {n b : Nat} (ty : TypeId) (N : Nat) (x : Operand) (g : Nat) (cs : Array Value) (hg : w.heap[g]? = some (.cells cs ty (0, 0))) (hu : P.underlying ty = some d) (hi : (P.info? ty).map (fun i => (i.zero, i.size, i.bytes)) = some (z, n, b))
    (h : wpList P ops Q rest (a.put (some N) (.agg cs)) w) (hn : cs.size = n := by rfl) (hd : (match d with | .struct _ | .array _ _ => true | _ => false) = true := by rfl) (hx : a.eval x = .pointer (some ⟨g, 0, none⟩) := by rfl) (hgd : o.guard = none := by rfl) (hN : o.dst = some N := by rfl) (ho : o.op = .load ty x := by rfl) : wpList P ops Q (o :: rest) a w := by
  refine wpList_load_row hgd ty x ho g hx ty cs (0, 0) d hg hu hd ?_ (hN ▸ h)
  cases hq : P.info? ty with
  | none => rw [hq] at hi; cases hi
  | some i =>
    rw [hq, Option.map_some, Option.some.injEq, Prod.mk.injEq, Prod.mk.injEq] at hi
    rw [Option.map_some, hi.2.1, hn]
/-! ### spec_MixVoices: function 16 -/
mutual
def spec_MixVoices.j0 : Nat → List (S32) → Int → Bool → Option (List Int × List Int × (List (S32)) × Bool)
 | 0, _, _, _ => none
 | k + 1, x0, x1, x23 => if x23 = true then (some (([] : List Int), ([] : List Int), ([] : List (S32)), false)) else (spec_MixVoices.l0 k x1 ([] : List (S32)) x0 (x0.length : Int) 0)
def spec_MixVoices.l0 : Nat → Int → List (S32) → List (S32) → Int → Int → Option (List Int × List Int × (List (S32)) × Bool)
 | 0, _, _, _, _, _ => none
 | k + 1, x1, x7, x25, x26, x27 => if x27 < x26 then (if 0 ≤ x27 then (if x27 < (x25.length : Int) then ((spec_l15Own.f ((rd_T32 x25 x27).f0) ((rd_T32 x25 x27).f1) ((rd_T32 x25 x27).f2) ((rd_T32 x25 x27).f3) ((rd_T32 x25 x27).f4) ((rd_T32 x25 x27).f5)).bind fun bt200 => (if x7.length < 2199023255552 then (spec_MixVoices.l0 k x1 (x7 ++ [(⟨bt200.1, bt200.2.1, bt200.2.2.1, bt200.2.2.2.1, bt200.2.2.2.2.1, bt200.2.2.2.2.2⟩ : S32)]) x25 x26 (wrap64 (x27 + 1))) else (none))) else (none)) else (none)) else (spec_MixVoices.l1 k x1 x7 ([] : List Int) ([] : List Int))
def spec_MixVoices.l1 : Nat → Int → List (S32) → List Int → List Int → Option (List Int × List Int × (List (S32)) × Bool)
 | 0, _, _, _, _ => none
 | k + 1, x1, x7, x212000, x212001 => if x1 > 0 then (spec_MixVoices.l2 k x1 0 0 ([] : List (S32)) x7 (x7.length : Int) 0 x212000 x212001) else (some (x212000, x212001, x7, true))
def spec_MixVoices.l2 : Nat → Int → Int → Int → List (S32) → List (S32) → Int → Int → List Int → List Int → Option (List Int × List Int × (List (S32)) × Bool)
 | 0, _, _, _, _, _, _, _, _, _ => none
 | k + 1, x1, x11, x12, x13, x42, x43, x44, x212000, x212001 => if x44 < x43 then (if 0 ≤ x44 then (if x44 < (x42.length : Int) then (if 0 ≤ ((rd_T32 x42 x44).f1) then (if ((rd_T32 x42 x44).f1) < (((rd_T32 x42 x44).f0).length : Int) then ((spec_FixMul.f k (rd ((rd_T32 x42 x44).f0) ((rd_T32 x42 x44).f1)) ((rd_T32 x42 x44).f3)).bind fun t223 => ((spec_FixMul.f k (rd ((rd_T32 x42 x44).f0) ((rd_T32 x42 x44).f1)) ((rd_T32 x42 x44).f4)).bind fun t225 => (if (wrap64 (((rd_T32 x42 x44).f1) + 1)) = (((rd_T32 x42 x44).f0).length : Int) then (if ((rd_T32 x42 x44).f2 = true) then (if x13.length < 2199023255552 then (spec_MixVoices.l2 k x1 (wrap64 (x11 + t223)) (wrap64 (x12 + t225)) (x13 ++ [(⟨(rd_T32 x42 x44).f0, 0, (rd_T32 x42 x44).f2, (rd_T32 x42 x44).f3, (rd_T32 x42 x44).f4, (rd_T32 x42 x44).f5⟩ : S32)]) x42 x43 (wrap64 (x44 + 1)) x212000 x212001) else (none)) else (spec_MixVoices.l2 k x1 (wrap64 (x11 + t223)) (wrap64 (x12 + t225)) x13 x42 x43 (wrap64 (x44 + 1)) x212000 x212001)) else (if x13.length < 2199023255552 then (spec_MixVoices.l2 k x1 (wrap64 (x11 + t223)) (wrap64 (x12 + t225)) (x13 ++ [(⟨(rd_T32 x42 x44).f0, wrap64 (((rd_T32 x42 x44).f1) + 1), (rd_T32 x42 x44).f2, (rd_T32 x42 x44).f3, (rd_T32 x42 x44).f4, (rd_T32 x42 x44).f5⟩ : S32)]) x42 x43 (wrap64 (x44 + 1)) x212000 x212001) else (none))))) else (none)) else (none)) else (none)) else (none)) else ((spec_l15Cut.f x11).bind fun t212 => (if x212000.length < 17592186044416 then ((spec_l15Cut.f x12).bind fun t216 => (if x212001.length < 17592186044416 then (spec_MixVoices.l1 k (wrap64 (x1 - 1)) x13 (x212000 ++ [t212]) (x212001 ++ [t216])) else (none))) else (none)))
end
def spec_MixVoices.f (k : Nat) (l0 : List (S32)) (a1 : Int) : Option (List Int × List Int × (List (S32)) × Bool) := (spec_l15Voices.f k l0).bind fun t196 => (if t196 = true then ((spec_l1In.f a1 0 200).bind fun t197 => (spec_MixVoices.j0 k l0 a1 (!t197))) else (spec_MixVoices.j0 k l0 a1 true))
theorem spec_MixVoices.mono_l : ∀ k, (∀ y0 y1 y2, LeO (spec_MixVoices.j0 k y0 y1 y2) (spec_MixVoices.j0 (k + 1) y0 y1 y2)) ∧ (∀ y0 y1 y2 y3 y4, LeO (spec_MixVoices.l0 k y0 y1 y2 y3 y4) (spec_MixVoices.l0 (k + 1) y0 y1 y2 y3 y4)) ∧ (∀ y0 y1 y2 y3, LeO (spec_MixVoices.l1 k y0 y1 y2 y3) (spec_MixVoices.l1 (k + 1) y0 y1 y2 y3)) ∧ (∀ y0 y1 y2 y3 y4 y5 y6 y7 y8, LeO (spec_MixVoices.l2 k y0 y1 y2 y3 y4 y5 y6 y7 y8) (spec_MixVoices.l2 (k + 1) y0 y1 y2 y3 y4 y5 y6 y7 y8))
 | 0 => ⟨fun _ _ _ r h => by simp [spec_MixVoices.j0] at h, fun _ _ _ _ _ r h => by simp [spec_MixVoices.l0] at h, fun _ _ _ _ r h => by simp [spec_MixVoices.l1] at h, fun _ _ _ _ _ _ _ _ _ r h => by simp [spec_MixVoices.l2] at h⟩
 | k + 1 => by
  obtain ⟨ih0, ih1, ih2, ih3⟩ := spec_MixVoices.mono_l k
  refine ⟨?_, ?_, ?_, ?_⟩
  ·intro y0 y1 y2
   unfold spec_MixVoices.j0
   repeat' first
   | (with_reducible exact ih0 _ _ _)
   | (with_reducible exact ih1 _ _ _ _ _)
   | (with_reducible exact ih2 _ _ _ _)
   | (with_reducible exact ih3 _ _ _ _ _ _ _ _ _)
   | (with_reducible exact spec_FixMul.mono _ _ _)
   | (with_reducible exact spec_l15Voices.mono _ _)
   | (with_reducible exact LeO.refl _)
   | (with_reducible exact LeO.none _)
   | (with_reducible refine LeO.ite ?_ ?_)
   | (with_reducible refine LeO.bind ?_ (fun _ => ?_))
   | exact ih0 _ _ _
   | exact ih1 _ _ _ _ _
   | exact ih2 _ _ _ _
   | exact ih3 _ _ _ _ _ _ _ _ _
   | exact spec_FixMul.mono _ _ _
   | exact spec_l15Voices.mono _ _
   | exact LeO.none _
   | refine LeO.ite ?_ ?_
   | refine LeO.bind ?_ (fun _ => ?_)
  ·intro y0 y1 y2 y3 y4
   unfold spec_MixVoices.l0
   repeat' first
   | (with_reducible exact ih0 _ _ _)
   | (with_reducible exact ih1 _ _ _ _ _)
   | (with_reducible exact ih2 _ _ _ _)
   | (with_reducible exact ih3 _ _ _ _ _ _ _ _ _)
   | (with_reducible exact spec_FixMul.mono _ _ _)
   | (with_reducible exact spec_l15Voices.mono _ _)
   | (with_reducible exact LeO.refl _)
   | (with_reducible exact LeO.none _)
   | (with_reducible refine LeO.ite ?_ ?_)
   | (with_reducible refine LeO.bind ?_ (fun _ => ?_))
   | exact ih0 _ _ _
   | exact ih1 _ _ _ _ _
   | exact ih2 _ _ _ _
   | exact ih3 _ _ _ _ _ _ _ _ _
   | exact spec_FixMul.mono _ _ _
   | exact spec_l15Voices.mono _ _
   | exact LeO.none _
   | refine LeO.ite ?_ ?_
   | refine LeO.bind ?_ (fun _ => ?_)
  ·intro y0 y1 y2 y3
   unfold spec_MixVoices.l1
   repeat' first
   | (with_reducible exact ih0 _ _ _)
   | (with_reducible exact ih1 _ _ _ _ _)
   | (with_reducible exact ih2 _ _ _ _)
   | (with_reducible exact ih3 _ _ _ _ _ _ _ _ _)
   | (with_reducible exact spec_FixMul.mono _ _ _)
   | (with_reducible exact spec_l15Voices.mono _ _)
   | (with_reducible exact LeO.refl _)
   | (with_reducible exact LeO.none _)
   | (with_reducible refine LeO.ite ?_ ?_)
   | (with_reducible refine LeO.bind ?_ (fun _ => ?_))
   | exact ih0 _ _ _
   | exact ih1 _ _ _ _ _
   | exact ih2 _ _ _ _
   | exact ih3 _ _ _ _ _ _ _ _ _
   | exact spec_FixMul.mono _ _ _
   | exact spec_l15Voices.mono _ _
   | exact LeO.none _
   | refine LeO.ite ?_ ?_
   | refine LeO.bind ?_ (fun _ => ?_)
  ·intro y0 y1 y2 y3 y4 y5 y6 y7 y8
   unfold spec_MixVoices.l2
   repeat' first
   | (with_reducible exact ih0 _ _ _)
   | (with_reducible exact ih1 _ _ _ _ _)
   | (with_reducible exact ih2 _ _ _ _)
   | (with_reducible exact ih3 _ _ _ _ _ _ _ _ _)
   | (with_reducible exact spec_FixMul.mono _ _ _)
   | (with_reducible exact spec_l15Voices.mono _ _)
   | (with_reducible exact LeO.refl _)
   | (with_reducible exact LeO.none _)
   | (with_reducible refine LeO.ite ?_ ?_)
   | (with_reducible refine LeO.bind ?_ (fun _ => ?_))
   | exact ih0 _ _ _
   | exact ih1 _ _ _ _ _
   | exact ih2 _ _ _ _
   | exact ih3 _ _ _ _ _ _ _ _ _
   | exact spec_FixMul.mono _ _ _
   | exact spec_l15Voices.mono _ _
   | exact LeO.none _
   | refine LeO.ite ?_ ?_
   | refine LeO.bind ?_ (fun _ => ?_)
theorem spec_MixVoices.mono : ∀ a0 a1 k, LeO (spec_MixVoices.f k a0 a1) (spec_MixVoices.f (k + 1) a0 a1) := by
 intro a0 a1 k
 obtain ⟨ih0, ih1, ih2, ih3⟩ := spec_MixVoices.mono_l k
 unfold spec_MixVoices.f
 repeat' first
   | (with_reducible exact ih0 _ _ _)
   | (with_reducible exact ih1 _ _ _ _ _)
   | (with_reducible exact ih2 _ _ _ _)
   | (with_reducible exact ih3 _ _ _ _ _ _ _ _ _)
   | (with_reducible exact spec_FixMul.mono _ _ _)
   | (with_reducible exact spec_l15Voices.mono _ _)
   | (with_reducible exact LeO.refl _)
   | (with_reducible exact LeO.none _)
   | (with_reducible refine LeO.ite ?_ ?_)
   | (with_reducible refine LeO.bind ?_ (fun _ => ?_))
   | exact ih0 _ _ _
   | exact ih1 _ _ _ _ _
   | exact ih2 _ _ _ _
   | exact ih3 _ _ _ _ _ _ _ _ _
   | exact spec_FixMul.mono _ _ _
   | exact spec_l15Voices.mono _ _
   | exact LeO.none _
   | refine LeO.ite ?_ ?_
   | refine LeO.bind ?_ (fun _ => ?_)
def spec_MixVoices.T18 : Bool × List (List Nat × List Nat) := (true, [([], []), ([], []), ([1], [1]), ([], []), ([3], [3]), ([2, 4], [2, 4]), ([5], [5]), ([], []), ([7], [7]), ([6, 8], [6, 8]), ([0, 9], [0, 9]), ([10, 9, 0, 1, 2, 3, 4, 5, 6, 7, 8, 9, 10], [0, 10])])
def spec_MixVoices.B18 : List Nat := [0, 0, 2, 0, 8, 30, 62, 0, 128, 510, 1023, 2047]
theorem spec_MixVoices.tab18 : rtab .any (opsOf Try.f16 18) = spec_MixVoices.T18 := by kernel_rfl
theorem spec_MixVoices.bits18 : waitsOk spec_MixVoices.T18.2 spec_MixVoices.B18 = true := by kernel_rfl
def spec_MixVoices.T19 : Bool × List (List Nat × List Nat) := (true, [([], []), ([], []), ([1], [1]), ([], []), ([3], [3]), ([2, 4], [2, 4]), ([5], [5]), ([], []), ([7], [7]), ([6, 8], [6, 8]), ([0, 9], [0, 9]), ([10, 9, 0, 1, 2, 3, 4, 5, 6, 7, 8, 9, 10], [0, 10])])
def spec_MixVoices.B19 : List Nat := [0, 0, 2, 0, 8, 30, 62, 0, 128, 510, 1023, 2047]
theorem spec_MixVoices.tab19 : rtab .any (opsOf Try.f16 19) = spec_MixVoices.T19 := by kernel_rfl
theorem spec_MixVoices.bits19 : waitsOk spec_MixVoices.T19.2 spec_MixVoices.B19 = true := by kernel_rfl
def spec_MixVoices.T27 : Bool × List (List Nat × List Nat) := (true, [([], []), ([0], [0]), ([], []), ([2], [2]), ([3], [3]), ([1, 4, 3], [1, 4]), ([0, 1, 2, 3, 4, 5], []), ([6, 5, 5, 0, 1, 2, 3, 4, 5], [5, 6])])
def spec_MixVoices.B27 : List Nat := [0, 1, 0, 4, 12, 31, 63, 127]
theorem spec_MixVoices.tab27 : rtab .any (opsOf Try.f16 27) = spec_MixVoices.T27 := by kernel_rfl
theorem spec_MixVoices.bits27 : waitsOk spec_MixVoices.T27.2 spec_MixVoices.B27 = true := by kernel_rfl
def spec_MixVoices.T28 : Bool × List (List Nat × List Nat) := (true, [([], []), ([0], [0]), ([], []), ([2], [2]), ([3], [3]), ([1, 4, 3], [1, 4]), ([0, 1, 2, 3, 4, 5], []), ([6, 5, 5, 0, 1, 2, 3, 4, 5], [5, 6])])
def spec_MixVoices.B28 : List Nat := [0, 1, 0, 4, 12, 31, 63, 127]
theorem spec_MixVoices.tab28 : rtab .any (opsOf Try.f16 28) = spec_MixVoices.T28 := by kernel_rfl
theorem spec_MixVoices.bits28 : waitsOk spec_MixVoices.T28.2 spec_MixVoices.B28 = true := by kernel_rfl
set_option maxHeartbeats 80000000 in
set_option maxRecDepth 100000 in
theorem spec_MixVoices.calls (k : Nat) (A0 : Option Addr) (c0 : Nat) (l0 : List (S32)) (a1 : Int) (r1 : List Int) (r2 : List Int) (r3 : List (S32)) (r4 : Bool) (w : World) (hr0 : Kd.C k32 w A0 l0.length l0) (hc0 : l0.length ≤ c0) (h : spec_MixVoices.f k l0 a1 = some (r1, r2, r3, r4)) :
  Calls Try.prog 16 #[.slice A0 l0.length c0, .int .i64 a1] w fun e w' => ∃ v0_ v1_ v2_ : Value, e = .returned (.tuple #[.agg #[v0_, v1_], v2_, .bool r4]) ∧ Kd.R (Kd.int .i64) 3 w' w.heap.size (fun k_ => (w.heap.size ≤ k_) ∧ nb k_ v1_) v0_ r1 ∧ Kd.R (Kd.int .i64) 3 w' w.heap.size (fun k_ => (w.heap.size ≤ k_) ∧ nb k_ v0_) v1_ r2 ∧ Kd.N k32 32 w' w.heap.size (fun k_ => (w.heap.size ≤ k_) ∧ nb k_ v0_ ∧ nb k_ v1_) v2_ r3 ∧ Below w.heap.size w w' := by
 have hu40 := Try.underlying40
 have hu32 := Try.underlying32
 have HR0 := am_ hr0
 have HC0 := am_ hc0
 clear hr0 hc0
 have HB := am_ (Below.refl w.heap.size w)
 have H : ((spec_l15Voices.f k l0).bind fun t196 => (if t196 = true then ((spec_l1In.f a1 0 200).bind fun t197 => (spec_MixVoices.j0 k l0 a1 (!t197))) else (spec_MixVoices.j0 k l0 a1 true))) = some (r1, r2, r3, r4) := h
 clear h
 have HC3 := am_ H
 clear H
 go_enter Try.func16, Try.ntmps16
 go_upto_region 1 with (first | ((with_reducible refine gate_dst (N := 4) rfl ?_); refine bx_ 4 #[.slice none 0 0, .slice none 0 0] 40 ?_; intro gb195 hg w4 hbox hb; have n0_ := am_ (below_step (bw_ HB.out) hb); have n1_ := am_ (hbox); have n2_ := am_ (gs_ hg (bw_ HB.out)); have n3_ := am_ (gs_ hg (bw_ HB.out)); replace HB := n0_; have BK195 := n1_; have GW195 := n2_; have GE195 := n3_; clear n0_ n1_ n2_ n3_; clear hb hbox hg))
 (try simp only [Act.put, List.setIfInBounds_toArray, List.set_cons_zero, List.set_cons_succ])
 go_cut [23] (fun v23 wc => ∃ (kq : Nat) (x23_2 : Bool), v23 = .bool x23_2 ∧ Aside0 (spec_MixVoices.j0 kq l0 a1 x23_2 = some (r1, r2, r3, r4)) ∧ Aside0 (kq ≤ k) ∧ Aside0 (wc.heap[gb195]? = some (.cells #[(.slice none 0 0), (.slice none 0 0)] 40 (0, 0))) ∧ Aside0 (Below w.heap.size w wc))
 case first =>
  have H := HC3.out
  clear HC3
  obtain ⟨t196, A50, H⟩ := bE_ H
  have A5 := am_ A50
  clear A50
  by_cases c6 : t196 = true
  ·subst c6
   replace H := it_ H rfl
   obtain ⟨t197, A70, H⟩ := bE_ H
   have A7 := am_ A70
   clear A70
   have H' := am_ H
   clear H
   go_wp2_with (first | ((with_reducible refine gate_callee (f := 22) rfl ?_); refine goesL_ (some 17) rfl rfl Try.func22 (by kernel_rfl) rfl #[.slice A0 l0.length c0] rfl (by (try simp only [List.map_toArray, List.map_cons, List.map_nil]); first | done | rfl | (simp only [List.length_drop, List.length_take]; rfl)) ?_; (with_reducible refine (spec_l15Voices.calls k _ _ l0 true _ ?side1 ?side2 A5.out).mono ?_); (case side1 => repeat (first | exact (Kd.C_below HR0.out HB.out) | (with_reducible refine Kd.C_alloc ?_ _) | (with_reducible refine Kd.C_drewN ?_ _) | (with_reducible refine Kd.C_drew ?_))); (case side2 => exact HC0.out); rintro e w8 ⟨rfl, hb⟩; refine ⟨_, rfl, ?_⟩; have n0_ := am_ (blk_below (bk_ BK195.out) hb); have n1_ := am_ (below_step (bw_ HB.out) hb); replace BK195 := n0_; replace HB := n1_; clear n0_ n1_; (try clear hb); (try clear hb2); (try clear hk); (try clear hi)) | (go_at_call 33; (with_reducible refine (spec_l1In.calls a1 0 200 t197 _ A7.out).mono ?_); rintro e w' ⟨rfl, ⟨nd, rfl⟩⟩))
   go_meet
   case rel => exact ⟨_, (!t197), sq_, H', ⟨by first | omega | exact Nat.le_refl _⟩, ⟨bk_ BK195.out⟩, ⟨bw_ HB.out⟩⟩
  ·replace c6 := Bool.eq_false_iff.mpr c6
   subst c6
   replace H := if_ H Bool.false_ne_true
   have H' := am_ H
   clear H
   go_wp2_with (first | ((with_reducible refine gate_callee (f := 22) rfl ?_); refine goesL_ (some 17) rfl rfl Try.func22 (by kernel_rfl) rfl #[.slice A0 l0.length c0] rfl (by (try simp only [List.map_toArray, List.map_cons, List.map_nil]); first | done | rfl | (simp only [List.length_drop, List.length_take]; rfl)) ?_; (with_reducible refine (spec_l15Voices.calls k _ _ l0 false _ ?side1 ?side2 A5.out).mono ?_); (case side1 => repeat (first | exact (Kd.C_below HR0.out HB.out) | (with_reducible refine Kd.C_alloc ?_ _) | (with_reducible refine Kd.C_drewN ?_ _) | (with_reducible refine Kd.C_drew ?_))); (case side2 => exact HC0.out); rintro e w9 ⟨rfl, hb⟩; refine ⟨_, rfl, ?_⟩; have n0_ := am_ (blk_below (bk_ BK195.out) hb); have n1_ := am_ (below_step (bw_ HB.out) hb); replace BK195 := n0_; replace HB := n1_; clear n0_ n1_; (try clear hb); (try clear hb2); (try clear hk); (try clear hi)))
   go_meet
   case rel => exact ⟨_, (true), sq_, H', ⟨by first | omega | exact Nat.le_refl _⟩, ⟨bk_ BK195.out⟩, ⟨bw_ HB.out⟩⟩
 case rest => as_aux_lemma =>
  clear HC3
  obtain ⟨kq, x23_2, rfl, HA, HJ2, BK195, HB⟩ := hcut
  cases kq with
  | zero => exact absurd HA.out (by simp [spec_MixVoices.j0])
  | succ kj2 =>
   have H := HA.out
   clear HA
   simp only [spec_MixVoices.j0] at H
   by_cases c10 : x23_2 = true
   ·subst c10
    replace H := it_ H rfl
    simp only [Option.some.injEq, Prod.mk.injEq] at H
    obtain ⟨rfl, rfl, rfl, rfl⟩ := H
    have hcz11_0 := cz_ BK195.out 0
    have hcz11_1 := cz_ BK195.out 1
    have hfz11_0 := blk_frozen BK195.out 0
    have hfz11_1 := blk_frozen BK195.out 1
    go_wp2
    refine bodyPost_ret (results_ctt rfl _ _ gb195 40 #[.slice none 0 0, .slice none 0 0] (0, 0) _ rfl (by (with_reducible repeat (first | refine blk_drewN ?_ _ | refine blk_drew ?_ | refine blk_alloc ?_ _)); refine blk_put (cs := #[.slice none 0 0, .slice none 0 0]) ?_ 1 _ rfl; (with_reducible repeat (first | refine blk_drewN ?_ _ | refine blk_drew ?_ | refine blk_alloc ?_ _)); refine blk_put (cs := #[.slice none 0 0, .slice none 0 0]) ?_ 0 _ rfl; (with_reducible repeat (first | refine blk_drewN ?_ _ | refine blk_drew ?_ | refine blk_alloc ?_ _)); exact BK195.out) Try.underlying40 rfl (by kernel_rfl)) rfl ?_
    exact ⟨_, _, _, by first | rfl | (simp [errW_none, errW_some] <;> rfl) | (simp [*, errW_none, errW_some] <;> rfl), by first | exact Kd.R_nil _ _ _ _ _ | exact Kd.N_nil _ _ _ _ _ | exact Kd.V_nil _ _ _ _ _ | exact Kd.Q_nil _ _ _ _ _ | exact Kd.S_nil _ _ _ _ _, by first | exact Kd.R_nil _ _ _ _ _ | exact Kd.N_nil _ _ _ _ _ | exact Kd.V_nil _ _ _ _ _ | exact Kd.Q_nil _ _ _ _ _ | exact Kd.S_nil _ _ _ _ _, by first | exact Kd.S_nil _ _ _ _ _ | exact Kd.N_nil _ _ _ _ _ | exact Kd.V_nil _ _ _ _ _ | exact Kd.Q_nil _ _ _ _ _ | exact Kd.R_nil _ _ _ _ _, bw_ HB.out⟩
   ·as_aux_lemma =>
    replace c10 := Bool.eq_false_iff.mpr c10
    subst c10
    replace H := if_ H Bool.false_ne_true
    have H' := am_ H
    clear H
    go_wp2
    go_loopg [7, 27] kj2 (fun kq v7 v27 w' => ∃ (x7_2 : List (S32)) (x27_2 : Int), v27 = .int .i64 x27_2 ∧ Aside0 (spec_MixVoices.l0 kq a1 x7_2 l0 (l0.length : Int) x27_2 = some (r1, r2, r3, r4)) ∧ Aside0 (kq ≤ kj2) ∧ Aside0 (Kd.N k32 32 w' w.heap.size (fun k_ => (w.heap.size ≤ k_) ∧ k_ ≠ gb195) v7 x7_2) ∧ Aside0 (w'.heap[gb195]? = some (.cells #[(.slice none 0 0), (.slice none 0 0)] 40 (0, 0))) ∧ Aside0 (Below w.heap.size w w'))
    case atStart => exact ⟨(([] : List (S32))), (0), sq_, H', ⟨Nat.le_refl _⟩, ⟨by first | exact Kd.S_nil _ _ _ _ _ | exact Kd.N_nil _ _ _ _ _ | exact Kd.V_nil _ _ _ _ _ | exact Kd.Q_nil _ _ _ _ _ | exact Kd.R_nil _ _ _ _ _⟩, ⟨bk_ BK195.out⟩, ⟨bw_ HB.out⟩⟩
    case round => as_aux_lemma =>
     clear H'
     try clear c10
     obtain ⟨x7_2, x27_2, rfl, HA, HK2, HO_7, BK195, HB⟩ := hrel
     cases gk with
     | zero => exact absurd HA.out (by simp [spec_MixVoices.l0])
     | succ k2 =>
      have H := HA.out
      clear HA
      simp only [spec_MixVoices.l0] at H
      by_cases c12 : x27_2 < (l0.length : Int)
      ·rw [if_pos c12] at H
       have c12b0 : decide (x27_2 < (l0.length : Int)) = true := decide_eq_true c12
       clear c12
       obtain ⟨c13, H⟩ := ifn_ H
       have c13b0 : decide (0 ≤ x27_2) = true := decide_eq_true c13
       clear c13
       obtain ⟨c14, H⟩ := ifn_ H
       have c14b0 : decide (x27_2 < (l0.length : Int)) = true := decide_eq_true c14
       clear c14
       replace H := Option.bind_eq_some_iff.mp H
       obtain ⟨⟨t200, t203, t204, t205, t206, t207⟩, A150, H⟩ := H
       replace H : (if x7_2.length < 2199023255552 then (spec_MixVoices.l0 k2 a1 (x7_2 ++ [(⟨t200, t203, t204, t205, t206, t207⟩ : S32)]) l0 (l0.length : Int) (wrap64 (x27_2 + 1))) else (none)) = some (r1, r2, r3, r4) := H
       have A15 := am_ A150
       clear A150
       obtain ⟨c16, H⟩ := ifn_ H
       have LMc16 := am_ c16
       clear c16
       obtain ⟨y208, hy208⟩ : ∃ y_ : List (S32), y_ = (x7_2 ++ [(⟨t200, t203, t204, t205, t206, t207⟩ : S32)]) := ⟨_, rfl⟩
       replace H : (spec_MixVoices.l0 k2 a1 y208 l0 (l0.length : Int) (wrap64 (x27_2 + 1))) = some (r1, r2, r3, r4) := by first | (rw [hy208]; with_reducible exact H) | (have H2_ := (Option.bind_some _ _).symm.trans H; rw [hy208]; with_reducible exact H2_) | (have H2_ := (Option.bind_some _ _).symm.trans H; with_reducible exact H2_) | with_reducible exact H | (rw [hy208]; exact H) | exact H
       have Ny208 := am_ hy208
       clear hy208
       have H' := am_ H
       clear H
       have p198 : 0 ≤ (x27_2 : Int) := od_
       have q198 : x27_2 < (l0.length : Int) := od_
       obtain ⟨ad198, A198_0, c198_0, e198, hx198_0, hx198_1, hx198_2, hx198_3, hx198_4, hx198_5, hl198_0, hi198_0⟩ := at_T32 HR0.out x27_2 p198 q198
       cases e198
       (try replace hx198_0 := hc_ HB.out hx198_0)
       (try replace hx198_1 := hc_ HB.out hx198_1)
       (try replace hx198_2 := hc_ HB.out hx198_2)
       (try replace hx198_3 := hc_ HB.out hx198_3)
       (try replace hx198_4 := hc_ HB.out hx198_4)
       (try replace hx198_5 := hc_ HB.out hx198_5)
       have HR198_0 := am_ hi198_0
       have HC198_0 := am_ hl198_0
       clear hi198_0 hl198_0
       replace p198 := eq_true p198
       replace q198 := eq_true q198
       go_wp2_with (first | ((with_reducible refine gate_dst (N := 9) rfl ?_); refine bx_ 9 #[.slice none 0 0, .int .i64 0, .bool false, .int .i64 0, .int .i64 0, .int .i64 0] 32 ?_; intro gb199 hg w17 hbox hb; have n0_ := am_ (Kd.N_below (Kd.N_elderB (by (with_reducible repeat (first | apply Kd.N_alloc | apply Kd.N_drewN | apply Kd.N_drew)); exact HO_7.out) gb199 (Nat.le_of_eq hg.symm)) hb); have n1_ := am_ (blk_below (bk_ BK195.out) hb); have n2_ := am_ (below_step (bw_ HB.out) hb); have n3_ := am_ (hbox); have n4_ := am_ (gs_ hg (bw_ HB.out)); have n5_ := am_ (gs_ hg (bw_ HB.out)); have n6_ := am_ (nl_ hg (bk_ BK195.out)); have n7_ := am_ (ng_ hg (bk_ BK195.out)); replace HO_7 := n0_; replace BK195 := n1_; replace HB := n2_; have BK199 := n3_; have GW199 := n4_; have GE199 := n5_; have NB195_199 := n6_; have NB199_195 := n7_; clear n0_ n1_ n2_ n3_ n4_ n5_ n6_ n7_; clear hb hbox hg; have hnb18 := NB199_195.out; have hnc18 := NB195_199.out; have hcz19_0 := cz_ BK199.out 0; have hcz19_1 := cz_ BK199.out 1; have hcz19_2 := cz_ BK199.out 2; have hcz19_3 := cz_ BK199.out 3; have hcz19_4 := cz_ BK199.out 4; have hcz19_5 := cz_ BK199.out 5; have hfz19_0 := blk_frozen BK199.out 0; have hfz19_1 := blk_frozen BK199.out 1; have hfz19_2 := blk_frozen BK199.out 2; have hfz19_3 := blk_frozen BK199.out 3; have hfz19_4 := blk_frozen BK199.out 4; have hfz19_5 := blk_frozen BK199.out 5) | ((with_reducible refine gate_dst (N := 32) rfl ?_); refine ldr_ 32 32 (.tmp 9) gb199 #[.slice A198_0 ((rd_T32 l0 x27_2).f0).length c198_0, .int .i64 ((rd_T32 l0 x27_2).f1), .bool ((rd_T32 l0 x27_2).f2), .int .i64 ((rd_T32 l0 x27_2).f3), .int .i64 ((rd_T32 l0 x27_2).f4), .int .i64 ((rd_T32 l0 x27_2).f5)] (by (with_reducible repeat (first | refine blk_drewN ?_ _ | refine blk_drew ?_ | refine blk_alloc ?_ _)); refine blk_put (cs := #[.slice A198_0 ((rd_T32 l0 x27_2).f0).length c198_0, .int .i64 ((rd_T32 l0 x27_2).f1), .bool ((rd_T32 l0 x27_2).f2), .int .i64 ((rd_T32 l0 x27_2).f3), .int .i64 ((rd_T32 l0 x27_2).f4), .int .i64 0]) ?_ 5 _ rfl; (with_reducible repeat (first | refine blk_drewN ?_ _ | refine blk_drew ?_ | refine blk_alloc ?_ _)); refine blk_put (cs := #[.slice A198_0 ((rd_T32 l0 x27_2).f0).length c198_0, .int .i64 ((rd_T32 l0 x27_2).f1), .bool ((rd_T32 l0 x27_2).f2), .int .i64 ((rd_T32 l0 x27_2).f3), .int .i64 0, .int .i64 0]) ?_ 4 _ rfl; (with_reducible repeat (first | refine blk_drewN ?_ _ | refine blk_drew ?_ | refine blk_alloc ?_ _)); refine blk_put (cs := #[.slice A198_0 ((rd_T32 l0 x27_2).f0).length c198_0, .int .i64 ((rd_T32 l0 x27_2).f1), .bool ((rd_T32 l0 x27_2).f2), .int .i64 0, .int .i64 0, .int .i64 0]) ?_ 3 _ rfl; (with_reducible repeat (first | refine blk_drewN ?_ _ | refine blk_drew ?_ | refine blk_alloc ?_ _)); refine blk_put (cs := #[.slice A198_0 ((rd_T32 l0 x27_2).f0).length c198_0, .int .i64 ((rd_T32 l0 x27_2).f1), .bool false, .int .i64 0, .int .i64 0, .int .i64 0]) ?_ 2 _ rfl; (with_reducible repeat (first | refine blk_drewN ?_ _ | refine blk_drew ?_ | refine blk_alloc ?_ _)); refine blk_put (cs := #[.slice A198_0 ((rd_T32 l0 x27_2).f0).length c198_0, .int .i64 0, .bool false, .int .i64 0, .int .i64 0, .int .i64 0]) ?_ 1 _ rfl; (with_reducible repeat (first | refine blk_drewN ?_ _ | refine blk_drew ?_ | refine blk_alloc ?_ _)); refine blk_put (cs := #[.slice none 0 0, .int .i64 0, .bool false, .int .i64 0, .int .i64 0, .int .i64 0]) ?_ 0 _ rfl; (with_reducible repeat (first | refine blk_drewN ?_ _ | refine blk_drew ?_ | refine blk_alloc ?_ _)); exact BK199.out) Try.underlying32 info32 ?_) | ((with_reducible refine gate_callee (f := 24) rfl ?_); refine goesL_ (some 33) rfl rfl Try.func24 (by kernel_rfl) rfl #[.agg #[.slice A198_0 ((rd_T32 l0 x27_2).f0).length c198_0, .int .i64 ((rd_T32 l0 x27_2).f1), .bool ((rd_T32 l0 x27_2).f2), .int .i64 ((rd_T32 l0 x27_2).f3), .int .i64 ((rd_T32 l0 x27_2).f4), .int .i64 ((rd_T32 l0 x27_2).f5)]] rfl (by (try simp only [List.map_toArray, List.map_cons, List.map_nil]); first | done | rfl | (simp only [List.length_drop, List.length_take]; rfl)) ?_; (with_reducible refine (spec_l15Own.calls _ _ ((rd_T32 l0 x27_2).f0) ((rd_T32 l0 x27_2).f1) ((rd_T32 l0 x27_2).f2) ((rd_T32 l0 x27_2).f3) ((rd_T32 l0 x27_2).f4) ((rd_T32 l0 x27_2).f5) t200 t203 t204 t205 t206 t207 _ ?side1 ?side2 A15.out).mono ?_); (case side1 => exact Kd.C_below HR198_0.out (bw_ HB.out)); (case side2 => exact HC198_0.out); rintro e w20 ⟨v201, rfl, ho0, hb⟩; refine ⟨_, rfl, ?_⟩; have n0_ := am_ (Kd.N_elder' (by (with_reducible repeat (first | apply Kd.N_alloc | apply Kd.N_drewN | apply Kd.N_drew)); exact (Kd.N_mono (Kd.N_far (p := ⟨gb199, 5, none⟩) (Kd.N_far (p := ⟨gb199, 4, none⟩) (Kd.N_far (p := ⟨gb199, 3, none⟩) (Kd.N_far (p := ⟨gb199, 2, none⟩) (Kd.N_far (p := ⟨gb199, 1, none⟩) (Kd.N_far (p := ⟨gb199, 0, none⟩) (Kd.N_mono HO_7.out (fun k_ hk => (⟨hk, hk.2⟩ : _ ∧ k_ ≠ gb199))) (fun _ hk => hk.2) (.slice A198_0 ((rd_T32 l0 x27_2).f0).length c198_0)) (fun _ hk => hk.2) (.int .i64 ((rd_T32 l0 x27_2).f1))) (fun _ hk => hk.2) (.bool ((rd_T32 l0 x27_2).f2))) (fun _ hk => hk.2) (.int .i64 ((rd_T32 l0 x27_2).f3))) (fun _ hk => hk.2) (.int .i64 ((rd_T32 l0 x27_2).f4))) (fun _ hk => hk.2) (.int .i64 ((rd_T32 l0 x27_2).f5))) (fun _ h_ => h_.1))) (Kd.R_base ho0) hb); have n1_ := am_ (Kd.R_lower (Kd.R_newM (M := fun k_ => (w.heap.size ≤ k_)) ho0 (below_size (bw_ HB.out)) (fun k_ h_ => h_)) (below_size (bw_ HB.out))); have n2_ := am_ (blk_below (g := gb195) (o := .cells #[.slice none 0 0, .slice none 0 0] 40 (0, 0)) (by (with_reducible repeat (first | refine blk_drewN ?_ _ | refine blk_drew ?_ | refine blk_alloc ?_ _)); refine blk_far ?_ NB195_199.out _; (with_reducible repeat (first | refine blk_drewN ?_ _ | refine blk_drew ?_ | refine blk_alloc ?_ _)); refine blk_far ?_ NB195_199.out _; (with_reducible repeat (first | refine blk_drewN ?_ _ | refine blk_drew ?_ | refine blk_alloc ?_ _)); refine blk_far ?_ NB195_199.out _; (with_reducible repeat (first | refine blk_drewN ?_ _ | refine blk_drew ?_ | refine blk_alloc ?_ _)); refine blk_far ?_ NB195_199.out _; (with_reducible repeat (first | refine blk_drewN ?_ _ | refine blk_drew ?_ | refine blk_alloc ?_ _)); refine blk_far ?_ NB195_199.out _; (with_reducible repeat (first | refine blk_drewN ?_ _ | refine blk_drew ?_ | refine blk_alloc ?_ _)); refine blk_far ?_ NB195_199.out _; (with_reducible repeat (first | refine blk_drewN ?_ _ | refine blk_drew ?_ | refine blk_alloc ?_ _)); exact BK195.out) hb); have n3_ := am_ (blk_below (g := gb199) (o := .cells #[.slice A198_0 ((rd_T32 l0 x27_2).f0).length c198_0, .int .i64 ((rd_T32 l0 x27_2).f1), .bool ((rd_T32 l0 x27_2).f2), .int .i64 ((rd_T32 l0 x27_2).f3), .int .i64 ((rd_T32 l0 x27_2).f4), .int .i64 ((rd_T32 l0 x27_2).f5)] 32 (0, 0)) (by (with_reducible repeat (first | refine blk_drewN ?_ _ | refine blk_drew ?_ | refine blk_alloc ?_ _)); refine blk_put (cs := #[.slice A198_0 ((rd_T32 l0 x27_2).f0).length c198_0, .int .i64 ((rd_T32 l0 x27_2).f1), .bool ((rd_T32 l0 x27_2).f2), .int .i64 ((rd_T32 l0 x27_2).f3), .int .i64 ((rd_T32 l0 x27_2).f4), .int .i64 0]) ?_ 5 _ rfl; (with_reducible repeat (first | refine blk_drewN ?_ _ | refine blk_drew ?_ | refine blk_alloc ?_ _)); refine blk_put (cs := #[.slice A198_0 ((rd_T32 l0 x27_2).f0).length c198_0, .int .i64 ((rd_T32 l0 x27_2).f1), .bool ((rd_T32 l0 x27_2).f2), .int .i64 ((rd_T32 l0 x27_2).f3), .int .i64 0, .int .i64 0]) ?_ 4 _ rfl; (with_reducible repeat (first | refine blk_drewN ?_ _ | refine blk_drew ?_ | refine blk_alloc ?_ _)); refine blk_put (cs := #[.slice A198_0 ((rd_T32 l0 x27_2).f0).length c198_0, .int .i64 ((rd_T32 l0 x27_2).f1), .bool ((rd_T32 l0 x27_2).f2), .int .i64 0, .int .i64 0, .int .i64 0]) ?_ 3 _ rfl; (with_reducible repeat (first | refine blk_drewN ?_ _ | refine blk_drew ?_ | refine blk_alloc ?_ _)); refine blk_put (cs := #[.slice A198_0 ((rd_T32 l0 x27_2).f0).length c198_0, .int .i64 ((rd_T32 l0 x27_2).f1), .bool false, .int .i64 0, .int .i64 0, .int .i64 0]) ?_ 2 _ rfl; (with_reducible repeat (first | refine blk_drewN ?_ _ | refine blk_drew ?_ | refine blk_alloc ?_ _)); refine blk_put (cs := #[.slice A198_0 ((rd_T32 l0 x27_2).f0).length c198_0, .int .i64 0, .bool false, .int .i64 0, .int .i64 0, .int .i64 0]) ?_ 1 _ rfl; (with_reducible repeat (first | refine blk_drewN ?_ _ | refine blk_drew ?_ | refine blk_alloc ?_ _)); refine blk_put (cs := #[.slice none 0 0, .int .i64 0, .bool false, .int .i64 0, .int .i64 0, .int .i64 0]) ?_ 0 _ rfl; (with_reducible repeat (first | refine blk_drewN ?_ _ | refine blk_drew ?_ | refine blk_alloc ?_ _)); exact BK199.out) hb); have n4_ := am_ (below_step (bw_ HB.out) hb); replace HO_7 := n0_; have HO202 := n1_; replace BK195 := n2_; replace BK199 := n3_; replace HB := n4_; clear n0_ n1_ n2_ n3_ n4_; (try clear hb); (try clear hb2); (try clear hk); (try clear hi); (try clear ho0); obtain ⟨Ao22, co22, eo22⟩ := Kd.R_slice HO202.out; subst eo22) | ((with_reducible refine gate_dst (N := 34) rfl ?_); refine bsl6_ 28 32 Try.underlying28 info32 34 (.tmp 33) _ _ _ _ _ _ ?_) | ((with_reducible refine gate_builtin (b := .append) (xs := #[.tmp 31, .tmp 34]) rfl ?_); at_builtin; refine Kd.N_append k32 (w0 := w) w.heap.size rfl (.tmp 31) (.tmp 34) 28 32 (.agg #[(.slice none 0 0), (.int .i64 0), (.bool false), (.int .i64 0), (.int .i64 0), (.int .i64 0)]) 64 rfl Try.underlying28 info32 rfl (by decide) (by omega) u7 x7_2 (⟨t200, t203, t204, t205, t206, t207⟩ : S32) [.slice Ao22 t200.length co22, .int .i64 t203, .bool t204, .int .i64 t205, .int .i64 t206, .int .i64 t207] (fun k_ => (w.heap.size ≤ k_) ∧ k_ ≠ gb195 ∧ k_ ≠ gb199) (fun k_ => ((fun k_ => (w.heap.size ≤ k_) ∧ k_ ≠ gb195 ∧ k_ ≠ gb199)) k_ ∧ nb k_ u7) rfl rfl ?aP (fun _ hk => hk) ?aF ?aO ?aB ?aS ?aL ?_; (case aP => exact (k32_mkF _ _ (⟨t200, t203, t204, t205, t206, t207⟩ : S32) (Kd.R_reads' (Kd.R_mono (ok' := (fun k_ => ((fun k_ => (w.heap.size ≤ k_) ∧ k_ ≠ gb195 ∧ k_ ≠ gb199)) k_ ∧ nb k_ u7)) (Kd.R_types (Kd.R_types (Kd.R_apart' (HO202.out) (Kd.N_typed HO_7.out) (by decide)) BK195.out (by decide)) BK199.out (by decide)) (fun k_ hk => ⟨⟨hk.1.1.1.1, ⟨hk.1.2, hk.2⟩⟩, hk.1.1.2⟩))).2.1 (Kd.R_F (Kd.R_mono (ok' := (fun k_ => ((fun k_ => (w.heap.size ≤ k_) ∧ k_ ≠ gb195 ∧ k_ ≠ gb199)) k_ ∧ nb k_ u7)) (Kd.R_types (Kd.R_types (Kd.R_apart' (HO202.out) (Kd.N_typed HO_7.out) (by decide)) BK195.out (by decide)) BK199.out (by decide)) (fun k_ hk => ⟨⟨hk.1.1.1.1, ⟨hk.1.2, hk.2⟩⟩, hk.1.1.2⟩))))); (case aB => exact (bw_ HB.out)); (case aF => exact (fun k_ hk => ⟨(Nat.le_trans (below_size (bw_ HB.out)) hk), Kd.freshB (bk_ BK195.out) k_ hk, Kd.freshB (bk_ BK199.out) k_ hk⟩)); (case aO => exact (by (with_reducible repeat (first | apply Kd.N_alloc | apply Kd.N_drewN | apply Kd.N_drew)); exact Kd.N_mono HO_7.out (fun _ hk => ⟨hk.1.1.1, ⟨hk.1.1.2, hk.1.2⟩⟩))); (case aS => exact (below_size (bw_ HB.out))); (case aL => have := LMc16.out; omega); intro v209 w21 ho hb hg hat; rw [← Ny208.out] at ho; have n0_ := am_ (blk_grown (bk_ BK195.out) hg (Kd.N_ne HO_7.out BK195.out (by decide))); have n1_ := am_ (blk_grown (bk_ BK199.out) hg (Kd.N_away HO_7.out (fun _ hk => hk.1.2))); have n2_ := am_ (hb); have n3_ := am_ (ho); clear HO_7; clear HO202; replace BK195 := n0_; replace BK199 := n1_; replace HB := n2_; have HO210 := n3_; clear n0_ n1_ n2_ n3_; clear ho hb hg hat))
       go_roundg k2
       case measure => have := HJ2.out; have := HK2.out; omega
       case rel => exact ⟨(y208), (wrap64 (x27_2 + 1)), sq_, H', ⟨by have := HJ2.out; have := HK2.out; omega⟩, ⟨by (with_reducible repeat (first | apply Kd.N_alloc | apply Kd.N_drewN | apply Kd.N_drew)); exact Kd.N_mono HO210.out (fun _ hk => ⟨hk.1, hk.2.1⟩)⟩, ⟨bk_ BK195.out⟩, ⟨bw_ HB.out⟩⟩
      ·as_aux_lemma =>
       rw [if_neg c12] at H
       have c12b0 : decide (x27_2 < (l0.length : Int)) = false := decide_eq_false c12
       clear c12
       have H' := am_ H
       clear H
       go_wp2_with (first | ((with_reducible refine gate_dst (N := 10) rfl ?_); refine bx_ 10 #[.slice none 0 0, .slice none 0 0] 40 ?_; intro gb211 hg w23 hbox hb; have n0_ := am_ (Kd.N_below (Kd.N_elderB (by (with_reducible repeat (first | apply Kd.N_alloc | apply Kd.N_drewN | apply Kd.N_drew)); exact HO_7.out) gb211 (Nat.le_of_eq hg.symm)) hb); have n1_ := am_ (blk_below (bk_ BK195.out) hb); have n2_ := am_ (below_step (bw_ HB.out) hb); have n3_ := am_ (hbox); have n4_ := am_ (gs_ hg (bw_ HB.out)); have n5_ := am_ (gs_ hg (bw_ HB.out)); have n6_ := am_ (nl_ hg (bk_ BK195.out)); have n7_ := am_ (ng_ hg (bk_ BK195.out)); replace HO_7 := n0_; replace BK195 := n1_; replace HB := n2_; have BK211 := n3_; have GW211 := n4_; have GE211 := n5_; have NB195_211 := n6_; have NB211_195 := n7_; clear n0_ n1_ n2_ n3_ n4_ n5_ n6_ n7_; clear hb hbox hg; have hnb24 := NB211_195.out; have hnc24 := NB195_211.out; have hcz25_0 := cz_ BK211.out 0; have hcz25_1 := cz_ BK211.out 1; have hfz25_0 := blk_frozen BK211.out 0; have hfz25_1 := blk_frozen BK211.out 1))
       go_loopg [1, 7] k2 (fun kq v1 v7 w' => ∃ (x1_3 : Int) (x7_3 : List (S32)) (x212000_3 : List Int) (x212001_3 : List Int) (u212000 : Value) (u212001 : Value), v1 = .int .i64 x1_3 ∧ Aside0 (spec_MixVoices.l1 kq x1_3 x7_3 x212000_3 x212001_3 = some (r1, r2, r3, r4)) ∧ Aside0 (kq ≤ k2) ∧ Aside0 (Kd.N k32 32 w' w.heap.size (fun k_ => (w.heap.size ≤ k_) ∧ nb k_ u212000 ∧ nb k_ u212001 ∧ k_ ≠ gb195 ∧ k_ ≠ gb211) v7 x7_3) ∧ Aside0 (Kd.R (Kd.int .i64) 3 w' w.heap.size (fun k_ => (w.heap.size ≤ k_) ∧ nb k_ u212001) u212000 x212000_3) ∧ Aside0 (Kd.R (Kd.int .i64) 3 w' w.heap.size (fun k_ => (w.heap.size ≤ k_) ∧ nb k_ u212000) u212001 x212001_3) ∧ Aside0 (w'.heap[gb195]? = some (.cells #[(.slice none 0 0), (.slice none 0 0)] 40 (0, 0))) ∧ Aside0 (w'.heap[gb211]? = some (.cells #[u212000, u212001] 40 (0, 0))) ∧ Aside0 (Below w.heap.size w w'))
       case atStart => exact ⟨(a1), (x7_2), (([] : List Int)), (([] : List Int)), (.slice none 0 0), (.slice none 0 0), sq_, H', ⟨Nat.le_refl _⟩, ⟨by (with_reducible repeat (first | apply Kd.N_alloc | apply Kd.N_drewN | apply Kd.N_drew)); exact Kd.N_mono (Kd.N_far (p := ⟨gb211, 1, none⟩) (Kd.N_far (p := ⟨gb211, 0, none⟩) (Kd.N_mono HO_7.out (fun k_ hk => (⟨hk, hk.2⟩ : _ ∧ k_ ≠ gb211))) (fun _ hk => hk.2) (.slice none 0 0)) (fun _ hk => hk.2) (.slice none 0 0)) (fun _ hk => ⟨hk.1.1.1, ⟨(by simp [Value.ownBlock]), ⟨(by simp [Value.ownBlock]), ⟨hk.1.1.2, hk.1.2⟩⟩⟩⟩)⟩, ⟨by first | exact Kd.R_nil _ _ _ _ _ | exact Kd.N_nil _ _ _ _ _ | exact Kd.V_nil _ _ _ _ _ | exact Kd.Q_nil _ _ _ _ _ | exact Kd.S_nil _ _ _ _ _⟩, ⟨by first | exact Kd.R_nil _ _ _ _ _ | exact Kd.N_nil _ _ _ _ _ | exact Kd.V_nil _ _ _ _ _ | exact Kd.Q_nil _ _ _ _ _ | exact Kd.S_nil _ _ _ _ _⟩, ⟨by (with_reducible repeat (first | refine blk_drewN ?_ _ | refine blk_drew ?_ | refine blk_alloc ?_ _)); refine blk_far ?_ NB195_211.out _; (with_reducible repeat (first | refine blk_drewN ?_ _ | refine blk_drew ?_ | refine blk_alloc ?_ _)); refine blk_far ?_ NB195_211.out _; (with_reducible repeat (first | refine blk_drewN ?_ _ | refine blk_drew ?_ | refine blk_alloc ?_ _)); exact BK195.out⟩, ⟨by (with_reducible repeat (first | refine blk_drewN ?_ _ | refine blk_drew ?_ | refine blk_alloc ?_ _)); refine blk_put (cs := #[.slice none 0 0, .slice none 0 0]) ?_ 1 _ rfl; (with_reducible repeat (first | refine blk_drewN ?_ _ | refine blk_drew ?_ | refine blk_alloc ?_ _)); refine blk_put (cs := #[.slice none 0 0, .slice none 0 0]) ?_ 0 _ rfl; (with_reducible repeat (first | refine blk_drewN ?_ _ | refine blk_drew ?_ | refine blk_alloc ?_ _)); exact BK211.out⟩, ⟨bw_ HB.out⟩⟩
       case round => as_aux_lemma =>
        clear H'
        try clear c10
        try clear c12
        try clear c12b0
        try clear hcz25_0
        try clear hcz25_1
        try clear hfz25_0
        try clear hfz25_1
        obtain ⟨x1_3, x7_3, x212000_3, x212001_3, u212000, u212001, rfl, HA, HK3, HO_7, HO_212000, HO_212001, BK195, BK211, HB⟩ := hrel
        cases gk with
        | zero => exact absurd HA.out (by simp [spec_MixVoices.l1])
        | succ k3 =>
         have H := HA.out
         clear HA
         simp only [spec_MixVoices.l1] at H
         by_cases c26 : x1_3 > 0
         ·as_aux_lemma =>
          rw [if_pos c26] at H
          have c26b0 : decide (0 < x1_3) = true := decide_eq_true c26
          clear c26
          have H' := am_ H
          clear H
          obtain ⟨Ao27, co27, eo27⟩ := Kd.N_slice HO_7.out
          subst eo27
          go_wp2
          go_loopg [11, 12, 13, 44] k3 (fun kq v11 v12 v13 v44 w' => ∃ (x11_4 : Int) (x12_4 : Int) (x13_4 : List (S32)) (x44_4 : Int), v11 = .int .i64 x11_4 ∧ v12 = .int .i64 x12_4 ∧ v44 = .int .i64 x44_4 ∧ Aside0 (spec_MixVoices.l2 kq x1_3 x11_4 x12_4 x13_4 x7_3 (x7_3.length : Int) x44_4 x212000_3 x212001_3 = some (r1, r2, r3, r4)) ∧ Aside0 (kq ≤ k3) ∧ Aside0 (Kd.N k32 32 w' w.heap.size (fun k_ => (w.heap.size ≤ k_) ∧ nb k_ (.slice Ao27 x7_3.length co27) ∧ nb k_ u212000 ∧ nb k_ u212001 ∧ k_ ≠ gb195 ∧ k_ ≠ gb211) v13 x13_4) ∧ Aside0 (Kd.N k32 32 w' w.heap.size (fun k_ => (w.heap.size ≤ k_) ∧ nb k_ v13 ∧ nb k_ u212000 ∧ nb k_ u212001 ∧ k_ ≠ gb195 ∧ k_ ≠ gb211) (.slice Ao27 x7_3.length co27) x7_3) ∧ Aside0 (Kd.R (Kd.int .i64) 3 w' w.heap.size (fun k_ => (w.heap.size ≤ k_) ∧ nb k_ u212001) u212000 x212000_3) ∧ Aside0 (Kd.R (Kd.int .i64) 3 w' w.heap.size (fun k_ => (w.heap.size ≤ k_) ∧ nb k_ u212000) u212001 x212001_3) ∧ Aside0 (w'.heap[gb195]? = some (.cells #[(.slice none 0 0), (.slice none 0 0)] 40 (0, 0))) ∧ Aside0 (w'.heap[gb211]? = some (.cells #[u212000, u212001] 40 (0, 0))) ∧ Aside0 (Below w.heap.size w w'))
          case atStart => exact ⟨(0), (0), (([] : List (S32))), (0), sq_, sq_, sq_, H', ⟨Nat.le_refl _⟩, ⟨by first | exact Kd.S_nil _ _ _ _ _ | exact Kd.N_nil _ _ _ _ _ | exact Kd.V_nil _ _ _ _ _ | exact Kd.Q_nil _ _ _ _ _ | exact Kd.R_nil _ _ _ _ _⟩, ⟨by (with_reducible repeat (first | apply Kd.N_alloc | apply Kd.N_drewN | apply Kd.N_drew)); exact Kd.N_mono HO_7.out (fun _ hk => ⟨hk.1, ⟨(by simp [Value.ownBlock]), ⟨hk.2.1, ⟨hk.2.2.1, ⟨hk.2.2.2.1, hk.2.2.2.2⟩⟩⟩⟩⟩)⟩, ⟨ra_ HO_212000.out⟩, ⟨ra_ HO_212001.out⟩, ⟨bk_ BK195.out⟩, ⟨bk_ BK211.out⟩, ⟨bw_ HB.out⟩⟩
          case round => as_aux_lemma =>
           clear H'
           try clear c10
           try clear c12
           try clear c12b0
           try clear c26
           try clear c26b0
           try clear hcz25_0
           try clear hcz25_1
           try clear hfz25_0
           try clear hfz25_1
           obtain ⟨x11_4, x12_4, x13_4, x44_4, rfl, rfl, rfl, HA, HK4, HO_13, HO_42, HO_212000, HO_212001, BK195, BK211, HB⟩ := hrel
           cases gk with
           | zero => exact absurd HA.out (by simp [spec_MixVoices.l2])
           | succ k4 =>
            have H := HA.out
            clear HA
            simp only [spec_MixVoices.l2] at H
            by_cases c28 : x44_4 < (x7_3.length : Int)
            ·as_aux_lemma =>
             rw [if_pos c28] at H
             have c28b0 : decide (x44_4 < (x7_3.length : Int)) = true := decide_eq_true c28
             clear c28
             obtain ⟨c29, H⟩ := ifn_ H
             have c29b0 : decide (0 ≤ x44_4) = true := decide_eq_true c29
             clear c29
             obtain ⟨c30, H⟩ := ifn_ H
             have c30b0 : decide (x44_4 < (x7_3.length : Int)) = true := decide_eq_true c30
             clear c30
             obtain ⟨c31, H⟩ := ifn_ H
             have c31b0 : decide (0 ≤ ((rd_T32 x7_3 x44_4).f1)) = true := decide_eq_true c31
             clear c31
             obtain ⟨c32, H⟩ := ifn_ H
             have c32b0 : decide (((rd_T32 x7_3 x44_4).f1) < (((rd_T32 x7_3 x44_4).f0).length : Int)) = true := decide_eq_true c32
             clear c32
             obtain ⟨t223, A330, H⟩ := bE_ H
             have A33 := am_ A330
             clear A330
             obtain ⟨t225, A340, H⟩ := bE_ H
             have A34 := am_ A340
             clear A340
             by_cases c35 : (wrap64 (((rd_T32 x7_3 x44_4).f1) + 1)) = (((rd_T32 x7_3 x44_4).f0).length : Int)
             ·as_aux_lemma =>
              rw [if_pos c35] at H
              have c35b0 : ((wrap64 (((rd_T32 x7_3 x44_4).f1) + 1)) == (((rd_T32 x7_3 x44_4).f0).length : Int)) = true := beq_iff_eq.mpr c35
              have c35b1 : ((wrap64 (((rd_T32 x7_3 x44_4).f1) + 1)) != (((rd_T32 x7_3 x44_4).f0).length : Int)) = false := bne_eq_false_iff_eq.mpr c35
              clear c35
              obtain ⟨bq36, hbq36⟩ : ∃ b_ : Bool, b_ = ((rd_T32 x7_3 x44_4).f2) := ⟨_, rfl⟩
              replace H : (if (bq36 = true) then (if x13_4.length < 2199023255552 then (spec_MixVoices.l2 k4 x1_3 (wrap64 (x11_4 + t223)) (wrap64 (x12_4 + t225)) (x13_4 ++ [(⟨(rd_T32 x7_3 x44_4).f0, 0, bq36, (rd_T32 x7_3 x44_4).f3, (rd_T32 x7_3 x44_4).f4, (rd_T32 x7_3 x44_4).f5⟩ : S32)]) x7_3 (x7_3.length : Int) (wrap64 (x44_4 + 1)) x212000_3 x212001_3) else (none)) else (spec_MixVoices.l2 k4 x1_3 (wrap64 (x11_4 + t223)) (wrap64 (x12_4 + t225)) x13_4 x7_3 (x7_3.length : Int) (wrap64 (x44_4 + 1)) x212000_3 x212001_3)) = some (r1, r2, r3, r4) := by rw [← hbq36] at H; exact H
              have Nbq36 := am_ hbq36
              clear hbq36
              by_cases c37 : (bq36 = true)
              ·as_aux_lemma =>
               subst c37
               replace H := it_ H rfl
               obtain ⟨c38, H⟩ := ifn_ H
               have LMc38 := am_ c38
               clear c38
               obtain ⟨y226, hy226⟩ : ∃ y_ : List (S32), y_ = (x13_4 ++ [(⟨(rd_T32 x7_3 x44_4).f0, 0, true, (rd_T32 x7_3 x44_4).f3, (rd_T32 x7_3 x44_4).f4, (rd_T32 x7_3 x44_4).f5⟩ : S32)]) := ⟨_, rfl⟩
               replace H : (spec_MixVoices.l2 k4 x1_3 (wrap64 (x11_4 + t223)) (wrap64 (x12_4 + t225)) y226 x7_3 (x7_3.length : Int) (wrap64 (x44_4 + 1)) x212000_3 x212001_3) = some (r1, r2, r3, r4) := by first | (rw [hy226]; with_reducible exact H) | (have H2_ := (Option.bind_some _ _).symm.trans H; rw [hy226]; with_reducible exact H2_) | (have H2_ := (Option.bind_some _ _).symm.trans H; with_reducible exact H2_) | with_reducible exact H | (rw [hy226]; exact H) | exact H
               have Ny226 := am_ hy226
               clear hy226
               have H' := am_ H
               clear H
               have p220 : 0 ≤ (x44_4 : Int) := od_
               have q220 : x44_4 < (x7_3.length : Int) := od_
               obtain ⟨ad220, A220_0, c220_0, e220, hx220_0, hx220_1, hx220_2, hx220_3, hx220_4, hx220_5, hl220_0, hi220_0⟩ := at_T32 (Kd.N_reads' HO_42.out).2.2 x44_4 p220 q220
               (try rw [← Nbq36.out] at hx220_2)
               cases e220
               obtain ⟨ce220, hce220, hMe220, hcc220⟩ := Kd.N_get HO_42.out z32 x44_4 p220 (by first | exact q220 | exact od_ | (have e_ := (Kd.N_reads' HO_42.out).1; omega))
               obtain ⟨ua220_0, uc220_0, rfl, ul220_0, ge220_0⟩ := k32_openF hMe220
               have hv220_0 := hcc220 0 _ rfl
               rw [Nat.add_zero] at hv220_0
               replace hv220_0 := Option.some.inj (hv220_0.symm.trans hx220_0)
               injection hv220_0 with hva_ hvn_ hvc_
               rw [hva_] at ge220_0
               rw [hvc_] at ul220_0
               have HL220_0 := am_ (show Kd.V (Kd.int .i64) 3 _ w.heap.size _ _ ((rd_T32 x7_3 x44_4).f0) from Kd.V_mk ul220_0 ge220_0)
               clear hva_ hvn_ hvc_ ge220_0 ul220_0
               clear hcc220 hce220
               have HR220_0 := am_ hi220_0
               have HC220_0 := am_ hl220_0
               clear hi220_0 hl220_0
               replace p220 := eq_true p220
               replace q220 := eq_true q220
               try go_wp2_with (first | ((with_reducible refine gate_dst (N := 15) rfl ?_); refine bx_ 15 #[.slice none 0 0, .int .i64 0, .bool false, .int .i64 0, .int .i64 0, .int .i64 0] 32 ?_; intro gb221 hg w39 hbox hb; have n0_ := am_ (Kd.N_below (Kd.N_elderB (by (with_reducible repeat (first | apply Kd.N_alloc | apply Kd.N_drewN | apply Kd.N_drew)); exact HO_13.out) gb221 (Nat.le_of_eq hg.symm)) hb); have n1_ := am_ (Kd.N_below (Kd.N_elderB (by (with_reducible repeat (first | apply Kd.N_alloc | apply Kd.N_drewN | apply Kd.N_drew)); exact HO_42.out) gb221 (Nat.le_of_eq hg.symm)) hb); have n2_ := am_ (Kd.R_below (ra_ HO_212000.out) hb); have n3_ := am_ (Kd.R_below (ra_ HO_212001.out) hb); have n4_ := am_ (Kd.V_below (Kd.V_elderB (by (with_reducible repeat (first | apply Kd.V_alloc | apply Kd.V_drewN | apply Kd.V_drew)); exact HL220_0.out) gb221 (Nat.le_of_eq hg.symm)) hb); have n5_ := am_ (blk_below (bk_ BK195.out) hb); have n6_ := am_ (blk_below (bk_ BK211.out) hb); have n7_ := am_ (Kd.C_below (by repeat (first | (with_reducible exact HR220_0.out) | (with_reducible refine Kd.C_alloc ?_ _) | (with_reducible refine Kd.C_drewN ?_ _) | (with_reducible refine Kd.C_drew ?_) | exact HR220_0.out)) hb); have n8_ := am_ (below_step (bw_ HB.out) hb); have n9_ := am_ (hbox); have n10_ := am_ (gs_ hg (bw_ HB.out)); have n11_ := am_ (gs_ hg (bw_ HB.out)); have n12_ := am_ (nl_ hg (bk_ BK195.out)); have n13_ := am_ (ng_ hg (bk_ BK195.out)); have n14_ := am_ (nl_ hg (bk_ BK211.out)); have n15_ := am_ (ng_ hg (bk_ BK211.out)); replace HO_13 := n0_; replace HO_42 := n1_; replace HO_212000 := n2_; replace HO_212001 := n3_; replace HL220_0 := n4_; replace BK195 := n5_; replace BK211 := n6_; replace HR220_0 := n7_; replace HB := n8_; have BK221 := n9_; have GW221 := n10_; have GE221 := n11_; have NB195_221 := n12_; have NB221_195 := n13_; have NB211_221 := n14_; have NB221_211 := n15_; clear n0_ n1_ n2_ n3_ n4_ n5_ n6_ n7_ n8_ n9_ n10_ n11_ n12_ n13_ n14_ n15_; clear hb hbox hg; have hnb40 := NB221_195.out; have hnc40 := NB195_221.out; have hnb41 := NB221_211.out; have hnc41 := NB211_221.out; have hcz42_0 := cz_ BK221.out 0; have hcz42_1 := cz_ BK221.out 1; have hcz42_2 := cz_ BK221.out 2; have hcz42_3 := cz_ BK221.out 3; have hcz42_4 := cz_ BK221.out 4; have hcz42_5 := cz_ BK221.out 5; have hfz42_0 := blk_frozen BK221.out 0; have hfz42_1 := blk_frozen BK221.out 1; have hfz42_2 := blk_frozen BK221.out 2; have hfz42_3 := blk_frozen BK221.out 3; have hfz42_4 := blk_frozen BK221.out 4; have hfz42_5 := blk_frozen BK221.out 5))
               have n0_ : Aside0 (Kd.N k32 32 ((((((w39.setCell ⟨gb221, 0, none⟩ (.slice A220_0 ((rd_T32 x7_3 x44_4).f0).length c220_0)).setCell ⟨gb221, 1, none⟩ (.int .i64 ((rd_T32 x7_3 x44_4).f1))).setCell ⟨gb221, 2, none⟩ (.bool true)).setCell ⟨gb221, 3, none⟩ (.int .i64 ((rd_T32 x7_3 x44_4).f3))).setCell ⟨gb221, 4, none⟩ (.int .i64 ((rd_T32 x7_3 x44_4).f4))).setCell ⟨gb221, 5, none⟩ (.int .i64 ((rd_T32 x7_3 x44_4).f5))) w.heap.size (fun k_ => (w.heap.size ≤ k_) ∧ nb k_ (.slice (some ad220) x7_3.length co27) ∧ nb k_ u212000 ∧ nb k_ u212001 ∧ k_ ≠ gb195 ∧ k_ ≠ gb211 ∧ k_ ≠ gb221) u13 x13_4) := ⟨by (with_reducible repeat (first | apply Kd.N_alloc | apply Kd.N_drewN | apply Kd.N_drew)); exact Kd.N_mono (Kd.N_far (p := ⟨gb221, 5, none⟩) (Kd.N_far (p := ⟨gb221, 4, none⟩) (Kd.N_far (p := ⟨gb221, 3, none⟩) (Kd.N_far (p := ⟨gb221, 2, none⟩) (Kd.N_far (p := ⟨gb221, 1, none⟩) (Kd.N_far (p := ⟨gb221, 0, none⟩) (Kd.N_mono HO_13.out (fun k_ hk => (⟨hk, hk.2⟩ : _ ∧ k_ ≠ gb221))) (fun _ hk => hk.2) (.slice A220_0 ((rd_T32 x7_3 x44_4).f0).length c220_0)) (fun _ hk => hk.2) (.int .i64 ((rd_T32 x7_3 x44_4).f1))) (fun _ hk => hk.2) (.bool true)) (fun _ hk => hk.2) (.int .i64 ((rd_T32 x7_3 x44_4).f3))) (fun _ hk => hk.2) (.int .i64 ((rd_T32 x7_3 x44_4).f4))) (fun _ hk => hk.2) (.int .i64 ((rd_T32 x7_3 x44_4).f5))) (fun _ hk => ⟨hk.1.1.1, ⟨hk.1.1.2.1, ⟨hk.1.1.2.2.1, ⟨hk.1.1.2.2.2.1, ⟨hk.1.1.2.2.2.2.1, ⟨hk.1.1.2.2.2.2.2, hk.1.2⟩⟩⟩⟩⟩⟩)⟩
               have n1_ : Aside0 (Kd.N k32 32 ((((((w39.setCell ⟨gb221, 0, none⟩ (.slice A220_0 ((rd_T32 x7_3 x44_4).f0).length c220_0)).setCell ⟨gb221, 1, none⟩ (.int .i64 ((rd_T32 x7_3 x44_4).f1))).setCell ⟨gb221, 2, none⟩ (.bool true)).setCell ⟨gb221, 3, none⟩ (.int .i64 ((rd_T32 x7_3 x44_4).f3))).setCell ⟨gb221, 4, none⟩ (.int .i64 ((rd_T32 x7_3 x44_4).f4))).setCell ⟨gb221, 5, none⟩ (.int .i64 ((rd_T32 x7_3 x44_4).f5))) w.heap.size (fun k_ => (w.heap.size ≤ k_) ∧ nb k_ u13 ∧ nb k_ u212000 ∧ nb k_ u212001 ∧ k_ ≠ gb195 ∧ k_ ≠ gb211 ∧ k_ ≠ gb221) (.slice (some ad220) x7_3.length co27) x7_3) := ⟨by (with_reducible repeat (first | apply Kd.N_alloc | apply Kd.N_drewN | apply Kd.N_drew)); exact Kd.N_mono (Kd.N_far (p := ⟨gb221, 5, none⟩) (Kd.N_far (p := ⟨gb221, 4, none⟩) (Kd.N_far (p := ⟨gb221, 3, none⟩) (Kd.N_far (p := ⟨gb221, 2, none⟩) (Kd.N_far (p := ⟨gb221, 1, none⟩) (Kd.N_far (p := ⟨gb221, 0, none⟩) (Kd.N_mono HO_42.out (fun k_ hk => (⟨hk, hk.2⟩ : _ ∧ k_ ≠ gb221))) (fun _ hk => hk.2) (.slice A220_0 ((rd_T32 x7_3 x44_4).f0).length c220_0)) (fun _ hk => hk.2) (.int .i64 ((rd_T32 x7_3 x44_4).f1))) (fun _ hk => hk.2) (.bool true)) (fun _ hk => hk.2) (.int .i64 ((rd_T32 x7_3 x44_4).f3))) (fun _ hk => hk.2) (.int .i64 ((rd_T32 x7_3 x44_4).f4))) (fun _ hk => hk.2) (.int .i64 ((rd_T32 x7_3 x44_4).f5))) (fun _ hk => ⟨hk.1.1.1, ⟨hk.1.1.2.1, ⟨hk.1.1.2.2.1, ⟨hk.1.1.2.2.2.1, ⟨hk.1.1.2.2.2.2.1, ⟨hk.1.1.2.2.2.2.2, hk.1.2⟩⟩⟩⟩⟩⟩)⟩
               have n2_ : Aside0 (Kd.R (Kd.int .i64) 3 ((((((w39.setCell ⟨gb221, 0, none⟩ (.slice A220_0 ((rd_T32 x7_3 x44_4).f0).length c220_0)).setCell ⟨gb221, 1, none⟩ (.int .i64 ((rd_T32 x7_3 x44_4).f1))).setCell ⟨gb221, 2, none⟩ (.bool true)).setCell ⟨gb221, 3, none⟩ (.int .i64 ((rd_T32 x7_3 x44_4).f3))).setCell ⟨gb221, 4, none⟩ (.int .i64 ((rd_T32 x7_3 x44_4).f4))).setCell ⟨gb221, 5, none⟩ (.int .i64 ((rd_T32 x7_3 x44_4).f5))) w.heap.size (fun k_ => (w.heap.size ≤ k_) ∧ nb k_ u212001) u212000 x212000_3) := ⟨ra_ (Kd.R_mono (Kd.R_far (p := ⟨gb221, 5, none⟩) (Kd.R_far (p := ⟨gb221, 4, none⟩) (Kd.R_far (p := ⟨gb221, 3, none⟩) (Kd.R_far (p := ⟨gb221, 2, none⟩) (Kd.R_far (p := ⟨gb221, 1, none⟩) (Kd.R_far (p := ⟨gb221, 0, none⟩) (Kd.R_types HO_212000.out BK221.out (by decide)) (fun _ hk => hk.2) (.slice A220_0 ((rd_T32 x7_3 x44_4).f0).length c220_0)) (fun _ hk => hk.2) (.int .i64 ((rd_T32 x7_3 x44_4).f1))) (fun _ hk => hk.2) (.bool true)) (fun _ hk => hk.2) (.int .i64 ((rd_T32 x7_3 x44_4).f3))) (fun _ hk => hk.2) (.int .i64 ((rd_T32 x7_3 x44_4).f4))) (fun _ hk => hk.2) (.int .i64 ((rd_T32 x7_3 x44_4).f5))) (fun _ hk => ⟨hk.1.1, hk.1.2⟩))⟩
               have n3_ : Aside0 (Kd.R (Kd.int .i64) 3 ((((((w39.setCell ⟨gb221, 0, none⟩ (.slice A220_0 ((rd_T32 x7_3 x44_4).f0).length c220_0)).setCell ⟨gb221, 1, none⟩ (.int .i64 ((rd_T32 x7_3 x44_4).f1))).setCell ⟨gb221, 2, none⟩ (.bool true)).setCell ⟨gb221, 3, none⟩ (.int .i64 ((rd_T32 x7_3 x44_4).f3))).setCell ⟨gb221, 4, none⟩ (.int .i64 ((rd_T32 x7_3 x44_4).f4))).setCell ⟨gb221, 5, none⟩ (.int .i64 ((rd_T32 x7_3 x44_4).f5))) w.heap.size (fun k_ => (w.heap.size ≤ k_) ∧ nb k_ u212000) u212001 x212001_3) := ⟨ra_ (Kd.R_mono (Kd.R_far (p := ⟨gb221, 5, none⟩) (Kd.R_far (p := ⟨gb221, 4, none⟩) (Kd.R_far (p := ⟨gb221, 3, none⟩) (Kd.R_far (p := ⟨gb221, 2, none⟩) (Kd.R_far (p := ⟨gb221, 1, none⟩) (Kd.R_far (p := ⟨gb221, 0, none⟩) (Kd.R_types HO_212001.out BK221.out (by decide)) (fun _ hk => hk.2) (.slice A220_0 ((rd_T32 x7_3 x44_4).f0).length c220_0)) (fun _ hk => hk.2) (.int .i64 ((rd_T32 x7_3 x44_4).f1))) (fun _ hk => hk.2) (.bool true)) (fun _ hk => hk.2) (.int .i64 ((rd_T32 x7_3 x44_4).f3))) (fun _ hk => hk.2) (.int .i64 ((rd_T32 x7_3 x44_4).f4))) (fun _ hk => hk.2) (.int .i64 ((rd_T32 x7_3 x44_4).f5))) (fun _ hk => ⟨hk.1.1, hk.1.2⟩))⟩
               have n4_ : Aside0 (Kd.V (Kd.int .i64) 3 ((((((w39.setCell ⟨gb221, 0, none⟩ (.slice A220_0 ((rd_T32 x7_3 x44_4).f0).length c220_0)).setCell ⟨gb221, 1, none⟩ (.int .i64 ((rd_T32 x7_3 x44_4).f1))).setCell ⟨gb221, 2, none⟩ (.bool true)).setCell ⟨gb221, 3, none⟩ (.int .i64 ((rd_T32 x7_3 x44_4).f3))).setCell ⟨gb221, 4, none⟩ (.int .i64 ((rd_T32 x7_3 x44_4).f4))).setCell ⟨gb221, 5, none⟩ (.int .i64 ((rd_T32 x7_3 x44_4).f5))) w.heap.size (fun k_ => (w.heap.size ≤ k_) ∧ nb k_ u13 ∧ nb k_ (.slice (some ad220) x7_3.length co27) ∧ nb k_ u212000 ∧ nb k_ u212001 ∧ k_ ≠ gb195 ∧ k_ ≠ gb211 ∧ k_ ≠ gb221) (.slice A220_0 ((rd_T32 x7_3 x44_4).f0).length c220_0) ((rd_T32 x7_3 x44_4).f0)) := ⟨by (with_reducible repeat (first | apply Kd.V_alloc | apply Kd.V_drewN | apply Kd.V_drew)); exact Kd.V_mono (Kd.V_far (p := ⟨gb221, 5, none⟩) (Kd.V_far (p := ⟨gb221, 4, none⟩) (Kd.V_far (p := ⟨gb221, 3, none⟩) (Kd.V_far (p := ⟨gb221, 2, none⟩) (Kd.V_far (p := ⟨gb221, 1, none⟩) (Kd.V_far (p := ⟨gb221, 0, none⟩) (Kd.V_mono HL220_0.out (fun k_ hk => (⟨hk, hk.2⟩ : _ ∧ k_ ≠ gb221))) (fun _ hk => hk.2) (.slice A220_0 ((rd_T32 x7_3 x44_4).f0).length c220_0)) (fun _ hk => hk.2) (.int .i64 ((rd_T32 x7_3 x44_4).f1))) (fun _ hk => hk.2) (.bool true)) (fun _ hk => hk.2) (.int .i64 ((rd_T32 x7_3 x44_4).f3))) (fun _ hk => hk.2) (.int .i64 ((rd_T32 x7_3 x44_4).f4))) (fun _ hk => hk.2) (.int .i64 ((rd_T32 x7_3 x44_4).f5))) (fun _ hk => ⟨hk.1.1.1.1, ⟨hk.1.1.1.2.1, ⟨hk.1.1.2, ⟨hk.1.1.1.2.2.1, ⟨hk.1.1.1.2.2.2.1, ⟨hk.1.1.1.2.2.2.2.1, ⟨hk.1.1.1.2.2.2.2.2, hk.1.2⟩⟩⟩⟩⟩⟩⟩)⟩
               have n5_ : Aside0 (((((((w39.setCell ⟨gb221, 0, none⟩ (.slice A220_0 ((rd_T32 x7_3 x44_4).f0).length c220_0)).setCell ⟨gb221, 1, none⟩ (.int .i64 ((rd_T32 x7_3 x44_4).f1))).setCell ⟨gb221, 2, none⟩ (.bool true)).setCell ⟨gb221, 3, none⟩ (.int .i64 ((rd_T32 x7_3 x44_4).f3))).setCell ⟨gb221, 4, none⟩ (.int .i64 ((rd_T32 x7_3 x44_4).f4))).setCell ⟨gb221, 5, none⟩ (.int .i64 ((rd_T32 x7_3 x44_4).f5))).heap[gb195]? = some (.cells #[.slice none 0 0, .slice none 0 0] 40 (0, 0))) := ⟨by (with_reducible repeat (first | refine blk_drewN ?_ _ | refine blk_drew ?_ | refine blk_alloc ?_ _)); refine blk_far ?_ NB195_221.out _; (with_reducible repeat (first | refine blk_drewN ?_ _ | refine blk_drew ?_ | refine blk_alloc ?_ _)); refine blk_far ?_ NB195_221.out _; (with_reducible repeat (first | refine blk_drewN ?_ _ | refine blk_drew ?_ | refine blk_alloc ?_ _)); refine blk_far ?_ NB195_221.out _; (with_reducible repeat (first | refine blk_drewN ?_ _ | refine blk_drew ?_ | refine blk_alloc ?_ _)); refine blk_far ?_ NB195_221.out _; (with_reducible repeat (first | refine blk_drewN ?_ _ | refine blk_drew ?_ | refine blk_alloc ?_ _)); refine blk_far ?_ NB195_221.out _; (with_reducible repeat (first | refine blk_drewN ?_ _ | refine blk_drew ?_ | refine blk_alloc ?_ _)); refine blk_far ?_ NB195_221.out _; (with_reducible repeat (first | refine blk_drewN ?_ _ | refine blk_drew ?_ | refine blk_alloc ?_ _)); exact BK195.out⟩
               have n6_ : Aside0 (((((((w39.setCell ⟨gb221, 0, none⟩ (.slice A220_0 ((rd_T32 x7_3 x44_4).f0).length c220_0)).setCell ⟨gb221, 1, none⟩ (.int .i64 ((rd_T32 x7_3 x44_4).f1))).setCell ⟨gb221, 2, none⟩ (.bool true)).setCell ⟨gb221, 3, none⟩ (.int .i64 ((rd_T32 x7_3 x44_4).f3))).setCell ⟨gb221, 4, none⟩ (.int .i64 ((rd_T32 x7_3 x44_4).f4))).setCell ⟨gb221, 5, none⟩ (.int .i64 ((rd_T32 x7_3 x44_4).f5))).heap[gb211]? = some (.cells #[u212000, u212001] 40 (0, 0))) := ⟨by (with_reducible repeat (first | refine blk_drewN ?_ _ | refine blk_drew ?_ | refine blk_alloc ?_ _)); refine blk_far ?_ NB211_221.out _; (with_reducible repeat (first | refine blk_drewN ?_ _ | refine blk_drew ?_ | refine blk_alloc ?_ _)); refine blk_far ?_ NB211_221.out _; (with_reducible repeat (first | refine blk_drewN ?_ _ | refine blk_drew ?_ | refine blk_alloc ?_ _)); refine blk_far ?_ NB211_221.out _; (with_reducible repeat (first | refine blk_drewN ?_ _ | refine blk_drew ?_ | refine blk_alloc ?_ _)); refine blk_far ?_ NB211_221.out _; (with_reducible repeat (first | refine blk_drewN ?_ _ | refine blk_drew ?_ | refine blk_alloc ?_ _)); refine blk_far ?_ NB211_221.out _; (with_reducible repeat (first | refine blk_drewN ?_ _ | refine blk_drew ?_ | refine blk_alloc ?_ _)); refine blk_far ?_ NB211_221.out _; (with_reducible repeat (first | refine blk_drewN ?_ _ | refine blk_drew ?_ | refine blk_alloc ?_ _)); exact BK211.out⟩
               have n7_ : Aside0 (((((((w39.setCell ⟨gb221, 0, none⟩ (.slice A220_0 ((rd_T32 x7_3 x44_4).f0).length c220_0)).setCell ⟨gb221, 1, none⟩ (.int .i64 ((rd_T32 x7_3 x44_4).f1))).setCell ⟨gb221, 2, none⟩ (.bool true)).setCell ⟨gb221, 3, none⟩ (.int .i64 ((rd_T32 x7_3 x44_4).f3))).setCell ⟨gb221, 4, none⟩ (.int .i64 ((rd_T32 x7_3 x44_4).f4))).setCell ⟨gb221, 5, none⟩ (.int .i64 ((rd_T32 x7_3 x44_4).f5))).heap[gb221]? = some (.cells #[.slice A220_0 ((rd_T32 x7_3 x44_4).f0).length c220_0, .int .i64 ((rd_T32 x7_3 x44_4).f1), .bool true, .int .i64 ((rd_T32 x7_3 x44_4).f3), .int .i64 ((rd_T32 x7_3 x44_4).f4), .int .i64 ((rd_T32 x7_3 x44_4).f5)] 32 (0, 0))) := ⟨by (with_reducible repeat (first | refine blk_drewN ?_ _ | refine blk_drew ?_ | refine blk_alloc ?_ _)); refine blk_put (cs := #[.slice A220_0 ((rd_T32 x7_3 x44_4).f0).length c220_0, .int .i64 ((rd_T32 x7_3 x44_4).f1), .bool true, .int .i64 ((rd_T32 x7_3 x44_4).f3), .int .i64 ((rd_T32 x7_3 x44_4).f4), .int .i64 0]) ?_ 5 _ rfl; (with_reducible repeat (first | refine blk_drewN ?_ _ | refine blk_drew ?_ | refine blk_alloc ?_ _)); refine blk_put (cs := #[.slice A220_0 ((rd_T32 x7_3 x44_4).f0).length c220_0, .int .i64 ((rd_T32 x7_3 x44_4).f1), .bool true, .int .i64 ((rd_T32 x7_3 x44_4).f3), .int .i64 0, .int .i64 0]) ?_ 4 _ rfl; (with_reducible repeat (first | refine blk_drewN ?_ _ | refine blk_drew ?_ | refine blk_alloc ?_ _)); refine blk_put (cs := #[.slice A220_0 ((rd_T32 x7_3 x44_4).f0).length c220_0, .int .i64 ((rd_T32 x7_3 x44_4).f1), .bool true, .int .i64 0, .int .i64 0, .int .i64 0]) ?_ 3 _ rfl; (with_reducible repeat (first | refine blk_drewN ?_ _ | refine blk_drew ?_ | refine blk_alloc ?_ _)); refine blk_put (cs := #[.slice A220_0 ((rd_T32 x7_3 x44_4).f0).length c220_0, .int .i64 ((rd_T32 x7_3 x44_4).f1), .bool false, .int .i64 0, .int .i64 0, .int .i64 0]) ?_ 2 _ rfl; (with_reducible repeat (first | refine blk_drewN ?_ _ | refine blk_drew ?_ | refine blk_alloc ?_ _)); refine blk_put (cs := #[.slice A220_0 ((rd_T32 x7_3 x44_4).f0).length c220_0, .int .i64 0, .bool false, .int .i64 0, .int .i64 0, .int .i64 0]) ?_ 1 _ rfl; (with_reducible repeat (first | refine blk_drewN ?_ _ | refine blk_drew ?_ | refine blk_alloc ?_ _)); refine blk_put (cs := #[.slice none 0 0, .int .i64 0, .bool false, .int .i64 0, .int .i64 0, .int .i64 0]) ?_ 0 _ rfl; (with_reducible repeat (first | refine blk_drewN ?_ _ | refine blk_drew ?_ | refine blk_alloc ?_ _)); exact BK221.out⟩
               have n8_ : Aside0 (Below w.heap.size w ((((((w39.setCell ⟨gb221, 0, none⟩ (.slice A220_0 ((rd_T32 x7_3 x44_4).f0).length c220_0)).setCell ⟨gb221, 1, none⟩ (.int .i64 ((rd_T32 x7_3 x44_4).f1))).setCell ⟨gb221, 2, none⟩ (.bool true)).setCell ⟨gb221, 3, none⟩ (.int .i64 ((rd_T32 x7_3 x44_4).f3))).setCell ⟨gb221, 4, none⟩ (.int .i64 ((rd_T32 x7_3 x44_4).f4))).setCell ⟨gb221, 5, none⟩ (.int .i64 ((rd_T32 x7_3 x44_4).f5)))) := ⟨bw_ HB.out⟩
               (try clear HO_13)
               (try clear HO_42)
               (try clear HO_212000)
               (try clear HO_212001)
               (try clear HL220_0)
               (try clear BK195)
               (try clear BK211)
               (try clear BK221)
               (try clear HB)
               generalize ((((((w39.setCell ⟨gb221, 0, none⟩ (.slice A220_0 ((rd_T32 x7_3 x44_4).f0).length c220_0)).setCell ⟨gb221, 1, none⟩ (.int .i64 ((rd_T32 x7_3 x44_4).f1))).setCell ⟨gb221, 2, none⟩ (.bool true)).setCell ⟨gb221, 3, none⟩ (.int .i64 ((rd_T32 x7_3 x44_4).f3))).setCell ⟨gb221, 4, none⟩ (.int .i64 ((rd_T32 x7_3 x44_4).f4))).setCell ⟨gb221, 5, none⟩ (.int .i64 ((rd_T32 x7_3 x44_4).f5))) = w43 at n0_ n1_ n2_ n3_ n4_ n5_ n6_ n7_ n8_ ⊢
               have HO_13 := n0_
               have HO_42 := n1_
               have HO_212000 := n2_
               have HO_212001 := n3_
               have HL220_0 := n4_
               have BK195 := n5_
               have BK211 := n6_
               have BK221 := n7_
               have HB := n8_
               clear n0_ n1_ n2_ n3_ n4_ n5_ n6_ n7_ n8_
               have n0_ := am_ (Kd.N_drew HO_13.out)
               have n1_ := am_ (Kd.N_drew HO_42.out)
               have n2_ := am_ (Kd.R_drew HO_212000.out)
               have n3_ := am_ (Kd.R_drew HO_212001.out)
               have n4_ := am_ (Kd.V_drew HL220_0.out)
               have n5_ := am_ (blk_drew BK195.out)
               have n6_ := am_ (blk_drew BK211.out)
               have n7_ := am_ (blk_drew BK221.out)
               have n8_ := am_ (below_drew1 HB.out)
               replace HO_13 := n0_
               replace HO_42 := n1_
               replace HO_212000 := n2_
               replace HO_212001 := n3_
               replace HL220_0 := n4_
               replace BK195 := n5_
               replace BK211 := n6_
               replace BK221 := n7_
               replace HB := n8_
               clear n0_ n1_ n2_ n3_ n4_ n5_ n6_ n7_ n8_
               have p222 : 0 ≤ (((rd_T32 x7_3 x44_4).f1) : Int) := od_
               have q222 : ((rd_T32 x7_3 x44_4).f1) < (((rd_T32 x7_3 x44_4).f0).length : Int) := od_
               obtain ⟨ad222, e222, hx222_0⟩ := Kd.at_int ((Kd.V_reads' HL220_0.out).2.2) ((rd_T32 x7_3 x44_4).f1) p222 q222
               cases e222
               replace p222 := eq_true p222
               replace q222 := eq_true q222
               refine start_ (n := 12) (S := fun w' => w'.cell? ⟨gb221, 0, none⟩ = some (.slice (some ad222) ((rd_T32 x7_3 x44_4).f0).length c220_0) ∧ w'.cell? ⟨gb221, 1, none⟩ = some (.int .i64 ((rd_T32 x7_3 x44_4).f1)) ∧ w'.cell? ⟨gb221, 2, none⟩ = some (.bool true) ∧ w'.cell? ⟨gb221, 3, none⟩ = some (.int .i64 ((rd_T32 x7_3 x44_4).f3)) ∧ w'.cell? ⟨gb221, 4, none⟩ = some (.int .i64 ((rd_T32 x7_3 x44_4).f4)) ∧ w'.cell? ⟨gb221, 5, none⟩ = some (.int .i64 ((rd_T32 x7_3 x44_4).f5)) ∧ w'.cell? (ad222.add (((rd_T32 x7_3 x44_4).f1)).toNat) = some (.int .i64 (rd ((rd_T32 x7_3 x44_4).f0) ((rd_T32 x7_3 x44_4).f1)))) (ds := []) (Array.replicate 12 false) (by kernel_rfl) rfl rfl ⟨cz_ BK221.out 0, cz_ BK221.out 1, cz_ BK221.out 2, cz_ BK221.out 3, cz_ BK221.out 4, cz_ BK221.out 5, hx222_0⟩ (fun hHeld => ?_); refine with_tabW spec_MixVoices.tab18 spec_MixVoices.bits18 (fun HT_ HW_ => ?_)
               generalize w43.drew = w44 at HO_13 HO_42 HO_212000 HO_212001 HL220_0 BK195 BK211 BK221 HB hx222_0 hHeld ⊢
               refine pS_ 0 48 HT_ ?_
               refine pS_ 1 49 HT_ ?_
               refine pS_ 3 51 HT_ ?_
               refine pS_ 7 55 HT_ ?_
               refine tS_ 2 50 HT_ HW_ hHeld ?_
               refine tS_ 4 52 HT_ HW_ hHeld ?_
               refine pS_ 5 53 HT_ ?_
               refine tS_ 6 54 HT_ HW_ hHeld ?_
               refine tS_ 8 56 HT_ HW_ hHeld ?_
               refine oS_ 9 57 HT_ (fun K hK => ?_)
               refine goes_ Try.func34 (by kernel_rfl) rfl #[.int .i64 (rd ((rd_T32 x7_3 x44_4).f0) ((rd_T32 x7_3 x44_4).f1)), .int .i64 ((rd_T32 x7_3 x44_4).f3)] (by rfl) rfl rfl (by (try simp only [List.map_toArray, List.map_cons, List.map_nil]); first | done | rfl | (simp only [List.length_drop, List.length_take]; rfl)) ?_
               with_reducible refine (spec_FixMul.calls k4 (rd ((rd_T32 x7_3 x44_4).f0) ((rd_T32 x7_3 x44_4).f1)) ((rd_T32 x7_3 x44_4).f3) t223 _ A33.out).mono ?_
               rintro e w45 ⟨rfl, hb⟩
               have HS6_ := (hb.cell (World.block_lt_of_cell? _ _ (hHeld.2.2.2.2.2.2))).trans (hHeld.2.2.2.2.2.2)
               refine ⟨_, rfl, ?_⟩
               have n0_ := am_ (Kd.N_below (by (with_reducible repeat (first | apply Kd.N_alloc | apply Kd.N_drewN | apply Kd.N_drew)); exact HO_13.out) hb)
               have n1_ := am_ (Kd.N_below (by (with_reducible repeat (first | apply Kd.N_alloc | apply Kd.N_drewN | apply Kd.N_drew)); exact HO_42.out) hb)
               have n2_ := am_ (Kd.R_below (ra_ HO_212000.out) hb)
               have n3_ := am_ (Kd.R_below (ra_ HO_212001.out) hb)
               have n4_ := am_ (Kd.V_below (by (with_reducible repeat (first | apply Kd.V_alloc | apply Kd.V_drewN | apply Kd.V_drew)); exact HL220_0.out) hb)
               have n5_ := am_ (blk_below (bk_ BK195.out) hb)
               have n6_ := am_ (blk_below (bk_ BK211.out) hb)
               have n7_ := am_ (blk_below (bk_ BK221.out) hb)
               have n8_ := am_ (below_step (bw_ HB.out) hb)
               replace HO_13 := n0_
               replace HO_42 := n1_
               replace HO_212000 := n2_
               replace HO_212001 := n3_
               replace HL220_0 := n4_
               replace BK195 := n5_
               replace BK211 := n6_
               replace BK221 := n7_
               replace HB := n8_
               clear n0_ n1_ n2_ n3_ n4_ n5_ n6_ n7_ n8_
               (try clear hb)
               (try clear hb2)
               (try clear hk)
               (try clear hi)
               refine hK.out _ _ ⟨cz_ BK221.out 0, cz_ BK221.out 1, cz_ BK221.out 2, cz_ BK221.out 3, cz_ BK221.out 4, cz_ BK221.out 5, HS6_⟩ (fun hHeld => ?_)
               clear hK K
               refine nD_ 57 ?_
               refine pS_ 10 58 HT_ ?_
               refine pS_ 11 11 HT_ ?_
               refine done_ (done_of HT_.out (by kernel_rfl)) ?_
               try go_wp2
               have n0_ := am_ (Kd.N_drew HO_13.out)
               have n1_ := am_ (Kd.N_drew HO_42.out)
               have n2_ := am_ (Kd.R_drew HO_212000.out)
               have n3_ := am_ (Kd.R_drew HO_212001.out)
               have n4_ := am_ (Kd.V_drew HL220_0.out)
               have n5_ := am_ (blk_drew BK195.out)
               have n6_ := am_ (blk_drew BK211.out)
               have n7_ := am_ (blk_drew BK221.out)
               have n8_ := am_ (below_drew1 HB.out)
               replace HO_13 := n0_
               replace HO_42 := n1_
               replace HO_212000 := n2_
               replace HO_212001 := n3_
               replace HL220_0 := n4_
               replace BK195 := n5_
               replace BK211 := n6_
               replace BK221 := n7_
               replace HB := n8_
               clear n0_ n1_ n2_ n3_ n4_ n5_ n6_ n7_ n8_
               have p224 : 0 ≤ (((rd_T32 x7_3 x44_4).f1) : Int) := od_
               have q224 : ((rd_T32 x7_3 x44_4).f1) < (((rd_T32 x7_3 x44_4).f0).length : Int) := od_
               obtain ⟨ad224, e224, hx224_0⟩ := Kd.at_int ((Kd.V_reads' HL220_0.out).2.2) ((rd_T32 x7_3 x44_4).f1) p224 q224
               obtain rfl : ad222 = ad224 := (by injection e224)
               replace p224 := eq_true p224
               replace q224 := eq_true q224
               refine start_ (n := 12) (S := fun w' => w'.cell? ⟨gb221, 0, none⟩ = some (.slice (some ad222) ((rd_T32 x7_3 x44_4).f0).length c220_0) ∧ w'.cell? ⟨gb221, 1, none⟩ = some (.int .i64 ((rd_T32 x7_3 x44_4).f1)) ∧ w'.cell? ⟨gb221, 2, none⟩ = some (.bool true) ∧ w'.cell? ⟨gb221, 3, none⟩ = some (.int .i64 ((rd_T32 x7_3 x44_4).f3)) ∧ w'.cell? ⟨gb221, 4, none⟩ = some (.int .i64 ((rd_T32 x7_3 x44_4).f4)) ∧ w'.cell? ⟨gb221, 5, none⟩ = some (.int .i64 ((rd_T32 x7_3 x44_4).f5)) ∧ w'.cell? (ad222.add (((rd_T32 x7_3 x44_4).f1)).toNat) = some (.int .i64 (rd ((rd_T32 x7_3 x44_4).f0) ((rd_T32 x7_3 x44_4).f1)))) (ds := []) (Array.replicate 12 false) (by kernel_rfl) rfl rfl ⟨cz_ BK221.out 0, cz_ BK221.out 1, cz_ BK221.out 2, cz_ BK221.out 3, cz_ BK221.out 4, cz_ BK221.out 5, hx224_0⟩ (fun hHeld => ?_); refine with_tabW spec_MixVoices.tab19 spec_MixVoices.bits19 (fun HT_ HW_ => ?_)
               generalize w45.drew = w46 at HO_13 HO_42 HO_212000 HO_212001 HL220_0 BK195 BK211 BK221 HB hx224_0 hHeld ⊢
               refine pS_ 0 59 HT_ ?_
               refine pS_ 1 60 HT_ ?_
               refine pS_ 3 62 HT_ ?_
               refine pS_ 7 66 HT_ ?_
               refine tS_ 2 61 HT_ HW_ hHeld ?_
               refine tS_ 4 63 HT_ HW_ hHeld ?_
               refine pS_ 5 64 HT_ ?_
               refine tS_ 6 65 HT_ HW_ hHeld ?_
               refine tS_ 8 67 HT_ HW_ hHeld ?_
               refine oS_ 9 68 HT_ (fun K hK => ?_)
               refine goes_ Try.func34 (by kernel_rfl) rfl #[.int .i64 (rd ((rd_T32 x7_3 x44_4).f0) ((rd_T32 x7_3 x44_4).f1)), .int .i64 ((rd_T32 x7_3 x44_4).f4)] (by rfl) rfl rfl (by (try simp only [List.map_toArray, List.map_cons, List.map_nil]); first | done | rfl | (simp only [List.length_drop, List.length_take]; rfl)) ?_
               with_reducible refine (spec_FixMul.calls k4 (rd ((rd_T32 x7_3 x44_4).f0) ((rd_T32 x7_3 x44_4).f1)) ((rd_T32 x7_3 x44_4).f4) t225 _ A34.out).mono ?_
               rintro e w47 ⟨rfl, hb⟩
               have HS6_ := (hb.cell (World.block_lt_of_cell? _ _ (hHeld.2.2.2.2.2.2))).trans (hHeld.2.2.2.2.2.2)
               refine ⟨_, rfl, ?_⟩
               have n0_ := am_ (Kd.N_below (by (with_reducible repeat (first | apply Kd.N_alloc | apply Kd.N_drewN | apply Kd.N_drew)); exact HO_13.out) hb)
               have n1_ := am_ (Kd.N_below (by (with_reducible repeat (first | apply Kd.N_alloc | apply Kd.N_drewN | apply Kd.N_drew)); exact HO_42.out) hb)
               have n2_ := am_ (Kd.R_below (ra_ HO_212000.out) hb)
               have n3_ := am_ (Kd.R_below (ra_ HO_212001.out) hb)
               have n4_ := am_ (Kd.V_below (by (with_reducible repeat (first | apply Kd.V_alloc | apply Kd.V_drewN | apply Kd.V_drew)); exact HL220_0.out) hb)
               have n5_ := am_ (blk_below (bk_ BK195.out) hb)
               have n6_ := am_ (blk_below (bk_ BK211.out) hb)
               have n7_ := am_ (blk_below (bk_ BK221.out) hb)
               have n8_ := am_ (below_step (bw_ HB.out) hb)
               replace HO_13 := n0_
               replace HO_42 := n1_
               replace HO_212000 := n2_
               replace HO_212001 := n3_
               replace HL220_0 := n4_
               replace BK195 := n5_
               replace BK211 := n6_
               replace BK221 := n7_
               replace HB := n8_
               clear n0_ n1_ n2_ n3_ n4_ n5_ n6_ n7_ n8_
               (try clear hb)
               (try clear hb2)
               (try clear hk)
               (try clear hi)
               refine hK.out _ _ ⟨cz_ BK221.out 0, cz_ BK221.out 1, cz_ BK221.out 2, cz_ BK221.out 3, cz_ BK221.out 4, cz_ BK221.out 5, HS6_⟩ (fun hHeld => ?_)
               clear hK K
               refine nD_ 68 ?_
               refine pS_ 10 69 HT_ ?_
               refine pS_ 11 12 HT_ ?_
               refine done_ (done_of HT_.out (by kernel_rfl)) ?_
               have hcz48_0 := cz_ BK221.out 0
               have hcz48_1 := cz_ BK221.out 1
               have hcz48_2 := cz_ BK221.out 2
               have hcz48_3 := cz_ BK221.out 3
               have hcz48_4 := cz_ BK221.out 4
               have hcz48_5 := cz_ BK221.out 5
               have hfz48_0 := blk_frozen BK221.out 0
               have hfz48_1 := blk_frozen BK221.out 1
               have hfz48_2 := blk_frozen BK221.out 2
               have hfz48_3 := blk_frozen BK221.out 3
               have hfz48_4 := blk_frozen BK221.out 4
               have hfz48_5 := blk_frozen BK221.out 5
               try go_wp2_with (first | ((with_reducible refine gate_store (t := 3) (p := 73) rfl ?_); refine se_ 3 73 (w47.setCell ⟨gb221, 1, none⟩ (.int .i64 (wrap64 (((rd_T32 x7_3 x44_4).f1) + 1)))) ?_; intro w49 hw; have n0_ : Aside0 (Kd.N k32 32 w49 w.heap.size (fun k_ => (w.heap.size ≤ k_) ∧ nb k_ (.slice (some ad220) x7_3.length co27) ∧ nb k_ u212000 ∧ nb k_ u212001 ∧ k_ ≠ gb195 ∧ k_ ≠ gb211 ∧ k_ ≠ gb221) u13 x13_4) := ⟨(by rw [hw]; exact (by (with_reducible repeat (first | apply Kd.N_alloc | apply Kd.N_drewN | apply Kd.N_drew)); exact Kd.N_mono (Kd.N_far (p := ⟨gb221, 1, none⟩) (Kd.N_mono HO_13.out (fun k_ hk => (⟨hk, hk.2.2.2.2.2.2⟩ : _ ∧ k_ ≠ gb221))) (fun _ hk => hk.2) (.int .i64 (wrap64 (((rd_T32 x7_3 x44_4).f1) + 1)))) (fun _ hk => ⟨hk.1.1, ⟨hk.1.2.1, ⟨hk.1.2.2.1, ⟨hk.1.2.2.2.1, ⟨hk.1.2.2.2.2.1, ⟨hk.1.2.2.2.2.2.1, hk.1.2.2.2.2.2.2⟩⟩⟩⟩⟩⟩)))⟩; have n1_ : Aside0 (Kd.N k32 32 w49 w.heap.size (fun k_ => (w.heap.size ≤ k_) ∧ nb k_ u13 ∧ nb k_ u212000 ∧ nb k_ u212001 ∧ k_ ≠ gb195 ∧ k_ ≠ gb211 ∧ k_ ≠ gb221) (.slice (some ad220) x7_3.length co27) x7_3) := ⟨(by rw [hw]; exact (by (with_reducible repeat (first | apply Kd.N_alloc | apply Kd.N_drewN | apply Kd.N_drew)); exact Kd.N_mono (Kd.N_far (p := ⟨gb221, 1, none⟩) (Kd.N_mono HO_42.out (fun k_ hk => (⟨hk, hk.2.2.2.2.2.2⟩ : _ ∧ k_ ≠ gb221))) (fun _ hk => hk.2) (.int .i64 (wrap64 (((rd_T32 x7_3 x44_4).f1) + 1)))) (fun _ hk => ⟨hk.1.1, ⟨hk.1.2.1, ⟨hk.1.2.2.1, ⟨hk.1.2.2.2.1, ⟨hk.1.2.2.2.2.1, ⟨hk.1.2.2.2.2.2.1, hk.1.2.2.2.2.2.2⟩⟩⟩⟩⟩⟩)))⟩; have n2_ : Aside0 (Kd.R (Kd.int .i64) 3 w49 w.heap.size (fun k_ => (w.heap.size ≤ k_) ∧ nb k_ u212001) u212000 x212000_3) := ⟨(by rw [hw]; exact (ra_ (Kd.R_mono (Kd.R_far (p := ⟨gb221, 1, none⟩) (Kd.R_types HO_212000.out BK221.out (by decide)) (fun _ hk => hk.2) (.int .i64 (wrap64 (((rd_T32 x7_3 x44_4).f1) + 1)))) (fun _ hk => ⟨hk.1.1, hk.1.2⟩))))⟩; have n3_ : Aside0 (Kd.R (Kd.int .i64) 3 w49 w.heap.size (fun k_ => (w.heap.size ≤ k_) ∧ nb k_ u212000) u212001 x212001_3) := ⟨(by rw [hw]; exact (ra_ (Kd.R_mono (Kd.R_far (p := ⟨gb221, 1, none⟩) (Kd.R_types HO_212001.out BK221.out (by decide)) (fun _ hk => hk.2) (.int .i64 (wrap64 (((rd_T32 x7_3 x44_4).f1) + 1)))) (fun _ hk => ⟨hk.1.1, hk.1.2⟩))))⟩; have n4_ : Aside0 (Kd.V (Kd.int .i64) 3 w49 w.heap.size (fun k_ => (w.heap.size ≤ k_) ∧ nb k_ u13 ∧ nb k_ (.slice (some ad220) x7_3.length co27) ∧ nb k_ u212000 ∧ nb k_ u212001 ∧ k_ ≠ gb195 ∧ k_ ≠ gb211 ∧ k_ ≠ gb221) (.slice (some ad222) ((rd_T32 x7_3 x44_4).f0).length c220_0) ((rd_T32 x7_3 x44_4).f0)) := ⟨(by rw [hw]; exact (by (with_reducible repeat (first | apply Kd.V_alloc | apply Kd.V_drewN | apply Kd.V_drew)); exact Kd.V_mono (Kd.V_far (p := ⟨gb221, 1, none⟩) (Kd.V_mono HL220_0.out (fun k_ hk => (⟨hk, hk.2.2.2.2.2.2.2⟩ : _ ∧ k_ ≠ gb221))) (fun _ hk => hk.2) (.int .i64 (wrap64 (((rd_T32 x7_3 x44_4).f1) + 1)))) (fun _ hk => ⟨hk.1.1, ⟨hk.1.2.1, ⟨hk.1.2.2.1, ⟨hk.1.2.2.2.1, ⟨hk.1.2.2.2.2.1, ⟨hk.1.2.2.2.2.2.1, ⟨hk.1.2.2.2.2.2.2.1, hk.1.2.2.2.2.2.2.2⟩⟩⟩⟩⟩⟩⟩)))⟩; have n5_ : Aside0 (w49.heap[gb195]? = some (.cells #[.slice none 0 0, .slice none 0 0] 40 (0, 0))) := ⟨(by rw [hw]; exact (by (with_reducible repeat (first | refine blk_drewN ?_ _ | refine blk_drew ?_ | refine blk_alloc ?_ _)); refine blk_far ?_ NB195_221.out _; (with_reducible repeat (first | refine blk_drewN ?_ _ | refine blk_drew ?_ | refine blk_alloc ?_ _)); exact BK195.out))⟩; have n6_ : Aside0 (w49.heap[gb211]? = some (.cells #[u212000, u212001] 40 (0, 0))) := ⟨(by rw [hw]; exact (by (with_reducible repeat (first | refine blk_drewN ?_ _ | refine blk_drew ?_ | refine blk_alloc ?_ _)); refine blk_far ?_ NB211_221.out _; (with_reducible repeat (first | refine blk_drewN ?_ _ | refine blk_drew ?_ | refine blk_alloc ?_ _)); exact BK211.out))⟩; have n7_ : Aside0 (w49.heap[gb221]? = some (.cells #[.slice (some ad222) ((rd_T32 x7_3 x44_4).f0).length c220_0, .int .i64 (wrap64 (((rd_T32 x7_3 x44_4).f1) + 1)), .bool true, .int .i64 ((rd_T32 x7_3 x44_4).f3), .int .i64 ((rd_T32 x7_3 x44_4).f4), .int .i64 ((rd_T32 x7_3 x44_4).f5)] 32 (0, 0))) := ⟨(by rw [hw]; exact (by (with_reducible repeat (first | refine blk_drewN ?_ _ | refine blk_drew ?_ | refine blk_alloc ?_ _)); refine blk_put (cs := #[.slice (some ad222) ((rd_T32 x7_3 x44_4).f0).length c220_0, .int .i64 ((rd_T32 x7_3 x44_4).f1), .bool true, .int .i64 ((rd_T32 x7_3 x44_4).f3), .int .i64 ((rd_T32 x7_3 x44_4).f4), .int .i64 ((rd_T32 x7_3 x44_4).f5)]) ?_ 1 _ rfl; (with_reducible repeat (first | refine blk_drewN ?_ _ | refine blk_drew ?_ | refine blk_alloc ?_ _)); exact BK221.out))⟩; have n8_ : Aside0 (Below w.heap.size w w49) := ⟨(by rw [hw]; exact (bw_ HB.out))⟩; clear hw; replace HO_13 := n0_; replace HO_42 := n1_; replace HO_212000 := n2_; replace HO_212001 := n3_; replace HL220_0 := n4_; replace BK195 := n5_; replace BK211 := n6_; replace BK221 := n7_; replace HB := n8_; clear n0_ n1_ n2_ n3_ n4_ n5_ n6_ n7_ n8_; have hcz50_0 := cz_ BK221.out 0; have hcz50_1 := cz_ BK221.out 1; have hcz50_2 := cz_ BK221.out 2; have hcz50_3 := cz_ BK221.out 3; have hcz50_4 := cz_ BK221.out 4; have hcz50_5 := cz_ BK221.out 5; have hfz50_0 := blk_frozen BK221.out 0; have hfz50_1 := blk_frozen BK221.out 1; have hfz50_2 := blk_frozen BK221.out 2; have hfz50_3 := blk_frozen BK221.out 3; have hfz50_4 := blk_frozen BK221.out 4; have hfz50_5 := blk_frozen BK221.out 5) | ((with_reducible refine gate_store (t := 3) (p := 83) rfl ?_); refine se_ 3 83 (w49.setCell ⟨gb221, 1, none⟩ (.int .i64 0)) ?_; intro w51 hw; have n0_ : Aside0 (Kd.N k32 32 w51 w.heap.size (fun k_ => (w.heap.size ≤ k_) ∧ nb k_ (.slice (some ad220) x7_3.length co27) ∧ nb k_ u212000 ∧ nb k_ u212001 ∧ k_ ≠ gb195 ∧ k_ ≠ gb211 ∧ k_ ≠ gb221) u13 x13_4) := ⟨(by rw [hw]; exact (by (with_reducible repeat (first | apply Kd.N_alloc | apply Kd.N_drewN | apply Kd.N_drew)); exact Kd.N_mono (Kd.N_far (p := ⟨gb221, 1, none⟩) (Kd.N_mono HO_13.out (fun k_ hk => (⟨hk, hk.2.2.2.2.2.2⟩ : _ ∧ k_ ≠ gb221))) (fun _ hk => hk.2) (.int .i64 0)) (fun _ hk => ⟨hk.1.1, ⟨hk.1.2.1, ⟨hk.1.2.2.1, ⟨hk.1.2.2.2.1, ⟨hk.1.2.2.2.2.1, ⟨hk.1.2.2.2.2.2.1, hk.1.2.2.2.2.2.2⟩⟩⟩⟩⟩⟩)))⟩; have n1_ : Aside0 (Kd.N k32 32 w51 w.heap.size (fun k_ => (w.heap.size ≤ k_) ∧ nb k_ u13 ∧ nb k_ u212000 ∧ nb k_ u212001 ∧ k_ ≠ gb195 ∧ k_ ≠ gb211 ∧ k_ ≠ gb221) (.slice (some ad220) x7_3.length co27) x7_3) := ⟨(by rw [hw]; exact (by (with_reducible repeat (first | apply Kd.N_alloc | apply Kd.N_drewN | apply Kd.N_drew)); exact Kd.N_mono (Kd.N_far (p := ⟨gb221, 1, none⟩) (Kd.N_mono HO_42.out (fun k_ hk => (⟨hk, hk.2.2.2.2.2.2⟩ : _ ∧ k_ ≠ gb221))) (fun _ hk => hk.2) (.int .i64 0)) (fun _ hk => ⟨hk.1.1, ⟨hk.1.2.1, ⟨hk.1.2.2.1, ⟨hk.1.2.2.2.1, ⟨hk.1.2.2.2.2.1, ⟨hk.1.2.2.2.2.2.1, hk.1.2.2.2.2.2.2⟩⟩⟩⟩⟩⟩)))⟩; have n2_ : Aside0 (Kd.R (Kd.int .i64) 3 w51 w.heap.size (fun k_ => (w.heap.size ≤ k_) ∧ nb k_ u212001) u212000 x212000_3) := ⟨(by rw [hw]; exact (ra_ (Kd.R_mono (Kd.R_far (p := ⟨gb221, 1, none⟩) (Kd.R_types HO_212000.out BK221.out (by decide)) (fun _ hk => hk.2) (.int .i64 0)) (fun _ hk => ⟨hk.1.1, hk.1.2⟩))))⟩; have n3_ : Aside0 (Kd.R (Kd.int .i64) 3 w51 w.heap.size (fun k_ => (w.heap.size ≤ k_) ∧ nb k_ u212000) u212001 x212001_3) := ⟨(by rw [hw]; exact (ra_ (Kd.R_mono (Kd.R_far (p := ⟨gb221, 1, none⟩) (Kd.R_types HO_212001.out BK221.out (by decide)) (fun _ hk => hk.2) (.int .i64 0)) (fun _ hk => ⟨hk.1.1, hk.1.2⟩))))⟩; have n4_ : Aside0 (Kd.V (Kd.int .i64) 3 w51 w.heap.size (fun k_ => (w.heap.size ≤ k_) ∧ nb k_ u13 ∧ nb k_ (.slice (some ad220) x7_3.length co27) ∧ nb k_ u212000 ∧ nb k_ u212001 ∧ k_ ≠ gb195 ∧ k_ ≠ gb211 ∧ k_ ≠ gb221) (.slice (some ad222) ((rd_T32 x7_3 x44_4).f0).length c220_0) ((rd_T32 x7_3 x44_4).f0)) := ⟨(by rw [hw]; exact (by (with_reducible repeat (first | apply Kd.V_alloc | apply Kd.V_drewN | apply Kd.V_drew)); exact Kd.V_mono (Kd.V_far (p := ⟨gb221, 1, none⟩) (Kd.V_mono HL220_0.out (fun k_ hk => (⟨hk, hk.2.2.2.2.2.2.2⟩ : _ ∧ k_ ≠ gb221))) (fun _ hk => hk.2) (.int .i64 0)) (fun _ hk => ⟨hk.1.1, ⟨hk.1.2.1, ⟨hk.1.2.2.1, ⟨hk.1.2.2.2.1, ⟨hk.1.2.2.2.2.1, ⟨hk.1.2.2.2.2.2.1, ⟨hk.1.2.2.2.2.2.2.1, hk.1.2.2.2.2.2.2.2⟩⟩⟩⟩⟩⟩⟩)))⟩; have n5_ : Aside0 (w51.heap[gb195]? = some (.cells #[.slice none 0 0, .slice none 0 0] 40 (0, 0))) := ⟨(by rw [hw]; exact (by (with_reducible repeat (first | refine blk_drewN ?_ _ | refine blk_drew ?_ | refine blk_alloc ?_ _)); refine blk_far ?_ NB195_221.out _; (with_reducible repeat (first | refine blk_drewN ?_ _ | refine blk_drew ?_ | refine blk_alloc ?_ _)); exact BK195.out))⟩; have n6_ : Aside0 (w51.heap[gb211]? = some (.cells #[u212000, u212001] 40 (0, 0))) := ⟨(by rw [hw]; exact (by (with_reducible repeat (first | refine blk_drewN ?_ _ | refine blk_drew ?_ | refine blk_alloc ?_ _)); refine blk_far ?_ NB211_221.out _; (with_reducible repeat (first | refine blk_drewN ?_ _ | refine blk_drew ?_ | refine blk_alloc ?_ _)); exact BK211.out))⟩; have n7_ : Aside0 (w51.heap[gb221]? = some (.cells #[.slice (some ad222) ((rd_T32 x7_3 x44_4).f0).length c220_0, .int .i64 0, .bool true, .int .i64 ((rd_T32 x7_3 x44_4).f3), .int .i64 ((rd_T32 x7_3 x44_4).f4), .int .i64 ((rd_T32 x7_3 x44_4).f5)] 32 (0, 0))) := ⟨(by rw [hw]; exact (by (with_reducible repeat (first | refine blk_drewN ?_ _ | refine blk_drew ?_ | refine blk_alloc ?_ _)); refine blk_put (cs := #[.slice (some ad222) ((rd_T32 x7_3 x44_4).f0).length c220_0, .int .i64 (wrap64 (((rd_T32 x7_3 x44_4).f1) + 1)), .bool true, .int .i64 ((rd_T32 x7_3 x44_4).f3), .int .i64 ((rd_T32 x7_3 x44_4).f4), .int .i64 ((rd_T32 x7_3 x44_4).f5)]) ?_ 1 _ rfl; (with_reducible repeat (first | refine blk_drewN ?_ _ | refine blk_drew ?_ | refine blk_alloc ?_ _)); exact BK221.out))⟩; have n8_ : Aside0 (Below w.heap.size w w51) := ⟨(by rw [hw]; exact (bw_ HB.out))⟩; clear hw; replace HO_13 := n0_; replace HO_42 := n1_; replace HO_212000 := n2_; replace HO_212001 := n3_; replace HL220_0 := n4_; replace BK195 := n5_; replace BK211 := n6_; replace BK221 := n7_; replace HB := n8_; clear n0_ n1_ n2_ n3_ n4_ n5_ n6_ n7_ n8_; have hcz52_0 := cz_ BK221.out 0; have hcz52_1 := cz_ BK221.out 1; have hcz52_2 := cz_ BK221.out 2; have hcz52_3 := cz_ BK221.out 3; have hcz52_4 := cz_ BK221.out 4; have hcz52_5 := cz_ BK221.out 5; have hfz52_0 := blk_frozen BK221.out 0; have hfz52_1 := blk_frozen BK221.out 1; have hfz52_2 := blk_frozen BK221.out 2; have hfz52_3 := blk_frozen BK221.out 3; have hfz52_4 := blk_frozen BK221.out 4; have hfz52_5 := blk_frozen BK221.out 5) | ((with_reducible refine gate_dst (N := 86) rfl ?_); refine bsl6_ 28 32 Try.underlying28 info32 86 (.tmp 85) _ _ _ _ _ _ ?_) | ((with_reducible refine gate_builtin (b := .append) (xs := #[.tmp 84, .tmp 86]) rfl ?_); at_builtin; refine Kd.N_append k32 (w0 := w) w.heap.size rfl (.tmp 84) (.tmp 86) 28 32 (.agg #[(.slice none 0 0), (.int .i64 0), (.bool false), (.int .i64 0), (.int .i64 0), (.int .i64 0)]) 64 rfl Try.underlying28 info32 rfl (by decide) (by omega) u13 x13_4 (⟨(rd_T32 x7_3 x44_4).f0, 0, true, (rd_T32 x7_3 x44_4).f3, (rd_T32 x7_3 x44_4).f4, (rd_T32 x7_3 x44_4).f5⟩ : S32) [.slice (some ad222) ((rd_T32 x7_3 x44_4).f0).length c220_0, .int .i64 0, .bool true, .int .i64 ((rd_T32 x7_3 x44_4).f3), .int .i64 ((rd_T32 x7_3 x44_4).f4), .int .i64 ((rd_T32 x7_3 x44_4).f5)] (fun k_ => (w.heap.size ≤ k_) ∧ nb k_ (.slice (some ad220) x7_3.length co27) ∧ nb k_ u212000 ∧ nb k_ u212001 ∧ k_ ≠ gb195 ∧ k_ ≠ gb211 ∧ k_ ≠ gb221) (fun k_ => ((fun k_ => (w.heap.size ≤ k_) ∧ nb k_ (.slice (some ad220) x7_3.length co27) ∧ nb k_ u212000 ∧ nb k_ u212001 ∧ k_ ≠ gb195 ∧ k_ ≠ gb211 ∧ k_ ≠ gb221)) k_ ∧ nb k_ u13) rfl rfl ?aP (fun _ hk => hk) ?aF ?aO ?aB ?aS ?aL ?_; (case aP => exact (k32_mkF _ _ (⟨(rd_T32 x7_3 x44_4).f0, 0, true, (rd_T32 x7_3 x44_4).f3, (rd_T32 x7_3 x44_4).f4, (rd_T32 x7_3 x44_4).f5⟩ : S32) (Kd.V_reads' (Kd.V_mono (ok' := (fun k_ => ((fun k_ => (w.heap.size ≤ k_) ∧ nb k_ (.slice (some ad220) x7_3.length co27) ∧ nb k_ u212000 ∧ nb k_ u212001 ∧ k_ ≠ gb195 ∧ k_ ≠ gb211 ∧ k_ ≠ gb221)) k_ ∧ nb k_ u13)) (HL220_0.out) (fun k_ hk => ⟨⟨hk.1, ⟨hk.2.2.1, ⟨hk.2.2.2.1, ⟨hk.2.2.2.2.1, ⟨hk.2.2.2.2.2.1, ⟨hk.2.2.2.2.2.2.1, hk.2.2.2.2.2.2.2⟩⟩⟩⟩⟩⟩, hk.2.1⟩))).2.1 (Kd.V_F (Kd.V_mono (ok' := (fun k_ => ((fun k_ => (w.heap.size ≤ k_) ∧ nb k_ (.slice (some ad220) x7_3.length co27) ∧ nb k_ u212000 ∧ nb k_ u212001 ∧ k_ ≠ gb195 ∧ k_ ≠ gb211 ∧ k_ ≠ gb221)) k_ ∧ nb k_ u13)) (HL220_0.out) (fun k_ hk => ⟨⟨hk.1, ⟨hk.2.2.1, ⟨hk.2.2.2.1, ⟨hk.2.2.2.2.1, ⟨hk.2.2.2.2.2.1, ⟨hk.2.2.2.2.2.2.1, hk.2.2.2.2.2.2.2⟩⟩⟩⟩⟩⟩, hk.2.1⟩))))); (case aB => exact (bw_ HB.out)); (case aF => exact (fun k_ hk => ⟨(Nat.le_trans (below_size (bw_ HB.out)) hk), Kd.fresh' (Kd.N_lt (by (with_reducible repeat (first | apply Kd.N_alloc | apply Kd.N_drewN | apply Kd.N_drew)); exact HO_42.out)) k_ hk, Kd.fresh' (Kd.R_lt (ra_ HO_212000.out)) k_ hk, Kd.fresh' (Kd.R_lt (ra_ HO_212001.out)) k_ hk, Kd.freshB (bk_ BK195.out) k_ hk, Kd.freshB (bk_ BK211.out) k_ hk, Kd.freshB (bk_ BK221.out) k_ hk⟩)); (case aO => exact (by (with_reducible repeat (first | apply Kd.N_alloc | apply Kd.N_drewN | apply Kd.N_drew)); exact HO_13.out)); (case aS => exact (below_size (bw_ HB.out))); (case aL => have := LMc38.out; omega); intro v227 w53 ho hb hg hat; rw [← Ny226.out] at ho; have n0_ := am_ (Kd.N_afterv (ok := (fun k_ => (w.heap.size ≤ k_) ∧ nb k_ u212000 ∧ nb k_ u212001 ∧ k_ ≠ gb195 ∧ k_ ≠ gb211 ∧ k_ ≠ gb221)) (by (with_reducible repeat (first | apply Kd.N_alloc | apply Kd.N_drewN | apply Kd.N_drew)); exact Kd.N_mono HO_42.out (fun _ hk => ⟨⟨hk.1, ⟨hk.2.2.1, ⟨hk.2.2.2.1, ⟨hk.2.2.2.2.1, ⟨hk.2.2.2.2.2.1, hk.2.2.2.2.2.2⟩⟩⟩⟩⟩, hk.2.1⟩)) hg hat); have n1_ := am_ (Kd.R_over' (ra_ HO_212000.out) (Kd.N_typed (by (with_reducible repeat (first | apply Kd.N_alloc | apply Kd.N_drewN | apply Kd.N_drew)); exact HO_13.out)) (by decide) hg); have n2_ := am_ (Kd.R_over' (ra_ HO_212001.out) (Kd.N_typed (by (with_reducible repeat (first | apply Kd.N_alloc | apply Kd.N_drewN | apply Kd.N_drew)); exact HO_13.out)) (by decide) hg); have n3_ := am_ (blk_grown (bk_ BK195.out) hg (Kd.N_ne HO_13.out BK195.out (by decide))); have n4_ := am_ (blk_grown (bk_ BK211.out) hg (Kd.N_ne HO_13.out BK211.out (by decide))); have n5_ := am_ (Kd.V_afterv (ok := (fun k_ => (w.heap.size ≤ k_) ∧ nb k_ (.slice (some ad220) x7_3.length co27) ∧ nb k_ u212000 ∧ nb k_ u212001 ∧ k_ ≠ gb195 ∧ k_ ≠ gb211 ∧ k_ ≠ gb221)) (by (with_reducible repeat (first | apply Kd.V_alloc | apply Kd.V_drewN | apply Kd.V_drew)); exact Kd.V_mono HL220_0.out (fun _ hk => ⟨⟨hk.1, ⟨hk.2.2.1, ⟨hk.2.2.2.1, ⟨hk.2.2.2.2.1, ⟨hk.2.2.2.2.2.1, ⟨hk.2.2.2.2.2.2.1, hk.2.2.2.2.2.2.2⟩⟩⟩⟩⟩⟩, hk.2.1⟩)) hg hat); have n6_ := am_ (blk_grown (bk_ BK221.out) hg (Kd.N_away HO_13.out (fun _ hk => hk.2.2.2.2.2.2))); have n7_ := am_ (hb); have n8_ := am_ (ho); clear HO_13; replace HO_42 := n0_; replace HO_212000 := n1_; replace HO_212001 := n2_; replace BK195 := n3_; replace BK211 := n4_; replace HL220_0 := n5_; replace BK221 := n6_; replace HB := n7_; have HO228 := n8_; clear n0_ n1_ n2_ n3_ n4_ n5_ n6_ n7_ n8_; clear ho hb hg hat))
               go_roundg k4
               case measure => have := HJ2.out; have := HK2.out; have := HK3.out; have := HK4.out; omega
               case rel => exact ⟨(wrap64 (x11_4 + t223)), (wrap64 (x12_4 + t225)), (y226), (wrap64 (x44_4 + 1)), sq_, sq_, sq_, H', ⟨by have := HJ2.out; have := HK2.out; have := HK3.out; have := HK4.out; omega⟩, ⟨by (with_reducible repeat (first | apply Kd.N_alloc | apply Kd.N_drewN | apply Kd.N_drew)); exact Kd.N_mono HO228.out (fun _ hk => ⟨hk.1, ⟨hk.2.1, ⟨hk.2.2.1, ⟨hk.2.2.2.1, ⟨hk.2.2.2.2.1, hk.2.2.2.2.2.1⟩⟩⟩⟩⟩)⟩, ⟨by (with_reducible repeat (first | apply Kd.N_alloc | apply Kd.N_drewN | apply Kd.N_drew)); exact Kd.N_mono HO_42.out (fun _ hk => ⟨hk.1.1, ⟨hk.2, ⟨hk.1.2.1, ⟨hk.1.2.2.1, ⟨hk.1.2.2.2.1, hk.1.2.2.2.2.1⟩⟩⟩⟩⟩)⟩, ⟨ra_ HO_212000.out⟩, ⟨ra_ HO_212001.out⟩, ⟨bk_ BK195.out⟩, ⟨bk_ BK211.out⟩, ⟨bw_ HB.out⟩⟩
              ·as_aux_lemma =>
               replace c37 := Bool.eq_false_iff.mpr c37
               subst c37
               replace H := if_ H Bool.false_ne_true
               have H' := am_ H
               clear H
               have p220 : 0 ≤ (x44_4 : Int) := od_
               have q220 : x44_4 < (x7_3.length : Int) := od_
               obtain ⟨ad220, A220_0, c220_0, e220, hx220_0, hx220_1, hx220_2, hx220_3, hx220_4, hx220_5, hl220_0, hi220_0⟩ := at_T32 (Kd.N_reads' HO_42.out).2.2 x44_4 p220 q220
               (try rw [← Nbq36.out] at hx220_2)
               cases e220
               obtain ⟨ce220, hce220, hMe220, hcc220⟩ := Kd.N_get HO_42.out z32 x44_4 p220 (by first | exact q220 | exact od_ | (have e_ := (Kd.N_reads' HO_42.out).1; omega))
               obtain ⟨ua220_0, uc220_0, rfl, ul220_0, ge220_0⟩ := k32_openF hMe220
               have hv220_0 := hcc220 0 _ rfl
               rw [Nat.add_zero] at hv220_0
               replace hv220_0 := Option.some.inj (hv220_0.symm.trans hx220_0)
               injection hv220_0 with hva_ hvn_ hvc_
               rw [hva_] at ge220_0
               rw [hvc_] at ul220_0
               have HL220_0 := am_ (show Kd.V (Kd.int .i64) 3 _ w.heap.size _ _ ((rd_T32 x7_3 x44_4).f0) from Kd.V_mk ul220_0 ge220_0)
               clear hva_ hvn_ hvc_ ge220_0 ul220_0
               clear hcc220 hce220
               have HR220_0 := am_ hi220_0
               have HC220_0 := am_ hl220_0
               clear hi220_0 hl220_0
               replace p220 := eq_true p220
               replace q220 := eq_true q220
               try go_wp2_with (first | ((with_reducible refine gate_dst (N := 15) rfl ?_); refine bx_ 15 #[.slice none 0 0, .int .i64 0, .bool false, .int .i64 0, .int .i64 0, .int .i64 0] 32 ?_; intro gb221 hg w54 hbox hb; have n0_ := am_ (Kd.N_below (Kd.N_elderB (by (with_reducible repeat (first | apply Kd.N_alloc | apply Kd.N_drewN | apply Kd.N_drew)); exact HO_13.out) gb221 (Nat.le_of_eq hg.symm)) hb); have n1_ := am_ (Kd.N_below (Kd.N_elderB (by (with_reducible repeat (first | apply Kd.N_alloc | apply Kd.N_drewN | apply Kd.N_drew)); exact HO_42.out) gb221 (Nat.le_of_eq hg.symm)) hb); have n2_ := am_ (Kd.R_below (ra_ HO_212000.out) hb); have n3_ := am_ (Kd.R_below (ra_ HO_212001.out) hb); have n4_ := am_ (Kd.V_below (Kd.V_elderB (by (with_reducible repeat (first | apply Kd.V_alloc | apply Kd.V_drewN | apply Kd.V_drew)); exact HL220_0.out) gb221 (Nat.le_of_eq hg.symm)) hb); have n5_ := am_ (blk_below (bk_ BK195.out) hb); have n6_ := am_ (blk_below (bk_ BK211.out) hb); have n7_ := am_ (Kd.C_below (by repeat (first | (with_reducible exact HR220_0.out) | (with_reducible refine Kd.C_alloc ?_ _) | (with_reducible refine Kd.C_drewN ?_ _) | (with_reducible refine Kd.C_drew ?_) | exact HR220_0.out)) hb); have n8_ := am_ (below_step (bw_ HB.out) hb); have n9_ := am_ (hbox); have n10_ := am_ (gs_ hg (bw_ HB.out)); have n11_ := am_ (gs_ hg (bw_ HB.out)); have n12_ := am_ (nl_ hg (bk_ BK195.out)); have n13_ := am_ (ng_ hg (bk_ BK195.out)); have n14_ := am_ (nl_ hg (bk_ BK211.out)); have n15_ := am_ (ng_ hg (bk_ BK211.out)); replace HO_13 := n0_; replace HO_42 := n1_; replace HO_212000 := n2_; replace HO_212001 := n3_; replace HL220_0 := n4_; replace BK195 := n5_; replace BK211 := n6_; replace HR220_0 := n7_; replace HB := n8_; have BK221 := n9_; have GW221 := n10_; have GE221 := n11_; have NB195_221 := n12_; have NB221_195 := n13_; have NB211_221 := n14_; have NB221_211 := n15_; clear n0_ n1_ n2_ n3_ n4_ n5_ n6_ n7_ n8_ n9_ n10_ n11_ n12_ n13_ n14_ n15_; clear hb hbox hg; have hnb55 := NB221_195.out; have hnc55 := NB195_221.out; have hnb56 := NB221_211.out; have hnc56 := NB211_221.out; have hcz57_0 := cz_ BK221.out 0; have hcz57_1 := cz_ BK221.out 1; have hcz57_2 := cz_ BK221.out 2; have hcz57_3 := cz_ BK221.out 3; have hcz57_4 := cz_ BK221.out 4; have hcz57_5 := cz_ BK221.out 5; have hfz57_0 := blk_frozen BK221.out 0; have hfz57_1 := blk_frozen BK221.out 1; have hfz57_2 := blk_frozen BK221.out 2; have hfz57_3 := blk_frozen BK221.out 3; have hfz57_4 := blk_frozen BK221.out 4; have hfz57_5 := blk_frozen BK221.out 5))
               have n0_ : Aside0 (Kd.N k32 32 ((((((w54.setCell ⟨gb221, 0, none⟩ (.slice A220_0 ((rd_T32 x7_3 x44_4).f0).length c220_0)).setCell ⟨gb221, 1, none⟩ (.int .i64 ((rd_T32 x7_3 x44_4).f1))).setCell ⟨gb221, 2, none⟩ (.bool false)).setCell ⟨gb221, 3, none⟩ (.int .i64 ((rd_T32 x7_3 x44_4).f3))).setCell ⟨gb221, 4, none⟩ (.int .i64 ((rd_T32 x7_3 x44_4).f4))).setCell ⟨gb221, 5, none⟩ (.int .i64 ((rd_T32 x7_3 x44_4).f5))) w.heap.size (fun k_ => (w.heap.size ≤ k_) ∧ nb k_ (.slice (some ad220) x7_3.length co27) ∧ nb k_ u212000 ∧ nb k_ u212001 ∧ k_ ≠ gb195 ∧ k_ ≠ gb211 ∧ k_ ≠ gb221) u13 x13_4) := ⟨by (with_reducible repeat (first | apply Kd.N_alloc | apply Kd.N_drewN | apply Kd.N_drew)); exact Kd.N_mono (Kd.N_far (p := ⟨gb221, 5, none⟩) (Kd.N_far (p := ⟨gb221, 4, none⟩) (Kd.N_far (p := ⟨gb221, 3, none⟩) (Kd.N_far (p := ⟨gb221, 2, none⟩) (Kd.N_far (p := ⟨gb221, 1, none⟩) (Kd.N_far (p := ⟨gb221, 0, none⟩) (Kd.N_mono HO_13.out (fun k_ hk => (⟨hk, hk.2⟩ : _ ∧ k_ ≠ gb221))) (fun _ hk => hk.2) (.slice A220_0 ((rd_T32 x7_3 x44_4).f0).length c220_0)) (fun _ hk => hk.2) (.int .i64 ((rd_T32 x7_3 x44_4).f1))) (fun _ hk => hk.2) (.bool false)) (fun _ hk => hk.2) (.int .i64 ((rd_T32 x7_3 x44_4).f3))) (fun _ hk => hk.2) (.int .i64 ((rd_T32 x7_3 x44_4).f4))) (fun _ hk => hk.2) (.int .i64 ((rd_T32 x7_3 x44_4).f5))) (fun _ hk => ⟨hk.1.1.1, ⟨hk.1.1.2.1, ⟨hk.1.1.2.2.1, ⟨hk.1.1.2.2.2.1, ⟨hk.1.1.2.2.2.2.1, ⟨hk.1.1.2.2.2.2.2, hk.1.2⟩⟩⟩⟩⟩⟩)⟩
               have n1_ : Aside0 (Kd.N k32 32 ((((((w54.setCell ⟨gb221, 0, none⟩ (.slice A220_0 ((rd_T32 x7_3 x44_4).f0).length c220_0)).setCell ⟨gb221, 1, none⟩ (.int .i64 ((rd_T32 x7_3 x44_4).f1))).setCell ⟨gb221, 2, none⟩ (.bool false)).setCell ⟨gb221, 3, none⟩ (.int .i64 ((rd_T32 x7_3 x44_4).f3))).setCell ⟨gb221, 4, none⟩ (.int .i64 ((rd_T32 x7_3 x44_4).f4))).setCell ⟨gb221, 5, none⟩ (.int .i64 ((rd_T32 x7_3 x44_4).f5))) w.heap.size (fun k_ => (w.heap.size ≤ k_) ∧ nb k_ u13 ∧ nb k_ u212000 ∧ nb k_ u212001 ∧ k_ ≠ gb195 ∧ k_ ≠ gb211 ∧ k_ ≠ gb221) (.slice (some ad220) x7_3.length co27) x7_3) := ⟨by (with_reducible repeat (first | apply Kd.N_alloc | apply Kd.N_drewN | apply Kd.N_drew)); exact Kd.N_mono (Kd.N_far (p := ⟨gb221, 5, none⟩) (Kd.N_far (p := ⟨gb221, 4, none⟩) (Kd.N_far (p := ⟨gb221, 3, none⟩) (Kd.N_far (p := ⟨gb221, 2, none⟩) (Kd.N_far (p := ⟨gb221, 1, none⟩) (Kd.N_far (p := ⟨gb221, 0, none⟩) (Kd.N_mono HO_42.out (fun k_ hk => (⟨hk, hk.2⟩ : _ ∧ k_ ≠ gb221))) (fun _ hk => hk.2) (.slice A220_0 ((rd_T32 x7_3 x44_4).f0).length c220_0)) (fun _ hk => hk.2) (.int .i64 ((rd_T32 x7_3 x44_4).f1))) (fun _ hk => hk.2) (.bool false)) (fun _ hk => hk.2) (.int .i64 ((rd_T32 x7_3 x44_4).f3))) (fun _ hk => hk.2) (.int .i64 ((rd_T32 x7_3 x44_4).f4))) (fun _ hk => hk.2) (.int .i64 ((rd_T32 x7_3 x44_4).f5))) (fun _ hk => ⟨hk.1.1.1, ⟨hk.1.1.2.1, ⟨hk.1.1.2.2.1, ⟨hk.1.1.2.2.2.1, ⟨hk.1.1.2.2.2.2.1, ⟨hk.1.1.2.2.2.2.2, hk.1.2⟩⟩⟩⟩⟩⟩)⟩
               have n2_ : Aside0 (Kd.R (Kd.int .i64) 3 ((((((w54.setCell ⟨gb221, 0, none⟩ (.slice A220_0 ((rd_T32 x7_3 x44_4).f0).length c220_0)).setCell ⟨gb221, 1, none⟩ (.int .i64 ((rd_T32 x7_3 x44_4).f1))).setCell ⟨gb221, 2, none⟩ (.bool false)).setCell ⟨gb221, 3, none⟩ (.int .i64 ((rd_T32 x7_3 x44_4).f3))).setCell ⟨gb221, 4, none⟩ (.int .i64 ((rd_T32 x7_3 x44_4).f4))).setCell ⟨gb221, 5, none⟩ (.int .i64 ((rd_T32 x7_3 x44_4).f5))) w.heap.size (fun k_ => (w.heap.size ≤ k_) ∧ nb k_ u212001) u212000 x212000_3) := ⟨ra_ (Kd.R_mono (Kd.R_far (p := ⟨gb221, 5, none⟩) (Kd.R_far (p := ⟨gb221, 4, none⟩) (Kd.R_far (p := ⟨gb221, 3, none⟩) (Kd.R_far (p := ⟨gb221, 2, none⟩) (Kd.R_far (p := ⟨gb221, 1, none⟩) (Kd.R_far (p := ⟨gb221, 0, none⟩) (Kd.R_types HO_212000.out BK221.out (by decide)) (fun _ hk => hk.2) (.slice A220_0 ((rd_T32 x7_3 x44_4).f0).length c220_0)) (fun _ hk => hk.2) (.int .i64 ((rd_T32 x7_3 x44_4).f1))) (fun _ hk => hk.2) (.bool false)) (fun _ hk => hk.2) (.int .i64 ((rd_T32 x7_3 x44_4).f3))) (fun _ hk => hk.2) (.int .i64 ((rd_T32 x7_3 x44_4).f4))) (fun _ hk => hk.2) (.int .i64 ((rd_T32 x7_3 x44_4).f5))) (fun _ hk => ⟨hk.1.1, hk.1.2⟩))⟩
               have n3_ : Aside0 (Kd.R (Kd.int .i64) 3 ((((((w54.setCell ⟨gb221, 0, none⟩ (.slice A220_0 ((rd_T32 x7_3 x44_4).f0).length c220_0)).setCell ⟨gb221, 1, none⟩ (.int .i64 ((rd_T32 x7_3 x44_4).f1))).setCell ⟨gb221, 2, none⟩ (.bool false)).setCell ⟨gb221, 3, none⟩ (.int .i64 ((rd_T32 x7_3 x44_4).f3))).setCell ⟨gb221, 4, none⟩ (.int .i64 ((rd_T32 x7_3 x44_4).f4))).setCell ⟨gb221, 5, none⟩ (.int .i64 ((rd_T32 x7_3 x44_4).f5))) w.heap.size (fun k_ => (w.heap.size ≤ k_) ∧ nb k_ u212000) u212001 x212001_3) := ⟨ra_ (Kd.R_mono (Kd.R_far (p := ⟨gb221, 5, none⟩) (Kd.R_far (p := ⟨gb221, 4, none⟩) (Kd.R_far (p := ⟨gb221, 3, none⟩) (Kd.R_far (p := ⟨gb221, 2, none⟩) (Kd.R_far (p := ⟨gb221, 1, none⟩) (Kd.R_far (p := ⟨gb221, 0, none⟩) (Kd.R_types HO_212001.out BK221.out (by decide)) (fun _ hk => hk.2) (.slice A220_0 ((rd_T32 x7_3 x44_4).f0).length c220_0)) (fun _ hk => hk.2) (.int .i64 ((rd_T32 x7_3 x44_4).f1))) (fun _ hk => hk.2) (.bool false)) (fun _ hk => hk.2) (.int .i64 ((rd_T32 x7_3 x44_4).f3))) (fun _ hk => hk.2) (.int .i64 ((rd_T32 x7_3 x44_4).f4))) (fun _ hk => hk.2) (.int .i64 ((rd_T32 x7_3 x44_4).f5))) (fun _ hk => ⟨hk.1.1, hk.1.2⟩))⟩
               have n4_ : Aside0 (Kd.V (Kd.int .i64) 3 ((((((w54.setCell ⟨gb221, 0, none⟩ (.slice A220_0 ((rd_T32 x7_3 x44_4).f0).length c220_0)).setCell ⟨gb221, 1, none⟩ (.int .i64 ((rd_T32 x7_3 x44_4).f1))).setCell ⟨gb221, 2, none⟩ (.bool false)).setCell ⟨gb221, 3, none⟩ (.int .i64 ((rd_T32 x7_3 x44_4).f3))).setCell ⟨gb221, 4, none⟩ (.int .i64 ((rd_T32 x7_3 x44_4).f4))).setCell ⟨gb221, 5, none⟩ (.int .i64 ((rd_T32 x7_3 x44_4).f5))) w.heap.size (fun k_ => (w.heap.size ≤ k_) ∧ nb k_ u13 ∧ nb k_ (.slice (some ad220) x7_3.length co27) ∧ nb k_ u212000 ∧ nb k_ u212001 ∧ k_ ≠ gb195 ∧ k_ ≠ gb211 ∧ k_ ≠ gb221) (.slice A220_0 ((rd_T32 x7_3 x44_4).f0).length c220_0) ((rd_T32 x7_3 x44_4).f0)) := ⟨by (with_reducible repeat (first | apply Kd.V_alloc | apply Kd.V_drewN | apply Kd.V_drew)); exact Kd.V_mono (Kd.V_far (p := ⟨gb221, 5, none⟩) (Kd.V_far (p := ⟨gb221, 4, none⟩) (Kd.V_far (p := ⟨gb221, 3, none⟩) (Kd.V_far (p := ⟨gb221, 2, none⟩) (Kd.V_far (p := ⟨gb221, 1, none⟩) (Kd.V_far (p := ⟨gb221, 0, none⟩) (Kd.V_mono HL220_0.out (fun k_ hk => (⟨hk, hk.2⟩ : _ ∧ k_ ≠ gb221))) (fun _ hk => hk.2) (.slice A220_0 ((rd_T32 x7_3 x44_4).f0).length c220_0)) (fun _ hk => hk.2) (.int .i64 ((rd_T32 x7_3 x44_4).f1))) (fun _ hk => hk.2) (.bool false)) (fun _ hk => hk.2) (.int .i64 ((rd_T32 x7_3 x44_4).f3))) (fun _ hk => hk.2) (.int .i64 ((rd_T32 x7_3 x44_4).f4))) (fun _ hk => hk.2) (.int .i64 ((rd_T32 x7_3 x44_4).f5))) (fun _ hk => ⟨hk.1.1.1.1, ⟨hk.1.1.1.2.1, ⟨hk.1.1.2, ⟨hk.1.1.1.2.2.1, ⟨hk.1.1.1.2.2.2.1, ⟨hk.1.1.1.2.2.2.2.1, ⟨hk.1.1.1.2.2.2.2.2, hk.1.2⟩⟩⟩⟩⟩⟩⟩)⟩
               have n5_ : Aside0 (((((((w54.setCell ⟨gb221, 0, none⟩ (.slice A220_0 ((rd_T32 x7_3 x44_4).f0).length c220_0)).setCell ⟨gb221, 1, none⟩ (.int .i64 ((rd_T32 x7_3 x44_4).f1))).setCell ⟨gb221, 2, none⟩ (.bool false)).setCell ⟨gb221, 3, none⟩ (.int .i64 ((rd_T32 x7_3 x44_4).f3))).setCell ⟨gb221, 4, none⟩ (.int .i64 ((rd_T32 x7_3 x44_4).f4))).setCell ⟨gb221, 5, none⟩ (.int .i64 ((rd_T32 x7_3 x44_4).f5))).heap[gb195]? = some (.cells #[.slice none 0 0, .slice none 0 0] 40 (0, 0))) := ⟨by (with_reducible repeat (first | refine blk_drewN ?_ _ | refine blk_drew ?_ | refine blk_alloc ?_ _)); refine blk_far ?_ NB195_221.out _; (with_reducible repeat (first | refine blk_drewN ?_ _ | refine blk_drew ?_ | refine blk_alloc ?_ _)); refine blk_far ?_ NB195_221.out _; (with_reducible repeat (first | refine blk_drewN ?_ _ | refine blk_drew ?_ | refine blk_alloc ?_ _)); refine blk_far ?_ NB195_221.out _; (with_reducible repeat (first | refine blk_drewN ?_ _ | refine blk_drew ?_ | refine blk_alloc ?_ _)); refine blk_far ?_ NB195_221.out _; (with_reducible repeat (first | refine blk_drewN ?_ _ | refine blk_drew ?_ | refine blk_alloc ?_ _)); refine blk_far ?_ NB195_221.out _; (with_reducible repeat (first | refine blk_drewN ?_ _ | refine blk_drew ?_ | refine blk_alloc ?_ _)); refine blk_far ?_ NB195_221.out _; (with_reducible repeat (first | refine blk_drewN ?_ _ | refine blk_drew ?_ | refine blk_alloc ?_ _)); exact BK195.out⟩
               have n6_ : Aside0 (((((((w54.setCell ⟨gb221, 0, none⟩ (.slice A220_0 ((rd_T32 x7_3 x44_4).f0).length c220_0)).setCell ⟨gb221, 1, none⟩ (.int .i64 ((rd_T32 x7_3 x44_4).f1))).setCell ⟨gb221, 2, none⟩ (.bool false)).setCell ⟨gb221, 3, none⟩ (.int .i64 ((rd_T32 x7_3 x44_4).f3))).setCell ⟨gb221, 4, none⟩ (.int .i64 ((rd_T32 x7_3 x44_4).f4))).setCell ⟨gb221, 5, none⟩ (.int .i64 ((rd_T32 x7_3 x44_4).f5))).heap[gb211]? = some (.cells #[u212000, u212001] 40 (0, 0))) := ⟨by (with_reducible repeat (first | refine blk_drewN ?_ _ | refine blk_drew ?_ | refine blk_alloc ?_ _)); refine blk_far ?_ NB211_221.out _; (with_reducible repeat (first | refine blk_drewN ?_ _ | refine blk_drew ?_ | refine blk_alloc ?_ _)); refine blk_far ?_ NB211_221.out _; (with_reducible repeat (first | refine blk_drewN ?_ _ | refine blk_drew ?_ | refine blk_alloc ?_ _)); refine blk_far ?_ NB211_221.out _; (with_reducible repeat (first | refine blk_drewN ?_ _ | refine blk_drew ?_ | refine blk_alloc ?_ _)); refine blk_far ?_ NB211_221.out _; (with_reducible repeat (first | refine blk_drewN ?_ _ | refine blk_drew ?_ | refine blk_alloc ?_ _)); refine blk_far ?_ NB211_221.out _; (with_reducible repeat (first | refine blk_drewN ?_ _ | refine blk_drew ?_ | refine blk_alloc ?_ _)); refine blk_far ?_ NB211_221.out _; (with_reducible repeat (first | refine blk_drewN ?_ _ | refine blk_drew ?_ | refine blk_alloc ?_ _)); exact BK211.out⟩
               have n7_ : Aside0 (((((((w54.setCell ⟨gb221, 0, none⟩ (.slice A220_0 ((rd_T32 x7_3 x44_4).f0).length c220_0)).setCell ⟨gb221, 1, none⟩ (.int .i64 ((rd_T32 x7_3 x44_4).f1))).setCell ⟨gb221, 2, none⟩ (.bool false)).setCell ⟨gb221, 3, none⟩ (.int .i64 ((rd_T32 x7_3 x44_4).f3))).setCell ⟨gb221, 4, none⟩ (.int .i64 ((rd_T32 x7_3 x44_4).f4))).setCell ⟨gb221, 5, none⟩ (.int .i64 ((rd_T32 x7_3 x44_4).f5))).heap[gb221]? = some (.cells #[.slice A220_0 ((rd_T32 x7_3 x44_4).f0).length c220_0, .int .i64 ((rd_T32 x7_3 x44_4).f1), .bool false, .int .i64 ((rd_T32 x7_3 x44_4).f3), .int .i64 ((rd_T32 x7_3 x44_4).f4), .int .i64 ((rd_T32 x7_3 x44_4).f5)] 32 (0, 0))) := ⟨by (with_reducible repeat (first | refine blk_drewN ?_ _ | refine blk_drew ?_ | refine blk_alloc ?_ _)); refine blk_put (cs := #[.slice A220_0 ((rd_T32 x7_3 x44_4).f0).length c220_0, .int .i64 ((rd_T32 x7_3 x44_4).f1), .bool false, .int .i64 ((rd_T32 x7_3 x44_4).f3), .int .i64 ((rd_T32 x7_3 x44_4).f4), .int .i64 0]) ?_ 5 _ rfl; (with_reducible repeat (first | refine blk_drewN ?_ _ | refine blk_drew ?_ | refine blk_alloc ?_ _)); refine blk_put (cs := #[.slice A220_0 ((rd_T32 x7_3 x44_4).f0).length c220_0, .int .i64 ((rd_T32 x7_3 x44_4).f1), .bool false, .int .i64 ((rd_T32 x7_3 x44_4).f3), .int .i64 0, .int .i64 0]) ?_ 4 _ rfl; (with_reducible repeat (first | refine blk_drewN ?_ _ | refine blk_drew ?_ | refine blk_alloc ?_ _)); refine blk_put (cs := #[.slice A220_0 ((rd_T32 x7_3 x44_4).f0).length c220_0, .int .i64 ((rd_T32 x7_3 x44_4).f1), .bool false, .int .i64 0, .int .i64 0, .int .i64 0]) ?_ 3 _ rfl; (with_reducible repeat (first | refine blk_drewN ?_ _ | refine blk_drew ?_ | refine blk_alloc ?_ _)); refine blk_put (cs := #[.slice A220_0 ((rd_T32 x7_3 x44_4).f0).length c220_0, .int .i64 ((rd_T32 x7_3 x44_4).f1), .bool false, .int .i64 0, .int .i64 0, .int .i64 0]) ?_ 2 _ rfl; (with_reducible repeat (first | refine blk_drewN ?_ _ | refine blk_drew ?_ | refine blk_alloc ?_ _)); refine blk_put (cs := #[.slice A220_0 ((rd_T32 x7_3 x44_4).f0).length c220_0, .int .i64 0, .bool false, .int .i64 0, .int .i64 0, .int .i64 0]) ?_ 1 _ rfl; (with_reducible repeat (first | refine blk_drewN ?_ _ | refine blk_drew ?_ | refine blk_alloc ?_ _)); refine blk_put (cs := #[.slice none 0 0, .int .i64 0, .bool false, .int .i64 0, .int .i64 0, .int .i64 0]) ?_ 0 _ rfl; (with_reducible repeat (first | refine blk_drewN ?_ _ | refine blk_drew ?_ | refine blk_alloc ?_ _)); exact BK221.out⟩
               have n8_ : Aside0 (Below w.heap.size w ((((((w54.setCell ⟨gb221, 0, none⟩ (.slice A220_0 ((rd_T32 x7_3 x44_4).f0).length c220_0)).setCell ⟨gb221, 1, none⟩ (.int .i64 ((rd_T32 x7_3 x44_4).f1))).setCell ⟨gb221, 2, none⟩ (.bool false)).setCell ⟨gb221, 3, none⟩ (.int .i64 ((rd_T32 x7_3 x44_4).f3))).setCell ⟨gb221, 4, none⟩ (.int .i64 ((rd_T32 x7_3 x44_4).f4))).setCell ⟨gb221, 5, none⟩ (.int .i64 ((rd_T32 x7_3 x44_4).f5)))) := ⟨bw_ HB.out⟩
               (try clear HO_13)
               (try clear HO_42)
               (try clear HO_212000)
               (try clear HO_212001)
               (try clear HL220_0)
               (try clear BK195)
               (try clear BK211)
               (try clear BK221)
               (try clear HB)
               generalize ((((((w54.setCell ⟨gb221, 0, none⟩ (.slice A220_0 ((rd_T32 x7_3 x44_4).f0).length c220_0)).setCell ⟨gb221, 1, none⟩ (.int .i64 ((rd_T32 x7_3 x44_4).f1))).setCell ⟨gb221, 2, none⟩ (.bool false)).setCell ⟨gb221, 3, none⟩ (.int .i64 ((rd_T32 x7_3 x44_4).f3))).setCell ⟨gb221, 4, none⟩ (.int .i64 ((rd_T32 x7_3 x44_4).f4))).setCell ⟨gb221, 5, none⟩ (.int .i64 ((rd_T32 x7_3 x44_4).f5))) = w58 at n0_ n1_ n2_ n3_ n4_ n5_ n6_ n7_ n8_ ⊢
               have HO_13 := n0_
               have HO_42 := n1_
               have HO_212000 := n2_
               have HO_212001 := n3_
               have HL220_0 := n4_
               have BK195 := n5_
               have BK211 := n6_
               have BK221 := n7_
               have HB := n8_
               clear n0_ n1_ n2_ n3_ n4_ n5_ n6_ n7_ n8_
               have n0_ := am_ (Kd.N_drew HO_13.out)
               have n1_ := am_ (Kd.N_drew HO_42.out)
               have n2_ := am_ (Kd.R_drew HO_212000.out)
               have n3_ := am_ (Kd.R_drew HO_212001.out)
               have n4_ := am_ (Kd.V_drew HL220_0.out)
               have n5_ := am_ (blk_drew BK195.out)
               have n6_ := am_ (blk_drew BK211.out)
               have n7_ := am_ (blk_drew BK221.out)
               have n8_ := am_ (below_drew1 HB.out)
               replace HO_13 := n0_
               replace HO_42 := n1_
               replace HO_212000 := n2_
               replace HO_212001 := n3_
               replace HL220_0 := n4_
               replace BK195 := n5_
               replace BK211 := n6_
               replace BK221 := n7_
               replace HB := n8_
               clear n0_ n1_ n2_ n3_ n4_ n5_ n6_ n7_ n8_
               have p222 : 0 ≤ (((rd_T32 x7_3 x44_4).f1) : Int) := od_
               have q222 : ((rd_T32 x7_3 x44_4).f1) < (((rd_T32 x7_3 x44_4).f0).length : Int) := od_
               obtain ⟨ad222, e222, hx222_0⟩ := Kd.at_int ((Kd.V_reads' HL220_0.out).2.2) ((rd_T32 x7_3 x44_4).f1) p222 q222
               cases e222
               replace p222 := eq_true p222
               replace q222 := eq_true q222
               refine start_ (n := 12) (S := fun w' => w'.cell? ⟨gb221, 0, none⟩ = some (.slice (some ad222) ((rd_T32 x7_3 x44_4).f0).length c220_0) ∧ w'.cell? ⟨gb221, 1, none⟩ = some (.int .i64 ((rd_T32 x7_3 x44_4).f1)) ∧ w'.cell? ⟨gb221, 2, none⟩ = some (.bool false) ∧ w'.cell? ⟨gb221, 3, none⟩ = some (.int .i64 ((rd_T32 x7_3 x44_4).f3)) ∧ w'.cell? ⟨gb221, 4, none⟩ = some (.int .i64 ((rd_T32 x7_3 x44_4).f4)) ∧ w'.cell? ⟨gb221, 5, none⟩ = some (.int .i64 ((rd_T32 x7_3 x44_4).f5)) ∧ w'.cell? (ad222.add (((rd_T32 x7_3 x44_4).f1)).toNat) = some (.int .i64 (rd ((rd_T32 x7_3 x44_4).f0) ((rd_T32 x7_3 x44_4).f1)))) (ds := []) (Array.replicate 12 false) (by kernel_rfl) rfl rfl ⟨cz_ BK221.out 0, cz_ BK221.out 1, cz_ BK221.out 2, cz_ BK221.out 3, cz_ BK221.out 4, cz_ BK221.out 5, hx222_0⟩ (fun hHeld => ?_); refine with_tabW spec_MixVoices.tab18 spec_MixVoices.bits18 (fun HT_ HW_ => ?_)
               generalize w58.drew = w59 at HO_13 HO_42 HO_212000 HO_212001 HL220_0 BK195 BK211 BK221 HB hx222_0 hHeld ⊢
               refine pS_ 0 48 HT_ ?_
               refine pS_ 1 49 HT_ ?_
               refine pS_ 3 51 HT_ ?_
               refine pS_ 7 55 HT_ ?_
               refine tS_ 2 50 HT_ HW_ hHeld ?_
               refine tS_ 4 52 HT_ HW_ hHeld ?_
               refine pS_ 5 53 HT_ ?_
               refine tS_ 6 54 HT_ HW_ hHeld ?_
               refine tS_ 8 56 HT_ HW_ hHeld ?_
               refine oS_ 9 57 HT_ (fun K hK => ?_)
               refine goes_ Try.func34 (by kernel_rfl) rfl #[.int .i64 (rd ((rd_T32 x7_3 x44_4).f0) ((rd_T32 x7_3 x44_4).f1)), .int .i64 ((rd_T32 x7_3 x44_4).f3)] (by rfl) rfl rfl (by (try simp only [List.map_toArray, List.map_cons, List.map_nil]); first | done | rfl | (simp only [List.length_drop, List.length_take]; rfl)) ?_
               with_reducible refine (spec_FixMul.calls k4 (rd ((rd_T32 x7_3 x44_4).f0) ((rd_T32 x7_3 x44_4).f1)) ((rd_T32 x7_3 x44_4).f3) t223 _ A33.out).mono ?_
               rintro e w60 ⟨rfl, hb⟩
               have HS6_ := (hb.cell (World.block_lt_of_cell? _ _ (hHeld.2.2.2.2.2.2))).trans (hHeld.2.2.2.2.2.2)
               refine ⟨_, rfl, ?_⟩
               have n0_ := am_ (Kd.N_below (by (with_reducible repeat (first | apply Kd.N_alloc | apply Kd.N_drewN | apply Kd.N_drew)); exact HO_13.out) hb)
               have n1_ := am_ (Kd.N_below (by (with_reducible repeat (first | apply Kd.N_alloc | apply Kd.N_drewN | apply Kd.N_drew)); exact HO_42.out) hb)
               have n2_ := am_ (Kd.R_below (ra_ HO_212000.out) hb)
               have n3_ := am_ (Kd.R_below (ra_ HO_212001.out) hb)
               have n4_ := am_ (Kd.V_below (by (with_reducible repeat (first | apply Kd.V_alloc | apply Kd.V_drewN | apply Kd.V_drew)); exact HL220_0.out) hb)
               have n5_ := am_ (blk_below (bk_ BK195.out) hb)
               have n6_ := am_ (blk_below (bk_ BK211.out) hb)
               have n7_ := am_ (blk_below (bk_ BK221.out) hb)
               have n8_ := am_ (below_step (bw_ HB.out) hb)
               replace HO_13 := n0_
               replace HO_42 := n1_
               replace HO_212000 := n2_
               replace HO_212001 := n3_
               replace HL220_0 := n4_
               replace BK195 := n5_
               replace BK211 := n6_
               replace BK221 := n7_
               replace HB := n8_
               clear n0_ n1_ n2_ n3_ n4_ n5_ n6_ n7_ n8_
               (try clear hb)
               (try clear hb2)
               (try clear hk)
               (try clear hi)
               refine hK.out _ _ ⟨cz_ BK221.out 0, cz_ BK221.out 1, cz_ BK221.out 2, cz_ BK221.out 3, cz_ BK221.out 4, cz_ BK221.out 5, HS6_⟩ (fun hHeld => ?_)
               clear hK K
               refine nD_ 57 ?_
               refine pS_ 10 58 HT_ ?_
               refine pS_ 11 11 HT_ ?_
               refine done_ (done_of HT_.out (by kernel_rfl)) ?_
               try go_wp2
               have n0_ := am_ (Kd.N_drew HO_13.out)
               have n1_ := am_ (Kd.N_drew HO_42.out)
               have n2_ := am_ (Kd.R_drew HO_212000.out)
               have n3_ := am_ (Kd.R_drew HO_212001.out)
               have n4_ := am_ (Kd.V_drew HL220_0.out)
               have n5_ := am_ (blk_drew BK195.out)
               have n6_ := am_ (blk_drew BK211.out)
               have n7_ := am_ (blk_drew BK221.out)
               have n8_ := am_ (below_drew1 HB.out)
               replace HO_13 := n0_
               replace HO_42 := n1_
               replace HO_212000 := n2_
               replace HO_212001 := n3_
               replace HL220_0 := n4_
               replace BK195 := n5_
               replace BK211 := n6_
               replace BK221 := n7_
               replace HB := n8_
               clear n0_ n1_ n2_ n3_ n4_ n5_ n6_ n7_ n8_
               have p224 : 0 ≤ (((rd_T32 x7_3 x44_4).f1) : Int) := od_
               have q224 : ((rd_T32 x7_3 x44_4).f1) < (((rd_T32 x7_3 x44_4).f0).length : Int) := od_
               obtain ⟨ad224, e224, hx224_0⟩ := Kd.at_int ((Kd.V_reads' HL220_0.out).2.2) ((rd_T32 x7_3 x44_4).f1) p224 q224
               obtain rfl : ad222 = ad224 := (by injection e224)
               replace p224 := eq_true p224
               replace q224 := eq_true q224
               refine start_ (n := 12) (S := fun w' => w'.cell? ⟨gb221, 0, none⟩ = some (.slice (some ad222) ((rd_T32 x7_3 x44_4).f0).length c220_0) ∧ w'.cell? ⟨gb221, 1, none⟩ = some (.int .i64 ((rd_T32 x7_3 x44_4).f1)) ∧ w'.cell? ⟨gb221, 2, none⟩ = some (.bool false) ∧ w'.cell? ⟨gb221, 3, none⟩ = some (.int .i64 ((rd_T32 x7_3 x44_4).f3)) ∧ w'.cell? ⟨gb221, 4, none⟩ = some (.int .i64 ((rd_T32 x7_3 x44_4).f4)) ∧ w'.cell? ⟨gb221, 5, none⟩ = some (.int .i64 ((rd_T32 x7_3 x44_4).f5)) ∧ w'.cell? (ad222.add (((rd_T32 x7_3 x44_4).f1)).toNat) = some (.int .i64 (rd ((rd_T32 x7_3 x44_4).f0) ((rd_T32 x7_3 x44_4).f1)))) (ds := []) (Array.replicate 12 false) (by kernel_rfl) rfl rfl ⟨cz_ BK221.out 0, cz_ BK221.out 1, cz_ BK221.out 2, cz_ BK221.out 3, cz_ BK221.out 4, cz_ BK221.out 5, hx224_0⟩ (fun hHeld => ?_); refine with_tabW spec_MixVoices.tab19 spec_MixVoices.bits19 (fun HT_ HW_ => ?_)
               generalize w60.drew = w61 at HO_13 HO_42 HO_212000 HO_212001 HL220_0 BK195 BK211 BK221 HB hx224_0 hHeld ⊢
               refine pS_ 0 59 HT_ ?_
               refine pS_ 1 60 HT_ ?_
               refine pS_ 3 62 HT_ ?_
               refine pS_ 7 66 HT_ ?_
               refine tS_ 2 61 HT_ HW_ hHeld ?_
               refine tS_ 4 63 HT_ HW_ hHeld ?_
               refine pS_ 5 64 HT_ ?_
               refine tS_ 6 65 HT_ HW_ hHeld ?_
               refine tS_ 8 67 HT_ HW_ hHeld ?_
               refine oS_ 9 68 HT_ (fun K hK => ?_)
               refine goes_ Try.func34 (by kernel_rfl) rfl #[.int .i64 (rd ((rd_T32 x7_3 x44_4).f0) ((rd_T32 x7_3 x44_4).f1)), .int .i64 ((rd_T32 x7_3 x44_4).f4)] (by rfl) rfl rfl (by (try simp only [List.map_toArray, List.map_cons, List.map_nil]); first | done | rfl | (simp only [List.length_drop, List.length_take]; rfl)) ?_
               with_reducible refine (spec_FixMul.calls k4 (rd ((rd_T32 x7_3 x44_4).f0) ((rd_T32 x7_3 x44_4).f1)) ((rd_T32 x7_3 x44_4).f4) t225 _ A34.out).mono ?_
               rintro e w62 ⟨rfl, hb⟩
               have HS6_ := (hb.cell (World.block_lt_of_cell? _ _ (hHeld.2.2.2.2.2.2))).trans (hHeld.2.2.2.2.2.2)
               refine ⟨_, rfl, ?_⟩
               have n0_ := am_ (Kd.N_below (by (with_reducible repeat (first | apply Kd.N_alloc | apply Kd.N_drewN | apply Kd.N_drew)); exact HO_13.out) hb)
               have n1_ := am_ (Kd.N_below (by (with_reducible repeat (first | apply Kd.N_alloc | apply Kd.N_drewN | apply Kd.N_drew)); exact HO_42.out) hb)
               have n2_ := am_ (Kd.R_below (ra_ HO_212000.out) hb)
               have n3_ := am_ (Kd.R_below (ra_ HO_212001.out) hb)
               have n4_ := am_ (Kd.V_below (by (with_reducible repeat (first | apply Kd.V_alloc | apply Kd.V_drewN | apply Kd.V_drew)); exact HL220_0.out) hb)
               have n5_ := am_ (blk_below (bk_ BK195.out) hb)
               have n6_ := am_ (blk_below (bk_ BK211.out) hb)
               have n7_ := am_ (blk_below (bk_ BK221.out) hb)
               have n8_ := am_ (below_step (bw_ HB.out) hb)
               replace HO_13 := n0_
               replace HO_42 := n1_
               replace HO_212000 := n2_
               replace HO_212001 := n3_
               replace HL220_0 := n4_
               replace BK195 := n5_
               replace BK211 := n6_
               replace BK221 := n7_
               replace HB := n8_
               clear n0_ n1_ n2_ n3_ n4_ n5_ n6_ n7_ n8_
               (try clear hb)
               (try clear hb2)
               (try clear hk)
               (try clear hi)
               refine hK.out _ _ ⟨cz_ BK221.out 0, cz_ BK221.out 1, cz_ BK221.out 2, cz_ BK221.out 3, cz_ BK221.out 4, cz_ BK221.out 5, HS6_⟩ (fun hHeld => ?_)
               clear hK K
               refine nD_ 68 ?_
               refine pS_ 10 69 HT_ ?_
               refine pS_ 11 12 HT_ ?_
               refine done_ (done_of HT_.out (by kernel_rfl)) ?_
               have hcz63_0 := cz_ BK221.out 0
               have hcz63_1 := cz_ BK221.out 1
               have hcz63_2 := cz_ BK221.out 2
               have hcz63_3 := cz_ BK221.out 3
               have hcz63_4 := cz_ BK221.out 4
               have hcz63_5 := cz_ BK221.out 5
               have hfz63_0 := blk_frozen BK221.out 0
               have hfz63_1 := blk_frozen BK221.out 1
               have hfz63_2 := blk_frozen BK221.out 2
               have hfz63_3 := blk_frozen BK221.out 3
               have hfz63_4 := blk_frozen BK221.out 4
               have hfz63_5 := blk_frozen BK221.out 5
               try go_wp2
               go_roundg k4
               case measure => have := HJ2.out; have := HK2.out; have := HK3.out; have := HK4.out; omega
               case rel => exact ⟨(wrap64 (x11_4 + t223)), (wrap64 (x12_4 + t225)), (x13_4), (wrap64 (x44_4 + 1)), sq_, sq_, sq_, H', ⟨by have := HJ2.out; have := HK2.out; have := HK3.out; have := HK4.out; omega⟩, ⟨by (with_reducible repeat (first | apply Kd.N_alloc | apply Kd.N_drewN | apply Kd.N_drew)); exact Kd.N_mono (Kd.N_far (p := ⟨gb221, 1, none⟩) (Kd.N_mono HO_13.out (fun k_ hk => (⟨hk, hk.2.2.2.2.2.2⟩ : _ ∧ k_ ≠ gb221))) (fun _ hk => hk.2) (.int .i64 (wrap64 (((rd_T32 x7_3 x44_4).f1) + 1)))) (fun _ hk => ⟨hk.1.1, ⟨hk.1.2.1, ⟨hk.1.2.2.1, ⟨hk.1.2.2.2.1, ⟨hk.1.2.2.2.2.1, hk.1.2.2.2.2.2.1⟩⟩⟩⟩⟩)⟩, ⟨by (with_reducible repeat (first | apply Kd.N_alloc | apply Kd.N_drewN | apply Kd.N_drew)); exact Kd.N_mono (Kd.N_far (p := ⟨gb221, 1, none⟩) (Kd.N_mono HO_42.out (fun k_ hk => (⟨hk, hk.2.2.2.2.2.2⟩ : _ ∧ k_ ≠ gb221))) (fun _ hk => hk.2) (.int .i64 (wrap64 (((rd_T32 x7_3 x44_4).f1) + 1)))) (fun _ hk => ⟨hk.1.1, ⟨hk.1.2.1, ⟨hk.1.2.2.1, ⟨hk.1.2.2.2.1, ⟨hk.1.2.2.2.2.1, hk.1.2.2.2.2.2.1⟩⟩⟩⟩⟩)⟩, ⟨ra_ (Kd.R_mono (Kd.R_far (p := ⟨gb221, 1, none⟩) (Kd.R_types HO_212000.out BK221.out (by decide)) (fun _ hk => hk.2) (.int .i64 (wrap64 (((rd_T32 x7_3 x44_4).f1) + 1)))) (fun _ hk => ⟨hk.1.1, hk.1.2⟩))⟩, ⟨ra_ (Kd.R_mono (Kd.R_far (p := ⟨gb221, 1, none⟩) (Kd.R_types HO_212001.out BK221.out (by decide)) (fun _ hk => hk.2) (.int .i64 (wrap64 (((rd_T32 x7_3 x44_4).f1) + 1)))) (fun _ hk => ⟨hk.1.1, hk.1.2⟩))⟩, ⟨by (with_reducible repeat (first | refine blk_drewN ?_ _ | refine blk_drew ?_ | refine blk_alloc ?_ _)); refine blk_far ?_ NB195_221.out _; (with_reducible repeat (first | refine blk_drewN ?_ _ | refine blk_drew ?_ | refine blk_alloc ?_ _)); exact BK195.out⟩, ⟨by (with_reducible repeat (first | refine blk_drewN ?_ _ | refine blk_drew ?_ | refine blk_alloc ?_ _)); refine blk_far ?_ NB211_221.out _; (with_reducible repeat (first | refine blk_drewN ?_ _ | refine blk_drew ?_ | refine blk_alloc ?_ _)); exact BK211.out⟩, ⟨bw_ HB.out⟩⟩
             ·as_aux_lemma =>
              rw [if_neg c35] at H
              have c35b0 : ((wrap64 (((rd_T32 x7_3 x44_4).f1) + 1)) == (((rd_T32 x7_3 x44_4).f0).length : Int)) = false := beq_eq_false_iff_ne.mpr c35
              have c35b1 : ((wrap64 (((rd_T32 x7_3 x44_4).f1) + 1)) != (((rd_T32 x7_3 x44_4).f0).length : Int)) = true := bne_iff_ne.mpr c35
              obtain ⟨c64, H⟩ := ifn_ H
              have LMc64 := am_ c64
              clear c64
              obtain ⟨y229, hy229⟩ : ∃ y_ : List (S32), y_ = (x13_4 ++ [(⟨(rd_T32 x7_3 x44_4).f0, wrap64 (((rd_T32 x7_3 x44_4).f1) + 1), (rd_T32 x7_3 x44_4).f2, (rd_T32 x7_3 x44_4).f3, (rd_T32 x7_3 x44_4).f4, (rd_T32 x7_3 x44_4).f5⟩ : S32)]) := ⟨_, rfl⟩
              replace H : (spec_MixVoices.l2 k4 x1_3 (wrap64 (x11_4 + t223)) (wrap64 (x12_4 + t225)) y229 x7_3 (x7_3.length : Int) (wrap64 (x44_4 + 1)) x212000_3 x212001_3) = some (r1, r2, r3, r4) := by first | (rw [hy229]; with_reducible exact H) | (have H2_ := (Option.bind_some _ _).symm.trans H; rw [hy229]; with_reducible exact H2_) | (have H2_ := (Option.bind_some _ _).symm.trans H; with_reducible exact H2_) | with_reducible exact H | (rw [hy229]; exact H) | exact H
              have Ny229 := am_ hy229
              clear hy229
              have H' := am_ H
              clear H
              have p220 : 0 ≤ (x44_4 : Int) := od_
              have q220 : x44_4 < (x7_3.length : Int) := od_
              obtain ⟨ad220, A220_0, c220_0, e220, hx220_0, hx220_1, hx220_2, hx220_3, hx220_4, hx220_5, hl220_0, hi220_0⟩ := at_T32 (Kd.N_reads' HO_42.out).2.2 x44_4 p220 q220
              cases e220
              obtain ⟨ce220, hce220, hMe220, hcc220⟩ := Kd.N_get HO_42.out z32 x44_4 p220 (by first | exact q220 | exact od_ | (have e_ := (Kd.N_reads' HO_42.out).1; omega))
              obtain ⟨ua220_0, uc220_0, rfl, ul220_0, ge220_0⟩ := k32_openF hMe220
              have hv220_0 := hcc220 0 _ rfl
              rw [Nat.add_zero] at hv220_0
              replace hv220_0 := Option.some.inj (hv220_0.symm.trans hx220_0)
              injection hv220_0 with hva_ hvn_ hvc_
              rw [hva_] at ge220_0
              rw [hvc_] at ul220_0
              have HL220_0 := am_ (show Kd.V (Kd.int .i64) 3 _ w.heap.size _ _ ((rd_T32 x7_3 x44_4).f0) from Kd.V_mk ul220_0 ge220_0)
              clear hva_ hvn_ hvc_ ge220_0 ul220_0
              clear hcc220 hce220
              have HR220_0 := am_ hi220_0
              have HC220_0 := am_ hl220_0
              clear hi220_0 hl220_0
              replace p220 := eq_true p220
              replace q220 := eq_true q220
              try go_wp2_with (first | ((with_reducible refine gate_dst (N := 15) rfl ?_); refine bx_ 15 #[.slice none 0 0, .int .i64 0, .bool false, .int .i64 0, .int .i64 0, .int .i64 0] 32 ?_; intro gb221 hg w65 hbox hb; have n0_ := am_ (Kd.N_below (Kd.N_elderB (by (with_reducible repeat (first | apply Kd.N_alloc | apply Kd.N_drewN | apply Kd.N_drew)); exact HO_13.out) gb221 (Nat.le_of_eq hg.symm)) hb); have n1_ := am_ (Kd.N_below (Kd.N_elderB (by (with_reducible repeat (first | apply Kd.N_alloc | apply Kd.N_drewN | apply Kd.N_drew)); exact HO_42.out) gb221 (Nat.le_of_eq hg.symm)) hb); have n2_ := am_ (Kd.R_below (ra_ HO_212000.out) hb); have n3_ := am_ (Kd.R_below (ra_ HO_212001.out) hb); have n4_ := am_ (Kd.V_below (Kd.V_elderB (by (with_reducible repeat (first | apply Kd.V_alloc | apply Kd.V_drewN | apply Kd.V_drew)); exact HL220_0.out) gb221 (Nat.le_of_eq hg.symm)) hb); have n5_ := am_ (blk_below (bk_ BK195.out) hb); have n6_ := am_ (blk_below (bk_ BK211.out) hb); have n7_ := am_ (Kd.C_below (by repeat (first | (with_reducible exact HR220_0.out) | (with_reducible refine Kd.C_alloc ?_ _) | (with_reducible refine Kd.C_drewN ?_ _) | (with_reducible refine Kd.C_drew ?_) | exact HR220_0.out)) hb); have n8_ := am_ (below_step (bw_ HB.out) hb); have n9_ := am_ (hbox); have n10_ := am_ (gs_ hg (bw_ HB.out)); have n11_ := am_ (gs_ hg (bw_ HB.out)); have n12_ := am_ (nl_ hg (bk_ BK195.out)); have n13_ := am_ (ng_ hg (bk_ BK195.out)); have n14_ := am_ (nl_ hg (bk_ BK211.out)); have n15_ := am_ (ng_ hg (bk_ BK211.out)); replace HO_13 := n0_; replace HO_42 := n1_; replace HO_212000 := n2_; replace HO_212001 := n3_; replace HL220_0 := n4_; replace BK195 := n5_; replace BK211 := n6_; replace HR220_0 := n7_; replace HB := n8_; have BK221 := n9_; have GW221 := n10_; have GE221 := n11_; have NB195_221 := n12_; have NB221_195 := n13_; have NB211_221 := n14_; have NB221_211 := n15_; clear n0_ n1_ n2_ n3_ n4_ n5_ n6_ n7_ n8_ n9_ n10_ n11_ n12_ n13_ n14_ n15_; clear hb hbox hg; have hnb66 := NB221_195.out; have hnc66 := NB195_221.out; have hnb67 := NB221_211.out; have hnc67 := NB211_221.out; have hcz68_0 := cz_ BK221.out 0; have hcz68_1 := cz_ BK221.out 1; have hcz68_2 := cz_ BK221.out 2; have hcz68_3 := cz_ BK221.out 3; have hcz68_4 := cz_ BK221.out 4; have hcz68_5 := cz_ BK221.out 5; have hfz68_0 := blk_frozen BK221.out 0; have hfz68_1 := blk_frozen BK221.out 1; have hfz68_2 := blk_frozen BK221.out 2; have hfz68_3 := blk_frozen BK221.out 3; have hfz68_4 := blk_frozen BK221.out 4; have hfz68_5 := blk_frozen BK221.out 5))
              have n0_ : Aside0 (Kd.N k32 32 ((((((w65.setCell ⟨gb221, 0, none⟩ (.slice A220_0 ((rd_T32 x7_3 x44_4).f0).length c220_0)).setCell ⟨gb221, 1, none⟩ (.int .i64 ((rd_T32 x7_3 x44_4).f1))).setCell ⟨gb221, 2, none⟩ (.bool ((rd_T32 x7_3 x44_4).f2))).setCell ⟨gb221, 3, none⟩ (.int .i64 ((rd_T32 x7_3 x44_4).f3))).setCell ⟨gb221, 4, none⟩ (.int .i64 ((rd_T32 x7_3 x44_4).f4))).setCell ⟨gb221, 5, none⟩ (.int .i64 ((rd_T32 x7_3 x44_4).f5))) w.heap.size (fun k_ => (w.heap.size ≤ k_) ∧ nb k_ (.slice (some ad220) x7_3.length co27) ∧ nb k_ u212000 ∧ nb k_ u212001 ∧ k_ ≠ gb195 ∧ k_ ≠ gb211 ∧ k_ ≠ gb221) u13 x13_4) := ⟨by (with_reducible repeat (first | apply Kd.N_alloc | apply Kd.N_drewN | apply Kd.N_drew)); exact Kd.N_mono (Kd.N_far (p := ⟨gb221, 5, none⟩) (Kd.N_far (p := ⟨gb221, 4, none⟩) (Kd.N_far (p := ⟨gb221, 3, none⟩) (Kd.N_far (p := ⟨gb221, 2, none⟩) (Kd.N_far (p := ⟨gb221, 1, none⟩) (Kd.N_far (p := ⟨gb221, 0, none⟩) (Kd.N_mono HO_13.out (fun k_ hk => (⟨hk, hk.2⟩ : _ ∧ k_ ≠ gb221))) (fun _ hk => hk.2) (.slice A220_0 ((rd_T32 x7_3 x44_4).f0).length c220_0)) (fun _ hk => hk.2) (.int .i64 ((rd_T32 x7_3 x44_4).f1))) (fun _ hk => hk.2) (.bool ((rd_T32 x7_3 x44_4).f2))) (fun _ hk => hk.2) (.int .i64 ((rd_T32 x7_3 x44_4).f3))) (fun _ hk => hk.2) (.int .i64 ((rd_T32 x7_3 x44_4).f4))) (fun _ hk => hk.2) (.int .i64 ((rd_T32 x7_3 x44_4).f5))) (fun _ hk => ⟨hk.1.1.1, ⟨hk.1.1.2.1, ⟨hk.1.1.2.2.1, ⟨hk.1.1.2.2.2.1, ⟨hk.1.1.2.2.2.2.1, ⟨hk.1.1.2.2.2.2.2, hk.1.2⟩⟩⟩⟩⟩⟩)⟩
              have n1_ : Aside0 (Kd.N k32 32 ((((((w65.setCell ⟨gb221, 0, none⟩ (.slice A220_0 ((rd_T32 x7_3 x44_4).f0).length c220_0)).setCell ⟨gb221, 1, none⟩ (.int .i64 ((rd_T32 x7_3 x44_4).f1))).setCell ⟨gb221, 2, none⟩ (.bool ((rd_T32 x7_3 x44_4).f2))).setCell ⟨gb221, 3, none⟩ (.int .i64 ((rd_T32 x7_3 x44_4).f3))).setCell ⟨gb221, 4, none⟩ (.int .i64 ((rd_T32 x7_3 x44_4).f4))).setCell ⟨gb221, 5, none⟩ (.int .i64 ((rd_T32 x7_3 x44_4).f5))) w.heap.size (fun k_ => (w.heap.size ≤ k_) ∧ nb k_ u13 ∧ nb k_ u212000 ∧ nb k_ u212001 ∧ k_ ≠ gb195 ∧ k_ ≠ gb211 ∧ k_ ≠ gb221) (.slice (some ad220) x7_3.length co27) x7_3) := ⟨by (with_reducible repeat (first | apply Kd.N_alloc | apply Kd.N_drewN | apply Kd.N_drew)); exact Kd.N_mono (Kd.N_far (p := ⟨gb221, 5, none⟩) (Kd.N_far (p := ⟨gb221, 4, none⟩) (Kd.N_far (p := ⟨gb221, 3, none⟩) (Kd.N_far (p := ⟨gb221, 2, none⟩) (Kd.N_far (p := ⟨gb221, 1, none⟩) (Kd.N_far (p := ⟨gb221, 0, none⟩) (Kd.N_mono HO_42.out (fun k_ hk => (⟨hk, hk.2⟩ : _ ∧ k_ ≠ gb221))) (fun _ hk => hk.2) (.slice A220_0 ((rd_T32 x7_3 x44_4).f0).length c220_0)) (fun _ hk => hk.2) (.int .i64 ((rd_T32 x7_3 x44_4).f1))) (fun _ hk => hk.2) (.bool ((rd_T32 x7_3 x44_4).f2))) (fun _ hk => hk.2) (.int .i64 ((rd_T32 x7_3 x44_4).f3))) (fun _ hk => hk.2) (.int .i64 ((rd_T32 x7_3 x44_4).f4))) (fun _ hk => hk.2) (.int .i64 ((rd_T32 x7_3 x44_4).f5))) (fun _ hk => ⟨hk.1.1.1, ⟨hk.1.1.2.1, ⟨hk.1.1.2.2.1, ⟨hk.1.1.2.2.2.1, ⟨hk.1.1.2.2.2.2.1, ⟨hk.1.1.2.2.2.2.2, hk.1.2⟩⟩⟩⟩⟩⟩)⟩
              have n2_ : Aside0 (Kd.R (Kd.int .i64) 3 ((((((w65.setCell ⟨gb221, 0, none⟩ (.slice A220_0 ((rd_T32 x7_3 x44_4).f0).length c220_0)).setCell ⟨gb221, 1, none⟩ (.int .i64 ((rd_T32 x7_3 x44_4).f1))).setCell ⟨gb221, 2, none⟩ (.bool ((rd_T32 x7_3 x44_4).f2))).setCell ⟨gb221, 3, none⟩ (.int .i64 ((rd_T32 x7_3 x44_4).f3))).setCell ⟨gb221, 4, none⟩ (.int .i64 ((rd_T32 x7_3 x44_4).f4))).setCell ⟨gb221, 5, none⟩ (.int .i64 ((rd_T32 x7_3 x44_4).f5))) w.heap.size (fun k_ => (w.heap.size ≤ k_) ∧ nb k_ u212001) u212000 x212000_3) := ⟨ra_ (Kd.R_mono (Kd.R_far (p := ⟨gb221, 5, none⟩) (Kd.R_far (p := ⟨gb221, 4, none⟩) (Kd.R_far (p := ⟨gb221, 3, none⟩) (Kd.R_far (p := ⟨gb221, 2, none⟩) (Kd.R_far (p := ⟨gb221, 1, none⟩) (Kd.R_far (p := ⟨gb221, 0, none⟩) (Kd.R_types HO_212000.out BK221.out (by decide)) (fun _ hk => hk.2) (.slice A220_0 ((rd_T32 x7_3 x44_4).f0).length c220_0)) (fun _ hk => hk.2) (.int .i64 ((rd_T32 x7_3 x44_4).f1))) (fun _ hk => hk.2) (.bool ((rd_T32 x7_3 x44_4).f2))) (fun _ hk => hk.2) (.int .i64 ((rd_T32 x7_3 x44_4).f3))) (fun _ hk => hk.2) (.int .i64 ((rd_T32 x7_3 x44_4).f4))) (fun _ hk => hk.2) (.int .i64 ((rd_T32 x7_3 x44_4).f5))) (fun _ hk => ⟨hk.1.1, hk.1.2⟩))⟩
              have n3_ : Aside0 (Kd.R (Kd.int .i64) 3 ((((((w65.setCell ⟨gb221, 0, none⟩ (.slice A220_0 ((rd_T32 x7_3 x44_4).f0).length c220_0)).setCell ⟨gb221, 1, none⟩ (.int .i64 ((rd_T32 x7_3 x44_4).f1))).setCell ⟨gb221, 2, none⟩ (.bool ((rd_T32 x7_3 x44_4).f2))).setCell ⟨gb221, 3, none⟩ (.int .i64 ((rd_T32 x7_3 x44_4).f3))).setCell ⟨gb221, 4, none⟩ (.int .i64 ((rd_T32 x7_3 x44_4).f4))).setCell ⟨gb221, 5, none⟩ (.int .i64 ((rd_T32 x7_3 x44_4).f5))) w.heap.size (fun k_ => (w.heap.size ≤ k_) ∧ nb k_ u212000) u212001 x212001_3) := ⟨ra_ (Kd.R_mono (Kd.R_far (p := ⟨gb221, 5, none⟩) (Kd.R_far (p := ⟨gb221, 4, none⟩) (Kd.R_far (p := ⟨gb221, 3, none⟩) (Kd.R_far (p := ⟨gb221, 2, none⟩) (Kd.R_far (p := ⟨gb221, 1, none⟩) (Kd.R_far (p := ⟨gb221, 0, none⟩) (Kd.R_types HO_212001.out BK221.out (by decide)) (fun _ hk => hk.2) (.slice A220_0 ((rd_T32 x7_3 x44_4).f0).length c220_0)) (fun _ hk => hk.2) (.int .i64 ((rd_T32 x7_3 x44_4).f1))) (fun _ hk => hk.2) (.bool ((rd_T32 x7_3 x44_4).f2))) (fun _ hk => hk.2) (.int .i64 ((rd_T32 x7_3 x44_4).f3))) (fun _ hk => hk.2) (.int .i64 ((rd_T32 x7_3 x44_4).f4))) (fun _ hk => hk.2) (.int .i64 ((rd_T32 x7_3 x44_4).f5))) (fun _ hk => ⟨hk.1.1, hk.1.2⟩))⟩
              have n4_ : Aside0 (Kd.V (Kd.int .i64) 3 ((((((w65.setCell ⟨gb221, 0, none⟩ (.slice A220_0 ((rd_T32 x7_3 x44_4).f0).length c220_0)).setCell ⟨gb221, 1, none⟩ (.int .i64 ((rd_T32 x7_3 x44_4).f1))).setCell ⟨gb221, 2, none⟩ (.bool ((rd_T32 x7_3 x44_4).f2))).setCell ⟨gb221, 3, none⟩ (.int .i64 ((rd_T32 x7_3 x44_4).f3))).setCell ⟨gb221, 4, none⟩ (.int .i64 ((rd_T32 x7_3 x44_4).f4))).setCell ⟨gb221, 5, none⟩ (.int .i64 ((rd_T32 x7_3 x44_4).f5))) w.heap.size (fun k_ => (w.heap.size ≤ k_) ∧ nb k_ u13 ∧ nb k_ (.slice (some ad220) x7_3.length co27) ∧ nb k_ u212000 ∧ nb k_ u212001 ∧ k_ ≠ gb195 ∧ k_ ≠ gb211 ∧ k_ ≠ gb221) (.slice A220_0 ((rd_T32 x7_3 x44_4).f0).length c220_0) ((rd_T32 x7_3 x44_4).f0)) := ⟨by (with_reducible repeat (first | apply Kd.V_alloc | apply Kd.V_drewN | apply Kd.V_drew)); exact Kd.V_mono (Kd.V_far (p := ⟨gb221, 5, none⟩) (Kd.V_far (p := ⟨gb221, 4, none⟩) (Kd.V_far (p := ⟨gb221, 3, none⟩) (Kd.V_far (p := ⟨gb221, 2, none⟩) (Kd.V_far (p := ⟨gb221, 1, none⟩) (Kd.V_far (p := ⟨gb221, 0, none⟩) (Kd.V_mono HL220_0.out (fun k_ hk => (⟨hk, hk.2⟩ : _ ∧ k_ ≠ gb221))) (fun _ hk => hk.2) (.slice A220_0 ((rd_T32 x7_3 x44_4).f0).length c220_0)) (fun _ hk => hk.2) (.int .i64 ((rd_T32 x7_3 x44_4).f1))) (fun _ hk => hk.2) (.bool ((rd_T32 x7_3 x44_4).f2))) (fun _ hk => hk.2) (.int .i64 ((rd_T32 x7_3 x44_4).f3))) (fun _ hk => hk.2) (.int .i64 ((rd_T32 x7_3 x44_4).f4))) (fun _ hk => hk.2) (.int .i64 ((rd_T32 x7_3 x44_4).f5))) (fun _ hk => ⟨hk.1.1.1.1, ⟨hk.1.1.1.2.1, ⟨hk.1.1.2, ⟨hk.1.1.1.2.2.1, ⟨hk.1.1.1.2.2.2.1, ⟨hk.1.1.1.2.2.2.2.1, ⟨hk.1.1.1.2.2.2.2.2, hk.1.2⟩⟩⟩⟩⟩⟩⟩)⟩
              have n5_ : Aside0 (((((((w65.setCell ⟨gb221, 0, none⟩ (.slice A220_0 ((rd_T32 x7_3 x44_4).f0).length c220_0)).setCell ⟨gb221, 1, none⟩ (.int .i64 ((rd_T32 x7_3 x44_4).f1))).setCell ⟨gb221, 2, none⟩ (.bool ((rd_T32 x7_3 x44_4).f2))).setCell ⟨gb221, 3, none⟩ (.int .i64 ((rd_T32 x7_3 x44_4).f3))).setCell ⟨gb221, 4, none⟩ (.int .i64 ((rd_T32 x7_3 x44_4).f4))).setCell ⟨gb221, 5, none⟩ (.int .i64 ((rd_T32 x7_3 x44_4).f5))).heap[gb195]? = some (.cells #[.slice none 0 0, .slice none 0 0] 40 (0, 0))) := ⟨by (with_reducible repeat (first | refine blk_drewN ?_ _ | refine blk_drew ?_ | refine blk_alloc ?_ _)); refine blk_far ?_ NB195_221.out _; (with_reducible repeat (first | refine blk_drewN ?_ _ | refine blk_drew ?_ | refine blk_alloc ?_ _)); refine blk_far ?_ NB195_221.out _; (with_reducible repeat (first | refine blk_drewN ?_ _ | refine blk_drew ?_ | refine blk_alloc ?_ _)); refine blk_far ?_ NB195_221.out _; (with_reducible repeat (first | refine blk_drewN ?_ _ | refine blk_drew ?_ | refine blk_alloc ?_ _)); refine blk_far ?_ NB195_221.out _; (with_reducible repeat (first | refine blk_drewN ?_ _ | refine blk_drew ?_ | refine blk_alloc ?_ _)); refine blk_far ?_ NB195_221.out _; (with_reducible repeat (first | refine blk_drewN ?_ _ | refine blk_drew ?_ | refine blk_alloc ?_ _)); refine blk_far ?_ NB195_221.out _; (with_reducible repeat (first | refine blk_drewN ?_ _ | refine blk_drew ?_ | refine blk_alloc ?_ _)); exact BK195.out⟩
              have n6_ : Aside0 (((((((w65.setCell ⟨gb221, 0, none⟩ (.slice A220_0 ((rd_T32 x7_3 x44_4).f0).length c220_0)).setCell ⟨gb221, 1, none⟩ (.int .i64 ((rd_T32 x7_3 x44_4).f1))).setCell ⟨gb221, 2, none⟩ (.bool ((rd_T32 x7_3 x44_4).f2))).setCell ⟨gb221, 3, none⟩ (.int .i64 ((rd_T32 x7_3 x44_4).f3))).setCell ⟨gb221, 4, none⟩ (.int .i64 ((rd_T32 x7_3 x44_4).f4))).setCell ⟨gb221, 5, none⟩ (.int .i64 ((rd_T32 x7_3 x44_4).f5))).heap[gb211]? = some (.cells #[u212000, u212001] 40 (0, 0))) := ⟨by (with_reducible repeat (first | refine blk_drewN ?_ _ | refine blk_drew ?_ | refine blk_alloc ?_ _)); refine blk_far ?_ NB211_221.out _; (with_reducible repeat (first | refine blk_drewN ?_ _ | refine blk_drew ?_ | refine blk_alloc ?_ _)); refine blk_far ?_ NB211_221.out _; (with_reducible repeat (first | refine blk_drewN ?_ _ | refine blk_drew ?_ | refine blk_alloc ?_ _)); refine blk_far ?_ NB211_221.out _; (with_reducible repeat (first | refine blk_drewN ?_ _ | refine blk_drew ?_ | refine blk_alloc ?_ _)); refine blk_far ?_ NB211_221.out _; (with_reducible repeat (first | refine blk_drewN ?_ _ | refine blk_drew ?_ | refine blk_alloc ?_ _)); refine blk_far ?_ NB211_221.out _; (with_reducible repeat (first | refine blk_drewN ?_ _ | refine blk_drew ?_ | refine blk_alloc ?_ _)); refine blk_far ?_ NB211_221.out _; (with_reducible repeat (first | refine blk_drewN ?_ _ | refine blk_drew ?_ | refine blk_alloc ?_ _)); exact BK211.out⟩
              have n7_ : Aside0 (((((((w65.setCell ⟨gb221, 0, none⟩ (.slice A220_0 ((rd_T32 x7_3 x44_4).f0).length c220_0)).setCell ⟨gb221, 1, none⟩ (.int .i64 ((rd_T32 x7_3 x44_4).f1))).setCell ⟨gb221, 2, none⟩ (.bool ((rd_T32 x7_3 x44_4).f2))).setCell ⟨gb221, 3, none⟩ (.int .i64 ((rd_T32 x7_3 x44_4).f3))).setCell ⟨gb221, 4, none⟩ (.int .i64 ((rd_T32 x7_3 x44_4).f4))).setCell ⟨gb221, 5, none⟩ (.int .i64 ((rd_T32 x7_3 x44_4).f5))).heap[gb221]? = some (.cells #[.slice A220_0 ((rd_T32 x7_3 x44_4).f0).length c220_0, .int .i64 ((rd_T32 x7_3 x44_4).f1), .bool ((rd_T32 x7_3 x44_4).f2), .int .i64 ((rd_T32 x7_3 x44_4).f3), .int .i64 ((rd_T32 x7_3 x44_4).f4), .int .i64 ((rd_T32 x7_3 x44_4).f5)] 32 (0, 0))) := ⟨by (with_reducible repeat (first | refine blk_drewN ?_ _ | refine blk_drew ?_ | refine blk_alloc ?_ _)); refine blk_put (cs := #[.slice A220_0 ((rd_T32 x7_3 x44_4).f0).length c220_0, .int .i64 ((rd_T32 x7_3 x44_4).f1), .bool ((rd_T32 x7_3 x44_4).f2), .int .i64 ((rd_T32 x7_3 x44_4).f3), .int .i64 ((rd_T32 x7_3 x44_4).f4), .int .i64 0]) ?_ 5 _ rfl; (with_reducible repeat (first | refine blk_drewN ?_ _ | refine blk_drew ?_ | refine blk_alloc ?_ _)); refine blk_put (cs := #[.slice A220_0 ((rd_T32 x7_3 x44_4).f0).length c220_0, .int .i64 ((rd_T32 x7_3 x44_4).f1), .bool ((rd_T32 x7_3 x44_4).f2), .int .i64 ((rd_T32 x7_3 x44_4).f3), .int .i64 0, .int .i64 0]) ?_ 4 _ rfl; (with_reducible repeat (first | refine blk_drewN ?_ _ | refine blk_drew ?_ | refine blk_alloc ?_ _)); refine blk_put (cs := #[.slice A220_0 ((rd_T32 x7_3 x44_4).f0).length c220_0, .int .i64 ((rd_T32 x7_3 x44_4).f1), .bool ((rd_T32 x7_3 x44_4).f2), .int .i64 0, .int .i64 0, .int .i64 0]) ?_ 3 _ rfl; (with_reducible repeat (first | refine blk_drewN ?_ _ | refine blk_drew ?_ | refine blk_alloc ?_ _)); refine blk_put (cs := #[.slice A220_0 ((rd_T32 x7_3 x44_4).f0).length c220_0, .int .i64 ((rd_T32 x7_3 x44_4).f1), .bool false, .int .i64 0, .int .i64 0, .int .i64 0]) ?_ 2 _ rfl; (with_reducible repeat (first | refine blk_drewN ?_ _ | refine blk_drew ?_ | refine blk_alloc ?_ _)); refine blk_put (cs := #[.slice A220_0 ((rd_T32 x7_3 x44_4).f0).length c220_0, .int .i64 0, .bool false, .int .i64 0, .int .i64 0, .int .i64 0]) ?_ 1 _ rfl; (with_reducible repeat (first | refine blk_drewN ?_ _ | refine blk_drew ?_ | refine blk_alloc ?_ _)); refine blk_put (cs := #[.slice none 0 0, .int .i64 0, .bool false, .int .i64 0, .int .i64 0, .int .i64 0]) ?_ 0 _ rfl; (with_reducible repeat (first | refine blk_drewN ?_ _ | refine blk_drew ?_ | refine blk_alloc ?_ _)); exact BK221.out⟩
              have n8_ : Aside0 (Below w.heap.size w ((((((w65.setCell ⟨gb221, 0, none⟩ (.slice A220_0 ((rd_T32 x7_3 x44_4).f0).length c220_0)).setCell ⟨gb221, 1, none⟩ (.int .i64 ((rd_T32 x7_3 x44_4).f1))).setCell ⟨gb221, 2, none⟩ (.bool ((rd_T32 x7_3 x44_4).f2))).setCell ⟨gb221, 3, none⟩ (.int .i64 ((rd_T32 x7_3 x44_4).f3))).setCell ⟨gb221, 4, none⟩ (.int .i64 ((rd_T32 x7_3 x44_4).f4))).setCell ⟨gb221, 5, none⟩ (.int .i64 ((rd_T32 x7_3 x44_4).f5)))) := ⟨bw_ HB.out⟩
              (try clear HO_13)
              (try clear HO_42)
              (try clear HO_212000)
              (try clear HO_212001)
              (try clear HL220_0)
              (try clear BK195)
              (try clear BK211)
              (try clear BK221)
              (try clear HB)
              generalize ((((((w65.setCell ⟨gb221, 0, none⟩ (.slice A220_0 ((rd_T32 x7_3 x44_4).f0).length c220_0)).setCell ⟨gb221, 1, none⟩ (.int .i64 ((rd_T32 x7_3 x44_4).f1))).setCell ⟨gb221, 2, none⟩ (.bool ((rd_T32 x7_3 x44_4).f2))).setCell ⟨gb221, 3, none⟩ (.int .i64 ((rd_T32 x7_3 x44_4).f3))).setCell ⟨gb221, 4, none⟩ (.int .i64 ((rd_T32 x7_3 x44_4).f4))).setCell ⟨gb221, 5, none⟩ (.int .i64 ((rd_T32 x7_3 x44_4).f5))) = w69 at n0_ n1_ n2_ n3_ n4_ n5_ n6_ n7_ n8_ ⊢
              have HO_13 := n0_
              have HO_42 := n1_
              have HO_212000 := n2_
              have HO_212001 := n3_
              have HL220_0 := n4_
              have BK195 := n5_
              have BK211 := n6_
              have BK221 := n7_
              have HB := n8_
              clear n0_ n1_ n2_ n3_ n4_ n5_ n6_ n7_ n8_
              have n0_ := am_ (Kd.N_drew HO_13.out)
              have n1_ := am_ (Kd.N_drew HO_42.out)
              have n2_ := am_ (Kd.R_drew HO_212000.out)
              have n3_ := am_ (Kd.R_drew HO_212001.out)
              have n4_ := am_ (Kd.V_drew HL220_0.out)
              have n5_ := am_ (blk_drew BK195.out)
              have n6_ := am_ (blk_drew BK211.out)
              have n7_ := am_ (blk_drew BK221.out)
              have n8_ := am_ (below_drew1 HB.out)
              replace HO_13 := n0_
              replace HO_42 := n1_
              replace HO_212000 := n2_
              replace HO_212001 := n3_
              replace HL220_0 := n4_
              replace BK195 := n5_
              replace BK211 := n6_
              replace BK221 := n7_
              replace HB := n8_
              clear n0_ n1_ n2_ n3_ n4_ n5_ n6_ n7_ n8_
              have p222 : 0 ≤ (((rd_T32 x7_3 x44_4).f1) : Int) := od_
              have q222 : ((rd_T32 x7_3 x44_4).f1) < (((rd_T32 x7_3 x44_4).f0).length : Int) := od_
              obtain ⟨ad222, e222, hx222_0⟩ := Kd.at_int ((Kd.V_reads' HL220_0.out).2.2) ((rd_T32 x7_3 x44_4).f1) p222 q222
              cases e222
              replace p222 := eq_true p222
              replace q222 := eq_true q222
              refine start_ (n := 12) (S := fun w' => w'.cell? ⟨gb221, 0, none⟩ = some (.slice (some ad222) ((rd_T32 x7_3 x44_4).f0).length c220_0) ∧ w'.cell? ⟨gb221, 1, none⟩ = some (.int .i64 ((rd_T32 x7_3 x44_4).f1)) ∧ w'.cell? ⟨gb221, 2, none⟩ = some (.bool ((rd_T32 x7_3 x44_4).f2)) ∧ w'.cell? ⟨gb221, 3, none⟩ = some (.int .i64 ((rd_T32 x7_3 x44_4).f3)) ∧ w'.cell? ⟨gb221, 4, none⟩ = some (.int .i64 ((rd_T32 x7_3 x44_4).f4)) ∧ w'.cell? ⟨gb221, 5, none⟩ = some (.int .i64 ((rd_T32 x7_3 x44_4).f5)) ∧ w'.cell? (ad222.add (((rd_T32 x7_3 x44_4).f1)).toNat) = some (.int .i64 (rd ((rd_T32 x7_3 x44_4).f0) ((rd_T32 x7_3 x44_4).f1)))) (ds := []) (Array.replicate 12 false) (by kernel_rfl) rfl rfl ⟨cz_ BK221.out 0, cz_ BK221.out 1, cz_ BK221.out 2, cz_ BK221.out 3, cz_ BK221.out 4, cz_ BK221.out 5, hx222_0⟩ (fun hHeld => ?_); refine with_tabW spec_MixVoices.tab18 spec_MixVoices.bits18 (fun HT_ HW_ => ?_)
              generalize w69.drew = w70 at HO_13 HO_42 HO_212000 HO_212001 HL220_0 BK195 BK211 BK221 HB hx222_0 hHeld ⊢
              refine pS_ 0 48 HT_ ?_
              refine pS_ 1 49 HT_ ?_
              refine pS_ 3 51 HT_ ?_
              refine pS_ 7 55 HT_ ?_
              refine tS_ 2 50 HT_ HW_ hHeld ?_
              refine tS_ 4 52 HT_ HW_ hHeld ?_
              refine pS_ 5 53 HT_ ?_
              refine tS_ 6 54 HT_ HW_ hHeld ?_
              refine tS_ 8 56 HT_ HW_ hHeld ?_
              refine oS_ 9 57 HT_ (fun K hK => ?_)
              refine goes_ Try.func34 (by kernel_rfl) rfl #[.int .i64 (rd ((rd_T32 x7_3 x44_4).f0) ((rd_T32 x7_3 x44_4).f1)), .int .i64 ((rd_T32 x7_3 x44_4).f3)] (by rfl) rfl rfl (by (try simp only [List.map_toArray, List.map_cons, List.map_nil]); first | done | rfl | (simp only [List.length_drop, List.length_take]; rfl)) ?_
              with_reducible refine (spec_FixMul.calls k4 (rd ((rd_T32 x7_3 x44_4).f0) ((rd_T32 x7_3 x44_4).f1)) ((rd_T32 x7_3 x44_4).f3) t223 _ A33.out).mono ?_
              rintro e w71 ⟨rfl, hb⟩
              have HS6_ := (hb.cell (World.block_lt_of_cell? _ _ (hHeld.2.2.2.2.2.2))).trans (hHeld.2.2.2.2.2.2)
              refine ⟨_, rfl, ?_⟩
              have n0_ := am_ (Kd.N_below (by (with_reducible repeat (first | apply Kd.N_alloc | apply Kd.N_drewN | apply Kd.N_drew)); exact HO_13.out) hb)
              have n1_ := am_ (Kd.N_below (by (with_reducible repeat (first | apply Kd.N_alloc | apply Kd.N_drewN | apply Kd.N_drew)); exact HO_42.out) hb)
              have n2_ := am_ (Kd.R_below (ra_ HO_212000.out) hb)
              have n3_ := am_ (Kd.R_below (ra_ HO_212001.out) hb)
              have n4_ := am_ (Kd.V_below (by (with_reducible repeat (first | apply Kd.V_alloc | apply Kd.V_drewN | apply Kd.V_drew)); exact HL220_0.out) hb)
              have n5_ := am_ (blk_below (bk_ BK195.out) hb)
              have n6_ := am_ (blk_below (bk_ BK211.out) hb)
              have n7_ := am_ (blk_below (bk_ BK221.out) hb)
              have n8_ := am_ (below_step (bw_ HB.out) hb)
              replace HO_13 := n0_
              replace HO_42 := n1_
              replace HO_212000 := n2_
              replace HO_212001 := n3_
              replace HL220_0 := n4_
              replace BK195 := n5_
              replace BK211 := n6_
              replace BK221 := n7_
              replace HB := n8_
              clear n0_ n1_ n2_ n3_ n4_ n5_ n6_ n7_ n8_
              (try clear hb)
              (try clear hb2)
              (try clear hk)
              (try clear hi)
              refine hK.out _ _ ⟨cz_ BK221.out 0, cz_ BK221.out 1, cz_ BK221.out 2, cz_ BK221.out 3, cz_ BK221.out 4, cz_ BK221.out 5, HS6_⟩ (fun hHeld => ?_)
              clear hK K
              refine nD_ 57 ?_
              refine pS_ 10 58 HT_ ?_
              refine pS_ 11 11 HT_ ?_
              refine done_ (done_of HT_.out (by kernel_rfl)) ?_
              try go_wp2
              have n0_ := am_ (Kd.N_drew HO_13.out)
              have n1_ := am_ (Kd.N_drew HO_42.out)
              have n2_ := am_ (Kd.R_drew HO_212000.out)
              have n3_ := am_ (Kd.R_drew HO_212001.out)
              have n4_ := am_ (Kd.V_drew HL220_0.out)
              have n5_ := am_ (blk_drew BK195.out)
              have n6_ := am_ (blk_drew BK211.out)
              have n7_ := am_ (blk_drew BK221.out)
              have n8_ := am_ (below_drew1 HB.out)
              replace HO_13 := n0_
              replace HO_42 := n1_
              replace HO_212000 := n2_
              replace HO_212001 := n3_
              replace HL220_0 := n4_
              replace BK195 := n5_
              replace BK211 := n6_
              replace BK221 := n7_
              replace HB := n8_
              clear n0_ n1_ n2_ n3_ n4_ n5_ n6_ n7_ n8_
              have p224 : 0 ≤ (((rd_T32 x7_3 x44_4).f1) : Int) := od_
              have q224 : ((rd_T32 x7_3 x44_4).f1) < (((rd_T32 x7_3 x44_4).f0).length : Int) := od_
              obtain ⟨ad224, e224, hx224_0⟩ := Kd.at_int ((Kd.V_reads' HL220_0.out).2.2) ((rd_T32 x7_3 x44_4).f1) p224 q224
              obtain rfl : ad222 = ad224 := (by injection e224)
              replace p224 := eq_true p224
              replace q224 := eq_true q224
              refine start_ (n := 12) (S := fun w' => w'.cell? ⟨gb221, 0, none⟩ = some (.slice (some ad222) ((rd_T32 x7_3 x44_4).f0).length c220_0) ∧ w'.cell? ⟨gb221, 1, none⟩ = some (.int .i64 ((rd_T32 x7_3 x44_4).f1)) ∧ w'.cell? ⟨gb221, 2, none⟩ = some (.bool ((rd_T32 x7_3 x44_4).f2)) ∧ w'.cell? ⟨gb221, 3, none⟩ = some (.int .i64 ((rd_T32 x7_3 x44_4).f3)) ∧ w'.cell? ⟨gb221, 4, none⟩ = some (.int .i64 ((rd_T32 x7_3 x44_4).f4)) ∧ w'.cell? ⟨gb221, 5, none⟩ = some (.int .i64 ((rd_T32 x7_3 x44_4).f5)) ∧ w'.cell? (ad222.add (((rd_T32 x7_3 x44_4).f1)).toNat) = some (.int .i64 (rd ((rd_T32 x7_3 x44_4).f0) ((rd_T32 x7_3 x44_4).f1)))) (ds := []) (Array.replicate 12 false) (by kernel_rfl) rfl rfl ⟨cz_ BK221.out 0, cz_ BK221.out 1, cz_ BK221.out 2, cz_ BK221.out 3, cz_ BK221.out 4, cz_ BK221.out 5, hx224_0⟩ (fun hHeld => ?_); refine with_tabW spec_MixVoices.tab19 spec_MixVoices.bits19 (fun HT_ HW_ => ?_)
              generalize w71.drew = w72 at HO_13 HO_42 HO_212000 HO_212001 HL220_0 BK195 BK211 BK221 HB hx224_0 hHeld ⊢
              refine pS_ 0 59 HT_ ?_
              refine pS_ 1 60 HT_ ?_
              refine pS_ 3 62 HT_ ?_
              refine pS_ 7 66 HT_ ?_
              refine tS_ 2 61 HT_ HW_ hHeld ?_
              refine tS_ 4 63 HT_ HW_ hHeld ?_
              refine pS_ 5 64 HT_ ?_
              refine tS_ 6 65 HT_ HW_ hHeld ?_
              refine tS_ 8 67 HT_ HW_ hHeld ?_
              refine oS_ 9 68 HT_ (fun K hK => ?_)
              refine goes_ Try.func34 (by kernel_rfl) rfl #[.int .i64 (rd ((rd_T32 x7_3 x44_4).f0) ((rd_T32 x7_3 x44_4).f1)), .int .i64 ((rd_T32 x7_3 x44_4).f4)] (by rfl) rfl rfl (by (try simp only [List.map_toArray, List.map_cons, List.map_nil]); first | done | rfl | (simp only [List.length_drop, List.length_take]; rfl)) ?_
              with_reducible refine (spec_FixMul.calls k4 (rd ((rd_T32 x7_3 x44_4).f0) ((rd_T32 x7_3 x44_4).f1)) ((rd_T32 x7_3 x44_4).f4) t225 _ A34.out).mono ?_
              rintro e w73 ⟨rfl, hb⟩
              have HS6_ := (hb.cell (World.block_lt_of_cell? _ _ (hHeld.2.2.2.2.2.2))).trans (hHeld.2.2.2.2.2.2)
              refine ⟨_, rfl, ?_⟩
              have n0_ := am_ (Kd.N_below (by (with_reducible repeat (first | apply Kd.N_alloc | apply Kd.N_drewN | apply Kd.N_drew)); exact HO_13.out) hb)
              have n1_ := am_ (Kd.N_below (by (with_reducible repeat (first | apply Kd.N_alloc | apply Kd.N_drewN | apply Kd.N_drew)); exact HO_42.out) hb)
              have n2_ := am_ (Kd.R_below (ra_ HO_212000.out) hb)
              have n3_ := am_ (Kd.R_below (ra_ HO_212001.out) hb)
              have n4_ := am_ (Kd.V_below (by (with_reducible repeat (first | apply Kd.V_alloc | apply Kd.V_drewN | apply Kd.V_drew)); exact HL220_0.out) hb)
              have n5_ := am_ (blk_below (bk_ BK195.out) hb)
              have n6_ := am_ (blk_below (bk_ BK211.out) hb)
              have n7_ := am_ (blk_below (bk_ BK221.out) hb)
              have n8_ := am_ (below_step (bw_ HB.out) hb)
              replace HO_13 := n0_
              replace HO_42 := n1_
              replace HO_212000 := n2_
              replace HO_212001 := n3_
              replace HL220_0 := n4_
              replace BK195 := n5_
              replace BK211 := n6_
              replace BK221 := n7_
              replace HB := n8_
              clear n0_ n1_ n2_ n3_ n4_ n5_ n6_ n7_ n8_
              (try clear hb)
              (try clear hb2)
              (try clear hk)
              (try clear hi)
              refine hK.out _ _ ⟨cz_ BK221.out 0, cz_ BK221.out 1, cz_ BK221.out 2, cz_ BK221.out 3, cz_ BK221.out 4, cz_ BK221.out 5, HS6_⟩ (fun hHeld => ?_)
              clear hK K
              refine nD_ 68 ?_
              refine pS_ 10 69 HT_ ?_
              refine pS_ 11 12 HT_ ?_
              refine done_ (done_of HT_.out (by kernel_rfl)) ?_
              have hcz74_0 := cz_ BK221.out 0
              have hcz74_1 := cz_ BK221.out 1
              have hcz74_2 := cz_ BK221.out 2
              have hcz74_3 := cz_ BK221.out 3
              have hcz74_4 := cz_ BK221.out 4
              have hcz74_5 := cz_ BK221.out 5
              have hfz74_0 := blk_frozen BK221.out 0
              have hfz74_1 := blk_frozen BK221.out 1
              have hfz74_2 := blk_frozen BK221.out 2
              have hfz74_3 := blk_frozen BK221.out 3
              have hfz74_4 := blk_frozen BK221.out 4
              have hfz74_5 := blk_frozen BK221.out 5
              try go_wp2_with (first | ((with_reducible refine gate_store (t := 3) (p := 73) rfl ?_); refine se_ 3 73 (w73.setCell ⟨gb221, 1, none⟩ (.int .i64 (wrap64 (((rd_T32 x7_3 x44_4).f1) + 1)))) ?_; intro w75 hw; have n0_ : Aside0 (Kd.N k32 32 w75 w.heap.size (fun k_ => (w.heap.size ≤ k_) ∧ nb k_ (.slice (some ad220) x7_3.length co27) ∧ nb k_ u212000 ∧ nb k_ u212001 ∧ k_ ≠ gb195 ∧ k_ ≠ gb211 ∧ k_ ≠ gb221) u13 x13_4) := ⟨(by rw [hw]; exact (by (with_reducible repeat (first | apply Kd.N_alloc | apply Kd.N_drewN | apply Kd.N_drew)); exact Kd.N_mono (Kd.N_far (p := ⟨gb221, 1, none⟩) (Kd.N_mono HO_13.out (fun k_ hk => (⟨hk, hk.2.2.2.2.2.2⟩ : _ ∧ k_ ≠ gb221))) (fun _ hk => hk.2) (.int .i64 (wrap64 (((rd_T32 x7_3 x44_4).f1) + 1)))) (fun _ hk => ⟨hk.1.1, ⟨hk.1.2.1, ⟨hk.1.2.2.1, ⟨hk.1.2.2.2.1, ⟨hk.1.2.2.2.2.1, ⟨hk.1.2.2.2.2.2.1, hk.1.2.2.2.2.2.2⟩⟩⟩⟩⟩⟩)))⟩; have n1_ : Aside0 (Kd.N k32 32 w75 w.heap.size (fun k_ => (w.heap.size ≤ k_) ∧ nb k_ u13 ∧ nb k_ u212000 ∧ nb k_ u212001 ∧ k_ ≠ gb195 ∧ k_ ≠ gb211 ∧ k_ ≠ gb221) (.slice (some ad220) x7_3.length co27) x7_3) := ⟨(by rw [hw]; exact (by (with_reducible repeat (first | apply Kd.N_alloc | apply Kd.N_drewN | apply Kd.N_drew)); exact Kd.N_mono (Kd.N_far (p := ⟨gb221, 1, none⟩) (Kd.N_mono HO_42.out (fun k_ hk => (⟨hk, hk.2.2.2.2.2.2⟩ : _ ∧ k_ ≠ gb221))) (fun _ hk => hk.2) (.int .i64 (wrap64 (((rd_T32 x7_3 x44_4).f1) + 1)))) (fun _ hk => ⟨hk.1.1, ⟨hk.1.2.1, ⟨hk.1.2.2.1, ⟨hk.1.2.2.2.1, ⟨hk.1.2.2.2.2.1, ⟨hk.1.2.2.2.2.2.1, hk.1.2.2.2.2.2.2⟩⟩⟩⟩⟩⟩)))⟩; have n2_ : Aside0 (Kd.R (Kd.int .i64) 3 w75 w.heap.size (fun k_ => (w.heap.size ≤ k_) ∧ nb k_ u212001) u212000 x212000_3) := ⟨(by rw [hw]; exact (ra_ (Kd.R_mono (Kd.R_far (p := ⟨gb221, 1, none⟩) (Kd.R_types HO_212000.out BK221.out (by decide)) (fun _ hk => hk.2) (.int .i64 (wrap64 (((rd_T32 x7_3 x44_4).f1) + 1)))) (fun _ hk => ⟨hk.1.1, hk.1.2⟩))))⟩; have n3_ : Aside0 (Kd.R (Kd.int .i64) 3 w75 w.heap.size (fun k_ => (w.heap.size ≤ k_) ∧ nb k_ u212000) u212001 x212001_3) := ⟨(by rw [hw]; exact (ra_ (Kd.R_mono (Kd.R_far (p := ⟨gb221, 1, none⟩) (Kd.R_types HO_212001.out BK221.out (by decide)) (fun _ hk => hk.2) (.int .i64 (wrap64 (((rd_T32 x7_3 x44_4).f1) + 1)))) (fun _ hk => ⟨hk.1.1, hk.1.2⟩))))⟩; have n4_ : Aside0 (Kd.V (Kd.int .i64) 3 w75 w.heap.size (fun k_ => (w.heap.size ≤ k_) ∧ nb k_ u13 ∧ nb k_ (.slice (some ad220) x7_3.length co27) ∧ nb k_ u212000 ∧ nb k_ u212001 ∧ k_ ≠ gb195 ∧ k_ ≠ gb211 ∧ k_ ≠ gb221) (.slice (some ad222) ((rd_T32 x7_3 x44_4).f0).length c220_0) ((rd_T32 x7_3 x44_4).f0)) := ⟨(by rw [hw]; exact (by (with_reducible repeat (first | apply Kd.V_alloc | apply Kd.V_drewN | apply Kd.V_drew)); exact Kd.V_mono (Kd.V_far (p := ⟨gb221, 1, none⟩) (Kd.V_mono HL220_0.out (fun k_ hk => (⟨hk, hk.2.2.2.2.2.2.2⟩ : _ ∧ k_ ≠ gb221))) (fun _ hk => hk.2) (.int .i64 (wrap64 (((rd_T32 x7_3 x44_4).f1) + 1)))) (fun _ hk => ⟨hk.1.1, ⟨hk.1.2.1, ⟨hk.1.2.2.1, ⟨hk.1.2.2.2.1, ⟨hk.1.2.2.2.2.1, ⟨hk.1.2.2.2.2.2.1, ⟨hk.1.2.2.2.2.2.2.1, hk.1.2.2.2.2.2.2.2⟩⟩⟩⟩⟩⟩⟩)))⟩; have n5_ : Aside0 (w75.heap[gb195]? = some (.cells #[.slice none 0 0, .slice none 0 0] 40 (0, 0))) := ⟨(by rw [hw]; exact (by (with_reducible repeat (first | refine blk_drewN ?_ _ | refine blk_drew ?_ | refine blk_alloc ?_ _)); refine blk_far ?_ NB195_221.out _; (with_reducible repeat (first | refine blk_drewN ?_ _ | refine blk_drew ?_ | refine blk_alloc ?_ _)); exact BK195.out))⟩; have n6_ : Aside0 (w75.heap[gb211]? = some (.cells #[u212000, u212001] 40 (0, 0))) := ⟨(by rw [hw]; exact (by (with_reducible repeat (first | refine blk_drewN ?_ _ | refine blk_drew ?_ | refine blk_alloc ?_ _)); refine blk_far ?_ NB211_221.out _; (with_reducible repeat (first | refine blk_drewN ?_ _ | refine blk_drew ?_ | refine blk_alloc ?_ _)); exact BK211.out))⟩; have n7_ : Aside0 (w75.heap[gb221]? = some (.cells #[.slice (some ad222) ((rd_T32 x7_3 x44_4).f0).length c220_0, .int .i64 (wrap64 (((rd_T32 x7_3 x44_4).f1) + 1)), .bool ((rd_T32 x7_3 x44_4).f2), .int .i64 ((rd_T32 x7_3 x44_4).f3), .int .i64 ((rd_T32 x7_3 x44_4).f4), .int .i64 ((rd_T32 x7_3 x44_4).f5)] 32 (0, 0))) := ⟨(by rw [hw]; exact (by (with_reducible repeat (first | refine blk_drewN ?_ _ | refine blk_drew ?_ | refine blk_alloc ?_ _)); refine blk_put (cs := #[.slice (some ad222) ((rd_T32 x7_3 x44_4).f0).length c220_0, .int .i64 ((rd_T32 x7_3 x44_4).f1), .bool ((rd_T32 x7_3 x44_4).f2), .int .i64 ((rd_T32 x7_3 x44_4).f3), .int .i64 ((rd_T32 x7_3 x44_4).f4), .int .i64 ((rd_T32 x7_3 x44_4).f5)]) ?_ 1 _ rfl; (with_reducible repeat (first | refine blk_drewN ?_ _ | refine blk_drew ?_ | refine blk_alloc ?_ _)); exact BK221.out))⟩; have n8_ : Aside0 (Below w.heap.size w w75) := ⟨(by rw [hw]; exact (bw_ HB.out))⟩; clear hw; replace HO_13 := n0_; replace HO_42 := n1_; replace HO_212000 := n2_; replace HO_212001 := n3_; replace HL220_0 := n4_; replace BK195 := n5_; replace BK211 := n6_; replace BK221 := n7_; replace HB := n8_; clear n0_ n1_ n2_ n3_ n4_ n5_ n6_ n7_ n8_; have hcz76_0 := cz_ BK221.out 0; have hcz76_1 := cz_ BK221.out 1; have hcz76_2 := cz_ BK221.out 2; have hcz76_3 := cz_ BK221.out 3; have hcz76_4 := cz_ BK221.out 4; have hcz76_5 := cz_ BK221.out 5; have hfz76_0 := blk_frozen BK221.out 0; have hfz76_1 := blk_frozen BK221.out 1; have hfz76_2 := blk_frozen BK221.out 2; have hfz76_3 := blk_frozen BK221.out 3; have hfz76_4 := blk_frozen BK221.out 4; have hfz76_5 := blk_frozen BK221.out 5) | ((with_reducible refine gate_dst (N := 86) rfl ?_); refine bsl6_ 28 32 Try.underlying28 info32 86 (.tmp 85) _ _ _ _ _ _ ?_) | ((with_reducible refine gate_builtin (b := .append) (xs := #[.tmp 84, .tmp 86]) rfl ?_); at_builtin; refine Kd.N_append k32 (w0 := w) w.heap.size rfl (.tmp 84) (.tmp 86) 28 32 (.agg #[(.slice none 0 0), (.int .i64 0), (.bool false), (.int .i64 0), (.int .i64 0), (.int .i64 0)]) 64 rfl Try.underlying28 info32 rfl (by decide) (by omega) u13 x13_4 (⟨(rd_T32 x7_3 x44_4).f0, wrap64 (((rd_T32 x7_3 x44_4).f1) + 1), (rd_T32 x7_3 x44_4).f2, (rd_T32 x7_3 x44_4).f3, (rd_T32 x7_3 x44_4).f4, (rd_T32 x7_3 x44_4).f5⟩ : S32) [.slice (some ad222) ((rd_T32 x7_3 x44_4).f0).length c220_0, .int .i64 (wrap64 (((rd_T32 x7_3 x44_4).f1) + 1)), .bool ((rd_T32 x7_3 x44_4).f2), .int .i64 ((rd_T32 x7_3 x44_4).f3), .int .i64 ((rd_T32 x7_3 x44_4).f4), .int .i64 ((rd_T32 x7_3 x44_4).f5)] (fun k_ => (w.heap.size ≤ k_) ∧ nb k_ (.slice (some ad220) x7_3.length co27) ∧ nb k_ u212000 ∧ nb k_ u212001 ∧ k_ ≠ gb195 ∧ k_ ≠ gb211 ∧ k_ ≠ gb221) (fun k_ => ((fun k_ => (w.heap.size ≤ k_) ∧ nb k_ (.slice (some ad220) x7_3.length co27) ∧ nb k_ u212000 ∧ nb k_ u212001 ∧ k_ ≠ gb195 ∧ k_ ≠ gb211 ∧ k_ ≠ gb221)) k_ ∧ nb k_ u13) rfl rfl ?aP (fun _ hk => hk) ?aF ?aO ?aB ?aS ?aL ?_; (case aP => exact (k32_mkF _ _ (⟨(rd_T32 x7_3 x44_4).f0, wrap64 (((rd_T32 x7_3 x44_4).f1) + 1), (rd_T32 x7_3 x44_4).f2, (rd_T32 x7_3 x44_4).f3, (rd_T32 x7_3 x44_4).f4, (rd_T32 x7_3 x44_4).f5⟩ : S32) (Kd.V_reads' (Kd.V_mono (ok' := (fun k_ => ((fun k_ => (w.heap.size ≤ k_) ∧ nb k_ (.slice (some ad220) x7_3.length co27) ∧ nb k_ u212000 ∧ nb k_ u212001 ∧ k_ ≠ gb195 ∧ k_ ≠ gb211 ∧ k_ ≠ gb221)) k_ ∧ nb k_ u13)) (HL220_0.out) (fun k_ hk => ⟨⟨hk.1, ⟨hk.2.2.1, ⟨hk.2.2.2.1, ⟨hk.2.2.2.2.1, ⟨hk.2.2.2.2.2.1, ⟨hk.2.2.2.2.2.2.1, hk.2.2.2.2.2.2.2⟩⟩⟩⟩⟩⟩, hk.2.1⟩))).2.1 (Kd.V_F (Kd.V_mono (ok' := (fun k_ => ((fun k_ => (w.heap.size ≤ k_) ∧ nb k_ (.slice (some ad220) x7_3.length co27) ∧ nb k_ u212000 ∧ nb k_ u212001 ∧ k_ ≠ gb195 ∧ k_ ≠ gb211 ∧ k_ ≠ gb221)) k_ ∧ nb k_ u13)) (HL220_0.out) (fun k_ hk => ⟨⟨hk.1, ⟨hk.2.2.1, ⟨hk.2.2.2.1, ⟨hk.2.2.2.2.1, ⟨hk.2.2.2.2.2.1, ⟨hk.2.2.2.2.2.2.1, hk.2.2.2.2.2.2.2⟩⟩⟩⟩⟩⟩, hk.2.1⟩))))); (case aB => exact (bw_ HB.out)); (case aF => exact (fun k_ hk => ⟨(Nat.le_trans (below_size (bw_ HB.out)) hk), Kd.fresh' (Kd.N_lt (by (with_reducible repeat (first | apply Kd.N_alloc | apply Kd.N_drewN | apply Kd.N_drew)); exact HO_42.out)) k_ hk, Kd.fresh' (Kd.R_lt (ra_ HO_212000.out)) k_ hk, Kd.fresh' (Kd.R_lt (ra_ HO_212001.out)) k_ hk, Kd.freshB (bk_ BK195.out) k_ hk, Kd.freshB (bk_ BK211.out) k_ hk, Kd.freshB (bk_ BK221.out) k_ hk⟩)); (case aO => exact (by (with_reducible repeat (first | apply Kd.N_alloc | apply Kd.N_drewN | apply Kd.N_drew)); exact HO_13.out)); (case aS => exact (below_size (bw_ HB.out))); (case aL => have := LMc64.out; omega); intro v230 w77 ho hb hg hat; rw [← Ny229.out] at ho; have n0_ := am_ (Kd.N_afterv (ok := (fun k_ => (w.heap.size ≤ k_) ∧ nb k_ u212000 ∧ nb k_ u212001 ∧ k_ ≠ gb195 ∧ k_ ≠ gb211 ∧ k_ ≠ gb221)) (by (with_reducible repeat (first | apply Kd.N_alloc | apply Kd.N_drewN | apply Kd.N_drew)); exact Kd.N_mono HO_42.out (fun _ hk => ⟨⟨hk.1, ⟨hk.2.2.1, ⟨hk.2.2.2.1, ⟨hk.2.2.2.2.1, ⟨hk.2.2.2.2.2.1, hk.2.2.2.2.2.2⟩⟩⟩⟩⟩, hk.2.1⟩)) hg hat); have n1_ := am_ (Kd.R_over' (ra_ HO_212000.out) (Kd.N_typed (by (with_reducible repeat (first | apply Kd.N_alloc | apply Kd.N_drewN | apply Kd.N_drew)); exact HO_13.out)) (by decide) hg); have n2_ := am_ (Kd.R_over' (ra_ HO_212001.out) (Kd.N_typed (by (with_reducible repeat (first | apply Kd.N_alloc | apply Kd.N_drewN | apply Kd.N_drew)); exact HO_13.out)) (by decide) hg); have n3_ := am_ (blk_grown (bk_ BK195.out) hg (Kd.N_ne HO_13.out BK195.out (by decide))); have n4_ := am_ (blk_grown (bk_ BK211.out) hg (Kd.N_ne HO_13.out BK211.out (by decide))); have n5_ := am_ (Kd.V_afterv (ok := (fun k_ => (w.heap.size ≤ k_) ∧ nb k_ (.slice (some ad220) x7_3.length co27) ∧ nb k_ u212000 ∧ nb k_ u212001 ∧ k_ ≠ gb195 ∧ k_ ≠ gb211 ∧ k_ ≠ gb221)) (by (with_reducible repeat (first | apply Kd.V_alloc | apply Kd.V_drewN | apply Kd.V_drew)); exact Kd.V_mono HL220_0.out (fun _ hk => ⟨⟨hk.1, ⟨hk.2.2.1, ⟨hk.2.2.2.1, ⟨hk.2.2.2.2.1, ⟨hk.2.2.2.2.2.1, ⟨hk.2.2.2.2.2.2.1, hk.2.2.2.2.2.2.2⟩⟩⟩⟩⟩⟩, hk.2.1⟩)) hg hat); have n6_ := am_ (blk_grown (bk_ BK221.out) hg (Kd.N_away HO_13.out (fun _ hk => hk.2.2.2.2.2.2))); have n7_ := am_ (hb); have n8_ := am_ (ho); clear HO_13; replace HO_42 := n0_; replace HO_212000 := n1_; replace HO_212001 := n2_; replace BK195 := n3_; replace BK211 := n4_; replace HL220_0 := n5_; replace BK221 := n6_; replace HB := n7_; have HO231 := n8_; clear n0_ n1_ n2_ n3_ n4_ n5_ n6_ n7_ n8_; clear ho hb hg hat))
              go_roundg k4
              case measure => have := HJ2.out; have := HK2.out; have := HK3.out; have := HK4.out; omega
              case rel => exact ⟨(wrap64 (x11_4 + t223)), (wrap64 (x12_4 + t225)), (y229), (wrap64 (x44_4 + 1)), sq_, sq_, sq_, H', ⟨by have := HJ2.out; have := HK2.out; have := HK3.out; have := HK4.out; omega⟩, ⟨by (with_reducible repeat (first | apply Kd.N_alloc | apply Kd.N_drewN | apply Kd.N_drew)); exact Kd.N_mono HO231.out (fun _ hk => ⟨hk.1, ⟨hk.2.1, ⟨hk.2.2.1, ⟨hk.2.2.2.1, ⟨hk.2.2.2.2.1, hk.2.2.2.2.2.1⟩⟩⟩⟩⟩)⟩, ⟨by (with_reducible repeat (first | apply Kd.N_alloc | apply Kd.N_drewN | apply Kd.N_drew)); exact Kd.N_mono HO_42.out (fun _ hk => ⟨hk.1.1, ⟨hk.2, ⟨hk.1.2.1, ⟨hk.1.2.2.1, ⟨hk.1.2.2.2.1, hk.1.2.2.2.2.1⟩⟩⟩⟩⟩)⟩, ⟨ra_ HO_212000.out⟩, ⟨ra_ HO_212001.out⟩, ⟨bk_ BK195.out⟩, ⟨bk_ BK211.out⟩, ⟨bw_ HB.out⟩⟩
            ·as_aux_lemma =>
             rw [if_neg c28] at H
             have c28b0 : decide (x44_4 < (x7_3.length : Int)) = false := decide_eq_false c28
             clear c28
             obtain ⟨t212, A780, H⟩ := bE_ H
             have A78 := am_ A780
             clear A780
             obtain ⟨c79, H⟩ := ifn_ H
             have LMc79 := am_ c79
             clear c79
             obtain ⟨y213, hy213⟩ : ∃ y_ : List Int, y_ = (x212000_3 ++ [t212]) := ⟨_, rfl⟩
             replace H : ((spec_l15Cut.f x12_4).bind fun t216 => (if x212001_3.length < 17592186044416 then (spec_MixVoices.l1 k4 (wrap64 (x1_3 - 1)) x13_4 y213 (x212001_3 ++ [t216])) else (none))) = some (r1, r2, r3, r4) := by first | (rw [hy213]; with_reducible exact H) | (have H2_ := (Option.bind_some _ _).symm.trans H; rw [hy213]; with_reducible exact H2_) | (have H2_ := (Option.bind_some _ _).symm.trans H; with_reducible exact H2_) | with_reducible exact H | (rw [hy213]; exact H) | exact H
             have Ny213 := am_ hy213
             clear hy213
             obtain ⟨t216, A800, H⟩ := bE_ H
             have A80 := am_ A800
             clear A800
             obtain ⟨c81, H⟩ := ifn_ H
             have LMc81 := am_ c81
             clear c81
             obtain ⟨y217, hy217⟩ : ∃ y_ : List Int, y_ = (x212001_3 ++ [t216]) := ⟨_, rfl⟩
             replace H : (spec_MixVoices.l1 k4 (wrap64 (x1_3 - 1)) x13_4 y213 y217) = some (r1, r2, r3, r4) := by first | (rw [hy217]; with_reducible exact H) | (have H2_ := (Option.bind_some _ _).symm.trans H; rw [hy217]; with_reducible exact H2_) | (have H2_ := (Option.bind_some _ _).symm.trans H; with_reducible exact H2_) | with_reducible exact H | (rw [hy217]; exact H) | exact H
             have Ny217 := am_ hy217
             clear hy217
             have H' := am_ H
             clear H
             try go_wp2
             have n0_ := am_ (Kd.N_drew HO_13.out)
             have n1_ := am_ (Kd.N_drew HO_42.out)
             have n2_ := am_ (Kd.R_drew HO_212000.out)
             have n3_ := am_ (Kd.R_drew HO_212001.out)
             have n4_ := am_ (blk_drew BK195.out)
             have n5_ := am_ (blk_drew BK211.out)
             have n6_ := am_ (below_drew1 HB.out)
             replace HO_13 := n0_
             replace HO_42 := n1_
             replace HO_212000 := n2_
             replace HO_212001 := n3_
             replace BK195 := n4_
             replace BK211 := n5_
             replace HB := n6_
             clear n0_ n1_ n2_ n3_ n4_ n5_ n6_
             refine start_ (n := 8) (S := fun w' => w'.cell? ⟨gb211, 0, none⟩ = some (u212000) ∧ w'.cell? ⟨gb211, 1, none⟩ = some (u212001)) (ds := [7]) (Array.replicate 8 false) (by kernel_rfl) rfl rfl ⟨cz_ BK211.out 0, cz_ BK211.out 1⟩ (fun hHeld => ?_); refine with_tabW spec_MixVoices.tab27 spec_MixVoices.bits27 (fun HT_ HW_ => ?_)
             generalize wr.drew = w82 at HO_13 HO_42 HO_212000 HO_212001 BK195 BK211 HB hHeld ⊢
             refine pS_ 0 90 HT_ ?_
             refine pS_ 2 92 HT_ ?_
             refine tS_ 1 91 HT_ HW_ hHeld ?_
             refine oS_ 3 93 HT_ (fun K hK => ?_)
             refine goes_ Try.func35 (by kernel_rfl) rfl #[.int .i64 x11_4] (by rfl) rfl rfl (by (try simp only [List.map_toArray, List.map_cons, List.map_nil]); first | done | rfl | (simp only [List.length_drop, List.length_take]; rfl)) ?_
             with_reducible refine (spec_l15Cut.calls x11_4 t212 _ A78.out).mono ?_
             rintro e w' ⟨rfl, ⟨nd, rfl⟩⟩
             refine ⟨_, rfl, ?_⟩
             refine hK.out _ _ ⟨cz_ BK211.out 0, cz_ BK211.out 1⟩ (fun hHeld => ?_)
             clear hK K
             refine nD_ 93 ?_
             refine oS_ 4 94 HT_ (fun K hK => ?_)
             refine value_ (w1 := ?_) (v := ?_) (by rfl) rfl ?_ ?_
             rotate_left 2
             ·go_simp
              constructor
              ·rfl
              ·rfl
             refine hK.out _ _ ⟨(blk_cell (blk_alloc BK211.out _) 0).trans rfl, (blk_cell (blk_alloc BK211.out _) 1).trans rfl⟩ (fun hHeld => ?_)
             clear hK K
             refine nD_ 94 ?_
             refine oS_ 5 95 HT_ (fun K hK => ?_)
             refine Kd.R_append_step (Kd.int .i64) (w0 := w) w.heap.size (by rfl) (.tmp 91) (.tmp 94) 23 3 (.int .i64 0) 8 rfl Try.underlying23 info3 rfl (by decide) (by omega) u212000 x212000_3 t212 [.int .i64 t212] (fun k_ => (w.heap.size ≤ k_) ∧ nb k_ u212001) (fun _ => False) rfl rfl ?aP (fun _ hk => hk.elim) ?aF ?aO ?aB ?aS ?aL ?_
             (case aP => exact rfl)
             (case aB => exact (bw_ HB.out))
             (case aF => exact (fun k_ hk => ⟨(Nat.le_trans (below_size (bw_ HB.out)) hk), Kd.fresh' (Kd.R_lt (ra_ HO_212001.out)) k_ hk⟩))
             (case aO => exact (ra_ HO_212000.out))
             (case aS => exact (below_size (bw_ HB.out)))
             (case aL => have := LMc79.out; omega)
             intro v214 w83 ho hb hg hat
             rw [← Ny213.out] at ho
             have n0_ := am_ (Kd.N_afterv (ok := (fun k_ => (w.heap.size ≤ k_) ∧ nb k_ (.slice Ao27 x7_3.length co27) ∧ nb k_ u212001 ∧ k_ ≠ gb195 ∧ k_ ≠ gb211)) (by (with_reducible repeat (first | apply Kd.N_alloc | apply Kd.N_drewN | apply Kd.N_drew)); exact Kd.N_mono HO_13.out (fun _ hk => ⟨⟨hk.1, ⟨hk.2.1, ⟨hk.2.2.2.1, ⟨hk.2.2.2.2.1, hk.2.2.2.2.2⟩⟩⟩⟩, hk.2.2.1⟩)) hg hat)
             have n1_ := am_ (Kd.N_afterv (ok := (fun k_ => (w.heap.size ≤ k_) ∧ nb k_ u13 ∧ nb k_ u212001 ∧ k_ ≠ gb195 ∧ k_ ≠ gb211)) (by (with_reducible repeat (first | apply Kd.N_alloc | apply Kd.N_drewN | apply Kd.N_drew)); exact Kd.N_mono HO_42.out (fun _ hk => ⟨⟨hk.1, ⟨hk.2.1, ⟨hk.2.2.2.1, ⟨hk.2.2.2.2.1, hk.2.2.2.2.2⟩⟩⟩⟩, hk.2.2.1⟩)) hg hat)
             have n2_ := am_ (Kd.R_after (ok := (fun k_ => (w.heap.size ≤ k_))) (ra_ HO_212001.out) hg hat)
             have n3_ := am_ (blk_grown (bk_ BK195.out) hg (Kd.R_ne HO_212000.out BK195.out (by decide)))
             have n4_ := am_ (blk_grown (bk_ BK211.out) hg (Kd.R_ne HO_212000.out BK211.out (by decide)))
             have n5_ := am_ (hb)
             have n6_ := am_ (ho)
             clear HO_212000
             replace HO_13 := n0_
             replace HO_42 := n1_
             replace HO_212001 := n2_
             replace BK195 := n3_
             replace BK211 := n4_
             replace HB := n5_
             have HO215 := n6_
             clear n0_ n1_ n2_ n3_ n4_ n5_ n6_
             clear ho hb hg hat
             obtain ⟨Ao84, co84, eo84⟩ := Kd.R_slice HO215.out
             (first | subst eo84 | (injection eo84 with f1_ f2_ f3_; have f4_ := f1_.symm; have f5_ := f3_.symm; clear f1_ f2_ f3_; subst f4_; subst f5_))
             refine hK.out _ _ ⟨cz_ BK211.out 0, cz_ BK211.out 1⟩ (fun hHeld => ?_)
             clear hK K
             refine nD_ 95 ?_
             refine pS_ 6 96 HT_ ?_
             refine last_ (i := 7) (N := none) #[true, true, true, true, true, true, true, true] rfl rfl (one_of HT_.out (by kernel_rfl)) (by decide) (fun K hK => ?_)
             have hs85 : w83.cell? ⟨gb211, 0, none⟩ = some (u212000) := cz_ BK211.out 0
             have hfs85 := blk_frozen BK211.out 0
             have hns85_0 := NB195_211.out
             have hms85_0 := NB211_195.out
             refine skip_ (w1 := ?_) (by rfl) rfl ?_ ?_
             rotate_left
             ·go_simp
              rfl
             refine hK.out _ _ ?_
             clear hK K
             refine done_ (done_of HT_.out (by kernel_rfl)) ?_
             try go_wp2
             have n0_ : Aside0 (Kd.N k32 32 (w83.setCell ⟨gb211, 0, none⟩ (.slice Ao84 y213.length co84)) w.heap.size (fun k_ => (w.heap.size ≤ k_) ∧ nb k_ (.slice Ao27 x7_3.length co27) ∧ nb k_ u212001 ∧ nb k_ (.slice Ao84 y213.length co84) ∧ k_ ≠ gb195 ∧ k_ ≠ gb211) u13 x13_4) := ⟨by (with_reducible repeat (first | apply Kd.N_alloc | apply Kd.N_drewN | apply Kd.N_drew)); exact Kd.N_mono (Kd.N_far (p := ⟨gb211, 0, none⟩) (Kd.N_mono HO_13.out (fun k_ hk => (⟨hk, hk.1.2.2.2.2⟩ : _ ∧ k_ ≠ gb211))) (fun _ hk => hk.2) (.slice Ao84 y213.length co84)) (fun _ hk => ⟨hk.1.1.1, ⟨hk.1.1.2.1, ⟨hk.1.1.2.2.1, ⟨hk.1.2, ⟨hk.1.1.2.2.2.1, hk.1.1.2.2.2.2⟩⟩⟩⟩⟩)⟩
             have n1_ : Aside0 (Kd.N k32 32 (w83.setCell ⟨gb211, 0, none⟩ (.slice Ao84 y213.length co84)) w.heap.size (fun k_ => (w.heap.size ≤ k_) ∧ nb k_ u13 ∧ nb k_ u212001 ∧ nb k_ (.slice Ao84 y213.length co84) ∧ k_ ≠ gb195 ∧ k_ ≠ gb211) (.slice Ao27 x7_3.length co27) x7_3) := ⟨by (with_reducible repeat (first | apply Kd.N_alloc | apply Kd.N_drewN | apply Kd.N_drew)); exact Kd.N_mono (Kd.N_far (p := ⟨gb211, 0, none⟩) (Kd.N_mono HO_42.out (fun k_ hk => (⟨hk, hk.1.2.2.2.2⟩ : _ ∧ k_ ≠ gb211))) (fun _ hk => hk.2) (.slice Ao84 y213.length co84)) (fun _ hk => ⟨hk.1.1.1, ⟨hk.1.1.2.1, ⟨hk.1.1.2.2.1, ⟨hk.1.2, ⟨hk.1.1.2.2.2.1, hk.1.1.2.2.2.2⟩⟩⟩⟩⟩)⟩
             have n2_ : Aside0 (Kd.R (Kd.int .i64) 3 (w83.setCell ⟨gb211, 0, none⟩ (.slice Ao84 y213.length co84)) w.heap.size (fun k_ => (w.heap.size ≤ k_) ∧ nb k_ (.slice Ao84 y213.length co84)) u212001 x212001_3) := ⟨ra_ (Kd.R_mono (Kd.R_far (p := ⟨gb211, 0, none⟩) (Kd.R_types HO_212001.out BK211.out (by decide)) (fun _ hk => hk.2) (.slice Ao84 y213.length co84)) (fun _ hk => ⟨hk.1.1, hk.1.2⟩))⟩
             have n3_ : Aside0 (Kd.R (Kd.int .i64) 3 (w83.setCell ⟨gb211, 0, none⟩ (.slice Ao84 y213.length co84)) w.heap.size (fun k_ => (w.heap.size ≤ k_) ∧ nb k_ u212001) (.slice Ao84 y213.length co84) y213) := ⟨ra_ (Kd.R_mono (Kd.R_far (p := ⟨gb211, 0, none⟩) (Kd.R_types HO215.out BK211.out (by decide)) (fun _ hk => hk.2) (.slice Ao84 y213.length co84)) (fun _ hk => ⟨hk.1.1, hk.1.2⟩))⟩
             have n4_ : Aside0 ((w83.setCell ⟨gb211, 0, none⟩ (.slice Ao84 y213.length co84)).heap[gb195]? = some (.cells #[.slice none 0 0, .slice none 0 0] 40 (0, 0))) := ⟨by (with_reducible repeat (first | refine blk_drewN ?_ _ | refine blk_drew ?_ | refine blk_alloc ?_ _)); refine blk_far ?_ NB195_211.out _; (with_reducible repeat (first | refine blk_drewN ?_ _ | refine blk_drew ?_ | refine blk_alloc ?_ _)); exact BK195.out⟩
             have n5_ : Aside0 ((w83.setCell ⟨gb211, 0, none⟩ (.slice Ao84 y213.length co84)).heap[gb211]? = some (.cells #[.slice Ao84 y213.length co84, u212001] 40 (0, 0))) := ⟨by (with_reducible repeat (first | refine blk_drewN ?_ _ | refine blk_drew ?_ | refine blk_alloc ?_ _)); refine blk_put (cs := #[u212000, u212001]) ?_ 0 _ rfl; (with_reducible repeat (first | refine blk_drewN ?_ _ | refine blk_drew ?_ | refine blk_alloc ?_ _)); exact BK211.out⟩
             have n6_ : Aside0 (Below w.heap.size w (w83.setCell ⟨gb211, 0, none⟩ (.slice Ao84 y213.length co84))) := ⟨bw_ HB.out⟩
             (try clear HO_13)
             (try clear HO_42)
             (try clear HO_212001)
             (try clear HO215)
             (try clear BK195)
             (try clear BK211)
             (try clear HB)
             generalize (w83.setCell ⟨gb211, 0, none⟩ (.slice Ao84 y213.length co84)) = w86 at n0_ n1_ n2_ n3_ n4_ n5_ n6_ ⊢
             have HO_13 := n0_
             have HO_42 := n1_
             have HO_212001 := n2_
             have HO215 := n3_
             have BK195 := n4_
             have BK211 := n5_
             have HB := n6_
             clear n0_ n1_ n2_ n3_ n4_ n5_ n6_
             have n0_ := am_ (Kd.N_drew HO_13.out)
             have n1_ := am_ (Kd.N_drew HO_42.out)
             have n2_ := am_ (Kd.R_drew HO_212001.out)
             have n3_ := am_ (Kd.R_drew HO215.out)
             have n4_ := am_ (blk_drew BK195.out)
             have n5_ := am_ (blk_drew BK211.out)
             have n6_ := am_ (below_drew1 HB.out)
             replace HO_13 := n0_
             replace HO_42 := n1_
             replace HO_212001 := n2_
             replace HO215 := n3_
             replace BK195 := n4_
             replace BK211 := n5_
             replace HB := n6_
             clear n0_ n1_ n2_ n3_ n4_ n5_ n6_
             refine start_ (n := 8) (S := fun w' => w'.cell? ⟨gb211, 0, none⟩ = some (.slice Ao84 y213.length co84) ∧ w'.cell? ⟨gb211, 1, none⟩ = some (u212001)) (ds := [7]) (Array.replicate 8 false) (by kernel_rfl) rfl rfl ⟨cz_ BK211.out 0, cz_ BK211.out 1⟩ (fun hHeld => ?_); refine with_tabW spec_MixVoices.tab28 spec_MixVoices.bits28 (fun HT_ HW_ => ?_)
             generalize w86.drew = w87 at HO_13 HO_42 HO_212001 HO215 BK195 BK211 HB hHeld ⊢
             refine pS_ 0 97 HT_ ?_
             refine pS_ 2 99 HT_ ?_
             refine tS_ 1 98 HT_ HW_ hHeld ?_
             refine oS_ 3 100 HT_ (fun K hK => ?_)
             refine goes_ Try.func35 (by kernel_rfl) rfl #[.int .i64 x12_4] (by rfl) rfl rfl (by (try simp only [List.map_toArray, List.map_cons, List.map_nil]); first | done | rfl | (simp only [List.length_drop, List.length_take]; rfl)) ?_
             with_reducible refine (spec_l15Cut.calls x12_4 t216 _ A80.out).mono ?_
             rintro e w' ⟨rfl, ⟨nd, rfl⟩⟩
             refine ⟨_, rfl, ?_⟩
             refine hK.out _ _ ⟨cz_ BK211.out 0, cz_ BK211.out 1⟩ (fun hHeld => ?_)
             clear hK K
             refine nD_ 100 ?_
             refine oS_ 4 101 HT_ (fun K hK => ?_)
             refine value_ (w1 := ?_) (v := ?_) (by rfl) rfl ?_ ?_
             rotate_left 2
             ·go_simp
              constructor
              ·rfl
              ·rfl
             refine hK.out _ _ ⟨(blk_cell (blk_alloc BK211.out _) 0).trans rfl, (blk_cell (blk_alloc BK211.out _) 1).trans rfl⟩ (fun hHeld => ?_)
             clear hK K
             refine nD_ 101 ?_
             refine oS_ 5 102 HT_ (fun K hK => ?_)
             refine Kd.R_append_step (Kd.int .i64) (w0 := w) w.heap.size (by rfl) (.tmp 98) (.tmp 101) 23 3 (.int .i64 0) 8 rfl Try.underlying23 info3 rfl (by decide) (by omega) u212001 x212001_3 t216 [.int .i64 t216] (fun k_ => (w.heap.size ≤ k_) ∧ nb k_ (.slice Ao84 y213.length co84)) (fun _ => False) rfl rfl ?aP (fun _ hk => hk.elim) ?aF ?aO ?aB ?aS ?aL ?_
             (case aP => exact rfl)
             (case aB => exact (bw_ HB.out))
             (case aF => exact (fun k_ hk => ⟨(Nat.le_trans (below_size (bw_ HB.out)) hk), Kd.fresh' (Kd.R_lt (ra_ HO215.out)) k_ hk⟩))
             (case aO => exact (ra_ HO_212001.out))
             (case aS => exact (below_size (bw_ HB.out)))
             (case aL => have := LMc81.out; omega)
             intro v218 w88 ho hb hg hat
             rw [← Ny217.out] at ho
             have n0_ := am_ (Kd.N_afterv (ok := (fun k_ => (w.heap.size ≤ k_) ∧ nb k_ (.slice Ao27 x7_3.length co27) ∧ nb k_ (.slice Ao84 y213.length co84) ∧ k_ ≠ gb195 ∧ k_ ≠ gb211)) (by (with_reducible repeat (first | apply Kd.N_alloc | apply Kd.N_drewN | apply Kd.N_drew)); exact Kd.N_mono HO_13.out (fun _ hk => ⟨⟨hk.1, ⟨hk.2.1, ⟨hk.2.2.2.1, ⟨hk.2.2.2.2.1, hk.2.2.2.2.2⟩⟩⟩⟩, hk.2.2.1⟩)) hg hat)
             have n1_ := am_ (Kd.N_afterv (ok := (fun k_ => (w.heap.size ≤ k_) ∧ nb k_ u13 ∧ nb k_ (.slice Ao84 y213.length co84) ∧ k_ ≠ gb195 ∧ k_ ≠ gb211)) (by (with_reducible repeat (first | apply Kd.N_alloc | apply Kd.N_drewN | apply Kd.N_drew)); exact Kd.N_mono HO_42.out (fun _ hk => ⟨⟨hk.1, ⟨hk.2.1, ⟨hk.2.2.2.1, ⟨hk.2.2.2.2.1, hk.2.2.2.2.2⟩⟩⟩⟩, hk.2.2.1⟩)) hg hat)
             have n2_ := am_ (blk_grown (bk_ BK195.out) hg (Kd.R_ne HO_212001.out BK195.out (by decide)))
             have n3_ := am_ (blk_grown (bk_ BK211.out) hg (Kd.R_ne HO_212001.out BK211.out (by decide)))
             have n4_ := am_ (Kd.R_after (ok := (fun k_ => (w.heap.size ≤ k_))) (ra_ HO215.out) hg hat)
             have n5_ := am_ (hb)
             have n6_ := am_ (ho)
             clear HO_212001
             replace HO_13 := n0_
             replace HO_42 := n1_
             replace BK195 := n2_
             replace BK211 := n3_
             replace HO215 := n4_
             replace HB := n5_
             have HO219 := n6_
             clear n0_ n1_ n2_ n3_ n4_ n5_ n6_
             clear ho hb hg hat
             obtain ⟨Ao89, co89, eo89⟩ := Kd.R_slice HO219.out
             (first | subst eo89 | (injection eo89 with f1_ f2_ f3_; have f4_ := f1_.symm; have f5_ := f3_.symm; clear f1_ f2_ f3_; subst f4_; subst f5_))
             refine hK.out _ _ ⟨cz_ BK211.out 0, cz_ BK211.out 1⟩ (fun hHeld => ?_)
             clear hK K
             refine nD_ 102 ?_
             refine pS_ 6 103 HT_ ?_
             refine last_ (i := 7) (N := none) #[true, true, true, true, true, true, true, true] rfl rfl (one_of HT_.out (by kernel_rfl)) (by decide) (fun K hK => ?_)
             have hs90 : w88.cell? ⟨gb211, 1, none⟩ = some (u212001) := cz_ BK211.out 1
             have hfs90 := blk_frozen BK211.out 1
             have hns90_0 := NB195_211.out
             have hms90_0 := NB211_195.out
             refine skip_ (w1 := ?_) (by rfl) rfl ?_ ?_
             rotate_left
             ·go_simp
              rfl
             refine hK.out _ _ ?_
             clear hK K
             refine done_ (done_of HT_.out (by kernel_rfl)) ?_
             try go_wp2
             go_roundg k4
             case measure => have := HJ2.out; have := HK2.out; have := HK3.out; have := HK4.out; omega
             case rel => exact ⟨(wrap64 (x1_3 - 1)), (x13_4), (y213), (y217), (.slice Ao84 y213.length co84), (.slice Ao89 y217.length co89), sq_, H', ⟨by have := HJ2.out; have := HK2.out; have := HK3.out; have := HK4.out; omega⟩, ⟨by (with_reducible repeat (first | apply Kd.N_alloc | apply Kd.N_drewN | apply Kd.N_drew)); exact Kd.N_mono (Kd.N_far (p := ⟨gb211, 1, none⟩) (Kd.N_mono HO_13.out (fun k_ hk => (⟨hk, hk.1.2.2.2.2⟩ : _ ∧ k_ ≠ gb211))) (fun _ hk => hk.2) (.slice Ao89 y217.length co89)) (fun _ hk => ⟨hk.1.1.1, ⟨hk.1.1.2.2.1, ⟨hk.1.2, ⟨hk.1.1.2.2.2.1, hk.1.1.2.2.2.2⟩⟩⟩⟩)⟩, ⟨ra_ (Kd.R_mono (Kd.R_far (p := ⟨gb211, 1, none⟩) (Kd.R_types HO215.out BK211.out (by decide)) (fun _ hk => hk.2) (.slice Ao89 y217.length co89)) (fun _ hk => ⟨hk.1.1, hk.1.2⟩))⟩, ⟨ra_ (Kd.R_mono (Kd.R_far (p := ⟨gb211, 1, none⟩) (Kd.R_types HO219.out BK211.out (by decide)) (fun _ hk => hk.2) (.slice Ao89 y217.length co89)) (fun _ hk => ⟨hk.1.1, hk.1.2⟩))⟩, ⟨by (with_reducible repeat (first | refine blk_drewN ?_ _ | refine blk_drew ?_ | refine blk_alloc ?_ _)); refine blk_far ?_ NB195_211.out _; (with_reducible repeat (first | refine blk_drewN ?_ _ | refine blk_drew ?_ | refine blk_alloc ?_ _)); exact BK195.out⟩, ⟨by (with_reducible repeat (first | refine blk_drewN ?_ _ | refine blk_drew ?_ | refine blk_alloc ?_ _)); refine blk_put (cs := #[.slice Ao84 y213.length co84, u212001]) ?_ 1 _ rfl; (with_reducible repeat (first | refine blk_drewN ?_ _ | refine blk_drew ?_ | refine blk_alloc ?_ _)); exact BK211.out⟩, ⟨bw_ HB.out⟩⟩
         ·rw [if_neg c26] at H
          have c26b0 : decide (0 < x1_3) = false := decide_eq_false c26
          clear c26
          simp only [Option.some.injEq, Prod.mk.injEq] at H
          obtain ⟨rfl, rfl, rfl, rfl⟩ := H
          have hnb91 := NB211_195.out
          have hnc91 := NB195_211.out
          have hcz92_0 := cz_ BK211.out 0
          have hcz92_1 := cz_ BK211.out 1
          have hfz92_0 := blk_frozen BK211.out 0
          have hfz92_1 := blk_frozen BK211.out 1
          obtain ⟨Ao93, co93, eo93⟩ := Kd.R_slice HO_212000.out
          subst eo93
          have hcz94_0 := cz_ BK195.out 0
          have hcz94_1 := cz_ BK195.out 1
          have hfz94_0 := blk_frozen BK195.out 0
          have hfz94_1 := blk_frozen BK195.out 1
          obtain ⟨Ao95, co95, eo95⟩ := Kd.R_slice HO_212001.out
          subst eo95
          go_wp2
          refine bodyPost_ret (results_ctt rfl _ _ gb195 40 #[.slice Ao93 x212000_3.length co93, .slice Ao95 x212001_3.length co95] (0, 0) _ rfl (by (with_reducible repeat (first | refine blk_drewN ?_ _ | refine blk_drew ?_ | refine blk_alloc ?_ _)); refine blk_put (cs := #[.slice Ao93 x212000_3.length co93, .slice none 0 0]) ?_ 1 _ rfl; (with_reducible repeat (first | refine blk_drewN ?_ _ | refine blk_drew ?_ | refine blk_alloc ?_ _)); refine blk_put (cs := #[.slice none 0 0, .slice none 0 0]) ?_ 0 _ rfl; (with_reducible repeat (first | refine blk_drewN ?_ _ | refine blk_drew ?_ | refine blk_alloc ?_ _)); exact BK195.out) Try.underlying40 rfl (by kernel_rfl)) rfl ?_
          exact ⟨_, _, _, by first | rfl | (simp [errW_none, errW_some] <;> rfl) | (simp [*, errW_none, errW_some] <;> rfl), ra_ (Kd.R_mono (Kd.R_far (p := ⟨gb195, 1, none⟩) (Kd.R_far (p := ⟨gb195, 0, none⟩) (Kd.R_types HO_212000.out BK195.out (by decide)) (fun _ hk => hk.2) (.slice Ao93 x212000_3.length co93)) (fun _ hk => hk.2) (.slice Ao95 x212001_3.length co95)) (fun _ hk => ⟨hk.1.1, hk.1.2⟩)), ra_ (Kd.R_mono (Kd.R_far (p := ⟨gb195, 1, none⟩) (Kd.R_far (p := ⟨gb195, 0, none⟩) (Kd.R_types HO_212001.out BK195.out (by decide)) (fun _ hk => hk.2) (.slice Ao93 x212000_3.length co93)) (fun _ hk => hk.2) (.slice Ao95 x212001_3.length co95)) (fun _ hk => ⟨hk.1.1, hk.1.2⟩)), by (with_reducible repeat (first | apply Kd.N_alloc | apply Kd.N_drewN | apply Kd.N_drew)); exact Kd.N_mono (Kd.N_far (p := ⟨gb195, 1, none⟩) (Kd.N_far (p := ⟨gb195, 0, none⟩) (Kd.N_mono HO_7.out (fun k_ hk => (⟨hk, hk.2.2.2.1⟩ : _ ∧ k_ ≠ gb195))) (fun _ hk => hk.2) (.slice Ao93 x212000_3.length co93)) (fun _ hk => hk.2) (.slice Ao95 x212001_3.length co95)) (fun _ hk => ⟨hk.1.1, ⟨hk.1.2.1, hk.1.2.2.1⟩⟩), bw_ HB.out⟩

end Go.Proofs.Ytbnbgmpkemlfbaa.XFnExactMixVoices
