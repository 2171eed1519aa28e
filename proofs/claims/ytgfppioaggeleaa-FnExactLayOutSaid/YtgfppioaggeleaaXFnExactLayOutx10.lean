/- What the Go functions that this law comes to compute, each walked; written by a program of this session. -/
import Derived.Test.YtgfppioaggeleaaXShort
import Derived.Test.YtgfppioaggeleaaXMark
import Derived.Test.YtgfppioaggeleaaXFnExactLayOutx0
import Derived.Test.YtgfppioaggeleaaXFnExactLayOutx7
import Derived.Test.YtgfppioaggeleaaXFnExactLayOutx9
namespace Go.Proofs.Ytgfppioaggeleaa.XFnExactLayOut
open Go.RowKit Go.Proofs.YtgfppioaggeleaaW.PrintWords Go.Proofs.YtgfppioaggeleaaW.PrintLast Go.Proofs.YtgfppioaggeleaaW.PrintMore
attribute [local go_sem] str_geq max2_int min2_int max_two min_two max_three min_three max_four min_four   -- for this text's walks alone
set_option linter.unusedVariables false
set_option linter.unusedSimpArgs false

/-! ### STB: function 62 -/
mutual
def STB.l0 (a70 : Int) (l71 : List Int) (a72 : Int) : Nat → List Int → Int → Int → Int → Int → Option (List Int)
 | 0, _, _, _, _, _ => none
 | k + 1, x0, x1, x6, x7, x8 => if x8 ≤ x1 then ((INS.f k x0 x7 x8 a70 l71 a72).bind fun t251 => (STB.l0 a70 l71 a72 k t251 x1 x6 x8 (wrap64 (x8 + x6)))) else ((INS.f k x0 x7 x1 a70 l71 a72).bind fun t252 => (STB.l1 a70 l71 a72 k t252 x1 x6))
def STB.l1 (a70 : Int) (l71 : List Int) (a72 : Int) : Nat → List Int → Int → Int → Option (List Int)
 | 0, _, _, _ => none
 | k + 1, x0, x1, x6 => if x6 < x1 then (STB.l2 a70 l71 a72 k x0 x1 x6 0 (wrap64 (2 * x6))) else (some x0)
def STB.l2 (a70 : Int) (l71 : List Int) (a72 : Int) : Nat → List Int → Int → Int → Int → Int → Option (List Int)
 | 0, _, _, _, _, _ => none
 | k + 1, x0, x1, x6, x7, x8 => if x8 ≤ x1 then ((SYM.f k x0 x7 (wrap64 (x7 + x6)) x8 a70 l71 a72).bind fun t253 => (STB.l2 a70 l71 a72 k t253 x1 x6 x8 (wrap64 (x8 + (wrap64 (2 * x6)))))) else (if (wrap64 (x7 + x6)) < x1 then ((SYM.f k x0 x7 (wrap64 (x7 + x6)) x1 a70 l71 a72).bind fun t254 => (STB.l1 a70 l71 a72 k t254 x1 (wrap64 (x6 * 2)))) else (STB.l1 a70 l71 a72 k x0 x1 (wrap64 (x6 * 2))))
end
def STB.f (k : Nat) (l0 : List Int) (a1 : Int) (a70 : Int) (l71 : List Int) (a72 : Int) : Option (List Int) := STB.l0 a70 l71 a72 k l0 a1 20 0 20
theorem STB.mono_l (a70 : Int) (l71 : List Int) (a72 : Int) : ∀ k, (∀ y0 y1 y2 y3 y4, LeO (STB.l0 a70 l71 a72 k y0 y1 y2 y3 y4) (STB.l0 a70 l71 a72 (k + 1) y0 y1 y2 y3 y4)) ∧ (∀ y0 y1 y2, LeO (STB.l1 a70 l71 a72 k y0 y1 y2) (STB.l1 a70 l71 a72 (k + 1) y0 y1 y2)) ∧ (∀ y0 y1 y2 y3 y4, LeO (STB.l2 a70 l71 a72 k y0 y1 y2 y3 y4) (STB.l2 a70 l71 a72 (k + 1) y0 y1 y2 y3 y4))
 | 0 => ⟨fun _ _ _ _ _ r h => by simp [STB.l0] at h, fun _ _ _ r h => by simp [STB.l1] at h, fun _ _ _ _ _ r h => by simp [STB.l2] at h⟩
 | k + 1 => by
  obtain ⟨ih0, ih1, ih2⟩ := STB.mono_l a70 l71 a72 k
  refine ⟨?_, ?_, ?_⟩
  ·intro y0 y1 y2 y3 y4
   unfold STB.l0
   repeat' first
   | (with_reducible exact ih0 _ _ _ _ _)
   | (with_reducible exact ih1 _ _ _)
   | (with_reducible exact ih2 _ _ _ _ _)
   | (with_reducible exact INS.mono _ _ _ _ _ _ _)
   | (with_reducible exact SYM.mono _ _ _ _ _ _ _ _)
   | (with_reducible exact LeO.refl _)
   | (with_reducible exact LeO.none _)
   | (with_reducible refine LeO.ite ?_ ?_)
   | (with_reducible refine LeO.bind ?_ (fun _ => ?_))
   | exact ih0 _ _ _ _ _
   | exact ih1 _ _ _
   | exact ih2 _ _ _ _ _
   | exact INS.mono _ _ _ _ _ _ _
   | exact SYM.mono _ _ _ _ _ _ _ _
   | exact LeO.none _
   | refine LeO.ite ?_ ?_
   | refine LeO.bind ?_ (fun _ => ?_)
  ·intro y0 y1 y2
   unfold STB.l1
   repeat' first
   | (with_reducible exact ih0 _ _ _ _ _)
   | (with_reducible exact ih1 _ _ _)
   | (with_reducible exact ih2 _ _ _ _ _)
   | (with_reducible exact INS.mono _ _ _ _ _ _ _)
   | (with_reducible exact SYM.mono _ _ _ _ _ _ _ _)
   | (with_reducible exact LeO.refl _)
   | (with_reducible exact LeO.none _)
   | (with_reducible refine LeO.ite ?_ ?_)
   | (with_reducible refine LeO.bind ?_ (fun _ => ?_))
   | exact ih0 _ _ _ _ _
   | exact ih1 _ _ _
   | exact ih2 _ _ _ _ _
   | exact INS.mono _ _ _ _ _ _ _
   | exact SYM.mono _ _ _ _ _ _ _ _
   | exact LeO.none _
   | refine LeO.ite ?_ ?_
   | refine LeO.bind ?_ (fun _ => ?_)
  ·intro y0 y1 y2 y3 y4
   unfold STB.l2
   repeat' first
   | (with_reducible exact ih0 _ _ _ _ _)
   | (with_reducible exact ih1 _ _ _)
   | (with_reducible exact ih2 _ _ _ _ _)
   | (with_reducible exact INS.mono _ _ _ _ _ _ _)
   | (with_reducible exact SYM.mono _ _ _ _ _ _ _ _)
   | (with_reducible exact LeO.refl _)
   | (with_reducible exact LeO.none _)
   | (with_reducible refine LeO.ite ?_ ?_)
   | (with_reducible refine LeO.bind ?_ (fun _ => ?_))
   | exact ih0 _ _ _ _ _
   | exact ih1 _ _ _
   | exact ih2 _ _ _ _ _
   | exact INS.mono _ _ _ _ _ _ _
   | exact SYM.mono _ _ _ _ _ _ _ _
   | exact LeO.none _
   | refine LeO.ite ?_ ?_
   | refine LeO.bind ?_ (fun _ => ?_)
theorem STB.mono : ∀ a0 a1 a2 a3 a4 k, LeO (STB.f k a0 a1 a2 a3 a4) (STB.f (k + 1) a0 a1 a2 a3 a4) := by
 intro a0 a1 a2 a3 a4 k
 obtain ⟨ih0, ih1, ih2⟩ := STB.mono_l a2 a3 a4 k
 unfold STB.f
 repeat' first
   | (with_reducible exact ih0 _ _ _ _ _)
   | (with_reducible exact ih1 _ _ _)
   | (with_reducible exact ih2 _ _ _ _ _)
   | (with_reducible exact INS.mono _ _ _ _ _ _ _)
   | (with_reducible exact SYM.mono _ _ _ _ _ _ _ _)
   | (with_reducible exact LeO.refl _)
   | (with_reducible exact LeO.none _)
   | (with_reducible refine LeO.ite ?_ ?_)
   | (with_reducible refine LeO.bind ?_ (fun _ => ?_))
   | exact ih0 _ _ _ _ _
   | exact ih1 _ _ _
   | exact ih2 _ _ _ _ _
   | exact INS.mono _ _ _ _ _ _ _
   | exact SYM.mono _ _ _ _ _ _ _ _
   | exact LeO.none _
   | refine LeO.ite ?_ ?_
   | refine LeO.bind ?_ (fun _ => ?_)
set_option maxHeartbeats 8000000 in
set_option maxRecDepth 100000 in
theorem STB.calls (k : Nat) (P0_ : Nat → Prop) (u9000_ : Value) (l0 : List Int) (a1 : Int) (g70_ : Nat) (g71_ : Nat) (g72_ : Nat) (a70 : Int) (A71 : Option Addr) (c71 : Nat) (l71 : List Int) (a72 : Int) (r : List Int) (w0 w : World) (hB : Below w0.heap.size w0 w) (ho0 : Kd.R (Kd.int .i64) 3 w w0.heap.size P0_ u9000_ l0) (hr71 : ∀ W_, Kept w W_ (fun k_ => P0_ k_) → Kd.C (Kd.int .i64) W_ A71 l71.length l71) (hc71 : l71.length ≤ c71) (hq70_0 : ∀ W_, Kept w W_ (fun k_ => P0_ k_) → W_.cell? ⟨g70_, 0, none⟩ = some (.int .i64 a70)) (hq71_0 : ∀ W_, Kept w W_ (fun k_ => P0_ k_) → W_.cell? ⟨g71_, 0, none⟩ = some (.slice A71 l71.length c71)) (hq72_0 : ∀ W_, Kept w W_ (fun k_ => P0_ k_) → W_.cell? ⟨g72_, 0, none⟩ = some (.int .i64 a72)) (h : STB.f k l0 a1 a70 l71 a72 = some r) :
  Calls Try.prog 62 #[u9000_, .int .i64 a1, .func (.func 56) #[] #[.pointer (some ⟨g70_, 0, none⟩), .pointer (some ⟨g71_, 0, none⟩), .pointer (some ⟨g72_, 0, none⟩)]] w fun e w' => e = .returned (.tuple #[]) ∧ Kd.R (Kd.int .i64) 3 w' w0.heap.size (fun k_ => (P0_ k_ ∨ w.heap.size ≤ k_)) u9000_ r ∧ Below w0.heap.size w0 w' ∧ Kept w w' (fun k_ => P0_ k_) := by
 have HO0 := am_ (show Kd.R (Kd.int .i64) 3 w w0.heap.size (fun k_ => (P0_ k_ ∨ w.heap.size ≤ k_)) u9000_ l0 from Kd.R_mono ho0 (fun k_ hk => (.inl hk)))
 have HR71 := am_ hr71
 have HC71 := am_ hc71
 clear hr71 hc71
 have HK := am_ (Kept.refl w (fun k_ => P0_ k_))
 have HW0 := am_ hB.size
 have HB := am_ hB
 clear hB
 have H : (STB.l0 a70 l71 a72 k l0 a1 20 0 20) = some r := h
 clear h
 have H' := am_ H
 clear H
 go_enter Try.func62, Try.ntmps62
 go_wp2
 go_loopg [7, 8] k (fun kq v7 v8 w' => ∃ (x0_1 : List Int) (x7_1 : Int) (x8_1 : Int), v7 = .int .i64 x7_1 ∧ v8 = .int .i64 x8_1 ∧ Aside0 (STB.l0 a70 l71 a72 kq x0_1 a1 20 x7_1 x8_1 = some r) ∧ Aside0 (kq ≤ k) ∧ Aside0 (Kd.R (Kd.int .i64) 3 w' w0.heap.size (fun k_ => (P0_ k_ ∨ w.heap.size ≤ k_)) u9000_ x0_1) ∧ Aside0 (Kept w w' (fun k_ => P0_ k_)) ∧ Aside0 (Below w0.heap.size w0 w'))
 case atStart => exact ⟨(l0), (0), (20), sq_, sq_, H', ⟨Nat.le_refl _⟩, ⟨ra_ HO0.out⟩, ⟨kk_ HK.out⟩, ⟨bw_ HB.out⟩⟩
 case round =>
  clear H'
  (try clear HO_0)
  obtain ⟨x0_1, x7_1, x8_1, rfl, rfl, HA, HK1, HO_0, HK, HB⟩ := hrel
  cases gk with
  | zero => exact absurd HA.out (by simp [STB.l0])
  | succ k1 =>
   have H := HA.out
   clear HA
   simp only [STB.l0] at H
   by_cases c4 : x8_1 ≤ a1
   ·rw [if_pos c4] at H
    have c4b0 : decide (x8_1 ≤ a1) = true := decide_eq_true c4
    clear c4
    obtain ⟨t251, A50, H⟩ := bE_ H
    have A5 := am_ A50
    clear A50
    have H' := am_ H
    clear H
    obtain ⟨Ao6, co6, eo6⟩ := Kd.R_slice HO_0.out
    subst eo6
    go_wp2_with (first | ((with_reducible refine gate_callee (f := 68) rfl ?_); refine goesL_ (some 18) rfl rfl Try.func68 (by kernel_rfl) rfl #[.slice Ao6 x0_1.length co6, .int .i64 x7_1, .int .i64 x8_1, .func (.func 56) #[] #[.pointer (some ⟨g70_, 0, none⟩), .pointer (some ⟨g71_, 0, none⟩), .pointer (some ⟨g72_, 0, none⟩)]] rfl (by (try simp only [List.map_toArray, List.map_cons, List.map_nil]); first | done | rfl | (simp only [List.length_drop, List.length_take]; rfl)) ?_; (with_reducible refine (INS.calls k1 (fun k_ => some k_ = (.slice Ao6 x0_1.length co6 : Value).ownBlock) (.slice Ao6 x0_1.length co6) x0_1 x7_1 x8_1 g70_ g71_ g72_ a70 A71 c71 l71 a72 t251 w0 _ ?side1 ?side2 ?side3 ?side4 ?side5 ?side6 ?side7 A5.out).mono ?_); (case side1 => repeat (first | (with_reducible first | exact HB.out | apply below_alloc | apply pw_below_drewN | apply below_drew1) | exact HB.out)); (case side2 => exact Kd.R_tight rfl HO_0.out); (case side3 => exact Kd.C_kept_call HR71.out (kk_ HK.out) (fun k_ hs_ => (fun e_ => (HO_0.out.1 k_ e_.symm)) hs_)); (case side4 => exact HC71.out); (case side5 => exact fun W_ hk_ => hq70_0 W_ (Kept.then_ (S := (fun k_ => P0_ k_)) (kk_ HK.out) hk_ (fun k_ hs_ => (fun e_ => (HO_0.out.1 k_ e_.symm)) hs_))); (case side6 => exact fun W_ hk_ => hq71_0 W_ (Kept.then_ (S := (fun k_ => P0_ k_)) (kk_ HK.out) hk_ (fun k_ hs_ => (fun e_ => (HO_0.out.1 k_ e_.symm)) hs_))); (case side7 => exact fun W_ hk_ => hq72_0 W_ (Kept.then_ (S := (fun k_ => P0_ k_)) (kk_ HK.out) hk_ (fun k_ hs_ => (fun e_ => (HO_0.out.1 k_ e_.symm)) hs_))); rintro e w7 ⟨rfl, hy0, hb, hkp⟩; refine ⟨_, rfl, ?_⟩; have n0_ := am_ (Kd.R_reok rfl hy0 (fun k_ e_ => HO_0.out.1 k_ e_)); have n1_ := am_ (Kept.then_ (S := (fun k_ => P0_ k_)) (kk_ HK.out) hkp (fun k_ hs_ => (fun e_ => (HO_0.out.1 k_ e_.symm)) hs_)); have n2_ := am_ (hb); replace HO_0 := n0_; replace HK := n1_; replace HB := n2_; clear n0_ n1_ n2_; (try clear hb); (try clear hkp); (try clear hy0)))
    go_roundg k1
    case measure => have := HK1.out; omega
    case rel => exact ⟨(t251), (x8_1), (wrap64 (x8_1 + 20)), sq_, sq_, H', ⟨by have := HK1.out; omega⟩, ⟨ra_ HO_0.out⟩, ⟨kk_ HK.out⟩, ⟨bw_ HB.out⟩⟩
   ·rw [if_neg c4] at H
    have c4b0 : decide (x8_1 ≤ a1) = false := decide_eq_false c4
    clear c4
    obtain ⟨t252, A80, H⟩ := bE_ H
    have A8 := am_ A80
    clear A80
    have H' := am_ H
    clear H
    obtain ⟨Ao9, co9, eo9⟩ := Kd.R_slice HO_0.out
    subst eo9
    go_wp2_with (first | ((with_reducible refine gate_callee (f := 68) rfl ?_); refine goesL_ (some 27) rfl rfl Try.func68 (by kernel_rfl) rfl #[.slice Ao9 x0_1.length co9, .int .i64 x7_1, .int .i64 a1, .func (.func 56) #[] #[.pointer (some ⟨g70_, 0, none⟩), .pointer (some ⟨g71_, 0, none⟩), .pointer (some ⟨g72_, 0, none⟩)]] rfl (by (try simp only [List.map_toArray, List.map_cons, List.map_nil]); first | done | rfl | (simp only [List.length_drop, List.length_take]; rfl)) ?_; (with_reducible refine (INS.calls k1 (fun k_ => some k_ = (.slice Ao9 x0_1.length co9 : Value).ownBlock) (.slice Ao9 x0_1.length co9) x0_1 x7_1 a1 g70_ g71_ g72_ a70 A71 c71 l71 a72 t252 w0 _ ?side1 ?side2 ?side3 ?side4 ?side5 ?side6 ?side7 A8.out).mono ?_); (case side1 => repeat (first | (with_reducible first | exact HB.out | apply below_alloc | apply pw_below_drewN | apply below_drew1) | exact HB.out)); (case side2 => exact Kd.R_tight rfl HO_0.out); (case side3 => exact Kd.C_kept_call HR71.out (kk_ HK.out) (fun k_ hs_ => (fun e_ => (HO_0.out.1 k_ e_.symm)) hs_)); (case side4 => exact HC71.out); (case side5 => exact fun W_ hk_ => hq70_0 W_ (Kept.then_ (S := (fun k_ => P0_ k_)) (kk_ HK.out) hk_ (fun k_ hs_ => (fun e_ => (HO_0.out.1 k_ e_.symm)) hs_))); (case side6 => exact fun W_ hk_ => hq71_0 W_ (Kept.then_ (S := (fun k_ => P0_ k_)) (kk_ HK.out) hk_ (fun k_ hs_ => (fun e_ => (HO_0.out.1 k_ e_.symm)) hs_))); (case side7 => exact fun W_ hk_ => hq72_0 W_ (Kept.then_ (S := (fun k_ => P0_ k_)) (kk_ HK.out) hk_ (fun k_ hs_ => (fun e_ => (HO_0.out.1 k_ e_.symm)) hs_))); rintro e w10 ⟨rfl, hy0, hb, hkp⟩; refine ⟨_, rfl, ?_⟩; have n0_ := am_ (Kd.R_reok rfl hy0 (fun k_ e_ => HO_0.out.1 k_ e_)); have n1_ := am_ (Kept.then_ (S := (fun k_ => P0_ k_)) (kk_ HK.out) hkp (fun k_ hs_ => (fun e_ => (HO_0.out.1 k_ e_.symm)) hs_)); have n2_ := am_ (hb); replace HO_0 := n0_; replace HK := n1_; replace HB := n2_; clear n0_ n1_ n2_; (try clear hb); (try clear hkp); (try clear hy0)))
    try simp only [Act.put, List.setIfInBounds_toArray, List.set_cons_zero, List.set_cons_succ]
    go_loopg [6] k1 (fun kq v6 w' => ∃ (x0_2 : List Int) (x6_2 : Int), v6 = .int .i64 x6_2 ∧ Aside0 (STB.l1 a70 l71 a72 kq x0_2 a1 x6_2 = some r) ∧ Aside0 (kq ≤ k1) ∧ Aside0 (Kd.R (Kd.int .i64) 3 w' w0.heap.size (fun k_ => (P0_ k_ ∨ w.heap.size ≤ k_)) (.slice Ao9 x0_1.length co9) x0_2) ∧ Aside0 (Kept w w' (fun k_ => P0_ k_)) ∧ Aside0 (Below w0.heap.size w0 w'))
    case atStart => exact ⟨(t252), (20), sq_, H', ⟨Nat.le_refl _⟩, ⟨ra_ HO_0.out⟩, ⟨kk_ HK.out⟩, ⟨bw_ HB.out⟩⟩
    case round =>
     clear H'
     try clear c4
     try clear c4b0
     (try clear HO_0)
     obtain ⟨x0_2, x6_2, rfl, HA, HK2, HO_0, HK, HB⟩ := hrel
     have hl0_2 := (Kd.R_reads' HO_0.out).1
     rw [hl0_2] at HO_0
     (try simp only [hl0_2])
     cases gk with
     | zero => exact absurd HA.out (by simp [STB.l1])
     | succ k2 =>
      have H := HA.out
      clear HA
      simp only [STB.l1] at H
      by_cases c11 : x6_2 < a1
      ·rw [if_pos c11] at H
       have c11b0 : decide (x6_2 < a1) = true := decide_eq_true c11
       clear c11
       have H' := am_ H
       clear H
       go_wp2
       go_loopg [7, 8] k2 (fun kq v7 v8 w' => ∃ (x0_3 : List Int) (x7_3 : Int) (x8_3 : Int), v7 = .int .i64 x7_3 ∧ v8 = .int .i64 x8_3 ∧ Aside0 (STB.l2 a70 l71 a72 kq x0_3 a1 x6_2 x7_3 x8_3 = some r) ∧ Aside0 (kq ≤ k2) ∧ Aside0 (Kd.R (Kd.int .i64) 3 w' w0.heap.size (fun k_ => (P0_ k_ ∨ w.heap.size ≤ k_)) (.slice Ao9 x0_2.length co9) x0_3) ∧ Aside0 (Kept w w' (fun k_ => P0_ k_)) ∧ Aside0 (Below w0.heap.size w0 w'))
       case atStart => exact ⟨(x0_2), (0), (wrap64 (2 * x6_2)), sq_, sq_, H', ⟨Nat.le_refl _⟩, ⟨by (try simp only [hl0_2]); (with_reducible repeat (first | apply Kd.R_alloc | apply Kd.R_drewN | apply Kd.R_drew)); exact HO_0.out⟩, ⟨kk_ HK.out⟩, ⟨bw_ HB.out⟩⟩
       case round =>
        clear H'
        try clear c4
        try clear c4b0
        try clear c11
        try clear c11b0
        (try clear HO_0)
        obtain ⟨x0_3, x7_3, x8_3, rfl, rfl, HA, HK3, HO_0, HK, HB⟩ := hrel
        have hl0_3 := (Kd.R_reads' HO_0.out).1
        rw [hl0_3] at HO_0
        (try simp only [hl0_3])
        cases gk with
        | zero => exact absurd HA.out (by simp [STB.l2])
        | succ k3 =>
         have H := HA.out
         clear HA
         simp only [STB.l2] at H
         by_cases c12 : x8_3 ≤ a1
         ·rw [if_pos c12] at H
          have c12b0 : decide (x8_3 ≤ a1) = true := decide_eq_true c12
          clear c12
          obtain ⟨t253, A130, H⟩ := bE_ H
          have A13 := am_ A130
          clear A130
          have H' := am_ H
          clear H
          go_wp2_with (first | ((with_reducible refine gate_callee (f := 69) rfl ?_); refine goesL_ (some 43) rfl rfl Try.func69 (by kernel_rfl) rfl #[.slice Ao9 x0_3.length co9, .int .i64 x7_3, .int .i64 (wrap64 (x7_3 + x6_2)), .int .i64 x8_3, .func (.func 56) #[] #[.pointer (some ⟨g70_, 0, none⟩), .pointer (some ⟨g71_, 0, none⟩), .pointer (some ⟨g72_, 0, none⟩)]] rfl (by (try simp only [List.map_toArray, List.map_cons, List.map_nil]); first | done | rfl | (simp only [List.length_drop, List.length_take]; rfl)) ?_; (with_reducible refine (SYM.calls k3 (fun k_ => some k_ = (.slice Ao9 x0_3.length co9 : Value).ownBlock) (.slice Ao9 x0_3.length co9) x0_3 x7_3 (wrap64 (x7_3 + x6_2)) x8_3 g70_ g71_ g72_ a70 A71 c71 l71 a72 t253 w0 _ ?side1 ?side2 ?side3 ?side4 ?side5 ?side6 ?side7 A13.out).mono ?_); (case side1 => repeat (first | (with_reducible first | exact HB.out | apply below_alloc | apply pw_below_drewN | apply below_drew1) | exact HB.out)); (case side2 => exact Kd.R_tight rfl HO_0.out); (case side3 => exact Kd.C_kept_call HR71.out (kk_ HK.out) (fun k_ hs_ => (fun e_ => (HO_0.out.1 k_ e_.symm)) hs_)); (case side4 => exact HC71.out); (case side5 => exact fun W_ hk_ => hq70_0 W_ (Kept.then_ (S := (fun k_ => P0_ k_)) (kk_ HK.out) hk_ (fun k_ hs_ => (fun e_ => (HO_0.out.1 k_ e_.symm)) hs_))); (case side6 => exact fun W_ hk_ => hq71_0 W_ (Kept.then_ (S := (fun k_ => P0_ k_)) (kk_ HK.out) hk_ (fun k_ hs_ => (fun e_ => (HO_0.out.1 k_ e_.symm)) hs_))); (case side7 => exact fun W_ hk_ => hq72_0 W_ (Kept.then_ (S := (fun k_ => P0_ k_)) (kk_ HK.out) hk_ (fun k_ hs_ => (fun e_ => (HO_0.out.1 k_ e_.symm)) hs_))); rintro e w14 ⟨rfl, hy0, hb, hkp⟩; refine ⟨_, rfl, ?_⟩; have n0_ := am_ (Kd.R_reok rfl hy0 (fun k_ e_ => HO_0.out.1 k_ e_)); have n1_ := am_ (Kept.then_ (S := (fun k_ => P0_ k_)) (kk_ HK.out) hkp (fun k_ hs_ => (fun e_ => (HO_0.out.1 k_ e_.symm)) hs_)); have n2_ := am_ (hb); replace HO_0 := n0_; replace HK := n1_; replace HB := n2_; clear n0_ n1_ n2_; (try clear hb); (try clear hkp); (try clear hy0)))
          (try simp only [← hl0_3])
          go_roundg k3
          case measure => have := HK1.out; have := HK2.out; have := HK3.out; omega
          case rel => exact ⟨(t253), (x8_3), (wrap64 (x8_3 + (wrap64 (2 * x6_2)))), sq_, sq_, H', ⟨by have := HK1.out; have := HK2.out; have := HK3.out; omega⟩, ⟨by (try simp only [hl0_2]); (try simp only [hl0_3]); (with_reducible repeat (first | apply Kd.R_alloc | apply Kd.R_drewN | apply Kd.R_drew)); exact HO_0.out⟩, ⟨kk_ HK.out⟩, ⟨bw_ HB.out⟩⟩
         ·rw [if_neg c12] at H
          have c12b0 : decide (x8_3 ≤ a1) = false := decide_eq_false c12
          clear c12
          by_cases c15 : (wrap64 (x7_3 + x6_2)) < a1
          ·rw [if_pos c15] at H
           have c15b0 : decide ((wrap64 (x7_3 + x6_2)) < a1) = true := decide_eq_true c15
           clear c15
           obtain ⟨t254, A160, H⟩ := bE_ H
           have A16 := am_ A160
           clear A160
           have H' := am_ H
           clear H
           go_wp2_with (first | ((with_reducible refine gate_callee (f := 69) rfl ?_); refine goesL_ (some 60) rfl rfl Try.func69 (by kernel_rfl) rfl #[.slice Ao9 x0_3.length co9, .int .i64 x7_3, .int .i64 (wrap64 (x7_3 + x6_2)), .int .i64 a1, .func (.func 56) #[] #[.pointer (some ⟨g70_, 0, none⟩), .pointer (some ⟨g71_, 0, none⟩), .pointer (some ⟨g72_, 0, none⟩)]] rfl (by (try simp only [List.map_toArray, List.map_cons, List.map_nil]); first | done | rfl | (simp only [List.length_drop, List.length_take]; rfl)) ?_; (with_reducible refine (SYM.calls k3 (fun k_ => some k_ = (.slice Ao9 x0_3.length co9 : Value).ownBlock) (.slice Ao9 x0_3.length co9) x0_3 x7_3 (wrap64 (x7_3 + x6_2)) a1 g70_ g71_ g72_ a70 A71 c71 l71 a72 t254 w0 _ ?side1 ?side2 ?side3 ?side4 ?side5 ?side6 ?side7 A16.out).mono ?_); (case side1 => repeat (first | (with_reducible first | exact HB.out | apply below_alloc | apply pw_below_drewN | apply below_drew1) | exact HB.out)); (case side2 => exact Kd.R_tight rfl HO_0.out); (case side3 => exact Kd.C_kept_call HR71.out (kk_ HK.out) (fun k_ hs_ => (fun e_ => (HO_0.out.1 k_ e_.symm)) hs_)); (case side4 => exact HC71.out); (case side5 => exact fun W_ hk_ => hq70_0 W_ (Kept.then_ (S := (fun k_ => P0_ k_)) (kk_ HK.out) hk_ (fun k_ hs_ => (fun e_ => (HO_0.out.1 k_ e_.symm)) hs_))); (case side6 => exact fun W_ hk_ => hq71_0 W_ (Kept.then_ (S := (fun k_ => P0_ k_)) (kk_ HK.out) hk_ (fun k_ hs_ => (fun e_ => (HO_0.out.1 k_ e_.symm)) hs_))); (case side7 => exact fun W_ hk_ => hq72_0 W_ (Kept.then_ (S := (fun k_ => P0_ k_)) (kk_ HK.out) hk_ (fun k_ hs_ => (fun e_ => (HO_0.out.1 k_ e_.symm)) hs_))); rintro e w17 ⟨rfl, hy0, hb, hkp⟩; refine ⟨_, rfl, ?_⟩; have n0_ := am_ (Kd.R_reok rfl hy0 (fun k_ e_ => HO_0.out.1 k_ e_)); have n1_ := am_ (Kept.then_ (S := (fun k_ => P0_ k_)) (kk_ HK.out) hkp (fun k_ hs_ => (fun e_ => (HO_0.out.1 k_ e_.symm)) hs_)); have n2_ := am_ (hb); replace HO_0 := n0_; replace HK := n1_; replace HB := n2_; clear n0_ n1_ n2_; (try clear hb); (try clear hkp); (try clear hy0)))
           (try simp only [← hl0_2, ← hl0_3])
           go_roundg k3
           case measure => have := HK1.out; have := HK2.out; have := HK3.out; omega
           case rel => exact ⟨(t254), (wrap64 (x6_2 * 2)), sq_, H', ⟨by have := HK1.out; have := HK2.out; have := HK3.out; omega⟩, ⟨by (try simp only [hl0_2]); (try simp only [hl0_3]); (with_reducible repeat (first | apply Kd.R_alloc | apply Kd.R_drewN | apply Kd.R_drew)); exact HO_0.out⟩, ⟨kk_ HK.out⟩, ⟨bw_ HB.out⟩⟩
          ·rw [if_neg c15] at H
           have c15b0 : decide ((wrap64 (x7_3 + x6_2)) < a1) = false := decide_eq_false c15
           clear c15
           have H' := am_ H
           clear H
           go_wp2
           (try simp only [← hl0_2, ← hl0_3])
           go_roundg k3
           case measure => have := HK1.out; have := HK2.out; have := HK3.out; omega
           case rel => exact ⟨(x0_3), (wrap64 (x6_2 * 2)), sq_, H', ⟨by have := HK1.out; have := HK2.out; have := HK3.out; omega⟩, ⟨by (try simp only [hl0_2]); (try simp only [hl0_3]); (with_reducible repeat (first | apply Kd.R_alloc | apply Kd.R_drewN | apply Kd.R_drew)); exact HO_0.out⟩, ⟨kk_ HK.out⟩, ⟨bw_ HB.out⟩⟩
      ·rw [if_neg c11] at H
       have c11b0 : decide (x6_2 < a1) = false := decide_eq_false c11
       clear c11
       obtain rfl := Option.some.inj H
       go_wp2
       first | go_end0 | ((try simp only [Exit.inBlock, Exit.then]); refine bodyPost_ret (results_none rfl _ _ _) rfl ?_)
       exact ⟨by first | rfl | (simp [errW_none, errW_some] <;> rfl) | (simp [*, errW_none, errW_some] <;> rfl), (by first | exact (ra_ HO_0.out) | (simp only [hl0_2]; exact (ra_ HO_0.out))), bw_ HB.out, kk_ HK.out⟩

/-! ### SORT: function 55 -/
def SORT.f (k : Nat) (l0 : List Int) (a65 : Int) (l66 : List Int) (a67 : Int) : Option (List Int) := (STB.f k l0 (l0.length : Int) a65 l66 a67).bind fun t255 => (some t255)
theorem SORT.mono : ∀ a0 a1 a2 a3 k, LeO (SORT.f k a0 a1 a2 a3) (SORT.f (k + 1) a0 a1 a2 a3) := by
 intro a0 a1 a2 a3 k
 unfold SORT.f
 repeat' first
   | (with_reducible exact STB.mono _ _ _ _ _ _)
   | (with_reducible exact LeO.refl _)
   | (with_reducible exact LeO.none _)
   | (with_reducible refine LeO.ite ?_ ?_)
   | (with_reducible refine LeO.bind ?_ (fun _ => ?_))
   | exact STB.mono _ _ _ _ _ _
   | exact LeO.none _
   | refine LeO.ite ?_ ?_
   | refine LeO.bind ?_ (fun _ => ?_)
set_option maxHeartbeats 8000000 in
set_option maxRecDepth 100000 in
theorem SORT.calls (k : Nat) (P0_ : Nat → Prop) (u9000_ : Value) (l0 : List Int) (g65_ : Nat) (g66_ : Nat) (g67_ : Nat) (a65 : Int) (A66 : Option Addr) (c66 : Nat) (l66 : List Int) (a67 : Int) (r : List Int) (w0 w : World) (hB : Below w0.heap.size w0 w) (ho0 : Kd.R (Kd.int .i64) 3 w w0.heap.size P0_ u9000_ l0) (hr66 : ∀ W_, Kept w W_ (fun k_ => P0_ k_) → Kd.C (Kd.int .i64) W_ A66 l66.length l66) (hc66 : l66.length ≤ c66) (hq65_0 : ∀ W_, Kept w W_ (fun k_ => P0_ k_) → W_.cell? ⟨g65_, 0, none⟩ = some (.int .i64 a65)) (hq66_0 : ∀ W_, Kept w W_ (fun k_ => P0_ k_) → W_.cell? ⟨g66_, 0, none⟩ = some (.slice A66 l66.length c66)) (hq67_0 : ∀ W_, Kept w W_ (fun k_ => P0_ k_) → W_.cell? ⟨g67_, 0, none⟩ = some (.int .i64 a67)) (h : SORT.f k l0 a65 l66 a67 = some r) :
  Calls Try.prog 55 #[u9000_, .func (.func 56) #[] #[.pointer (some ⟨g65_, 0, none⟩), .pointer (some ⟨g66_, 0, none⟩), .pointer (some ⟨g67_, 0, none⟩)]] w fun e w' => e = .returned (.tuple #[]) ∧ Kd.R (Kd.int .i64) 3 w' w0.heap.size (fun k_ => (P0_ k_ ∨ w.heap.size ≤ k_)) u9000_ r ∧ Below w0.heap.size w0 w' ∧ Kept w w' (fun k_ => P0_ k_) := by
 have HO0 := am_ (show Kd.R (Kd.int .i64) 3 w w0.heap.size (fun k_ => (P0_ k_ ∨ w.heap.size ≤ k_)) u9000_ l0 from Kd.R_mono ho0 (fun k_ hk => (.inl hk)))
 have HR66 := am_ hr66
 have HC66 := am_ hc66
 clear hr66 hc66
 have HK := am_ (Kept.refl w (fun k_ => P0_ k_))
 have HW0 := am_ hB.size
 have HB := am_ hB
 clear hB
 have H : ((STB.f k l0 (l0.length : Int) a65 l66 a67).bind fun t255 => (some t255)) = some r := h
 clear h
 obtain ⟨t255, A30, H⟩ := bE_ H
 have A3 := am_ A30
 clear A30
 obtain rfl := Option.some.inj H
 obtain ⟨Ao4, co4, eo4⟩ := Kd.R_slice HO0.out
 subst eo4
 go_enter Try.func55, Try.ntmps55
 go_wp2_with (first | ((with_reducible refine gate_callee (f := 62) rfl ?_); refine goesL_ (some 8) rfl rfl Try.func62 (by kernel_rfl) rfl #[.slice Ao4 l0.length co4, .int .i64 (l0.length : Int), .func (.func 56) #[] #[.pointer (some ⟨g65_, 0, none⟩), .pointer (some ⟨g66_, 0, none⟩), .pointer (some ⟨g67_, 0, none⟩)]] rfl (by (try simp only [List.map_toArray, List.map_cons, List.map_nil]); first | done | rfl | (simp only [List.length_drop, List.length_take]; rfl)) ?_; (with_reducible refine (STB.calls k (fun k_ => some k_ = (.slice Ao4 l0.length co4 : Value).ownBlock) (.slice Ao4 l0.length co4) l0 (l0.length : Int) g65_ g66_ g67_ a65 A66 c66 l66 a67 t255 w0 _ ?side1 ?side2 ?side3 ?side4 ?side5 ?side6 ?side7 A3.out).mono ?_); (case side1 => repeat (first | (with_reducible first | exact HB.out | apply below_alloc | apply pw_below_drewN | apply below_drew1) | exact HB.out)); (case side2 => exact Kd.R_tight rfl HO0.out); (case side3 => exact Kd.C_kept_call HR66.out (kk_ HK.out) (fun k_ hs_ => (fun e_ => (HO0.out.1 k_ e_.symm)) hs_)); (case side4 => exact HC66.out); (case side5 => exact fun W_ hk_ => hq65_0 W_ (Kept.then_ (S := (fun k_ => P0_ k_)) (kk_ HK.out) hk_ (fun k_ hs_ => (fun e_ => (HO0.out.1 k_ e_.symm)) hs_))); (case side6 => exact fun W_ hk_ => hq66_0 W_ (Kept.then_ (S := (fun k_ => P0_ k_)) (kk_ HK.out) hk_ (fun k_ hs_ => (fun e_ => (HO0.out.1 k_ e_.symm)) hs_))); (case side7 => exact fun W_ hk_ => hq67_0 W_ (Kept.then_ (S := (fun k_ => P0_ k_)) (kk_ HK.out) hk_ (fun k_ hs_ => (fun e_ => (HO0.out.1 k_ e_.symm)) hs_))); rintro e w5 ⟨rfl, hy0, hb, hkp⟩; refine ⟨_, rfl, ?_⟩; have n0_ := am_ (Kd.R_reok rfl hy0 (fun k_ e_ => HO0.out.1 k_ e_)); have n1_ := am_ (Kept.then_ (S := (fun k_ => P0_ k_)) (kk_ HK.out) hkp (fun k_ hs_ => (fun e_ => (HO0.out.1 k_ e_.symm)) hs_)); have n2_ := am_ (hb); replace HO0 := n0_; replace HK := n1_; replace HB := n2_; clear n0_ n1_ n2_; (try clear hb); (try clear hkp); (try clear hy0)))
 first | go_end0 | ((try simp only [Exit.inBlock, Exit.then]); refine bodyPost_ret (results_none rfl _ _ _) rfl ?_)
 exact ⟨by first | rfl | (simp [errW_none, errW_some] <;> rfl) | (simp [*, errW_none, errW_some] <;> rfl), ra_ HO0.out, bw_ HB.out, kk_ HK.out⟩

end Go.Proofs.Ytgfppioaggeleaa.XFnExactLayOut
