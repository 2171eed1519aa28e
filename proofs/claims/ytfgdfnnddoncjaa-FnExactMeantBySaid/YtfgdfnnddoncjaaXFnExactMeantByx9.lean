/- What the Go functions that this law comes to compute, each walked; written by a program of this session. -/
import Derived.Test.YtfgdfnnddoncjaaXShort
import Derived.Test.YtfgdfnnddoncjaaXMark
import Derived.Test.YtfgdfnnddoncjaaXFnExactMeantByx0
import Derived.Test.YtfgdfnnddoncjaaXFnExactMeantByx8
namespace Go.Proofs.Ytfgdfnnddoncjaa.XFnExactMeantBy
open Go.RowKit Go.Proofs.YtfgdfnnddoncjaaW.PrintWords Go.Proofs.YtfgdfnnddoncjaaW.PrintLast Go.Proofs.YtfgdfnnddoncjaaW.PrintMore
attribute [local go_sem] str_geq max2_int min2_int max_two min_two max_three min_three max_four min_four   -- for this text's walks alone
set_option linter.unusedVariables false
set_option linter.unusedSimpArgs false

/-! ### slices_IndexFunc_impl_Bind_impl_Bind_at_impl_chordPlace_1: function 71 -/
def slices_IndexFunc_impl_Bind_impl_Bind_at_impl_chordPlace_1.l0 (l65 : List Int) : Nat → List (S53) → Int → Int → Option (Int)
 | 0, _, _, _ => none
 | k + 1, x0, x7, x8 => if x8 < x7 then (if 0 ≤ x8 then (if x8 < (x0.length : Int) then ((impl_chordPlace_1_captured.f k ((rd_T53 x0 x8).f0) ((rd_T53 x0 x8).f1) l65).bind fun t267 => (if t267 = true then (some x8) else (slices_IndexFunc_impl_Bind_impl_Bind_at_impl_chordPlace_1.l0 l65 k x0 x7 (wrap64 (x8 + 1))))) else (none)) else (none)) else (some (-1))
def slices_IndexFunc_impl_Bind_impl_Bind_at_impl_chordPlace_1.f (k : Nat) (l0 : List (S53)) (l65 : List Int) : Option (Int) := slices_IndexFunc_impl_Bind_impl_Bind_at_impl_chordPlace_1.l0 l65 k l0 (l0.length : Int) 0
theorem slices_IndexFunc_impl_Bind_impl_Bind_at_impl_chordPlace_1.mono_l (l65 : List Int) : ∀ k, (∀ y0 y1 y2, LeO (slices_IndexFunc_impl_Bind_impl_Bind_at_impl_chordPlace_1.l0 l65 k y0 y1 y2) (slices_IndexFunc_impl_Bind_impl_Bind_at_impl_chordPlace_1.l0 l65 (k + 1) y0 y1 y2))
 | 0 => fun _ _ _ r h => by simp [slices_IndexFunc_impl_Bind_impl_Bind_at_impl_chordPlace_1.l0] at h
 | k + 1 => by
  have ih0 := slices_IndexFunc_impl_Bind_impl_Bind_at_impl_chordPlace_1.mono_l l65 k
  ·intro y0 y1 y2
   unfold slices_IndexFunc_impl_Bind_impl_Bind_at_impl_chordPlace_1.l0
   repeat' first
   | (with_reducible exact ih0 _ _ _)
   | (with_reducible exact impl_chordPlace_1_captured.mono _ _ _ _)
   | (with_reducible exact LeO.refl _)
   | (with_reducible exact LeO.none _)
   | (with_reducible refine LeO.ite ?_ ?_)
   | (with_reducible refine LeO.bind ?_ (fun _ => ?_))
   | exact ih0 _ _ _
   | exact impl_chordPlace_1_captured.mono _ _ _ _
   | exact LeO.none _
   | refine LeO.ite ?_ ?_
   | refine LeO.bind ?_ (fun _ => ?_)
theorem slices_IndexFunc_impl_Bind_impl_Bind_at_impl_chordPlace_1.mono : ∀ a0 a1 k, LeO (slices_IndexFunc_impl_Bind_impl_Bind_at_impl_chordPlace_1.f k a0 a1) (slices_IndexFunc_impl_Bind_impl_Bind_at_impl_chordPlace_1.f (k + 1) a0 a1) := by
 intro a0 a1 k
 have ih0 := slices_IndexFunc_impl_Bind_impl_Bind_at_impl_chordPlace_1.mono_l a1 k
 unfold slices_IndexFunc_impl_Bind_impl_Bind_at_impl_chordPlace_1.f
 repeat' first
   | (with_reducible exact ih0 _ _ _)
   | (with_reducible exact impl_chordPlace_1_captured.mono _ _ _ _)
   | (with_reducible exact LeO.refl _)
   | (with_reducible exact LeO.none _)
   | (with_reducible refine LeO.ite ?_ ?_)
   | (with_reducible refine LeO.bind ?_ (fun _ => ?_))
   | exact ih0 _ _ _
   | exact impl_chordPlace_1_captured.mono _ _ _ _
   | exact LeO.none _
   | refine LeO.ite ?_ ?_
   | refine LeO.bind ?_ (fun _ => ?_)
set_option maxHeartbeats 8000000 in
set_option maxRecDepth 100000 in
theorem slices_IndexFunc_impl_Bind_impl_Bind_at_impl_chordPlace_1.calls (k : Nat) (A0 : Option Addr) (c0 : Nat) (l0 : List (S53)) (g65_ : Nat) (A65 : Option Addr) (c65 : Nat) (l65 : List Int) (r : Int) (w : World) (hr0 : Kd.C k53 w A0 l0.length l0) (hc0 : l0.length ≤ c0) (hr65 : Kd.C (Kd.int .i64) w A65 l65.length l65) (hc65 : l65.length ≤ c65) (hq65_0 : w.cell? ⟨g65_, 0, none⟩ = some (.slice A65 l65.length c65)) (h : slices_IndexFunc_impl_Bind_impl_Bind_at_impl_chordPlace_1.f k l0 l65 = some r) :
  Calls Try.prog 71 #[.slice A0 l0.length c0, .func (.func 72) #[] #[.pointer (some ⟨g65_, 0, none⟩)]] w fun e w' => e = .returned (.int .i64 r) ∧ Below w.heap.size w w' := by
 have hu53 := Try.underlying53
 have HR0 := am_ hr0
 have HC0 := am_ hc0
 clear hr0 hc0
 have HR65 := am_ hr65
 have HC65 := am_ hc65
 clear hr65 hc65
 have HB := am_ (Below.refl w.heap.size w)
 have H : (slices_IndexFunc_impl_Bind_impl_Bind_at_impl_chordPlace_1.l0 l65 k l0 (l0.length : Int) 0) = some r := h
 clear h
 have H' := am_ H
 clear H
 go_enter Try.func71, Try.ntmps71
 go_wp2
 go_loopg [8] k (fun kq v8 w' => ∃ (x8_1 : Int), v8 = .int .i64 x8_1 ∧ Aside0 (slices_IndexFunc_impl_Bind_impl_Bind_at_impl_chordPlace_1.l0 l65 kq l0 (l0.length : Int) x8_1 = some r) ∧ Aside0 (kq ≤ k) ∧ Aside0 (Below w.heap.size w w'))
 case atStart => exact ⟨(0), sq_, H', ⟨Nat.le_refl _⟩, ⟨bw_ HB.out⟩⟩
 case round =>
  clear H'
  obtain ⟨x8_1, rfl, HA, HK1, HB⟩ := hrel
  cases gk with
  | zero => exact absurd HA.out (by simp [slices_IndexFunc_impl_Bind_impl_Bind_at_impl_chordPlace_1.l0])
  | succ k1 =>
   have H := HA.out
   clear HA
   simp only [slices_IndexFunc_impl_Bind_impl_Bind_at_impl_chordPlace_1.l0] at H
   by_cases c3 : x8_1 < (l0.length : Int)
   ·rw [if_pos c3] at H
    have c3b0 : decide (x8_1 < (l0.length : Int)) = true := decide_eq_true c3
    clear c3
    obtain ⟨c4, H⟩ := ifn_ H
    have c4b0 : decide (0 ≤ x8_1) = true := decide_eq_true c4
    clear c4
    obtain ⟨c5, H⟩ := ifn_ H
    have c5b0 : decide (x8_1 < (l0.length : Int)) = true := decide_eq_true c5
    clear c5
    obtain ⟨t267, A60, H⟩ := bE_ H
    have A6 := am_ A60
    clear A60
    by_cases c7 : t267 = true
    ·subst c7
     replace H := it_ H rfl
     obtain rfl := Option.some.inj H
     have p266 : 0 ≤ (x8_1 : Int) := od_
     have q266 : x8_1 < (l0.length : Int) := od_
     obtain ⟨ad266, A266_1, c266_1, e266, hx266_0, hx266_1, hl266_1, hi266_1⟩ := at_T53 HR0.out x8_1 p266 q266
     cases e266
     (try replace hx266_0 := hc_ HB.out hx266_0)
     (try replace hx266_1 := hc_ HB.out hx266_1)
     have HR266_1 := am_ hi266_1
     have HC266_1 := am_ hl266_1
     clear hi266_1 hl266_1
     replace p266 := eq_true p266
     replace q266 := eq_true q266
     go_wp2_with (first | (go_at_call 72; (with_reducible refine (impl_chordPlace_1_captured.calls k1 ((rd_T53 l0 x8_1).f0) _ _ ((rd_T53 l0 x8_1).f1) g65_ A65 c65 l65 true _ ?side1 ?side2 ?side3 ?side4 ?side5 A6.out).mono ?_); (case side1 => repeat (first | exact (Kd.C_below HR266_1.out HB.out) | (with_reducible refine Kd.C_alloc ?_ _) | (with_reducible refine Kd.C_drewN ?_ _) | (with_reducible refine Kd.C_drew ?_))); (case side2 => exact HC266_1.out); (case side3 => repeat (first | exact (Kd.C_below HR65.out HB.out) | (with_reducible refine Kd.C_alloc ?_ _) | (with_reducible refine Kd.C_drewN ?_ _) | (with_reducible refine Kd.C_drew ?_))); (case side4 => exact HC65.out); (case side5 => first | exact hq65_0 | (simpa using hq65_0) | exact (HB.out.cell (World.block_lt_of_cell? w _ hq65_0)).trans hq65_0 | (have h_ := hc_ HB.out hq65_0; simpa using h_)); rintro e w8 ⟨rfl, hb⟩; have n0_ := am_ (below_step (bw_ HB.out) hb); replace HB := n0_; clear n0_; (try clear hb); (try clear hb2); (try clear hk); (try clear hi)))
     go_ret
     exact ⟨by first | rfl | (simp [errW_none, errW_some] <;> rfl) | (simp [*, errW_none, errW_some] <;> rfl), bw_ HB.out⟩
    ·replace c7 := Bool.eq_false_iff.mpr c7
     subst c7
     replace H := if_ H Bool.false_ne_true
     have H' := am_ H
     clear H
     have p266 : 0 ≤ (x8_1 : Int) := od_
     have q266 : x8_1 < (l0.length : Int) := od_
     obtain ⟨ad266, A266_1, c266_1, e266, hx266_0, hx266_1, hl266_1, hi266_1⟩ := at_T53 HR0.out x8_1 p266 q266
     cases e266
     (try replace hx266_0 := hc_ HB.out hx266_0)
     (try replace hx266_1 := hc_ HB.out hx266_1)
     have HR266_1 := am_ hi266_1
     have HC266_1 := am_ hl266_1
     clear hi266_1 hl266_1
     replace p266 := eq_true p266
     replace q266 := eq_true q266
     go_wp2_with (first | (go_at_call 72; (with_reducible refine (impl_chordPlace_1_captured.calls k1 ((rd_T53 l0 x8_1).f0) _ _ ((rd_T53 l0 x8_1).f1) g65_ A65 c65 l65 false _ ?side1 ?side2 ?side3 ?side4 ?side5 A6.out).mono ?_); (case side1 => repeat (first | exact (Kd.C_below HR266_1.out HB.out) | (with_reducible refine Kd.C_alloc ?_ _) | (with_reducible refine Kd.C_drewN ?_ _) | (with_reducible refine Kd.C_drew ?_))); (case side2 => exact HC266_1.out); (case side3 => repeat (first | exact (Kd.C_below HR65.out HB.out) | (with_reducible refine Kd.C_alloc ?_ _) | (with_reducible refine Kd.C_drewN ?_ _) | (with_reducible refine Kd.C_drew ?_))); (case side4 => exact HC65.out); (case side5 => first | exact hq65_0 | (simpa using hq65_0) | exact (HB.out.cell (World.block_lt_of_cell? w _ hq65_0)).trans hq65_0 | (have h_ := hc_ HB.out hq65_0; simpa using h_)); rintro e w9 ⟨rfl, hb⟩; have n0_ := am_ (below_step (bw_ HB.out) hb); replace HB := n0_; clear n0_; (try clear hb); (try clear hb2); (try clear hk); (try clear hi)))
     go_roundg k1
     case measure => have := HK1.out; omega
     case rel => exact ⟨(wrap64 (x8_1 + 1)), sq_, H', ⟨by have := HK1.out; omega⟩, ⟨bw_ HB.out⟩⟩
   ·rw [if_neg c3] at H
    have c3b0 : decide (x8_1 < (l0.length : Int)) = false := decide_eq_false c3
    clear c3
    obtain rfl := Option.some.inj H
    go_wp2
    go_ret
    exact ⟨by first | rfl | (simp [errW_none, errW_some] <;> rfl) | (simp [*, errW_none, errW_some] <;> rfl), bw_ HB.out⟩

/-! ### impl_chordPlace: function 54 -/
def impl_chordPlace.f (k : Nat) (l0 : List (S53)) (l1 : List Int) : Option (Int) := (slices_IndexFunc_impl_Bind_impl_Bind_at_impl_chordPlace_1.f k l0 l1).bind fun t269 => (some t269)
theorem impl_chordPlace.mono : ∀ a0 a1 k, LeO (impl_chordPlace.f k a0 a1) (impl_chordPlace.f (k + 1) a0 a1) := by
 intro a0 a1 k
 unfold impl_chordPlace.f
 repeat' first
   | (with_reducible exact slices_IndexFunc_impl_Bind_impl_Bind_at_impl_chordPlace_1.mono _ _ _)
   | (with_reducible exact LeO.refl _)
   | (with_reducible exact LeO.none _)
   | (with_reducible refine LeO.ite ?_ ?_)
   | (with_reducible refine LeO.bind ?_ (fun _ => ?_))
   | exact slices_IndexFunc_impl_Bind_impl_Bind_at_impl_chordPlace_1.mono _ _ _
   | exact LeO.none _
   | refine LeO.ite ?_ ?_
   | refine LeO.bind ?_ (fun _ => ?_)
set_option maxHeartbeats 8000000 in
set_option maxRecDepth 100000 in
theorem impl_chordPlace.calls (k : Nat) (A0 : Option Addr) (c0 : Nat) (l0 : List (S53)) (A1 : Option Addr) (c1 : Nat) (l1 : List Int) (r : Int) (w : World) (hr0 : Kd.C k53 w A0 l0.length l0) (hc0 : l0.length ≤ c0) (hr1 : Kd.C (Kd.int .i64) w A1 l1.length l1) (hc1 : l1.length ≤ c1) (h : impl_chordPlace.f k l0 l1 = some r) :
  Calls Try.prog 54 #[.slice A0 l0.length c0, .slice A1 l1.length c1] w fun e w' => e = .returned (.int .i64 r) ∧ Below w.heap.size w w' := by
 have HR0 := am_ hr0
 have HC0 := am_ hc0
 clear hr0 hc0
 have HR1 := am_ hr1
 have HC1 := am_ hc1
 clear hr1 hc1
 have HB := am_ (Below.refl w.heap.size w)
 have H : ((slices_IndexFunc_impl_Bind_impl_Bind_at_impl_chordPlace_1.f k l0 l1).bind fun t269 => (some t269)) = some r := h
 clear h
 obtain ⟨t269, A30, H⟩ := bE_ H
 have A3 := am_ A30
 clear A30
 obtain rfl := Option.some.inj H
 go_enter Try.func54, Try.ntmps54
 go_wp2_with (first | ((with_reducible refine gate_dst (N := 3) rfl ?_); refine bx_ 3 #[.slice A1 l1.length c1] 23 ?_; intro gb268 hg w4 hbox hb; have n0_ := am_ (below_step (bw_ HB.out) hb); have n1_ := am_ (hbox); have n2_ := am_ (gs_ hg (bw_ HB.out)); have n3_ := am_ (gs_ hg (bw_ HB.out)); replace HB := n0_; have BK268 := n1_; have GW268 := n2_; have GE268 := n3_; clear n0_ n1_ n2_ n3_; clear hb hbox hg) | ((with_reducible refine gate_callee (f := 71) rfl ?_); refine goesL_ (some 7) rfl rfl Try.func71 (by kernel_rfl) rfl #[.slice A0 l0.length c0, .func (.func 72) #[] #[.pointer (some ⟨gb268, 0, none⟩)]] rfl (by (try simp only [List.map_toArray, List.map_cons, List.map_nil]); first | done | rfl | (simp only [List.length_drop, List.length_take]; rfl)) ?_; (with_reducible refine (slices_IndexFunc_impl_Bind_impl_Bind_at_impl_chordPlace_1.calls k _ _ l0 gb268 A1 c1 l1 t269 _ ?side1 ?side2 ?side3 ?side4 ?side5 A3.out).mono ?_); (case side1 => repeat (first | exact (Kd.C_below HR0.out HB.out) | (with_reducible refine Kd.C_alloc ?_ _) | (with_reducible refine Kd.C_drewN ?_ _) | (with_reducible refine Kd.C_drew ?_))); (case side2 => exact HC0.out); (case side3 => repeat (first | exact (Kd.C_below HR1.out HB.out) | (with_reducible refine Kd.C_alloc ?_ _) | (with_reducible refine Kd.C_drewN ?_ _) | (with_reducible refine Kd.C_drew ?_))); (case side4 => exact HC1.out); (case side5 => exact (blk_cell (bk_ BK268.out) 0).trans rfl); rintro e w5 ⟨rfl, hb⟩; refine ⟨_, rfl, ?_⟩; have n0_ := am_ (blk_below (bk_ BK268.out) hb); have n1_ := am_ (below_step (bw_ HB.out) hb); replace BK268 := n0_; replace HB := n1_; clear n0_ n1_; (try clear hb); (try clear hb2); (try clear hk); (try clear hi)))
 go_ret
 exact ⟨by first | rfl | (simp [errW_none, errW_some] <;> rfl) | (simp [*, errW_none, errW_some] <;> rfl), bw_ HB.out⟩

end Go.Proofs.Ytfgdfnnddoncjaa.XFnExactMeantBy
