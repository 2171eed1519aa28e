/- What the Go functions that this law comes to compute, each walked; written by a program of this session. -/
import Derived.Test.YtgfppioaggeleaaXShort
import Derived.Test.YtgfppioaggeleaaXMark
import Derived.Test.YtgfppioaggeleaaXFnExactLayOutx0
namespace Go.Proofs.Ytgfppioaggeleaa.XFnExactLayOut
open Go.RowKit Go.Proofs.YtgfppioaggeleaaW.PrintWords Go.Proofs.YtgfppioaggeleaaW.PrintLast Go.Proofs.YtgfppioaggeleaaW.PrintMore
attribute [local go_sem] str_geq max2_int min2_int max_two min_two max_three min_three max_four min_four   -- for this text's walks alone
set_option linter.unusedVariables false
set_option linter.unusedSimpArgs false

/-! ### SWAP: function 71 -/
def SWAP.l0 (a80 : Int) (l81 : List Int) (a82 : Int) : Nat → List Int → Int → Int → Int → Int → Option (List Int)
 | 0, _, _, _, _, _ => none
 | k + 1, x0, x1, x2, x3, x10 => if x10 < x3 then (if 0 ≤ (wrap64 (x2 + x10)) then (if (wrap64 (x2 + x10)) < (x0.length : Int) then (if 0 ≤ (wrap64 (x1 + x10)) then (if (wrap64 (x1 + x10)) < (x0.length : Int) then (SWAP.l0 a80 l81 a82 k ((x0.set ((wrap64 (x1 + x10)) : Int).toNat (rd x0 (wrap64 (x2 + x10)))).set ((wrap64 (x2 + x10)) : Int).toNat (rd x0 (wrap64 (x1 + x10)))) x1 x2 x3 (wrap64 (x10 + 1))) else (none)) else (none)) else (none)) else (none)) else (some x0)
def SWAP.f (k : Nat) (l0 : List Int) (a1 : Int) (a2 : Int) (a3 : Int) (a80 : Int) (l81 : List Int) (a82 : Int) : Option (List Int) := SWAP.l0 a80 l81 a82 k l0 a1 a2 a3 0
theorem SWAP.mono_l (a80 : Int) (l81 : List Int) (a82 : Int) : ∀ k, (∀ y0 y1 y2 y3 y4, LeO (SWAP.l0 a80 l81 a82 k y0 y1 y2 y3 y4) (SWAP.l0 a80 l81 a82 (k + 1) y0 y1 y2 y3 y4))
 | 0 => fun _ _ _ _ _ r h => by simp [SWAP.l0] at h
 | k + 1 => by
  have ih0 := SWAP.mono_l a80 l81 a82 k
  ·intro y0 y1 y2 y3 y4
   unfold SWAP.l0
   repeat' first
   | (with_reducible exact ih0 _ _ _ _ _)
   | (with_reducible exact LeO.refl _)
   | (with_reducible exact LeO.none _)
   | (with_reducible refine LeO.ite ?_ ?_)
   | (with_reducible refine LeO.bind ?_ (fun _ => ?_))
   | exact ih0 _ _ _ _ _
   | exact LeO.none _
   | refine LeO.ite ?_ ?_
   | refine LeO.bind ?_ (fun _ => ?_)
theorem SWAP.mono : ∀ a0 a1 a2 a3 a4 a5 a6 k, LeO (SWAP.f k a0 a1 a2 a3 a4 a5 a6) (SWAP.f (k + 1) a0 a1 a2 a3 a4 a5 a6) := by
 intro a0 a1 a2 a3 a4 a5 a6 k
 have ih0 := SWAP.mono_l a4 a5 a6 k
 unfold SWAP.f
 repeat' first
   | (with_reducible exact ih0 _ _ _ _ _)
   | (with_reducible exact LeO.refl _)
   | (with_reducible exact LeO.none _)
   | (with_reducible refine LeO.ite ?_ ?_)
   | (with_reducible refine LeO.bind ?_ (fun _ => ?_))
   | exact ih0 _ _ _ _ _
   | exact LeO.none _
   | refine LeO.ite ?_ ?_
   | refine LeO.bind ?_ (fun _ => ?_)
def SWAP.T3 : Bool × List (List Nat × List Nat) := (true, [([], []), ([], []), ([], []), ([1, 2], [1, 2]), ([], []), ([], []), ([], []), ([5, 6], [5, 6]), ([], []), ([], []), ([], []), ([9, 10], [9, 10]), ([8, 11], [8, 11]), ([12], [12]), ([], []), ([], []), ([], []), ([15, 16], [15, 16]), ([14, 17], [14, 17]), ([18], [18]), ([0, 3, 0, 1, 2, 3, 8, 9, 10, 11, 12, 13, 19], [0, 3]), ([20, 13, 0, 1, 2, 3, 8, 9, 10, 11, 12, 13, 19], [13, 20]), ([4, 7, 0, 1, 2, 3, 4, 5, 6, 7, 8, 9, 10, 11, 12, 13, 14, 15, 16, 17, 18, 19, 20, 21], [4, 7]), ([22, 19, 21, 0, 1, 2, 3, 4, 5, 6, 7, 8, 9, 10, 11, 12, 13, 14, 15, 16, 17, 18, 19, 20, 21], [19, 22])])
def SWAP.B3 : List Nat := [0, 0, 0, 6, 0, 0, 0, 96, 0, 0, 0, 1536, 3840, 7936, 0, 0, 0, 98304, 245760, 507904, 1048335, 2096911, 4194303, 8388607]
theorem SWAP.tab3 : rtab .any (opsOf Try.f71 3) = SWAP.T3 := by kernel_rfl
theorem SWAP.bits3 : waitsOk SWAP.T3.2 SWAP.B3 = true := by kernel_rfl
set_option maxHeartbeats 8000000 in
set_option maxRecDepth 100000 in
theorem SWAP.calls (k : Nat) (P0_ : Nat → Prop) (u9000_ : Value) (l0 : List Int) (a1 : Int) (a2 : Int) (a3 : Int) (g80_ : Nat) (g81_ : Nat) (g82_ : Nat) (a80 : Int) (A81 : Option Addr) (c81 : Nat) (l81 : List Int) (a82 : Int) (r : List Int) (w0 w : World) (hB : Below w0.heap.size w0 w) (ho0 : Kd.R (Kd.int .i64) 3 w w0.heap.size P0_ u9000_ l0) (hr81 : ∀ W_, Kept w W_ (fun k_ => P0_ k_) → Kd.C (Kd.int .i64) W_ A81 l81.length l81) (hc81 : l81.length ≤ c81) (hq80_0 : ∀ W_, Kept w W_ (fun k_ => P0_ k_) → W_.cell? ⟨g80_, 0, none⟩ = some (.int .i64 a80)) (hq81_0 : ∀ W_, Kept w W_ (fun k_ => P0_ k_) → W_.cell? ⟨g81_, 0, none⟩ = some (.slice A81 l81.length c81)) (hq82_0 : ∀ W_, Kept w W_ (fun k_ => P0_ k_) → W_.cell? ⟨g82_, 0, none⟩ = some (.int .i64 a82)) (h : SWAP.f k l0 a1 a2 a3 a80 l81 a82 = some r) :
  Calls Try.prog 71 #[u9000_, .int .i64 a1, .int .i64 a2, .int .i64 a3, .func (.func 56) #[] #[.pointer (some ⟨g80_, 0, none⟩), .pointer (some ⟨g81_, 0, none⟩), .pointer (some ⟨g82_, 0, none⟩)]] w fun e w' => e = .returned (.tuple #[]) ∧ Kd.R (Kd.int .i64) 3 w' w0.heap.size (fun k_ => (P0_ k_ ∨ w.heap.size ≤ k_)) u9000_ r ∧ Below w0.heap.size w0 w' ∧ Kept w w' (fun k_ => P0_ k_) := by
 have HO0 := am_ (show Kd.R (Kd.int .i64) 3 w w0.heap.size (fun k_ => (P0_ k_ ∨ w.heap.size ≤ k_)) u9000_ l0 from Kd.R_mono ho0 (fun k_ hk => (.inl hk)))
 have HR81 := am_ hr81
 have HC81 := am_ hc81
 clear hr81 hc81
 have HK := am_ (Kept.refl w (fun k_ => P0_ k_))
 have HW0 := am_ hB.size
 have HB := am_ hB
 clear hB
 have H : (SWAP.l0 a80 l81 a82 k l0 a1 a2 a3 0) = some r := h
 clear h
 have H' := am_ H
 clear H
 go_enter Try.func71, Try.ntmps71
 go_wp2
 go_loopg [10] k (fun kq v10 w' => ∃ (x0_1 : List Int) (x10_1 : Int), v10 = .int .i64 x10_1 ∧ Aside0 (SWAP.l0 a80 l81 a82 kq x0_1 a1 a2 a3 x10_1 = some r) ∧ Aside0 (kq ≤ k) ∧ Aside0 (Kd.R (Kd.int .i64) 3 w' w0.heap.size (fun k_ => (P0_ k_ ∨ w.heap.size ≤ k_)) u9000_ x0_1) ∧ Aside0 (Kept w w' (fun k_ => P0_ k_)) ∧ Aside0 (Below w0.heap.size w0 w'))
 case atStart => exact ⟨(l0), (0), sq_, H', ⟨Nat.le_refl _⟩, ⟨ra_ HO0.out⟩, ⟨kk_ HK.out⟩, ⟨bw_ HB.out⟩⟩
 case round =>
  clear H'
  (try clear HO_0)
  obtain ⟨x0_1, x10_1, rfl, HA, HK1, HO_0, HK, HB⟩ := hrel
  cases gk with
  | zero => exact absurd HA.out (by simp [SWAP.l0])
  | succ k1 =>
   have H := HA.out
   clear HA
   simp only [SWAP.l0] at H
   by_cases c6 : x10_1 < a3
   ·rw [if_pos c6] at H
    have c6b0 : decide (x10_1 < a3) = true := decide_eq_true c6
    clear c6
    obtain ⟨ji7, hji7⟩ : ∃ j_ : Int, (wrap64 (a2 + x10_1)) = j_ := ⟨_, rfl⟩
    replace H : (if 0 ≤ (ji7) then (if (ji7) < (x0_1.length : Int) then (if 0 ≤ (wrap64 (a1 + x10_1)) then (if (wrap64 (a1 + x10_1)) < (x0_1.length : Int) then (SWAP.l0 a80 l81 a82 k1 ((x0_1.set ((wrap64 (a1 + x10_1)) : Int).toNat (rd x0_1 (ji7))).set ((ji7) : Int).toNat (rd x0_1 (wrap64 (a1 + x10_1)))) a1 a2 a3 (wrap64 (x10_1 + 1))) else (none)) else (none)) else (none)) else (none)) = some r := by first | (rw [hji7] at H; exact H) | (simp only [hji7] at H ⊢; exact H)
    have hji7w : (IntKind.i64.wrap (a2 + x10_1)) = ji7 := (i64_w _).trans hji7
    obtain ⟨c8, H⟩ := ifn_ H
    have c8b0 : decide (0 ≤ (ji7)) = true := decide_eq_true c8
    clear c8
    obtain ⟨c9, H⟩ := ifn_ H
    have c9b0 : decide ((ji7) < (x0_1.length : Int)) = true := decide_eq_true c9
    clear c9
    obtain ⟨ji10, hji10⟩ : ∃ j_ : Int, (wrap64 (a1 + x10_1)) = j_ := ⟨_, rfl⟩
    replace H : (if 0 ≤ (ji10) then (if (ji10) < (x0_1.length : Int) then (SWAP.l0 a80 l81 a82 k1 ((x0_1.set ((ji10) : Int).toNat (rd x0_1 (ji7))).set ((ji7) : Int).toNat (rd x0_1 (ji10))) a1 a2 a3 (wrap64 (x10_1 + 1))) else (none)) else (none)) = some r := by first | (rw [hji10] at H; exact H) | (simp only [hji10] at H ⊢; exact H)
    have hji10w : (IntKind.i64.wrap (a1 + x10_1)) = ji10 := (i64_w _).trans hji10
    obtain ⟨c11, H⟩ := ifn_ H
    have c11b0 : decide (0 ≤ (ji10)) = true := decide_eq_true c11
    clear c11
    obtain ⟨c12, H⟩ := ifn_ H
    have c12b0 : decide ((ji10) < (x0_1.length : Int)) = true := decide_eq_true c12
    clear c12
    obtain ⟨y225, hy225⟩ : ∃ y_ : List Int, y_ = (x0_1.set ((ji10) : Int).toNat (rd x0_1 (ji7))) := ⟨_, rfl⟩
    replace H : (SWAP.l0 a80 l81 a82 k1 (y225.set ((ji7) : Int).toNat (rd x0_1 (ji10))) a1 a2 a3 (wrap64 (x10_1 + 1))) = some r := by first | (rw [hy225]; with_reducible exact H) | (have H2_ := (Option.bind_some _ _).symm.trans H; rw [hy225]; with_reducible exact H2_) | (have H2_ := (Option.bind_some _ _).symm.trans H; with_reducible exact H2_) | with_reducible exact H | (rw [hy225]; exact H) | exact H
    have Ny225 := am_ hy225
    clear hy225
    obtain ⟨y226, hy226⟩ : ∃ y_ : List Int, y_ = (y225.set ((ji7) : Int).toNat (rd x0_1 (ji10))) := ⟨_, rfl⟩
    replace H : (SWAP.l0 a80 l81 a82 k1 y226 a1 a2 a3 (wrap64 (x10_1 + 1))) = some r := by first | (rw [hy226]; with_reducible exact H) | (have H2_ := (Option.bind_some _ _).symm.trans H; rw [hy226]; with_reducible exact H2_) | (have H2_ := (Option.bind_some _ _).symm.trans H; with_reducible exact H2_) | with_reducible exact H | (rw [hy226]; exact H) | exact H
    have Ny226 := am_ hy226
    clear hy226
    have H' := am_ H
    clear H
    try go_wp2
    have n0_ := am_ (Kd.R_drew HO_0.out)
    have n1_ := am_ (Kept.drew HK.out)
    have n2_ := am_ (below_drew1 HB.out)
    replace HO_0 := n0_
    replace HK := n1_
    replace HB := n2_
    clear n0_ n1_ n2_
    obtain ⟨Ao16, co16, eo16⟩ := Kd.R_slice HO_0.out
    (first | subst eo16 | (injection eo16 with f1_ f2_ f3_; have f4_ := f1_.symm; have f5_ := f3_.symm; clear f1_ f2_ f3_; subst f4_; subst f5_))
    have p223 : 0 ≤ ((ji7) : Int) := od_
    have q223 : (ji7) < (x0_1.length : Int) := od_
    obtain ⟨ad223, e223, hx223_0⟩ := Kd.at_int (Kd.R_reads' HO_0.out).2.2 (ji7) p223 q223
    cases e223
    replace p223 := eq_true p223
    replace q223 := eq_true q223
    have p224 : 0 ≤ ((ji10) : Int) := od_
    have q224 : (ji10) < (x0_1.length : Int) := od_
    obtain ⟨ad224, e224, hx224_0⟩ := Kd.at_int (Kd.R_reads' HO_0.out).2.2 (ji10) p224 q224
    obtain rfl : ad223 = ad224 := (by injection e224)
    replace p224 := eq_true p224
    replace q224 := eq_true q224
    have p13 : 0 ≤ ((ji10) : Int) := od_
    have q13 : ((ji10) : Int) < ((x0_1.length : Int) : Int) := od_
    obtain ⟨go13, co13, eo13, gb13, gl13, cl13, HG13⟩ := Kd.R_form HO_0.out (by omega)
    (first | cases eo13 | (injection eo13 with ea_ en_ ec_; (first | subst ea_ | (injection ea_ with ea_; subst ea_)); subst ec_; clear en_))
    have GB13 := am_ gb13
    have GG13 := am_ HG13
    clear gb13 gl13 HG13
    have HMgo13 := am_ (show (P0_ go13 ∨ w.heap.size ≤ go13) from (HO_0.out.1 _ rfl))
    (first | simp only [add_plain] at hx223_0 | skip)
    (first | simp only [add_plain] at hx224_0 | skip)
    obtain ⟨hx13_0, hf13_0⟩ := Kd.R_celln 0 HO_0.out ((ji10) : Int) p13 q13
    replace p13 := eq_true p13
    replace q13 := eq_true q13
    have HP17 := Kd.R_putn HO_0.out ((ji10) : Int) (rd x0_1 (ji7))
    rw [← Ny225.out] at HP17
    have HQ17 := am_ HP17
    clear HP17
    have p14 : 0 ≤ ((ji7) : Int) := od_
    have q14 : ((ji7) : Int) < ((x0_1.length : Int) : Int) := od_
    obtain ⟨hx14_0, hf14_0⟩ := Kd.R_celln 0 HQ17.out ((ji7) : Int) p14 q14
    replace p14 := eq_true p14
    replace q14 := eq_true q14
    have HP18 := Kd.R_putn HQ17.out ((ji7) : Int) (rd x0_1 (ji10))
    rw [← Ny226.out] at HP18
    have HQ18 := am_ HP18
    clear HP18
    refine start_ (n := 24) (S := fun w' => w'.cell? ⟨go13, ((ji7)).toNat, none⟩ = some (.int .i64 (rd x0_1 (ji7))) ∧ w'.cell? ⟨go13, ((ji10)).toNat, none⟩ = some (.int .i64 (rd x0_1 (ji10)))) (ds := [21, 23]) (Array.replicate 24 false) (by kernel_rfl) rfl rfl ⟨hx223_0, hx224_0⟩ (fun hHeld => ?_); refine with_tabW SWAP.tab3 SWAP.bits3 (fun HT_ HW_ => ?_)
    generalize wr.drew = w15 at HO_0 HK HB GG13 HQ17 HQ18 hf13_0 hf14_0 hx13_0 hx14_0 hx223_0 hx224_0 hHeld ⊢
    refine pS_ 0 16 HT_ ?_
    refine pS_ 1 17 HT_ ?_
    refine pS_ 2 18 HT_ ?_
    refine pS_ 3 19 HT_ ?_
    refine pS_ 4 20 HT_ ?_
    refine pS_ 5 21 HT_ ?_
    refine pS_ 6 22 HT_ ?_
    refine pS_ 7 23 HT_ ?_
    refine pS_ 8 24 HT_ ?_
    refine pS_ 9 25 HT_ ?_
    refine pS_ 10 26 HT_ ?_
    refine pS_ 11 27 HT_ ?_
    refine pS_ 12 28 HT_ ?_
    refine pS_ 14 30 HT_ ?_
    refine pS_ 15 31 HT_ ?_
    refine pS_ 16 32 HT_ ?_
    refine pS_ 17 33 HT_ ?_
    refine pS_ 18 34 HT_ ?_
    refine tS_ 13 29 HT_ HW_ hHeld ?_
    refine tS_ 19 35 HT_ HW_ hHeld ?_
    refine pS_ 20 36 HT_ ?_
    refine last_ (i := 21) (N := none) #[true, true, true, true, true, true, true, true, true, true, true, true, true, true, true, true, true, true, true, true, true, true, false, false] rfl rfl (one_of HT_.out (by kernel_rfl)) (by decide) (fun K hK => ?_)
    refine skip_ (w1 := ?_) (by rfl) rfl ?_ ?_
    rotate_left
    ·go_simp
     rfl
    refine hK.out _ _ ?_
    clear hK K
    refine pS_ 22 37 HT_ ?_
    refine last_ (i := 23) (N := none) #[true, true, true, true, true, true, true, true, true, true, true, true, true, true, true, true, true, true, true, true, true, true, true, true] rfl rfl (one_of HT_.out (by kernel_rfl)) (by decide) (fun K hK => ?_)
    refine skip_ (w1 := ?_) (by rfl) rfl ?_ ?_
    rotate_left
    ·go_simp
     rfl
    refine hK.out _ _ ?_
    clear hK K
    refine done_ (done_of HT_.out (by kernel_rfl)) ?_
    try go_wp2
    (try simp only [show (⟨go13, ((ji10) : Int).toNat, none⟩ : Addr) = Addr.add ⟨go13, 0, none⟩ ((ji10) : Int).toNat from by simp [Addr.add]])
    (try simp only [show (⟨go13, ((ji7) : Int).toNat, none⟩ : Addr) = Addr.add ⟨go13, 0, none⟩ ((ji7) : Int).toNat from by simp [Addr.add]])
    go_roundg k1
    case measure => have := HK1.out; omega
    case rel => first | exact ⟨(y226), (wrap64 (x10_1 + 1)), sq_, H', ⟨by have := HK1.out; omega⟩, ⟨ra_ HQ18.out⟩, ⟨by repeat (first | (with_reducible first | exact HK.out | apply Kept.alloc | apply Kept.drewN | apply Kept.drew | refine Kept.setCell ?_ HMgo13.out _ | refine Kept.setCell ?_ HMgo13.out _) | exact HK.out)⟩, ⟨bw_ HB.out⟩⟩ | (simp only [(show (⟨go13, ((ji7) : Int).toNat, none⟩ : Addr) = Addr.add ⟨go13, 0, none⟩ ((ji7) : Int).toNat from by simp [Addr.add]).symm, (show (⟨go13, ((ji10) : Int).toNat, none⟩ : Addr) = Addr.add ⟨go13, 0, none⟩ ((ji10) : Int).toNat from by simp [Addr.add]).symm]; exact ⟨(y226), (wrap64 (x10_1 + 1)), sq_, H', ⟨by have := HK1.out; omega⟩, ⟨ra_ HQ18.out⟩, ⟨by repeat (first | (with_reducible first | exact HK.out | apply Kept.alloc | apply Kept.drewN | apply Kept.drew | refine Kept.setCell ?_ HMgo13.out _ | refine Kept.setCell ?_ HMgo13.out _) | exact HK.out)⟩, ⟨bw_ HB.out⟩⟩)
   ·rw [if_neg c6] at H
    have c6b0 : decide (x10_1 < a3) = false := decide_eq_false c6
    clear c6
    obtain rfl := Option.some.inj H
    go_wp2
    first | go_end0 | ((try simp only [Exit.inBlock, Exit.then]); refine bodyPost_ret (results_none rfl _ _ _) rfl ?_)
    exact ⟨by first | rfl | (simp [errW_none, errW_some] <;> rfl) | (simp [*, errW_none, errW_some] <;> rfl), ra_ HO_0.out, bw_ HB.out, kk_ HK.out⟩

/-! ### ROT: function 70 -/
def ROT.l0 (a80 : Int) (l81 : List Int) (a82 : Int) : Nat → List Int → Int → Int → Int → Option (List Int)
 | 0, _, _, _, _ => none
 | k + 1, x0, x2, x10, x11 => if x10 = x11 then ((SWAP.f k x0 (wrap64 (x2 - x10)) x2 x10 a80 l81 a82).bind fun t227 => (some t227)) else (if x10 > x11 then ((SWAP.f k x0 (wrap64 (x2 - x10)) x2 x11 a80 l81 a82).bind fun t228 => (ROT.l0 a80 l81 a82 k t228 x2 (wrap64 (x10 - x11)) x11)) else ((SWAP.f k x0 (wrap64 (x2 - x10)) (wrap64 ((wrap64 (x2 + x11)) - x10)) x10 a80 l81 a82).bind fun t229 => (ROT.l0 a80 l81 a82 k t229 x2 x10 (wrap64 (x11 - x10)))))
def ROT.f (k : Nat) (l0 : List Int) (a1 : Int) (a2 : Int) (a3 : Int) (a80 : Int) (l81 : List Int) (a82 : Int) : Option (List Int) := ROT.l0 a80 l81 a82 k l0 a2 (wrap64 (a2 - a1)) (wrap64 (a3 - a2))
theorem ROT.mono_l (a80 : Int) (l81 : List Int) (a82 : Int) : ∀ k, (∀ y0 y1 y2 y3, LeO (ROT.l0 a80 l81 a82 k y0 y1 y2 y3) (ROT.l0 a80 l81 a82 (k + 1) y0 y1 y2 y3))
 | 0 => fun _ _ _ _ r h => by simp [ROT.l0] at h
 | k + 1 => by
  have ih0 := ROT.mono_l a80 l81 a82 k
  ·intro y0 y1 y2 y3
   unfold ROT.l0
   repeat' first
   | (with_reducible exact ih0 _ _ _ _)
   | (with_reducible exact SWAP.mono _ _ _ _ _ _ _ _)
   | (with_reducible exact LeO.refl _)
   | (with_reducible exact LeO.none _)
   | (with_reducible refine LeO.ite ?_ ?_)
   | (with_reducible refine LeO.bind ?_ (fun _ => ?_))
   | exact ih0 _ _ _ _
   | exact SWAP.mono _ _ _ _ _ _ _ _
   | exact LeO.none _
   | refine LeO.ite ?_ ?_
   | refine LeO.bind ?_ (fun _ => ?_)
theorem ROT.mono : ∀ a0 a1 a2 a3 a4 a5 a6 k, LeO (ROT.f k a0 a1 a2 a3 a4 a5 a6) (ROT.f (k + 1) a0 a1 a2 a3 a4 a5 a6) := by
 intro a0 a1 a2 a3 a4 a5 a6 k
 have ih0 := ROT.mono_l a4 a5 a6 k
 unfold ROT.f
 repeat' first
   | (with_reducible exact ih0 _ _ _ _)
   | (with_reducible exact SWAP.mono _ _ _ _ _ _ _ _)
   | (with_reducible exact LeO.refl _)
   | (with_reducible exact LeO.none _)
   | (with_reducible refine LeO.ite ?_ ?_)
   | (with_reducible refine LeO.bind ?_ (fun _ => ?_))
   | exact ih0 _ _ _ _
   | exact SWAP.mono _ _ _ _ _ _ _ _
   | exact LeO.none _
   | refine LeO.ite ?_ ?_
   | refine LeO.bind ?_ (fun _ => ?_)
set_option maxHeartbeats 8000000 in
set_option maxRecDepth 100000 in
theorem ROT.calls (k : Nat) (P0_ : Nat → Prop) (u9000_ : Value) (l0 : List Int) (a1 : Int) (a2 : Int) (a3 : Int) (g80_ : Nat) (g81_ : Nat) (g82_ : Nat) (a80 : Int) (A81 : Option Addr) (c81 : Nat) (l81 : List Int) (a82 : Int) (r : List Int) (w0 w : World) (hB : Below w0.heap.size w0 w) (ho0 : Kd.R (Kd.int .i64) 3 w w0.heap.size P0_ u9000_ l0) (hr81 : ∀ W_, Kept w W_ (fun k_ => P0_ k_) → Kd.C (Kd.int .i64) W_ A81 l81.length l81) (hc81 : l81.length ≤ c81) (hq80_0 : ∀ W_, Kept w W_ (fun k_ => P0_ k_) → W_.cell? ⟨g80_, 0, none⟩ = some (.int .i64 a80)) (hq81_0 : ∀ W_, Kept w W_ (fun k_ => P0_ k_) → W_.cell? ⟨g81_, 0, none⟩ = some (.slice A81 l81.length c81)) (hq82_0 : ∀ W_, Kept w W_ (fun k_ => P0_ k_) → W_.cell? ⟨g82_, 0, none⟩ = some (.int .i64 a82)) (h : ROT.f k l0 a1 a2 a3 a80 l81 a82 = some r) :
  Calls Try.prog 70 #[u9000_, .int .i64 a1, .int .i64 a2, .int .i64 a3, .func (.func 56) #[] #[.pointer (some ⟨g80_, 0, none⟩), .pointer (some ⟨g81_, 0, none⟩), .pointer (some ⟨g82_, 0, none⟩)]] w fun e w' => e = .returned (.tuple #[]) ∧ Kd.R (Kd.int .i64) 3 w' w0.heap.size (fun k_ => (P0_ k_ ∨ w.heap.size ≤ k_)) u9000_ r ∧ Below w0.heap.size w0 w' ∧ Kept w w' (fun k_ => P0_ k_) := by
 have HO0 := am_ (show Kd.R (Kd.int .i64) 3 w w0.heap.size (fun k_ => (P0_ k_ ∨ w.heap.size ≤ k_)) u9000_ l0 from Kd.R_mono ho0 (fun k_ hk => (.inl hk)))
 have HR81 := am_ hr81
 have HC81 := am_ hc81
 clear hr81 hc81
 have HK := am_ (Kept.refl w (fun k_ => P0_ k_))
 have HW0 := am_ hB.size
 have HB := am_ hB
 clear hB
 have H : (ROT.l0 a80 l81 a82 k l0 a2 (wrap64 (a2 - a1)) (wrap64 (a3 - a2))) = some r := h
 clear h
 have H' := am_ H
 clear H
 go_enter Try.func70, Try.ntmps70
 go_wp2
 go_loopg [10, 11] k (fun kq v10 v11 w' => ∃ (x0_1 : List Int) (x10_1 : Int) (x11_1 : Int), v10 = .int .i64 x10_1 ∧ v11 = .int .i64 x11_1 ∧ Aside0 (ROT.l0 a80 l81 a82 kq x0_1 a2 x10_1 x11_1 = some r) ∧ Aside0 (kq ≤ k) ∧ Aside0 (Kd.R (Kd.int .i64) 3 w' w0.heap.size (fun k_ => (P0_ k_ ∨ w.heap.size ≤ k_)) u9000_ x0_1) ∧ Aside0 (Kept w w' (fun k_ => P0_ k_)) ∧ Aside0 (Below w0.heap.size w0 w'))
 case atStart => exact ⟨(l0), (wrap64 (a2 - a1)), (wrap64 (a3 - a2)), sq_, sq_, H', ⟨Nat.le_refl _⟩, ⟨ra_ HO0.out⟩, ⟨kk_ HK.out⟩, ⟨bw_ HB.out⟩⟩
 case round =>
  clear H'
  (try clear HO_0)
  obtain ⟨x0_1, x10_1, x11_1, rfl, rfl, HA, HK1, HO_0, HK, HB⟩ := hrel
  cases gk with
  | zero => exact absurd HA.out (by simp [ROT.l0])
  | succ k1 =>
   have H := HA.out
   clear HA
   simp only [ROT.l0] at H
   by_cases c6 : x10_1 = x11_1
   ·rw [if_pos c6] at H
    have c6b0 : (x10_1 == x11_1) = true := beq_iff_eq.mpr c6
    have c6b1 : (x10_1 != x11_1) = false := bne_eq_false_iff_eq.mpr c6
    clear c6
    obtain ⟨t227, A70, H⟩ := bE_ H
    have A7 := am_ A70
    clear A70
    obtain rfl := Option.some.inj H
    obtain ⟨Ao8, co8, eo8⟩ := Kd.R_slice HO_0.out
    subst eo8
    go_wp2_with (first | ((with_reducible refine gate_callee (f := 71) rfl ?_); refine goesL_ (some 57) rfl rfl Try.func71 (by kernel_rfl) rfl #[.slice Ao8 x0_1.length co8, .int .i64 (wrap64 (a2 - x10_1)), .int .i64 a2, .int .i64 x10_1, .func (.func 56) #[] #[.pointer (some ⟨g80_, 0, none⟩), .pointer (some ⟨g81_, 0, none⟩), .pointer (some ⟨g82_, 0, none⟩)]] rfl (by (try simp only [List.map_toArray, List.map_cons, List.map_nil]); first | done | rfl | (simp only [List.length_drop, List.length_take]; rfl)) ?_; (with_reducible refine (SWAP.calls k1 (fun k_ => some k_ = (.slice Ao8 x0_1.length co8 : Value).ownBlock) (.slice Ao8 x0_1.length co8) x0_1 (wrap64 (a2 - x10_1)) a2 x10_1 g80_ g81_ g82_ a80 A81 c81 l81 a82 t227 w0 _ ?side1 ?side2 ?side3 ?side4 ?side5 ?side6 ?side7 A7.out).mono ?_); (case side1 => repeat (first | (with_reducible first | exact HB.out | apply below_alloc | apply pw_below_drewN | apply below_drew1) | exact HB.out)); (case side2 => exact Kd.R_tight rfl HO_0.out); (case side3 => exact Kd.C_kept_call HR81.out (kk_ HK.out) (fun k_ hs_ => (fun e_ => (HO_0.out.1 k_ e_.symm)) hs_)); (case side4 => exact HC81.out); (case side5 => exact fun W_ hk_ => hq80_0 W_ (Kept.then_ (S := (fun k_ => P0_ k_)) (kk_ HK.out) hk_ (fun k_ hs_ => (fun e_ => (HO_0.out.1 k_ e_.symm)) hs_))); (case side6 => exact fun W_ hk_ => hq81_0 W_ (Kept.then_ (S := (fun k_ => P0_ k_)) (kk_ HK.out) hk_ (fun k_ hs_ => (fun e_ => (HO_0.out.1 k_ e_.symm)) hs_))); (case side7 => exact fun W_ hk_ => hq82_0 W_ (Kept.then_ (S := (fun k_ => P0_ k_)) (kk_ HK.out) hk_ (fun k_ hs_ => (fun e_ => (HO_0.out.1 k_ e_.symm)) hs_))); rintro e w9 ⟨rfl, hy0, hb, hkp⟩; refine ⟨_, rfl, ?_⟩; have n0_ := am_ (Kd.R_reok rfl hy0 (fun k_ e_ => HO_0.out.1 k_ e_)); have n1_ := am_ (Kept.then_ (S := (fun k_ => P0_ k_)) (kk_ HK.out) hkp (fun k_ hs_ => (fun e_ => (HO_0.out.1 k_ e_.symm)) hs_)); have n2_ := am_ (hb); replace HO_0 := n0_; replace HK := n1_; replace HB := n2_; clear n0_ n1_ n2_; (try clear hb); (try clear hkp); (try clear hy0)))
    first | go_end0 | ((try simp only [Exit.inBlock, Exit.then]); refine bodyPost_ret (results_none rfl _ _ _) rfl ?_)
    exact ⟨by first | rfl | (simp [errW_none, errW_some] <;> rfl) | (simp [*, errW_none, errW_some] <;> rfl), ra_ HO_0.out, bw_ HB.out, kk_ HK.out⟩
   ·rw [if_neg c6] at H
    have c6b0 : (x10_1 == x11_1) = false := beq_eq_false_iff_ne.mpr c6
    have c6b1 : (x10_1 != x11_1) = true := bne_iff_ne.mpr c6
    by_cases c10 : x10_1 > x11_1
    ·rw [if_pos c10] at H
     have c10b0 : decide (x11_1 < x10_1) = true := decide_eq_true c10
     clear c10
     obtain ⟨t228, A110, H⟩ := bE_ H
     have A11 := am_ A110
     clear A110
     have H' := am_ H
     clear H
     obtain ⟨Ao12, co12, eo12⟩ := Kd.R_slice HO_0.out
     subst eo12
     go_wp2_with (first | ((with_reducible refine gate_callee (f := 71) rfl ?_); refine goesL_ (some 31) rfl rfl Try.func71 (by kernel_rfl) rfl #[.slice Ao12 x0_1.length co12, .int .i64 (wrap64 (a2 - x10_1)), .int .i64 a2, .int .i64 x11_1, .func (.func 56) #[] #[.pointer (some ⟨g80_, 0, none⟩), .pointer (some ⟨g81_, 0, none⟩), .pointer (some ⟨g82_, 0, none⟩)]] rfl (by (try simp only [List.map_toArray, List.map_cons, List.map_nil]); first | done | rfl | (simp only [List.length_drop, List.length_take]; rfl)) ?_; (with_reducible refine (SWAP.calls k1 (fun k_ => some k_ = (.slice Ao12 x0_1.length co12 : Value).ownBlock) (.slice Ao12 x0_1.length co12) x0_1 (wrap64 (a2 - x10_1)) a2 x11_1 g80_ g81_ g82_ a80 A81 c81 l81 a82 t228 w0 _ ?side1 ?side2 ?side3 ?side4 ?side5 ?side6 ?side7 A11.out).mono ?_); (case side1 => repeat (first | (with_reducible first | exact HB.out | apply below_alloc | apply pw_below_drewN | apply below_drew1) | exact HB.out)); (case side2 => exact Kd.R_tight rfl HO_0.out); (case side3 => exact Kd.C_kept_call HR81.out (kk_ HK.out) (fun k_ hs_ => (fun e_ => (HO_0.out.1 k_ e_.symm)) hs_)); (case side4 => exact HC81.out); (case side5 => exact fun W_ hk_ => hq80_0 W_ (Kept.then_ (S := (fun k_ => P0_ k_)) (kk_ HK.out) hk_ (fun k_ hs_ => (fun e_ => (HO_0.out.1 k_ e_.symm)) hs_))); (case side6 => exact fun W_ hk_ => hq81_0 W_ (Kept.then_ (S := (fun k_ => P0_ k_)) (kk_ HK.out) hk_ (fun k_ hs_ => (fun e_ => (HO_0.out.1 k_ e_.symm)) hs_))); (case side7 => exact fun W_ hk_ => hq82_0 W_ (Kept.then_ (S := (fun k_ => P0_ k_)) (kk_ HK.out) hk_ (fun k_ hs_ => (fun e_ => (HO_0.out.1 k_ e_.symm)) hs_))); rintro e w13 ⟨rfl, hy0, hb, hkp⟩; refine ⟨_, rfl, ?_⟩; have n0_ := am_ (Kd.R_reok rfl hy0 (fun k_ e_ => HO_0.out.1 k_ e_)); have n1_ := am_ (Kept.then_ (S := (fun k_ => P0_ k_)) (kk_ HK.out) hkp (fun k_ hs_ => (fun e_ => (HO_0.out.1 k_ e_.symm)) hs_)); have n2_ := am_ (hb); replace HO_0 := n0_; replace HK := n1_; replace HB := n2_; clear n0_ n1_ n2_; (try clear hb); (try clear hkp); (try clear hy0)))
     go_roundg k1
     case measure => have := HK1.out; omega
     case rel => exact ⟨(t228), (wrap64 (x10_1 - x11_1)), (x11_1), sq_, sq_, H', ⟨by have := HK1.out; omega⟩, ⟨ra_ HO_0.out⟩, ⟨kk_ HK.out⟩, ⟨bw_ HB.out⟩⟩
    ·rw [if_neg c10] at H
     have c10b0 : decide (x11_1 < x10_1) = false := decide_eq_false c10
     clear c10
     obtain ⟨t229, A140, H⟩ := bE_ H
     have A14 := am_ A140
     clear A140
     have H' := am_ H
     clear H
     obtain ⟨Ao15, co15, eo15⟩ := Kd.R_slice HO_0.out
     subst eo15
     go_wp2_with (first | ((with_reducible refine gate_callee (f := 71) rfl ?_); refine goesL_ (some 46) rfl rfl Try.func71 (by kernel_rfl) rfl #[.slice Ao15 x0_1.length co15, .int .i64 (wrap64 (a2 - x10_1)), .int .i64 (wrap64 ((wrap64 (a2 + x11_1)) - x10_1)), .int .i64 x10_1, .func (.func 56) #[] #[.pointer (some ⟨g80_, 0, none⟩), .pointer (some ⟨g81_, 0, none⟩), .pointer (some ⟨g82_, 0, none⟩)]] rfl (by (try simp only [List.map_toArray, List.map_cons, List.map_nil]); first | done | rfl | (simp only [List.length_drop, List.length_take]; rfl)) ?_; (with_reducible refine (SWAP.calls k1 (fun k_ => some k_ = (.slice Ao15 x0_1.length co15 : Value).ownBlock) (.slice Ao15 x0_1.length co15) x0_1 (wrap64 (a2 - x10_1)) (wrap64 ((wrap64 (a2 + x11_1)) - x10_1)) x10_1 g80_ g81_ g82_ a80 A81 c81 l81 a82 t229 w0 _ ?side1 ?side2 ?side3 ?side4 ?side5 ?side6 ?side7 A14.out).mono ?_); (case side1 => repeat (first | (with_reducible first | exact HB.out | apply below_alloc | apply pw_below_drewN | apply below_drew1) | exact HB.out)); (case side2 => exact Kd.R_tight rfl HO_0.out); (case side3 => exact Kd.C_kept_call HR81.out (kk_ HK.out) (fun k_ hs_ => (fun e_ => (HO_0.out.1 k_ e_.symm)) hs_)); (case side4 => exact HC81.out); (case side5 => exact fun W_ hk_ => hq80_0 W_ (Kept.then_ (S := (fun k_ => P0_ k_)) (kk_ HK.out) hk_ (fun k_ hs_ => (fun e_ => (HO_0.out.1 k_ e_.symm)) hs_))); (case side6 => exact fun W_ hk_ => hq81_0 W_ (Kept.then_ (S := (fun k_ => P0_ k_)) (kk_ HK.out) hk_ (fun k_ hs_ => (fun e_ => (HO_0.out.1 k_ e_.symm)) hs_))); (case side7 => exact fun W_ hk_ => hq82_0 W_ (Kept.then_ (S := (fun k_ => P0_ k_)) (kk_ HK.out) hk_ (fun k_ hs_ => (fun e_ => (HO_0.out.1 k_ e_.symm)) hs_))); rintro e w16 ⟨rfl, hy0, hb, hkp⟩; refine ⟨_, rfl, ?_⟩; have n0_ := am_ (Kd.R_reok rfl hy0 (fun k_ e_ => HO_0.out.1 k_ e_)); have n1_ := am_ (Kept.then_ (S := (fun k_ => P0_ k_)) (kk_ HK.out) hkp (fun k_ hs_ => (fun e_ => (HO_0.out.1 k_ e_.symm)) hs_)); have n2_ := am_ (hb); replace HO_0 := n0_; replace HK := n1_; replace HB := n2_; clear n0_ n1_ n2_; (try clear hb); (try clear hkp); (try clear hy0)))
     go_roundg k1
     case measure => have := HK1.out; omega
     case rel => exact ⟨(t229), (x10_1), (wrap64 (x11_1 - x10_1)), sq_, sq_, H', ⟨by have := HK1.out; omega⟩, ⟨ra_ HO_0.out⟩, ⟨kk_ HK.out⟩, ⟨bw_ HB.out⟩⟩

end Go.Proofs.Ytgfppioaggeleaa.XFnExactLayOut
