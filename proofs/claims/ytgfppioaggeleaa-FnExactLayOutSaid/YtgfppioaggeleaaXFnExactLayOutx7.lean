/- What the Go functions that this law comes to compute, each walked; written by a program of this session. -/
import Derived.Test.YtgfppioaggeleaaXShort
import Derived.Test.YtgfppioaggeleaaXMark
import Derived.Test.YtgfppioaggeleaaXFnExactLayOutx0
import Derived.Test.YtgfppioaggeleaaXFnExactLayOutx6
namespace Go.Proofs.Ytgfppioaggeleaa.XFnExactLayOut
open Go.RowKit Go.Proofs.YtgfppioaggeleaaW.PrintWords Go.Proofs.YtgfppioaggeleaaW.PrintLast Go.Proofs.YtgfppioaggeleaaW.PrintMore
attribute [local go_sem] str_geq max2_int min2_int max_two min_two max_three min_three max_four min_four   -- for this text's walks alone
set_option linter.unusedVariables false
set_option linter.unusedSimpArgs false

/-! ### INS: function 68 -/
mutual
def INS.l0 (a75 : Int) (l76 : List Int) (a77 : Int) : Nat → List Int → Int → Int → Int → Option (List Int)
 | 0, _, _, _, _ => none
 | k + 1, x0, x1, x2, x8 => if x8 < x2 then (INS.l1 a75 l76 a77 k x0 x1 x2 x8 x8) else (some x0)
def INS.l1 (a75 : Int) (l76 : List Int) (a77 : Int) : Nat → List Int → Int → Int → Int → Int → Option (List Int)
 | 0, _, _, _, _, _ => none
 | k + 1, x0, x1, x2, x8, x9 => if x9 > x1 then (if 0 ≤ x9 then (if x9 < (x0.length : Int) then (if 0 ≤ (wrap64 (x9 - 1)) then (if (wrap64 (x9 - 1)) < (x0.length : Int) then ((impl_share_1_captured.f (rd x0 x9) (rd x0 (wrap64 (x9 - 1))) a75 l76 a77).bind fun t218 => (if t218 < 0 then (INS.l1 a75 l76 a77 k ((x0.set (x9 : Int).toNat (rd x0 (wrap64 (x9 - 1)))).set ((wrap64 (x9 - 1)) : Int).toNat (rd x0 x9)) x1 x2 x8 (wrap64 (x9 - 1))) else (INS.l0 a75 l76 a77 k x0 x1 x2 (wrap64 (x8 + 1))))) else (none)) else (none)) else (none)) else (none)) else (INS.l0 a75 l76 a77 k x0 x1 x2 (wrap64 (x8 + 1)))
end
def INS.f (k : Nat) (l0 : List Int) (a1 : Int) (a2 : Int) (a75 : Int) (l76 : List Int) (a77 : Int) : Option (List Int) := INS.l0 a75 l76 a77 k l0 a1 a2 (wrap64 (a1 + 1))
theorem INS.mono_l (a75 : Int) (l76 : List Int) (a77 : Int) : ∀ k, (∀ y0 y1 y2 y3, LeO (INS.l0 a75 l76 a77 k y0 y1 y2 y3) (INS.l0 a75 l76 a77 (k + 1) y0 y1 y2 y3)) ∧ (∀ y0 y1 y2 y3 y4, LeO (INS.l1 a75 l76 a77 k y0 y1 y2 y3 y4) (INS.l1 a75 l76 a77 (k + 1) y0 y1 y2 y3 y4))
 | 0 => ⟨fun _ _ _ _ r h => by simp [INS.l0] at h, fun _ _ _ _ _ r h => by simp [INS.l1] at h⟩
 | k + 1 => by
  obtain ⟨ih0, ih1⟩ := INS.mono_l a75 l76 a77 k
  refine ⟨?_, ?_⟩
  ·intro y0 y1 y2 y3
   unfold INS.l0
   repeat' first
   | (with_reducible exact ih0 _ _ _ _)
   | (with_reducible exact ih1 _ _ _ _ _)
   | (with_reducible exact LeO.refl _)
   | (with_reducible exact LeO.none _)
   | (with_reducible refine LeO.ite ?_ ?_)
   | (with_reducible refine LeO.bind ?_ (fun _ => ?_))
   | exact ih0 _ _ _ _
   | exact ih1 _ _ _ _ _
   | exact LeO.none _
   | refine LeO.ite ?_ ?_
   | refine LeO.bind ?_ (fun _ => ?_)
  ·intro y0 y1 y2 y3 y4
   unfold INS.l1
   repeat' first
   | (with_reducible exact ih0 _ _ _ _)
   | (with_reducible exact ih1 _ _ _ _ _)
   | (with_reducible exact LeO.refl _)
   | (with_reducible exact LeO.none _)
   | (with_reducible refine LeO.ite ?_ ?_)
   | (with_reducible refine LeO.bind ?_ (fun _ => ?_))
   | exact ih0 _ _ _ _
   | exact ih1 _ _ _ _ _
   | exact LeO.none _
   | refine LeO.ite ?_ ?_
   | refine LeO.bind ?_ (fun _ => ?_)
theorem INS.mono : ∀ a0 a1 a2 a3 a4 a5 k, LeO (INS.f k a0 a1 a2 a3 a4 a5) (INS.f (k + 1) a0 a1 a2 a3 a4 a5) := by
 intro a0 a1 a2 a3 a4 a5 k
 obtain ⟨ih0, ih1⟩ := INS.mono_l a3 a4 a5 k
 unfold INS.f
 repeat' first
   | (with_reducible exact ih0 _ _ _ _)
   | (with_reducible exact ih1 _ _ _ _ _)
   | (with_reducible exact LeO.refl _)
   | (with_reducible exact LeO.none _)
   | (with_reducible refine LeO.ite ?_ ?_)
   | (with_reducible refine LeO.bind ?_ (fun _ => ?_))
   | exact ih0 _ _ _ _
   | exact ih1 _ _ _ _ _
   | exact LeO.none _
   | refine LeO.ite ?_ ?_
   | refine LeO.bind ?_ (fun _ => ?_)
def INS.T4 : Bool × List (List Nat × List Nat) := (true, [([], []), ([], []), ([0, 1], [0, 1]), ([2], [2]), ([3], [3]), ([3], [3]), ([3], [3]), ([5, 6, 3], [3, 5, 6]), ([7, 3], [3, 7]), ([3], [3]), ([3], [3]), ([10, 3], [3, 10]), ([9, 11, 3], [3, 9, 11]), ([12, 3], [3, 12]), ([4, 8, 13, 3, 3], [3, 4, 8, 13]), ([14, 3], [3, 14]), ([3, 15], [3, 15])])
def INS.B4 : List Nat := [0, 0, 3, 7, 15, 15, 15, 111, 239, 15, 15, 1039, 3599, 7695, 16383, 32767, 65535]
theorem INS.tab4 : rtab .any (opsOf Try.f68 4) = INS.T4 := by kernel_rfl
theorem INS.bits4 : waitsOk INS.T4.2 INS.B4 = true := by kernel_rfl
def INS.T6 : Bool × List (List Nat × List Nat) := (true, [([], []), ([], []), ([], []), ([], []), ([3], [3]), ([], []), ([], []), ([6], [6]), ([5, 7], [5, 7]), ([8], [8]), ([], []), ([], []), ([10, 11], [10, 11]), ([12], [12]), ([0, 1, 0, 1, 5, 6, 7, 8, 9, 13], [0, 1]), ([14, 9, 0, 1, 5, 6, 7, 8, 9, 13], [9, 14]), ([2, 4, 0, 1, 2, 3, 4, 5, 6, 7, 8, 9, 10, 11, 12, 13, 14, 15], [2, 4]), ([16, 13, 15, 0, 1, 2, 3, 4, 5, 6, 7, 8, 9, 10, 11, 12, 13, 14, 15], [13, 16])])
def INS.B6 : List Nat := [0, 0, 0, 0, 8, 0, 0, 64, 224, 480, 0, 0, 3072, 7168, 16355, 32739, 65535, 131071]
theorem INS.tab6 : rtab .any (opsOf Try.f68 6) = INS.T6 := by kernel_rfl
theorem INS.bits6 : waitsOk INS.T6.2 INS.B6 = true := by kernel_rfl
set_option maxHeartbeats 8000000 in
set_option maxRecDepth 100000 in
theorem INS.calls (k : Nat) (P0_ : Nat → Prop) (u9000_ : Value) (l0 : List Int) (a1 : Int) (a2 : Int) (g75_ : Nat) (g76_ : Nat) (g77_ : Nat) (a75 : Int) (A76 : Option Addr) (c76 : Nat) (l76 : List Int) (a77 : Int) (r : List Int) (w0 w : World) (hB : Below w0.heap.size w0 w) (ho0 : Kd.R (Kd.int .i64) 3 w w0.heap.size P0_ u9000_ l0) (hr76 : ∀ W_, Kept w W_ (fun k_ => P0_ k_) → Kd.C (Kd.int .i64) W_ A76 l76.length l76) (hc76 : l76.length ≤ c76) (hq75_0 : ∀ W_, Kept w W_ (fun k_ => P0_ k_) → W_.cell? ⟨g75_, 0, none⟩ = some (.int .i64 a75)) (hq76_0 : ∀ W_, Kept w W_ (fun k_ => P0_ k_) → W_.cell? ⟨g76_, 0, none⟩ = some (.slice A76 l76.length c76)) (hq77_0 : ∀ W_, Kept w W_ (fun k_ => P0_ k_) → W_.cell? ⟨g77_, 0, none⟩ = some (.int .i64 a77)) (h : INS.f k l0 a1 a2 a75 l76 a77 = some r) :
  Calls Try.prog 68 #[u9000_, .int .i64 a1, .int .i64 a2, .func (.func 56) #[] #[.pointer (some ⟨g75_, 0, none⟩), .pointer (some ⟨g76_, 0, none⟩), .pointer (some ⟨g77_, 0, none⟩)]] w fun e w' => e = .returned (.tuple #[]) ∧ Kd.R (Kd.int .i64) 3 w' w0.heap.size (fun k_ => (P0_ k_ ∨ w.heap.size ≤ k_)) u9000_ r ∧ Below w0.heap.size w0 w' ∧ Kept w w' (fun k_ => P0_ k_) := by
 have HO0 := am_ (show Kd.R (Kd.int .i64) 3 w w0.heap.size (fun k_ => (P0_ k_ ∨ w.heap.size ≤ k_)) u9000_ l0 from Kd.R_mono ho0 (fun k_ hk => (.inl hk)))
 have HR76 := am_ hr76
 have HC76 := am_ hc76
 clear hr76 hc76
 have HK := am_ (Kept.refl w (fun k_ => P0_ k_))
 have HW0 := am_ hB.size
 have HB := am_ hB
 clear hB
 have H : (INS.l0 a75 l76 a77 k l0 a1 a2 (wrap64 (a1 + 1))) = some r := h
 clear h
 have H' := am_ H
 clear H
 go_enter Try.func68, Try.ntmps68
 go_wp2
 go_loopg [8] k (fun kq v8 w' => ∃ (x0_1 : List Int) (x8_1 : Int), v8 = .int .i64 x8_1 ∧ Aside0 (INS.l0 a75 l76 a77 kq x0_1 a1 a2 x8_1 = some r) ∧ Aside0 (kq ≤ k) ∧ Aside0 (Kd.R (Kd.int .i64) 3 w' w0.heap.size (fun k_ => (P0_ k_ ∨ w.heap.size ≤ k_)) u9000_ x0_1) ∧ Aside0 (Kept w w' (fun k_ => P0_ k_)) ∧ Aside0 (Below w0.heap.size w0 w'))
 case atStart => exact ⟨(l0), (wrap64 (a1 + 1)), sq_, H', ⟨Nat.le_refl _⟩, ⟨ra_ HO0.out⟩, ⟨kk_ HK.out⟩, ⟨bw_ HB.out⟩⟩
 case round =>
  clear H'
  (try clear HO_0)
  obtain ⟨x0_1, x8_1, rfl, HA, HK1, HO_0, HK, HB⟩ := hrel
  cases gk with
  | zero => exact absurd HA.out (by simp [INS.l0])
  | succ k1 =>
   have H := HA.out
   clear HA
   simp only [INS.l0] at H
   by_cases c5 : x8_1 < a2
   ·rw [if_pos c5] at H
    have c5b0 : decide (x8_1 < a2) = true := decide_eq_true c5
    clear c5
    have H' := am_ H
    clear H
    go_wp2
    go_loopg [9] k1 (fun kq v9 w' => ∃ (x0_2 : List Int) (x9_2 : Int), v9 = .int .i64 x9_2 ∧ Aside0 (INS.l1 a75 l76 a77 kq x0_2 a1 a2 x8_1 x9_2 = some r) ∧ Aside0 (kq ≤ k1) ∧ Aside0 (Kd.R (Kd.int .i64) 3 w' w0.heap.size (fun k_ => (P0_ k_ ∨ w.heap.size ≤ k_)) u9000_ x0_2) ∧ Aside0 (Kept w w' (fun k_ => P0_ k_)) ∧ Aside0 (Below w0.heap.size w0 w'))
    case atStart => exact ⟨(x0_1), (x8_1), sq_, H', ⟨Nat.le_refl _⟩, ⟨ra_ HO_0.out⟩, ⟨kk_ HK.out⟩, ⟨bw_ HB.out⟩⟩
    case round =>
     clear H'
     try clear c5
     try clear c5b0
     (try clear HO_0)
     obtain ⟨x0_2, x9_2, rfl, HA, HK2, HO_0, HK, HB⟩ := hrel
     cases gk with
     | zero => exact absurd HA.out (by simp [INS.l1])
     | succ k2 =>
      have H := HA.out
      clear HA
      simp only [INS.l1] at H
      by_cases c6 : x9_2 > a1
      ·rw [if_pos c6] at H
       have c6b0 : decide (a1 < x9_2) = true := decide_eq_true c6
       clear c6
       obtain ⟨c7, H⟩ := ifn_ H
       have c7b0 : decide (0 ≤ x9_2) = true := decide_eq_true c7
       clear c7
       obtain ⟨c8, H⟩ := ifn_ H
       have c8b0 : decide (x9_2 < (x0_2.length : Int)) = true := decide_eq_true c8
       clear c8
       obtain ⟨ji9, hji9⟩ : ∃ j_ : Int, (wrap64 (x9_2 - 1)) = j_ := ⟨_, rfl⟩
       replace H : (if 0 ≤ (ji9) then (if (ji9) < (x0_2.length : Int) then ((impl_share_1_captured.f (rd x0_2 x9_2) (rd x0_2 (ji9)) a75 l76 a77).bind fun t218 => (if t218 < 0 then (INS.l1 a75 l76 a77 k2 ((x0_2.set (x9_2 : Int).toNat (rd x0_2 (ji9))).set ((ji9) : Int).toNat (rd x0_2 x9_2)) a1 a2 x8_1 ji9) else (INS.l0 a75 l76 a77 k2 x0_2 a1 a2 (wrap64 (x8_1 + 1))))) else (none)) else (none)) = some r := by first | (rw [hji9] at H; exact H) | (simp only [hji9] at H ⊢; exact H)
       have hji9w : (IntKind.i64.wrap (x9_2 - 1)) = ji9 := (i64_w _).trans hji9
       obtain ⟨c10, H⟩ := ifn_ H
       have c10b0 : decide (0 ≤ (ji9)) = true := decide_eq_true c10
       clear c10
       obtain ⟨c11, H⟩ := ifn_ H
       have c11b0 : decide ((ji9) < (x0_2.length : Int)) = true := decide_eq_true c11
       clear c11
       obtain ⟨t218, A120, H⟩ := bE_ H
       have A12 := am_ A120
       clear A120
       by_cases c13 : t218 < 0
       ·rw [if_pos c13] at H
        have c13b0 : decide (t218 < 0) = true := decide_eq_true c13
        clear c13
        obtain ⟨y221, hy221⟩ : ∃ y_ : List Int, y_ = (x0_2.set (x9_2 : Int).toNat (rd x0_2 (ji9))) := ⟨_, rfl⟩
        replace H : (INS.l1 a75 l76 a77 k2 (y221.set ((ji9) : Int).toNat (rd x0_2 x9_2)) a1 a2 x8_1 ji9) = some r := by first | (rw [hy221]; with_reducible exact H) | (have H2_ := (Option.bind_some _ _).symm.trans H; rw [hy221]; with_reducible exact H2_) | (have H2_ := (Option.bind_some _ _).symm.trans H; with_reducible exact H2_) | with_reducible exact H | (rw [hy221]; exact H) | exact H
        have Ny221 := am_ hy221
        clear hy221
        obtain ⟨y222, hy222⟩ : ∃ y_ : List Int, y_ = (y221.set ((ji9) : Int).toNat (rd x0_2 x9_2)) := ⟨_, rfl⟩
        replace H : (INS.l1 a75 l76 a77 k2 y222 a1 a2 x8_1 ji9) = some r := by first | (rw [hy222]; with_reducible exact H) | (have H2_ := (Option.bind_some _ _).symm.trans H; rw [hy222]; with_reducible exact H2_) | (have H2_ := (Option.bind_some _ _).symm.trans H; with_reducible exact H2_) | with_reducible exact H | (rw [hy222]; exact H) | exact H
        have Ny222 := am_ hy222
        clear hy222
        have H' := am_ H
        clear H
        try go_wp2
        have n0_ := am_ (Kd.R_drew HO_0.out)
        have n1_ := am_ (Kept.drew HK.out)
        have n2_ := am_ (below_drew1 HB.out)
        replace HO_0 := n0_
        replace HK := n1_
        replace HB := n2_
        clear n0_ n1_ n2_
        obtain ⟨Ao17, co17, eo17⟩ := Kd.R_slice HO_0.out
        (first | subst eo17 | (injection eo17 with f1_ f2_ f3_; have f4_ := f1_.symm; have f5_ := f3_.symm; clear f1_ f2_ f3_; subst f4_; subst f5_))
        have p216 : 0 ≤ (x9_2 : Int) := od_
        have q216 : x9_2 < (x0_2.length : Int) := od_
        obtain ⟨ad216, e216, hx216_0⟩ := Kd.at_int (Kd.R_reads' HO_0.out).2.2 x9_2 p216 q216
        cases e216
        replace p216 := eq_true p216
        replace q216 := eq_true q216
        have p217 : 0 ≤ ((ji9) : Int) := od_
        have q217 : (ji9) < (x0_2.length : Int) := od_
        obtain ⟨ad217, e217, hx217_0⟩ := Kd.at_int (Kd.R_reads' HO_0.out).2.2 (ji9) p217 q217
        obtain rfl : ad216 = ad217 := (by injection e217)
        replace p217 := eq_true p217
        replace q217 := eq_true q217
        refine start_ (n := 17) (S := fun w' => w'.cell? (ad216.add (x9_2).toNat) = some (.int .i64 (rd x0_2 x9_2)) ∧ w'.cell? (ad216.add ((ji9)).toNat) = some (.int .i64 (rd x0_2 (ji9)))) (ds := []) (Array.replicate 17 false) (by kernel_rfl) rfl rfl ⟨hx216_0, hx217_0⟩ (fun hHeld => ?_); refine with_tabW INS.tab4 INS.bits4 (fun HT_ HW_ => ?_)
        generalize wr.drew = w16 at HO_0 HK HB hx216_0 hx217_0 hHeld ⊢
        refine pS_ 0 18 HT_ ?_
        refine pS_ 1 19 HT_ ?_
        refine pS_ 2 20 HT_ ?_
        refine pS_ 3 21 HT_ ?_
        refine pS_ 4 22 HT_ ?_
        refine pS_ 5 23 HT_ ?_
        refine pS_ 6 24 HT_ ?_
        refine pS_ 7 25 HT_ ?_
        refine pS_ 9 27 HT_ ?_
        refine pS_ 10 28 HT_ ?_
        refine pS_ 11 29 HT_ ?_
        refine pS_ 12 30 HT_ ?_
        refine tS_ 8 26 HT_ HW_ hHeld ?_
        refine tS_ 13 31 HT_ HW_ hHeld ?_
        refine oS_ 14 32 HT_ (fun K hK => ?_)
        refine goesV_ Try.func56 (by kernel_rfl) rfl #[.int .i64 (rd x0_2 x9_2), .int .i64 (rd x0_2 (ji9)), .pointer (some ⟨g75_, 0, none⟩), .pointer (some ⟨g76_, 0, none⟩), .pointer (some ⟨g77_, 0, none⟩)] (by rfl) rfl rfl (by rfl) (by (try simp only [List.map_toArray, List.map_cons, List.map_nil]); first | done | (simp only [hji9]; rfl) | rfl | (simp only [List.length_drop, List.length_take]; rfl)) ?_
        with_reducible refine (impl_share_1_captured.calls (rd x0_2 x9_2) (rd x0_2 (ji9)) g75_ a75 g76_ A76 c76 l76 g77_ a77 t218 _ ?side1 ?side2 ?side3 ?side4 ?side5 A12.out).mono ?_
        (case side1 => exact Kd.C_kept_now HR76.out (kk_ HK.out))
        (case side2 => exact HC76.out)
        (case side3 => exact hq75_0 _ (kk_ HK.out))
        (case side4 => exact hq76_0 _ (kk_ HK.out))
        (case side5 => exact hq77_0 _ (kk_ HK.out))
        rintro e w' ⟨rfl, ⟨nd, rfl⟩⟩
        refine ⟨_, rfl, ?_⟩
        refine hK.out _ _ ⟨hHeld.1, hHeld.2⟩ (fun hHeld => ?_)
        clear hK K
        refine nS_ ?_
        refine pS_ 15 33 HT_ ?_
        refine pS_ 16 34 HT_ ?_
        refine done_ (done_of HT_.out (by kernel_rfl)) ?_
        try go_wp2
        (try (rw [drewN_self w16]; generalize hq_ : World.drewN w16 _ = w16; have n0_ : Aside0 (Kd.R (Kd.int .i64) 3 w16 w0.heap.size (fun k_ => (P0_ k_ ∨ w.heap.size ≤ k_)) (.slice (some ad216) x0_2.length co17) x0_2) := ⟨by rw [← hq_]; exact (ra_ HO_0.out)⟩; have n1_ : Aside0 (Kept w w16 (fun k_ => P0_ k_)) := ⟨by rw [← hq_]; exact (kk_ HK.out)⟩; have n2_ : Aside0 (Below w0.heap.size w0 w16) := ⟨by rw [← hq_]; exact (bw_ HB.out)⟩; clear HO_0 HK HB hq_; have HO_0 := n0_; have HK := n1_; have HB := n2_; clear n0_ n1_ n2_))
        have n0_ := am_ (Kd.R_drew HO_0.out)
        have n1_ := am_ (Kept.drew HK.out)
        have n2_ := am_ (below_drew1 HB.out)
        replace HO_0 := n0_
        replace HK := n1_
        replace HB := n2_
        clear n0_ n1_ n2_
        have p219 : 0 ≤ ((ji9) : Int) := od_
        have q219 : (ji9) < (x0_2.length : Int) := od_
        obtain ⟨ad219, e219, hx219_0⟩ := Kd.at_int (Kd.R_reads' HO_0.out).2.2 (ji9) p219 q219
        obtain rfl : ad216 = ad219 := (by injection e219)
        replace p219 := eq_true p219
        replace q219 := eq_true q219
        have p220 : 0 ≤ (x9_2 : Int) := od_
        have q220 : x9_2 < (x0_2.length : Int) := od_
        obtain ⟨ad220, e220, hx220_0⟩ := Kd.at_int (Kd.R_reads' HO_0.out).2.2 x9_2 p220 q220
        obtain rfl : ad216 = ad220 := (by injection e220)
        replace p220 := eq_true p220
        replace q220 := eq_true q220
        have p14 : 0 ≤ (x9_2 : Int) := od_
        have q14 : (x9_2 : Int) < ((x0_2.length : Int) : Int) := od_
        obtain ⟨go14, co14, eo14, gb14, gl14, cl14, HG14⟩ := Kd.R_form HO_0.out (by omega)
        (first | cases eo14 | (injection eo14 with ea_ en_ ec_; (first | subst ea_ | (injection ea_ with ea_; subst ea_)); subst ec_; clear en_))
        have GB14 := am_ gb14
        have GG14 := am_ HG14
        clear gb14 gl14 HG14
        have HMgo14 := am_ (show (P0_ go14 ∨ w.heap.size ≤ go14) from (HO_0.out.1 _ rfl))
        (first | simp only [add_plain] at hx216_0 | skip)
        (first | simp only [add_plain] at hx217_0 | skip)
        (first | simp only [add_plain] at hx219_0 | skip)
        (first | simp only [add_plain] at hx220_0 | skip)
        obtain ⟨hx14_0, hf14_0⟩ := Kd.R_celln 0 HO_0.out (x9_2 : Int) p14 q14
        replace p14 := eq_true p14
        replace q14 := eq_true q14
        have HP19 := Kd.R_putn HO_0.out (x9_2 : Int) (rd x0_2 (ji9))
        rw [← Ny221.out] at HP19
        have HQ19 := am_ HP19
        clear HP19
        have p15 : 0 ≤ ((ji9) : Int) := od_
        have q15 : ((ji9) : Int) < ((x0_2.length : Int) : Int) := od_
        obtain ⟨hx15_0, hf15_0⟩ := Kd.R_celln 0 HQ19.out ((ji9) : Int) p15 q15
        replace p15 := eq_true p15
        replace q15 := eq_true q15
        have HP20 := Kd.R_putn HQ19.out ((ji9) : Int) (rd x0_2 x9_2)
        rw [← Ny222.out] at HP20
        have HQ20 := am_ HP20
        clear HP20
        refine start_ (n := 18) (S := fun w' => w'.cell? ⟨go14, ((ji9)).toNat, none⟩ = some (.int .i64 (rd x0_2 (ji9))) ∧ w'.cell? ⟨go14, (x9_2).toNat, none⟩ = some (.int .i64 (rd x0_2 x9_2))) (ds := [15, 17]) (Array.replicate 18 false) (by kernel_rfl) rfl rfl ⟨hx219_0, hx220_0⟩ (fun hHeld => ?_); refine with_tabW INS.tab6 INS.bits6 (fun HT_ HW_ => ?_)
        generalize w16.drew = w18 at HO_0 HK HB GG14 HQ19 HQ20 hf14_0 hf15_0 hx14_0 hx15_0 hx216_0 hx217_0 hx219_0 hx220_0 hHeld ⊢
        refine pS_ 0 37 HT_ ?_
        refine pS_ 1 38 HT_ ?_
        refine pS_ 2 39 HT_ ?_
        refine pS_ 3 40 HT_ ?_
        refine pS_ 4 41 HT_ ?_
        refine pS_ 5 42 HT_ ?_
        refine pS_ 6 43 HT_ ?_
        refine pS_ 7 44 HT_ ?_
        refine pS_ 8 45 HT_ ?_
        refine pS_ 10 47 HT_ ?_
        refine pS_ 11 48 HT_ ?_
        refine pS_ 12 49 HT_ ?_
        refine tS_ 9 46 HT_ HW_ hHeld ?_
        refine tS_ 13 50 HT_ HW_ hHeld ?_
        refine pS_ 14 51 HT_ ?_
        refine last_ (i := 15) (N := none) #[true, true, true, true, true, true, true, true, true, true, true, true, true, true, true, true, false, false] rfl rfl (one_of HT_.out (by kernel_rfl)) (by decide) (fun K hK => ?_)
        refine skip_ (w1 := ?_) (by rfl) rfl ?_ ?_
        rotate_left
        ·go_simp
         rfl
        refine hK.out _ _ ?_
        clear hK K
        refine pS_ 16 52 HT_ ?_
        refine last_ (i := 17) (N := none) #[true, true, true, true, true, true, true, true, true, true, true, true, true, true, true, true, true, true] rfl rfl (one_of HT_.out (by kernel_rfl)) (by decide) (fun K hK => ?_)
        refine skip_ (w1 := ?_) (by rfl) rfl ?_ ?_
        rotate_left
        ·go_simp
         rfl
        refine hK.out _ _ ?_
        clear hK K
        refine done_ (done_of HT_.out (by kernel_rfl)) ?_
        try go_wp2
        (try simp only [show (⟨go14, ((ji9) : Int).toNat, none⟩ : Addr) = Addr.add ⟨go14, 0, none⟩ ((ji9) : Int).toNat from by simp [Addr.add]])
        (try simp only [show (⟨go14, (x9_2 : Int).toNat, none⟩ : Addr) = Addr.add ⟨go14, 0, none⟩ (x9_2 : Int).toNat from by simp [Addr.add]])
        go_roundg k2
        case measure => have := HK1.out; have := HK2.out; omega
        case rel => first | exact ⟨(y222), (ji9), (by first | rfl | (simp; done) | (simp only [← hji9] <;> (first | rfl | simp)) | (simp [*]; done)), H', ⟨by have := HK1.out; have := HK2.out; omega⟩, ⟨ra_ HQ20.out⟩, ⟨by repeat (first | (with_reducible first | exact HK.out | apply Kept.alloc | apply Kept.drewN | apply Kept.drew | refine Kept.setCell ?_ HMgo14.out _ | refine Kept.setCell ?_ HMgo14.out _) | exact HK.out)⟩, ⟨bw_ HB.out⟩⟩ | (simp only [(show (⟨go14, (x9_2 : Int).toNat, none⟩ : Addr) = Addr.add ⟨go14, 0, none⟩ (x9_2 : Int).toNat from by simp [Addr.add]).symm, (show (⟨go14, ((ji9) : Int).toNat, none⟩ : Addr) = Addr.add ⟨go14, 0, none⟩ ((ji9) : Int).toNat from by simp [Addr.add]).symm]; exact ⟨(y222), (ji9), (by first | rfl | (simp; done) | (simp only [← hji9] <;> (first | rfl | simp)) | (simp [*]; done)), H', ⟨by have := HK1.out; have := HK2.out; omega⟩, ⟨ra_ HQ20.out⟩, ⟨by repeat (first | (with_reducible first | exact HK.out | apply Kept.alloc | apply Kept.drewN | apply Kept.drew | refine Kept.setCell ?_ HMgo14.out _ | refine Kept.setCell ?_ HMgo14.out _) | exact HK.out)⟩, ⟨bw_ HB.out⟩⟩)
       ·rw [if_neg c13] at H
        have c13b0 : decide (t218 < 0) = false := decide_eq_false c13
        clear c13
        have H' := am_ H
        clear H
        try go_wp2
        have n0_ := am_ (Kd.R_drew HO_0.out)
        have n1_ := am_ (Kept.drew HK.out)
        have n2_ := am_ (below_drew1 HB.out)
        replace HO_0 := n0_
        replace HK := n1_
        replace HB := n2_
        clear n0_ n1_ n2_
        obtain ⟨Ao22, co22, eo22⟩ := Kd.R_slice HO_0.out
        (first | subst eo22 | (injection eo22 with f1_ f2_ f3_; have f4_ := f1_.symm; have f5_ := f3_.symm; clear f1_ f2_ f3_; subst f4_; subst f5_))
        have p216 : 0 ≤ (x9_2 : Int) := od_
        have q216 : x9_2 < (x0_2.length : Int) := od_
        obtain ⟨ad216, e216, hx216_0⟩ := Kd.at_int (Kd.R_reads' HO_0.out).2.2 x9_2 p216 q216
        cases e216
        replace p216 := eq_true p216
        replace q216 := eq_true q216
        have p217 : 0 ≤ ((ji9) : Int) := od_
        have q217 : (ji9) < (x0_2.length : Int) := od_
        obtain ⟨ad217, e217, hx217_0⟩ := Kd.at_int (Kd.R_reads' HO_0.out).2.2 (ji9) p217 q217
        obtain rfl : ad216 = ad217 := (by injection e217)
        replace p217 := eq_true p217
        replace q217 := eq_true q217
        refine start_ (n := 17) (S := fun w' => w'.cell? (ad216.add (x9_2).toNat) = some (.int .i64 (rd x0_2 x9_2)) ∧ w'.cell? (ad216.add ((ji9)).toNat) = some (.int .i64 (rd x0_2 (ji9)))) (ds := []) (Array.replicate 17 false) (by kernel_rfl) rfl rfl ⟨hx216_0, hx217_0⟩ (fun hHeld => ?_); refine with_tabW INS.tab4 INS.bits4 (fun HT_ HW_ => ?_)
        generalize wr.drew = w21 at HO_0 HK HB hx216_0 hx217_0 hHeld ⊢
        refine pS_ 0 18 HT_ ?_
        refine pS_ 1 19 HT_ ?_
        refine pS_ 2 20 HT_ ?_
        refine pS_ 3 21 HT_ ?_
        refine pS_ 4 22 HT_ ?_
        refine pS_ 5 23 HT_ ?_
        refine pS_ 6 24 HT_ ?_
        refine pS_ 7 25 HT_ ?_
        refine pS_ 9 27 HT_ ?_
        refine pS_ 10 28 HT_ ?_
        refine pS_ 11 29 HT_ ?_
        refine pS_ 12 30 HT_ ?_
        refine tS_ 8 26 HT_ HW_ hHeld ?_
        refine tS_ 13 31 HT_ HW_ hHeld ?_
        refine oS_ 14 32 HT_ (fun K hK => ?_)
        refine goesV_ Try.func56 (by kernel_rfl) rfl #[.int .i64 (rd x0_2 x9_2), .int .i64 (rd x0_2 (ji9)), .pointer (some ⟨g75_, 0, none⟩), .pointer (some ⟨g76_, 0, none⟩), .pointer (some ⟨g77_, 0, none⟩)] (by rfl) rfl rfl (by rfl) (by (try simp only [List.map_toArray, List.map_cons, List.map_nil]); first | done | (simp only [hji9]; rfl) | rfl | (simp only [List.length_drop, List.length_take]; rfl)) ?_
        with_reducible refine (impl_share_1_captured.calls (rd x0_2 x9_2) (rd x0_2 (ji9)) g75_ a75 g76_ A76 c76 l76 g77_ a77 t218 _ ?side1 ?side2 ?side3 ?side4 ?side5 A12.out).mono ?_
        (case side1 => exact Kd.C_kept_now HR76.out (kk_ HK.out))
        (case side2 => exact HC76.out)
        (case side3 => exact hq75_0 _ (kk_ HK.out))
        (case side4 => exact hq76_0 _ (kk_ HK.out))
        (case side5 => exact hq77_0 _ (kk_ HK.out))
        rintro e w' ⟨rfl, ⟨nd, rfl⟩⟩
        refine ⟨_, rfl, ?_⟩
        refine hK.out _ _ ⟨hHeld.1, hHeld.2⟩ (fun hHeld => ?_)
        clear hK K
        refine nS_ ?_
        refine pS_ 15 33 HT_ ?_
        refine pS_ 16 34 HT_ ?_
        refine done_ (done_of HT_.out (by kernel_rfl)) ?_
        try go_wp2
        go_roundg k2
        case measure => have := HK1.out; have := HK2.out; omega
        case rel => exact ⟨(x0_2), (wrap64 (x8_1 + 1)), sq_, H', ⟨by have := HK1.out; have := HK2.out; omega⟩, ⟨ra_ HO_0.out⟩, ⟨kk_ HK.out⟩, ⟨bw_ HB.out⟩⟩
      ·rw [if_neg c6] at H
       have c6b0 : decide (a1 < x9_2) = false := decide_eq_false c6
       clear c6
       have H' := am_ H
       clear H
       try go_wp2
       have n0_ := am_ (Kd.R_drew HO_0.out)
       have n1_ := am_ (Kept.drew HK.out)
       have n2_ := am_ (below_drew1 HB.out)
       replace HO_0 := n0_
       replace HK := n1_
       replace HB := n2_
       clear n0_ n1_ n2_
       refine start_ (n := 17) (S := fun w' => True) (ds := []) (Array.replicate 17 false) (by kernel_rfl) rfl rfl trivial (fun hHeld => ?_); refine with_tabW INS.tab4 INS.bits4 (fun HT_ HW_ => ?_)
       generalize wr.drew = w23 at HO_0 HK HB hHeld ⊢
       refine pS_ 0 18 HT_ ?_
       refine pS_ 1 19 HT_ ?_
       refine pS_ 2 20 HT_ ?_
       refine pS_ 3 21 HT_ ?_
       refine pU_ 4 22 HT_ ?_
       refine pU_ 5 23 HT_ ?_
       refine pU_ 6 24 HT_ ?_
       refine pU_ 7 25 HT_ ?_
       refine pU_ 8 26 HT_ ?_
       refine pU_ 9 27 HT_ ?_
       refine pU_ 10 28 HT_ ?_
       refine pU_ 11 29 HT_ ?_
       refine pU_ 12 30 HT_ ?_
       refine pU_ 13 31 HT_ ?_
       refine pU_ 14 32 HT_ ?_
       refine pU_ 15 33 HT_ ?_
       refine pS_ 16 34 HT_ ?_
       refine done_ (done_of HT_.out (by kernel_rfl)) ?_
       try go_wp2
       go_roundg k2
       case measure => have := HK1.out; have := HK2.out; omega
       case rel => exact ⟨(x0_2), (wrap64 (x8_1 + 1)), sq_, H', ⟨by have := HK1.out; have := HK2.out; omega⟩, ⟨ra_ HO_0.out⟩, ⟨kk_ HK.out⟩, ⟨bw_ HB.out⟩⟩
   ·rw [if_neg c5] at H
    have c5b0 : decide (x8_1 < a2) = false := decide_eq_false c5
    clear c5
    obtain rfl := Option.some.inj H
    go_wp2
    first | go_end0 | ((try simp only [Exit.inBlock, Exit.then]); refine bodyPost_ret (results_none rfl _ _ _) rfl ?_)
    exact ⟨by first | rfl | (simp [errW_none, errW_some] <;> rfl) | (simp [*, errW_none, errW_some] <;> rfl), ra_ HO_0.out, bw_ HB.out, kk_ HK.out⟩

end Go.Proofs.Ytgfppioaggeleaa.XFnExactLayOut
