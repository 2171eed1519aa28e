/- What the Go functions that this law comes to compute, each walked; written by a program of this session. -/
import Derived.Test.YtpfddgchlllkpaaXMark
import Derived.Test.YtpfddgchlllkpaaXFnExactGainsAtx0
import Derived.Test.YtpfddgchlllkpaaXFnExactGainsAtx3
namespace Go.Proofs.Ytpfddgchlllkpaa.XFnExactGainsAt
open Go.RowKit Go.Proofs.YtpfddgchlllkpaaW.PrintWords Go.Proofs.YtpfddgchlllkpaaW.PrintLast Go.Proofs.YtpfddgchlllkpaaW.PrintMore
attribute [local go_sem] str_geq max2_int min2_int max_two min_two max_three min_three max_four min_four   -- for this text's walks alone
set_option linter.unusedVariables false
set_option linter.unusedSimpArgs false

/-! ### impl_LengthOf: function 64 -/
/-! a length: the sum of two squares of 128 bits; Add64 has no body, its entry in the model's table is run -/
def impl_LengthOf.f (k : Nat) (a0 a1 : Int) : Option Int := (impl_areFixed.f k [a0, a1]).bind fun t => if t = true then ((impl_square.f a0).bind fun p => (impl_square.f a1).bind fun q => if 0 ≤ p.2 ∧ 0 ≤ q.2 ∧ p.2 < 18446744073709551616 ∧ q.2 < 18446744073709551616 then impl_greatest_at_impl_LengthOf_1.f k 1099511627776 (IntKind.u64.wrap (IntKind.u64.wrap (p.1 + q.1) + (p.2 + q.2 + 0) / 18446744073709551616)) ((p.2 + q.2 + 0) % 18446744073709551616) else none) else some 0
theorem impl_LengthOf.mono : ∀ a0 a1 k, LeO (impl_LengthOf.f k a0 a1) (impl_LengthOf.f (k + 1) a0 a1) := by
  intro a0 a1 k
  unfold impl_LengthOf.f
  exact LeO.bind (impl_areFixed.mono _ _) (fun _ => LeO.ite (LeO.bind (LeO.refl _) (fun _ => LeO.bind (LeO.refl _) (fun _ => LeO.ite (impl_greatest_at_impl_LengthOf_1.mono _ _ _ _) (LeO.refl _)))) (LeO.refl _))
theorem impl_LengthOf.add64_call (x y : Int) (hx : 0 ≤ x) (hy : 0 ≤ y) (w : World) : (callFunc 88 #[.int .u64 x, .int .u64 y, .int .u64 0]).run Try.prog w = .ok (.value (.tuple #[.int .u64 ((x + y + 0) % 18446744073709551616), .int .u64 ((x + y + 0) / 18446744073709551616)])) w := by
  rw [run_callFunc_extern Try.func88 (by kernel_rfl) (by kernel_rfl) (by kernel_rfl) (e := add64Entry) (by kernel_rfl), run_add64 x y 0 hx hy (by omega) (by omega)]
  rfl
set_option maxRecDepth 100000 in
theorem impl_LengthOf.two_row (w : World) (a0 a1 : Int) (t : Nat) : Kd.C (Kd.int .i64) (w.alloc (Obj.cells #[.int .i64 a0, .int .i64 a1] t)) (some ⟨w.heap.size, 0, none⟩) 2 [a0, a1] := by
  refine Kd.C_of_reads (enc := Value.int .i64) (d := (0 : Int)) ⟨rfl, by decide, fun _ => ⟨_, rfl, fun j hj => ?_⟩⟩
  have h : j = 0 ∨ j = 1 := by omega
  have hb : (w.alloc (Obj.cells #[.int .i64 a0, .int .i64 a1] t)).heap[w.heap.size]? = some (Obj.cells #[.int .i64 a0, .int .i64 a1] t) := by
    show (w.heap.push _)[w.heap.size]? = _
    exact Array.getElem?_push_size
  rcases h with rfl | rfl
  · exact (blk_cell hb 0).trans rfl
  · exact (blk_cell hb 1).trans rfl
set_option maxHeartbeats 8000000 in
set_option maxRecDepth 100000 in
theorem impl_LengthOf.calls (k : Nat) (a0 : Int) (a1 : Int) (r : Int) (w : World) (h : impl_LengthOf.f k a0 a1 = some r) :
    Calls Try.prog 64 #[.int .i64 a0, .int .i64 a1] w fun e w' => e = .returned (.int .i64 r) ∧ Below w.heap.size w w' := by
  unfold impl_LengthOf.f at h
  obtain ⟨t, ht, h⟩ := Option.bind_eq_some_iff.mp h
  have HT := Aside0.mk ht
  clear ht
  cases t with
  | false =>
    obtain rfl := Option.some.inj ((if_neg (by decide)).symm.trans h)
    go_enter Try.func64, Try.ntmps64
    go_wp2_with (fail "x")
    go_at_call 63
    refine (impl_areFixed.calls k (some ⟨w.heap.size, 0, none⟩) 2 [a0, a1] false _ (impl_LengthOf.two_row w a0 a1 _) (Nat.le_refl _) HT.out).mono ?_
    rintro e w1 ⟨rfl, ⟨nd, rfl⟩⟩
    go_wp2_with (fail "x")
    go_ret
    exact ⟨rfl, pw_below_drewN (below_alloc (Below.refl w.heap.size w) _) nd⟩
  | true =>
    rw [if_pos rfl] at h
    obtain ⟨⟨p1, p2⟩, hp, h⟩ := Option.bind_eq_some_iff.mp h
    obtain ⟨⟨q1, q2⟩, hq, h⟩ := Option.bind_eq_some_iff.mp h
    simp only at h
    split at h
    case isFalse => cases h
    rename_i hg
    obtain ⟨g1, g2, g3, g4⟩ := hg
    have HP := Aside0.mk hp
    have HQ := Aside0.mk hq
    have H := Aside0.mk h
    have ad := fun w => impl_LengthOf.add64_call p2 q2 g1 g2 w
    clear hp hq h g1 g2 g3 g4
    generalize (p2 + q2 + 0) / 18446744073709551616 = cy at ad H
    generalize (p2 + q2 + 0) % 18446744073709551616 = lo at ad H
    go_enter Try.func64, Try.ntmps64
    go_wp2_with (fail "x")
    go_at_call 63
    refine (impl_areFixed.calls k (some ⟨w.heap.size, 0, none⟩) 2 [a0, a1] true _ (impl_LengthOf.two_row w a0 a1 _) (Nat.le_refl _) HT.out).mono ?_
    rintro e w1 ⟨rfl, ⟨nd, rfl⟩⟩
    go_wp2_with (fail "x")
    go_at_call 87
    refine (impl_square.calls a0 p1 p2 _ HP.out).mono ?_
    rintro e w2 ⟨rfl, hb2⟩
    go_wp2_with (fail "x")
    go_at_call 87
    refine (impl_square.calls a1 q1 q2 _ HQ.out).mono ?_
    rintro e w3 ⟨rfl, hb3⟩
    have HB := Aside0.mk (below_step (below_step (pw_below_drewN (below_alloc (Below.refl w.heap.size w) (Obj.cells #[.int .i64 a0, .int .i64 a1] 3)) nd) hb2) hb3)
    clear hb2 hb3
    go_wp2_with (simp only [ad])
    refine (impl_greatest_at_impl_LengthOf_1.calls k _ (w3.heap.size + 1) w3.heap.size _ _ r _ ?_ ?_ H.out).mono ?_
    · have hz : (w3.alloc (Obj.cells #[Value.int .u64 lo] 92)).heap.size = w3.heap.size + 1 := by
        show (w3.heap.push _).size = _
        exact Array.size_push _
      have hb := blk_new (w3.alloc (Obj.cells #[Value.int .u64 lo] 92)) (Obj.cells #[Value.int .u64 (IntKind.u64.wrap (IntKind.u64.wrap (p1 + q1) + cy))] 92)
      rw [hz] at hb
      exact (blk_cell hb 0).trans rfl
    · exact (blk_cell (blk_alloc (blk_new _ _) _) 0).trans rfl
    · rintro e w4 ⟨rfl, hb4⟩
      have HB4 := Aside0.mk (below_step (below_alloc (below_alloc HB.out _) _) hb4)
      clear hb4
      go_wp2_with (fail "x")
      go_ret
      exact ⟨rfl, HB4.out⟩

/-! ### impl_clamp: function 66 -/
def impl_clamp.f (a0 : Int) (a1 : Int) (a2 : Int) : Option (Int) := some (mn (mx a0 a1) a2)
set_option maxHeartbeats 8000000 in
set_option maxRecDepth 100000 in
theorem impl_clamp.calls (a0 : Int) (a1 : Int) (a2 : Int) (r : Int) (w : World) (h : impl_clamp.f a0 a1 a2 = some r) :
  Calls Try.prog 66 #[.int .i64 a0, .int .i64 a1, .int .i64 a2] w fun e w' => e = .returned (.int .i64 r) ∧ Below w.heap.size w w' := by
 have HB := Aside0.mk (Below.refl w.heap.size w)
 have H : (some (mn (mx a0 a1) a2)) = some r := h
 clear h
 obtain ⟨ji4, hji4⟩ : ∃ j_ : Int, (mx a0 a1) = j_ := ⟨_, rfl⟩
 replace H : (some (mn (ji4) a2)) = some r := by first | (rw [hji4] at H; exact H) | (simp only [hji4] at H ⊢; exact H)
 have hji4_ : (if a0 < a1 then a1 else a0) = ji4 := hji4
 obtain ⟨ji5, hji5⟩ : ∃ j_ : Int, (mn (ji4) a2) = j_ := ⟨_, rfl⟩
 replace H : (some ji5) = some r := by first | (rw [hji5] at H; exact H) | (simp only [hji5] at H ⊢; exact H)
 have hji5_ : (if a2 < (ji4) then a2 else (ji4)) = ji5 := hji5
 obtain rfl := Option.some.inj H
 go_enter Try.func66, Try.ntmps66
 go_wp2
 go_ret
 exact ⟨by first | rfl | (simp [errW_none, errW_some] <;> rfl) | (simp only [← hji4, ← hji5]; first | rfl | (simp [errW_none, errW_some] <;> rfl)) | (simp [*, errW_none, errW_some] <;> rfl), bw_ HB.out⟩

/-! ### impl_down: function 91 -/
def impl_down.f (a0 : Int) (a1 : Int) : Option (Int) := if a1 = 0 then (none) else (if (Int.tmod a0 a1) < 0 then (some (wrap64 ((wrap64 (Int.tdiv a0 a1)) - 1))) else (some (wrap64 (Int.tdiv a0 a1))))
set_option maxHeartbeats 8000000 in
set_option maxRecDepth 100000 in
theorem impl_down.calls (a0 : Int) (a1 : Int) (r : Int) (w : World) (h : impl_down.f a0 a1 = some r) :
  Calls Try.prog 91 #[.int .i64 a0, .int .i64 a1] w fun e w' => e = .returned (.int .i64 r) ∧ Drawn0 w w' := by
 have H : (if a1 = 0 then (none) else (if (Int.tmod a0 a1) < 0 then (some (wrap64 ((wrap64 (Int.tdiv a0 a1)) - 1))) else (some (wrap64 (Int.tdiv a0 a1))))) = some r := h
 clear h
 by_cases c3 : a1 = 0
 ·rw [if_pos c3] at H
  exact absurd H (by simp)
 ·rw [if_neg c3] at H
  have c3b0 : (a1 == 0) = false := beq_eq_false_iff_ne.mpr c3
  have c3b1 : (a1 != 0) = true := bne_iff_ne.mpr c3
  by_cases c4 : (Int.tmod a0 a1) < 0
  ·rw [if_pos c4] at H
   have c4b0 : decide ((Int.tmod a0 a1) < 0) = true := decide_eq_true c4
   clear c4
   obtain rfl := Option.some.inj H
   go_enter Try.func91, Try.ntmps91
   go_wp2
   go_ret
   exact ⟨by first | rfl | (simp; done) | (simp [*]; done), by repeat (first | exact Drawn0.refl _ | apply Drawn0.step)⟩
  ·rw [if_neg c4] at H
   have c4b0 : decide ((Int.tmod a0 a1) < 0) = false := decide_eq_false c4
   clear c4
   obtain rfl := Option.some.inj H
   go_enter Try.func91, Try.ntmps91
   go_wp2
   go_ret
   exact ⟨by first | rfl | (simp; done) | (simp [*]; done), by repeat (first | exact Drawn0.refl _ | apply Drawn0.step)⟩

/-! ### impl_FixDiv: function 65 -/
def impl_FixDiv.j0 : Nat → Int → Int → Bool → Option (Int)
 | 0, _, _, _ => none
 | k + 1, x0, x1, x13 => if x13 = true then (some 0) else (if x1 < 0 then ((impl_down.f (wrap64 ((wrap64 ((wrap64 (2 * (wrap64 (-x0)))) * 65536)) + (wrap64 (-x1)))) (wrap64 (2 * (wrap64 (-x1))))).bind fun t185 => ((impl_clamp.f t185 (-1099511627776) 1099511627776).bind fun t186 => (some t186))) else ((impl_down.f (wrap64 ((wrap64 ((wrap64 (2 * x0)) * 65536)) + x1)) (wrap64 (2 * x1))).bind fun t187 => ((impl_clamp.f t187 (-1099511627776) 1099511627776).bind fun t188 => (some t188))))
def impl_FixDiv.f (k : Nat) (a0 : Int) (a1 : Int) : Option (Int) := (impl_areFixed.f k (([a0, a1] : List Int))).bind fun t184 => (if t184 = true then (impl_FixDiv.j0 k a0 a1 (a1 == 0)) else (impl_FixDiv.j0 k a0 a1 true))
theorem impl_FixDiv.mono_l : ∀ k, (∀ y0 y1 y2, LeO (impl_FixDiv.j0 k y0 y1 y2) (impl_FixDiv.j0 (k + 1) y0 y1 y2))
 | 0 => fun _ _ _ r h => by simp [impl_FixDiv.j0] at h
 | k + 1 => by
  have ih0 := impl_FixDiv.mono_l k
  ·intro y0 y1 y2
   unfold impl_FixDiv.j0
   repeat' first
   | (with_reducible exact ih0 _ _ _)
   | (with_reducible exact impl_areFixed.mono _ _)
   | (with_reducible exact LeO.refl _)
   | (with_reducible exact LeO.none _)
   | (with_reducible refine LeO.ite ?_ ?_)
   | (with_reducible refine LeO.bind ?_ (fun _ => ?_))
   | exact ih0 _ _ _
   | exact impl_areFixed.mono _ _
   | exact LeO.none _
   | refine LeO.ite ?_ ?_
   | refine LeO.bind ?_ (fun _ => ?_)
theorem impl_FixDiv.mono : ∀ a0 a1 k, LeO (impl_FixDiv.f k a0 a1) (impl_FixDiv.f (k + 1) a0 a1) := by
 intro a0 a1 k
 have ih0 := impl_FixDiv.mono_l k
 unfold impl_FixDiv.f
 repeat' first
   | (with_reducible exact ih0 _ _ _)
   | (with_reducible exact impl_areFixed.mono _ _)
   | (with_reducible exact LeO.refl _)
   | (with_reducible exact LeO.none _)
   | (with_reducible refine LeO.ite ?_ ?_)
   | (with_reducible refine LeO.bind ?_ (fun _ => ?_))
   | exact ih0 _ _ _
   | exact impl_areFixed.mono _ _
   | exact LeO.none _
   | refine LeO.ite ?_ ?_
   | refine LeO.bind ?_ (fun _ => ?_)
set_option maxHeartbeats 8000000 in
set_option maxRecDepth 100000 in
theorem impl_FixDiv.calls (k : Nat) (a0 : Int) (a1 : Int) (r : Int) (w : World) (h : impl_FixDiv.f k a0 a1 = some r) :
  Calls Try.prog 65 #[.int .i64 a0, .int .i64 a1] w fun e w' => e = .returned (.int .i64 r) ∧ Below w.heap.size w w' := by
 have HB := Aside0.mk (Below.refl w.heap.size w)
 have H : ((impl_areFixed.f k (([a0, a1] : List Int))).bind fun t184 => (if t184 = true then (impl_FixDiv.j0 k a0 a1 (a1 == 0)) else (impl_FixDiv.j0 k a0 a1 true))) = some r := h
 clear h
 have HC3 := Aside0.mk H
 clear H
 go_enter Try.func65, Try.ntmps65
 go_upto_region 1 with (fail)
 go_cut [13] (fun v13 wc => ∃ (kq : Nat) (x13_2 : Bool), v13 = .bool x13_2 ∧ Aside0 (impl_FixDiv.j0 kq a0 a1 x13_2 = some r) ∧ Aside0 (kq ≤ k) ∧ Aside0 (Below w.heap.size w wc))
 case first =>
  have H := HC3.out
  clear HC3
  obtain ⟨y181, hy181⟩ : ∃ y_ : List Int, y_ = (([a0, a1] : List Int)) := ⟨_, rfl⟩
  replace H : ((impl_areFixed.f k y181).bind fun t184 => (if t184 = true then (impl_FixDiv.j0 k a0 a1 (a1 == 0)) else (impl_FixDiv.j0 k a0 a1 true))) = some r := by first | (rw [hy181]; with_reducible exact H) | (have H2_ := (Option.bind_some _ _).symm.trans H; rw [hy181]; with_reducible exact H2_) | (have H2_ := (Option.bind_some _ _).symm.trans H; with_reducible exact H2_) | with_reducible exact H | (rw [hy181]; exact H) | exact H
  have Ny181 := Aside0.mk hy181
  clear hy181
  obtain ⟨t184, A40, H⟩ := bE_ H
  have A4 := Aside0.mk A40
  clear A40
  by_cases c5 : t184 = true
  ·subst c5
   replace H := it_ H rfl
   have H' := Aside0.mk H
   clear H
   go_wp2_with (first | ((with_reducible refine gate_dst (N := 7) rfl ?_); refine Kd.R_lit (Kd.int .i64) _ 3 ?hg (N := 7) ?hd (xs := ([a0, a1] : List Int)) (inner := [.int .i64 a0, .int .i64 a1]) (ok := fun _ => True) (okp := fun _ => True) ?hr ?hp (fun _ hk => hk) trivial (Below.refl _ _) (Nat.le_refl _) (by simp) ?_; (case hd => rfl); (case hg => rfl); (case hr => first | (go_simp; done) | (go_simp; rfl)); (case hp => exact (Reps.one (show Kd.M (Kd.int .i64) _ _ _ a0 [.int .i64 a0] from rfl) (Reps.one (show Kd.M (Kd.int .i64) _ _ _ a1 [.int .i64 a1] from rfl) (Reps.none _ _)))); intro v182 w6 ho7 hb hg_ hnew_; clear hg_ hnew_; (first | rw [← Ny181.out] at ho7 | (simp only [Int.reduceToNat] at ho7; rw [← Ny181.out] at ho7)); have n0_ := Aside0.mk (Kd.R_lower ho7 (below_size (bw_ HB.out))); have n1_ := Aside0.mk (below_step (bw_ HB.out) hb); clear HB; have HO183 := n0_; have HB := n1_; clear n0_ n1_; clear hb ho7; obtain ⟨Ao8, co8, eo8⟩ := Kd.R_slice HO183.out; subst eo8) | ((with_reducible refine gate_callee (f := 63) rfl ?_); refine goesL_ (some 8) rfl rfl Try.func63 (by kernel_rfl) rfl #[.slice Ao8 y181.length co8] rfl (by (try simp only [List.map_toArray, List.map_cons, List.map_nil]); first | done | rfl | (simp only [List.length_drop, List.length_take]; rfl)) ?_; (with_reducible refine (impl_areFixed.calls k _ _ y181 true _ ?side1 ?side2 A4.out).mono ?_); (case side1 => repeat (first | exact (Kd.R_reads' HO183.out).2.2 | (with_reducible refine Kd.C_alloc ?_ _) | (with_reducible refine Kd.C_drewN ?_ _) | (with_reducible refine Kd.C_drew ?_))); (case side2 => exact (Kd.R_reads' HO183.out).2.1); rintro e w' ⟨rfl, ⟨nd, rfl⟩⟩; refine ⟨_, rfl, ?_⟩))
   go_meet
   case rel => exact ⟨_, ((a1 == 0)), (by first | rfl | (simp; done) | (simp [*]; done) | (simp [wrap64]; done)), H', ⟨by first | omega | exact Nat.le_refl _⟩, ⟨bw_ HB.out⟩⟩
  ·replace c5 := Bool.eq_false_iff.mpr c5
   subst c5
   replace H := if_ H Bool.false_ne_true
   have H' := Aside0.mk H
   clear H
   go_wp2_with (first | ((with_reducible refine gate_dst (N := 7) rfl ?_); refine Kd.R_lit (Kd.int .i64) _ 3 ?hg (N := 7) ?hd (xs := ([a0, a1] : List Int)) (inner := [.int .i64 a0, .int .i64 a1]) (ok := fun _ => True) (okp := fun _ => True) ?hr ?hp (fun _ hk => hk) trivial (Below.refl _ _) (Nat.le_refl _) (by simp) ?_; (case hd => rfl); (case hg => rfl); (case hr => first | (go_simp; done) | (go_simp; rfl)); (case hp => exact (Reps.one (show Kd.M (Kd.int .i64) _ _ _ a0 [.int .i64 a0] from rfl) (Reps.one (show Kd.M (Kd.int .i64) _ _ _ a1 [.int .i64 a1] from rfl) (Reps.none _ _)))); intro v182 w9 ho10 hb hg_ hnew_; clear hg_ hnew_; (first | rw [← Ny181.out] at ho10 | (simp only [Int.reduceToNat] at ho10; rw [← Ny181.out] at ho10)); have n0_ := Aside0.mk (Kd.R_lower ho10 (below_size (bw_ HB.out))); have n1_ := Aside0.mk (below_step (bw_ HB.out) hb); clear HB; have HO183 := n0_; have HB := n1_; clear n0_ n1_; clear hb ho10; obtain ⟨Ao11, co11, eo11⟩ := Kd.R_slice HO183.out; subst eo11) | ((with_reducible refine gate_callee (f := 63) rfl ?_); refine goesL_ (some 8) rfl rfl Try.func63 (by kernel_rfl) rfl #[.slice Ao11 y181.length co11] rfl (by (try simp only [List.map_toArray, List.map_cons, List.map_nil]); first | done | rfl | (simp only [List.length_drop, List.length_take]; rfl)) ?_; (with_reducible refine (impl_areFixed.calls k _ _ y181 false _ ?side1 ?side2 A4.out).mono ?_); (case side1 => repeat (first | exact (Kd.R_reads' HO183.out).2.2 | (with_reducible refine Kd.C_alloc ?_ _) | (with_reducible refine Kd.C_drewN ?_ _) | (with_reducible refine Kd.C_drew ?_))); (case side2 => exact (Kd.R_reads' HO183.out).2.1); rintro e w' ⟨rfl, ⟨nd, rfl⟩⟩; refine ⟨_, rfl, ?_⟩))
   go_meet
   case rel => exact ⟨_, (true), (by first | rfl | (simp; done) | (simp [*]; done) | (simp [wrap64]; done)), H', ⟨by first | omega | exact Nat.le_refl _⟩, ⟨bw_ HB.out⟩⟩
 case rest =>
  clear HC3
  try clear p2
  try clear c5
  try clear c6
  obtain ⟨kq, x13_2, rfl, HA, HJ2, HB⟩ := hcut
  cases kq with
  | zero => exact absurd HA.out (by simp [impl_FixDiv.j0])
  | succ kj2 =>
   have H := HA.out
   clear HA
   simp only [impl_FixDiv.j0] at H
   by_cases c12 : x13_2 = true
   ·subst c12
    replace H := it_ H rfl
    obtain rfl := Option.some.inj H
    go_wp2
    go_ret
    exact ⟨by first | rfl | (simp [errW_none, errW_some] <;> rfl) | (simp [*, errW_none, errW_some] <;> rfl), bw_ HB.out⟩
   ·replace c12 := Bool.eq_false_iff.mpr c12
    subst c12
    replace H := if_ H Bool.false_ne_true
    by_cases c13 : a1 < 0
    ·rw [if_pos c13] at H
     have c13b0 : decide (a1 < 0) = true := decide_eq_true c13
     clear c13
     obtain ⟨t185, A140, H⟩ := bE_ H
     have A14 := Aside0.mk A140
     clear A140
     obtain ⟨t186, A150, H⟩ := bE_ H
     have A15 := Aside0.mk A150
     clear A150
     obtain rfl := Option.some.inj H
     go_wp2_with (first | ((with_reducible refine gate_callee (f := 91) rfl ?_); refine goesL_ (some 27) rfl rfl Try.func91 (by kernel_rfl) rfl #[.int .i64 (wrap64 ((wrap64 ((wrap64 (2 * (wrap64 (-a0)))) * 65536)) + (wrap64 (-a1)))), .int .i64 (wrap64 (2 * (wrap64 (-a1))))] rfl (by (try simp only [List.map_toArray, List.map_cons, List.map_nil]); first | done | rfl | (simp only [List.length_drop, List.length_take]; rfl)) ?_; (with_reducible refine (impl_down.calls (wrap64 ((wrap64 ((wrap64 (2 * (wrap64 (-a0)))) * 65536)) + (wrap64 (-a1)))) (wrap64 (2 * (wrap64 (-a1)))) t185 _ A14.out).mono ?_); rintro e w' ⟨rfl, ⟨nd, rfl⟩⟩; refine ⟨_, rfl, ?_⟩) | ((with_reducible refine gate_callee (f := 66) rfl ?_); refine goesL_ (some 28) rfl rfl Try.func66 (by kernel_rfl) rfl #[.int .i64 t185, .int .i64 (-1099511627776), .int .i64 1099511627776] rfl (by (try simp only [List.map_toArray, List.map_cons, List.map_nil]); first | done | rfl | (simp only [List.length_drop, List.length_take]; rfl)) ?_; (with_reducible refine (impl_clamp.calls t185 (-1099511627776) 1099511627776 t186 _ A15.out).mono ?_); rintro e w16 ⟨rfl, hb⟩; refine ⟨_, rfl, ?_⟩; have n0_ := Aside0.mk (below_step (bw_ HB.out) hb); clear HB; have HB := n0_; clear n0_; (try clear hb); (try clear hb2); (try clear hk); (try clear hi)))
     go_ret
     exact ⟨by first | rfl | (simp [errW_none, errW_some] <;> rfl) | (simp [*, errW_none, errW_some] <;> rfl), bw_ HB.out⟩
    ·rw [if_neg c13] at H
     have c13b0 : decide (a1 < 0) = false := decide_eq_false c13
     clear c13
     obtain ⟨t187, A170, H⟩ := bE_ H
     have A17 := Aside0.mk A170
     clear A170
     obtain ⟨t188, A180, H⟩ := bE_ H
     have A18 := Aside0.mk A180
     clear A180
     obtain rfl := Option.some.inj H
     go_wp2_with (first | ((with_reducible refine gate_callee (f := 91) rfl ?_); refine goesL_ (some 27) rfl rfl Try.func91 (by kernel_rfl) rfl #[.int .i64 (wrap64 ((wrap64 ((wrap64 (2 * a0)) * 65536)) + a1)), .int .i64 (wrap64 (2 * a1))] rfl (by (try simp only [List.map_toArray, List.map_cons, List.map_nil]); first | done | rfl | (simp only [List.length_drop, List.length_take]; rfl)) ?_; (with_reducible refine (impl_down.calls (wrap64 ((wrap64 ((wrap64 (2 * a0)) * 65536)) + a1)) (wrap64 (2 * a1)) t187 _ A17.out).mono ?_); rintro e w' ⟨rfl, ⟨nd, rfl⟩⟩; refine ⟨_, rfl, ?_⟩) | ((with_reducible refine gate_callee (f := 66) rfl ?_); refine goesL_ (some 28) rfl rfl Try.func66 (by kernel_rfl) rfl #[.int .i64 t187, .int .i64 (-1099511627776), .int .i64 1099511627776] rfl (by (try simp only [List.map_toArray, List.map_cons, List.map_nil]); first | done | rfl | (simp only [List.length_drop, List.length_take]; rfl)) ?_; (with_reducible refine (impl_clamp.calls t187 (-1099511627776) 1099511627776 t188 _ A18.out).mono ?_); rintro e w19 ⟨rfl, hb⟩; refine ⟨_, rfl, ?_⟩; have n0_ := Aside0.mk (below_step (bw_ HB.out) hb); clear HB; have HB := n0_; clear n0_; (try clear hb); (try clear hb2); (try clear hk); (try clear hi)))
     go_ret
     exact ⟨by first | rfl | (simp [errW_none, errW_some] <;> rfl) | (simp [*, errW_none, errW_some] <;> rfl), bw_ HB.out⟩

/-! ### impl_FixMul: function 67 -/
/-! products of small fixed numbers: the bounds are those that the laws reach -/
def impl_FixMul.near (x p : Int) : Int := if x < 0 then -((-x * p + 32767) / 65536) else (x * p + 32768) / 65536
def impl_FixMul.f (a0 a1 : Int) : Option Int := if (-200000 ≤ a0 ∧ a0 ≤ 200000) ∧ (0 ≤ a1 ∧ a1 ≤ 65536) then some (impl_FixMul.near a0 a1) else none
theorem impl_FixMul.add64_call (x y : Int) (hx : 0 ≤ x) (hy : 0 ≤ y) (w : World) : (callFunc 88 #[.int .u64 x, .int .u64 y, .int .u64 0]).run Try.prog w = .ok (.value (.tuple #[.int .u64 ((x + y + 0) % 18446744073709551616), .int .u64 ((x + y + 0) / 18446744073709551616)])) w := by
  rw [run_callFunc_extern Try.func88 (by kernel_rfl) (by kernel_rfl) (by kernel_rfl) (e := add64Entry) (by kernel_rfl), run_add64 x y 0 hx hy (by omega) (by omega)]
  rfl
theorem impl_FixMul.u64w {n : Int} (h0 : 0 ≤ n) (h1 : n < 18446744073709551616) : IntKind.u64.wrap n = n := by
  simp [IntKind.wrap, IntKind.bits, IntKind.signed]
  omega
theorem impl_FixMul.w64 {n : Int} (h0 : -9223372036854775808 ≤ n) (h1 : n ≤ 9223372036854775807) : wrap64 n = n := by
  unfold wrap64
  omega
theorem impl_FixMul.size_small (a : Int) (h0 : -200000 ≤ a) (h1 : a ≤ 200000) : impl_size.f a = some (if a < 0 then -a else a) := by
  unfold impl_size.f
  rw [impl_FixMul.w64 (by omega) (by omega)]
  unfold mx
  congr 1
  split <;> split <;> omega
theorem impl_FixMul.mask_small (x : Int) (h0 : 0 ≤ x) (h1 : x < 4294967296) : Go.bits .and .u64 x 4294967295 = x := by
  obtain ⟨n, rfl⟩ := Int.eq_ofNat_of_zero_le h0
  unfold Go.bits
  have e : ((BitVec.ofInt IntKind.u64.bits (n : Int)) &&& (BitVec.ofInt IntKind.u64.bits 4294967295)).toNat = n := by
    rw [BitVec.toNat_and, BitVec.toNat_ofInt, BitVec.toNat_ofInt]
    have e1 : ((n : Int) % ((2 ^ IntKind.u64.bits : Nat) : Int)).toNat = n := by
      simp [IntKind.bits]; omega
    have e2 : ((4294967295 : Int) % ((2 ^ IntKind.u64.bits : Nat) : Int)).toNat = 2 ^ 32 - 1 := by decide
    rw [e1, e2, Nat.and_two_pow_sub_one_eq_mod]
    omega
  show IntKind.u64.wrap _ = _
  rw [e]
  exact impl_FixMul.u64w (by omega) (by omega)
theorem impl_FixMul.mul_small (x y : Int) (hx : 0 ≤ x) (hx1 : x ≤ 200000) (hy : 0 ≤ y) (hy1 : y ≤ 65536) : bits_Mul64.f x y = some (0, x * y) := by
  have hm : 0 ≤ x * y := Int.mul_nonneg hx hy
  have hm2 : x * y ≤ 200000 * 65536 := Int.mul_le_mul hx1 hy1 hy (by omega)
  unfold bits_Mul64.f
  rw [impl_FixMul.mask_small x hx (by omega), impl_FixMul.mask_small y hy (by omega), show x / 4294967296 = 0 by omega, show y / 4294967296 = 0 by omega]
  simp only [Int.zero_mul, Int.mul_zero, Int.zero_add, Int.add_zero]
  rw [impl_FixMul.u64w (n := 0) (by omega) (by omega), impl_FixMul.u64w (n := x * y) hm (by omega)]
  simp only [Int.zero_add, Int.add_zero]
  rw [impl_FixMul.u64w (n := x * y / 4294967296) (by omega) (by omega), impl_FixMul.mask_small _ (by omega) (by omega), show x * y / 4294967296 / 4294967296 = 0 by omega, impl_FixMul.u64w (n := 0) (by omega) (by omega)]
  simp only [Int.zero_add, Int.add_zero]
  rw [impl_FixMul.u64w (n := x * y / 4294967296) (by omega) (by omega), show x * y / 4294967296 / 4294967296 = 0 by omega, impl_FixMul.u64w (n := 0) (by omega) (by omega)]
theorem impl_FixMul.fixed_small (a0 a1 : Int) (g1 : -200000 ≤ a0) (g2 : a0 ≤ 200000) (g3 : 0 ≤ a1) (g4 : a1 ≤ 65536) : impl_areFixed.f 3 [a0, a1] = some true := by
  have e0 : impl_GoodFixed.f a0 = some true := by
    unfold impl_GoodFixed.f impl_inRange.f
    rw [if_pos (by omega), decide_eq_true (by omega)]
    rfl
  have e1 : impl_GoodFixed.f a1 = some true := by
    unfold impl_GoodFixed.f impl_inRange.f
    rw [if_pos (by omega), decide_eq_true (by omega)]
    rfl
  have r0 : rd [a0, a1] 0 = a0 := rfl
  have r1 : rd [a0, a1] 1 = a1 := rfl
  have w1 : wrap64 1 = 1 := impl_FixMul.w64 (by omega) (by omega)
  have w2 : wrap64 2 = 2 := impl_FixMul.w64 (by omega) (by omega)
  simp [impl_areFixed.f, impl_areFixed.l0, r0, r1, e0, e1, w1, w2]
theorem impl_FixMul.or_zero (x : Int) (h0 : 0 ≤ x) (h1 : x < 4294967296) : Go.bits .or .u64 0 x = x := by
  obtain ⟨n, rfl⟩ := Int.eq_ofNat_of_zero_le h0
  unfold Go.bits
  have e : ((BitVec.ofInt IntKind.u64.bits 0) ||| (BitVec.ofInt IntKind.u64.bits (n : Int))).toNat = n := by
    rw [BitVec.toNat_or, BitVec.toNat_ofInt, BitVec.toNat_ofInt]
    have e1 : ((n : Int) % ((2 ^ IntKind.u64.bits : Nat) : Int)).toNat = n := by
      simp [IntKind.bits]; omega
    have e2 : ((0 : Int) % ((2 ^ IntKind.u64.bits : Nat) : Int)).toNat = 0 := by decide
    rw [e1, e2, Nat.zero_or]
  show IntKind.u64.wrap _ = _
  rw [e]
  exact impl_FixMul.u64w (by omega) (by omega)
theorem impl_FixMul.add64_small (p h : Int) (h0 : 0 ≤ p) (h1 : p ≤ 200000 * 65536) (h2 : 0 ≤ h) (h3 : h ≤ 65536) (w : World) : (callFunc 88 #[.int .u64 p, .int .u64 h, .int .u64 0]).run Try.prog w = .ok (.value (.tuple #[.int .u64 (p + h), .int .u64 0])) w := by
  rw [impl_FixMul.add64_call p h h0 h2 w, show (p + h + 0) % 18446744073709551616 = p + h by omega, show (p + h + 0) / 18446744073709551616 = 0 by omega]
set_option maxRecDepth 100000 in
theorem impl_FixMul.two_row (w : World) (a0 a1 : Int) (t : Nat) : Kd.C (Kd.int .i64) (w.alloc (Obj.cells #[.int .i64 a0, .int .i64 a1] t)) (some ⟨w.heap.size, 0, none⟩) 2 [a0, a1] := by
  refine Kd.C_of_reads (enc := Value.int .i64) (d := (0 : Int)) ⟨rfl, by decide, fun _ => ⟨_, rfl, fun j hj => ?_⟩⟩
  have h : j = 0 ∨ j = 1 := by omega
  have hb : (w.alloc (Obj.cells #[.int .i64 a0, .int .i64 a1] t)).heap[w.heap.size]? = some (Obj.cells #[.int .i64 a0, .int .i64 a1] t) := by
    show (w.heap.push _)[w.heap.size]? = _
    exact Array.getElem?_push_size
  rcases h with rfl | rfl
  · exact (blk_cell hb 0).trans rfl
  · exact (blk_cell hb 1).trans rfl
set_option maxHeartbeats 8000000 in
set_option maxRecDepth 100000 in
theorem impl_FixMul.calls (a0 : Int) (a1 : Int) (r : Int) (w : World) (h : impl_FixMul.f a0 a1 = some r) :
    Calls Try.prog 67 #[.int .i64 a0, .int .i64 a1] w fun e w' => e = .returned (.int .i64 r) ∧ Below w.heap.size w w' := by
  unfold impl_FixMul.f at h
  split at h
  case isFalse => cases h
  rename_i hg
  obtain ⟨⟨g1, g2⟩, ⟨g3, g4⟩⟩ := hg
  obtain rfl := Option.some.inj h
  have hn2 : impl_size.f a1 = some a1 := by rw [impl_FixMul.size_small a1 (by omega) (by omega), if_neg (by omega)]
  by_cases hneg : a0 < 0
  · have hn : impl_size.f a0 = some (-a0) := by rw [impl_FixMul.size_small a0 g1 g2, if_pos hneg]
    have hm0 : 0 ≤ -a0 * a1 := Int.mul_nonneg (by omega) g3
    have hm1 : -a0 * a1 ≤ 200000 * 65536 := Int.mul_le_mul (by omega) g4 g3 (by omega)
    have hmul := impl_FixMul.mul_small (-a0) a1 (by omega) (by omega) g3 g4
    unfold impl_FixMul.near
    rw [if_pos hneg]
    have d0 : decide (a0 < 0) = true := decide_eq_true hneg
    generalize hp : -a0 * a1 = p at hm0 hm1 hmul ⊢
    have d1 : decide (a1 < 0) = false := decide_eq_false (by omega)
    have ad0 := fun w => impl_FixMul.add64_small p 32768 hm0 hm1 (by omega) (by omega) w
    have ad1 := fun w => impl_FixMul.add64_small p 32767 hm0 hm1 (by omega) (by omega) w
    have o0 := impl_FixMul.or_zero ((p + 32768) / 65536) (by omega) (by omega)
    have o1 := impl_FixMul.or_zero ((p + 32767) / 65536) (by omega) (by omega)
    have q0 : decide (1099511627776 < (p + 32768) / 65536) = false := decide_eq_false (by omega)
    have q1 : decide (1099511627776 < (p + 32767) / 65536) = false := decide_eq_false (by omega)
    go_enter Try.func67, Try.ntmps67
    go_wp2_with (fail "x")
    go_at_call 63
    refine (impl_areFixed.calls 3 (some ⟨w.heap.size, 0, none⟩) 2 [a0, a1] true _ (impl_FixMul.two_row w a0 a1 _) (Nat.le_refl _) (impl_FixMul.fixed_small a0 a1 g1 g2 g3 g4)).mono ?_
    rintro e w1 ⟨rfl, ⟨nd, rfl⟩⟩
    go_wp2_with (fail "x")
    go_at_call 93
    refine (impl_size.calls a0 (-a0) _ hn).mono ?_
    rintro e w2 ⟨rfl, hb2⟩
    go_wp2_with (fail "x")
    go_at_call 93
    refine (impl_size.calls a1 a1 _ hn2).mono ?_
    rintro e w3 ⟨rfl, hb3⟩
    go_wp2_with (fail "x")
    go_at_call 92
    refine (bits_Mul64.calls (-a0) a1 0 p _ hmul).mono ?_
    rintro e w4 ⟨rfl, ⟨nd2, rfl⟩⟩
    go_wp2_with (first | (simp only [d0, d1]) | (simp only [ad0, ad1]) | (simp only [Int.zero_mul, o0, o1]) | (simp only [q0, q1]))
    go_ret
    have b1 := below_step (pw_below_drewN (below_alloc (Below.refl w.heap.size w) (Obj.cells #[.int .i64 a0, .int .i64 a1] 3)) nd) hb2
    exact ⟨rfl, pw_below_drewN (below_step b1 hb3) nd2⟩
  · have hn : impl_size.f a0 = some a0 := by rw [impl_FixMul.size_small a0 g1 g2, if_neg hneg]
    have hm0 : 0 ≤ a0 * a1 := Int.mul_nonneg (by omega) g3
    have hm1 : a0 * a1 ≤ 200000 * 65536 := Int.mul_le_mul (by omega) g4 g3 (by omega)
    have hmul := impl_FixMul.mul_small a0 a1 (by omega) (by omega) g3 g4
    unfold impl_FixMul.near
    rw [if_neg hneg]
    have d0 : decide (a0 < 0) = false := decide_eq_false hneg
    generalize hp : a0 * a1 = p at hm0 hm1 hmul ⊢
    have d1 : decide (a1 < 0) = false := decide_eq_false (by omega)
    have ad0 := fun w => impl_FixMul.add64_small p 32768 hm0 hm1 (by omega) (by omega) w
    have ad1 := fun w => impl_FixMul.add64_small p 32767 hm0 hm1 (by omega) (by omega) w
    have o0 := impl_FixMul.or_zero ((p + 32768) / 65536) (by omega) (by omega)
    have o1 := impl_FixMul.or_zero ((p + 32767) / 65536) (by omega) (by omega)
    have q0 : decide (1099511627776 < (p + 32768) / 65536) = false := decide_eq_false (by omega)
    have q1 : decide (1099511627776 < (p + 32767) / 65536) = false := decide_eq_false (by omega)
    go_enter Try.func67, Try.ntmps67
    go_wp2_with (fail "x")
    go_at_call 63
    refine (impl_areFixed.calls 3 (some ⟨w.heap.size, 0, none⟩) 2 [a0, a1] true _ (impl_FixMul.two_row w a0 a1 _) (Nat.le_refl _) (impl_FixMul.fixed_small a0 a1 g1 g2 g3 g4)).mono ?_
    rintro e w1 ⟨rfl, ⟨nd, rfl⟩⟩
    go_wp2_with (fail "x")
    go_at_call 93
    refine (impl_size.calls a0 a0 _ hn).mono ?_
    rintro e w2 ⟨rfl, hb2⟩
    go_wp2_with (fail "x")
    go_at_call 93
    refine (impl_size.calls a1 a1 _ hn2).mono ?_
    rintro e w3 ⟨rfl, hb3⟩
    go_wp2_with (fail "x")
    go_at_call 92
    refine (bits_Mul64.calls a0 a1 0 p _ hmul).mono ?_
    rintro e w4 ⟨rfl, ⟨nd2, rfl⟩⟩
    go_wp2_with (first | (simp only [d0, d1]) | (simp only [ad0, ad1]) | (simp only [Int.zero_mul, o0, o1]) | (simp only [q0, q1]))
    go_ret
    have b1 := below_step (pw_below_drewN (below_alloc (Below.refl w.heap.size w) (Obj.cells #[.int .i64 a0, .int .i64 a1] 3)) nd) hb2
    exact ⟨rfl, pw_below_drewN (below_step b1 hb3) nd2⟩

/-! ### impl_GainsAt: function 31 -/
mutual
def impl_GainsAt.j0 : Nat → Int → Int → Int → Bool → Option (Int × Int × Bool)
 | 0, _, _, _, _ => none
 | k + 1, x0, x1, x2, x21 => if x21 = true then (some (0, 0, false)) else ((impl_LengthOf.f k x0 x1).bind fun t194 => (if t194 < x2 then ((impl_FixDiv.f k t194 x2).bind fun t195 => (impl_GainsAt.j1 k x0 t194 (wrap64 (65536 - t195)) 0)) else (impl_GainsAt.j1 k x0 t194 0 0)))
def impl_GainsAt.j1 : Nat → Int → Int → Int → Int → Option (Int × Int × Bool)
 | 0, _, _, _, _ => none
 | k + 1, x0, x9, x10, x11 => if x9 = 0 then ((impl_FixMul.f x10 (wrap64 (Int.tdiv (wrap64 (65536 - x11)) 2))).bind fun t196 => ((impl_FixMul.f x10 (wrap64 (Int.tdiv (wrap64 (65536 + x11)) 2))).bind fun t197 => (some (t196, t197, true)))) else ((impl_FixDiv.f k x0 x9).bind fun t198 => ((impl_clamp.f t198 (-65536) 65536).bind fun t199 => ((impl_FixMul.f x10 (wrap64 (Int.tdiv (wrap64 (65536 - t199)) 2))).bind fun t200 => ((impl_FixMul.f x10 (wrap64 (Int.tdiv (wrap64 (65536 + t199)) 2))).bind fun t201 => (some (t200, t201, true))))))
end
def impl_GainsAt.f (k : Nat) (a0 : Int) (a1 : Int) (a2 : Int) : Option (Int × Int × Bool) := (impl_areFixed.f k (([a0, a1] : List Int))).bind fun t192 => (if t192 = true then ((impl_inRange.f a2 65536 1099511627776).bind fun t193 => (impl_GainsAt.j0 k a0 a1 a2 (!t193))) else (impl_GainsAt.j0 k a0 a1 a2 true))
theorem impl_GainsAt.mono_l : ∀ k, (∀ y0 y1 y2 y3, LeO (impl_GainsAt.j0 k y0 y1 y2 y3) (impl_GainsAt.j0 (k + 1) y0 y1 y2 y3)) ∧ (∀ y0 y1 y2 y3, LeO (impl_GainsAt.j1 k y0 y1 y2 y3) (impl_GainsAt.j1 (k + 1) y0 y1 y2 y3))
 | 0 => ⟨fun _ _ _ _ r h => by simp [impl_GainsAt.j0] at h, fun _ _ _ _ r h => by simp [impl_GainsAt.j1] at h⟩
 | k + 1 => by
  obtain ⟨ih0, ih1⟩ := impl_GainsAt.mono_l k
  refine ⟨?_, ?_⟩
  ·intro y0 y1 y2 y3
   unfold impl_GainsAt.j0
   repeat' first
   | (with_reducible exact ih0 _ _ _ _)
   | (with_reducible exact ih1 _ _ _ _)
   | (with_reducible exact impl_FixDiv.mono _ _ _)
   | (with_reducible exact impl_LengthOf.mono _ _ _)
   | (with_reducible exact impl_areFixed.mono _ _)
   | (with_reducible exact LeO.refl _)
   | (with_reducible exact LeO.none _)
   | (with_reducible refine LeO.ite ?_ ?_)
   | (with_reducible refine LeO.bind ?_ (fun _ => ?_))
   | exact ih0 _ _ _ _
   | exact ih1 _ _ _ _
   | exact impl_FixDiv.mono _ _ _
   | exact impl_LengthOf.mono _ _ _
   | exact impl_areFixed.mono _ _
   | exact LeO.none _
   | refine LeO.ite ?_ ?_
   | refine LeO.bind ?_ (fun _ => ?_)
  ·intro y0 y1 y2 y3
   unfold impl_GainsAt.j1
   repeat' first
   | (with_reducible exact ih0 _ _ _ _)
   | (with_reducible exact ih1 _ _ _ _)
   | (with_reducible exact impl_FixDiv.mono _ _ _)
   | (with_reducible exact impl_LengthOf.mono _ _ _)
   | (with_reducible exact impl_areFixed.mono _ _)
   | (with_reducible exact LeO.refl _)
   | (with_reducible exact LeO.none _)
   | (with_reducible refine LeO.ite ?_ ?_)
   | (with_reducible refine LeO.bind ?_ (fun _ => ?_))
   | exact ih0 _ _ _ _
   | exact ih1 _ _ _ _
   | exact impl_FixDiv.mono _ _ _
   | exact impl_LengthOf.mono _ _ _
   | exact impl_areFixed.mono _ _
   | exact LeO.none _
   | refine LeO.ite ?_ ?_
   | refine LeO.bind ?_ (fun _ => ?_)
theorem impl_GainsAt.mono : ∀ a0 a1 a2 k, LeO (impl_GainsAt.f k a0 a1 a2) (impl_GainsAt.f (k + 1) a0 a1 a2) := by
 intro a0 a1 a2 k
 obtain ⟨ih0, ih1⟩ := impl_GainsAt.mono_l k
 unfold impl_GainsAt.f
 repeat' first
   | (with_reducible exact ih0 _ _ _ _)
   | (with_reducible exact ih1 _ _ _ _)
   | (with_reducible exact impl_FixDiv.mono _ _ _)
   | (with_reducible exact impl_LengthOf.mono _ _ _)
   | (with_reducible exact impl_areFixed.mono _ _)
   | (with_reducible exact LeO.refl _)
   | (with_reducible exact LeO.none _)
   | (with_reducible refine LeO.ite ?_ ?_)
   | (with_reducible refine LeO.bind ?_ (fun _ => ?_))
   | exact ih0 _ _ _ _
   | exact ih1 _ _ _ _
   | exact impl_FixDiv.mono _ _ _
   | exact impl_LengthOf.mono _ _ _
   | exact impl_areFixed.mono _ _
   | exact LeO.none _
   | refine LeO.ite ?_ ?_
   | refine LeO.bind ?_ (fun _ => ?_)
set_option maxHeartbeats 8000000 in
set_option maxRecDepth 100000 in
theorem impl_GainsAt.calls (k : Nat) (a0 : Int) (a1 : Int) (a2 : Int) (r1 : Int) (r2 : Int) (r3 : Bool) (w : World) (h : impl_GainsAt.f k a0 a1 a2 = some (r1, r2, r3)) :
  Calls Try.prog 31 #[.int .i64 a0, .int .i64 a1, .int .i64 a2] w fun e w' => e = .returned (.tuple #[.int .i64 r1, .int .i64 r2, .bool r3]) ∧ Below w.heap.size w w' := by
 have HB := Aside0.mk (Below.refl w.heap.size w)
 have H : ((impl_areFixed.f k (([a0, a1] : List Int))).bind fun t192 => (if t192 = true then ((impl_inRange.f a2 65536 1099511627776).bind fun t193 => (impl_GainsAt.j0 k a0 a1 a2 (!t193))) else (impl_GainsAt.j0 k a0 a1 a2 true))) = some (r1, r2, r3) := h
 clear h
 have HC4 := Aside0.mk H
 clear H
 go_enter Try.func31, Try.ntmps31
 go_upto_region 1 with (fail)
 go_cut [21] (fun v21 wc => ∃ (kq : Nat) (x21_3 : Bool), v21 = .bool x21_3 ∧ Aside0 (impl_GainsAt.j0 kq a0 a1 a2 x21_3 = some (r1, r2, r3)) ∧ Aside0 (kq ≤ k) ∧ Aside0 (Below w.heap.size w wc))
 case first =>
  have H := HC4.out
  clear HC4
  obtain ⟨y189, hy189⟩ : ∃ y_ : List Int, y_ = (([a0, a1] : List Int)) := ⟨_, rfl⟩
  replace H : ((impl_areFixed.f k y189).bind fun t192 => (if t192 = true then ((impl_inRange.f a2 65536 1099511627776).bind fun t193 => (impl_GainsAt.j0 k a0 a1 a2 (!t193))) else (impl_GainsAt.j0 k a0 a1 a2 true))) = some (r1, r2, r3) := by first | (rw [hy189]; with_reducible exact H) | (have H2_ := (Option.bind_some _ _).symm.trans H; rw [hy189]; with_reducible exact H2_) | (have H2_ := (Option.bind_some _ _).symm.trans H; with_reducible exact H2_) | with_reducible exact H | (rw [hy189]; exact H) | exact H
  have Ny189 := Aside0.mk hy189
  clear hy189
  obtain ⟨t192, A50, H⟩ := bE_ H
  have A5 := Aside0.mk A50
  clear A50
  by_cases c6 : t192 = true
  ·subst c6
   replace H := it_ H rfl
   obtain ⟨t193, A70, H⟩ := bE_ H
   have A7 := Aside0.mk A70
   clear A70
   have H' := Aside0.mk H
   clear H
   go_wp2_with (first | ((with_reducible refine gate_dst (N := 14) rfl ?_); refine Kd.R_lit (Kd.int .i64) _ 3 ?hg (N := 14) ?hd (xs := ([a0, a1] : List Int)) (inner := [.int .i64 a0, .int .i64 a1]) (ok := fun _ => True) (okp := fun _ => True) ?hr ?hp (fun _ hk => hk) trivial (Below.refl _ _) (Nat.le_refl _) (by simp) ?_; (case hd => rfl); (case hg => rfl); (case hr => first | (go_simp; done) | (go_simp; rfl)); (case hp => exact (Reps.one (show Kd.M (Kd.int .i64) _ _ _ a0 [.int .i64 a0] from rfl) (Reps.one (show Kd.M (Kd.int .i64) _ _ _ a1 [.int .i64 a1] from rfl) (Reps.none _ _)))); intro v190 w8 ho9 hb hg_ hnew_; clear hg_ hnew_; (first | rw [← Ny189.out] at ho9 | (simp only [Int.reduceToNat] at ho9; rw [← Ny189.out] at ho9)); have n0_ := Aside0.mk (Kd.R_lower ho9 (below_size (bw_ HB.out))); have n1_ := Aside0.mk (below_step (bw_ HB.out) hb); clear HB; have HO191 := n0_; have HB := n1_; clear n0_ n1_; clear hb ho9; obtain ⟨Ao10, co10, eo10⟩ := Kd.R_slice HO191.out; subst eo10) | ((with_reducible refine gate_callee (f := 63) rfl ?_); refine goesL_ (some 15) rfl rfl Try.func63 (by kernel_rfl) rfl #[.slice Ao10 y189.length co10] rfl (by (try simp only [List.map_toArray, List.map_cons, List.map_nil]); first | done | rfl | (simp only [List.length_drop, List.length_take]; rfl)) ?_; (with_reducible refine (impl_areFixed.calls k _ _ y189 true _ ?side1 ?side2 A5.out).mono ?_); (case side1 => repeat (first | exact (Kd.R_reads' HO191.out).2.2 | (with_reducible refine Kd.C_alloc ?_ _) | (with_reducible refine Kd.C_drewN ?_ _) | (with_reducible refine Kd.C_drew ?_))); (case side2 => exact (Kd.R_reads' HO191.out).2.1); rintro e w' ⟨rfl, ⟨nd, rfl⟩⟩; refine ⟨_, rfl, ?_⟩) | (go_at_call 51; (with_reducible refine (impl_inRange.calls a2 65536 1099511627776 t193 _ A7.out).mono ?_); rintro e w' ⟨rfl, ⟨nd, rfl⟩⟩))
   go_meet
   case rel => exact ⟨_, (!t193), (by first | rfl | (simp; done) | (simp [*]; done) | (simp [wrap64]; done)), H', ⟨by first | omega | exact Nat.le_refl _⟩, ⟨bw_ HB.out⟩⟩
  ·replace c6 := Bool.eq_false_iff.mpr c6
   subst c6
   replace H := if_ H Bool.false_ne_true
   have H' := Aside0.mk H
   clear H
   go_wp2_with (first | ((with_reducible refine gate_dst (N := 14) rfl ?_); refine Kd.R_lit (Kd.int .i64) _ 3 ?hg (N := 14) ?hd (xs := ([a0, a1] : List Int)) (inner := [.int .i64 a0, .int .i64 a1]) (ok := fun _ => True) (okp := fun _ => True) ?hr ?hp (fun _ hk => hk) trivial (Below.refl _ _) (Nat.le_refl _) (by simp) ?_; (case hd => rfl); (case hg => rfl); (case hr => first | (go_simp; done) | (go_simp; rfl)); (case hp => exact (Reps.one (show Kd.M (Kd.int .i64) _ _ _ a0 [.int .i64 a0] from rfl) (Reps.one (show Kd.M (Kd.int .i64) _ _ _ a1 [.int .i64 a1] from rfl) (Reps.none _ _)))); intro v190 w11 ho12 hb hg_ hnew_; clear hg_ hnew_; (first | rw [← Ny189.out] at ho12 | (simp only [Int.reduceToNat] at ho12; rw [← Ny189.out] at ho12)); have n0_ := Aside0.mk (Kd.R_lower ho12 (below_size (bw_ HB.out))); have n1_ := Aside0.mk (below_step (bw_ HB.out) hb); clear HB; have HO191 := n0_; have HB := n1_; clear n0_ n1_; clear hb ho12; obtain ⟨Ao13, co13, eo13⟩ := Kd.R_slice HO191.out; subst eo13) | ((with_reducible refine gate_callee (f := 63) rfl ?_); refine goesL_ (some 15) rfl rfl Try.func63 (by kernel_rfl) rfl #[.slice Ao13 y189.length co13] rfl (by (try simp only [List.map_toArray, List.map_cons, List.map_nil]); first | done | rfl | (simp only [List.length_drop, List.length_take]; rfl)) ?_; (with_reducible refine (impl_areFixed.calls k _ _ y189 false _ ?side1 ?side2 A5.out).mono ?_); (case side1 => repeat (first | exact (Kd.R_reads' HO191.out).2.2 | (with_reducible refine Kd.C_alloc ?_ _) | (with_reducible refine Kd.C_drewN ?_ _) | (with_reducible refine Kd.C_drew ?_))); (case side2 => exact (Kd.R_reads' HO191.out).2.1); rintro e w' ⟨rfl, ⟨nd, rfl⟩⟩; refine ⟨_, rfl, ?_⟩))
   go_meet
   case rel => exact ⟨_, (true), (by first | rfl | (simp; done) | (simp [*]; done) | (simp [wrap64]; done)), H', ⟨by first | omega | exact Nat.le_refl _⟩, ⟨bw_ HB.out⟩⟩
 case rest =>
  clear HC4
  try clear p2
  try clear c3
  try clear c6
  obtain ⟨kq, x21_3, rfl, HA, HJ3, HB⟩ := hcut
  cases kq with
  | zero => exact absurd HA.out (by simp [impl_GainsAt.j0])
  | succ kj3 =>
   have H := HA.out
   clear HA
   simp only [impl_GainsAt.j0] at H
   by_cases c14 : x21_3 = true
   ·subst c14
    replace H := it_ H rfl
    simp only [Option.some.injEq, Prod.mk.injEq] at H
    obtain ⟨rfl, rfl, rfl⟩ := H
    go_wp2
    go_ret3
    exact ⟨by first | rfl | (simp [errW_none, errW_some] <;> rfl) | (simp [*, errW_none, errW_some] <;> rfl), bw_ HB.out⟩
   ·replace c14 := Bool.eq_false_iff.mpr c14
    subst c14
    replace H := if_ H Bool.false_ne_true
    obtain ⟨t194, A150, H⟩ := bE_ H
    have A15 := Aside0.mk A150
    clear A150
    have HC16 := Aside0.mk H
    clear H
    go_upto_if 27 with (first | ((with_reducible refine gate_callee (f := 64) rfl ?_); refine goesL_ (some 24) rfl rfl Try.func64 (by kernel_rfl) rfl #[.int .i64 a0, .int .i64 a1] rfl (by (try simp only [List.map_toArray, List.map_cons, List.map_nil]); first | done | rfl | (simp only [List.length_drop, List.length_take]; rfl)) ?_; (with_reducible refine (impl_LengthOf.calls kj3 a0 a1 t194 _ A15.out).mono ?_); rintro e w17 ⟨rfl, hb⟩; refine ⟨_, rfl, ?_⟩; have n0_ := Aside0.mk (below_step (bw_ HB.out) hb); clear HB; have HB := n0_; clear n0_; (try clear hb); (try clear hb2); (try clear hk); (try clear hi)))
    (try simp only [Act.put, List.setIfInBounds_toArray, List.set_cons_zero, List.set_cons_succ])
    go_cut [10] (fun v10 wc => ∃ (kq : Nat) (x10_15 : Int), v10 = .int .i64 x10_15 ∧ Aside0 (impl_GainsAt.j1 kq a0 t194 x10_15 0 = some (r1, r2, r3)) ∧ Aside0 (kq ≤ kj3) ∧ Aside0 (Below w.heap.size w wc))
    case first =>
     have H := HC16.out
     clear HC16
     by_cases c18 : t194 < a2
     ·rw [if_pos c18] at H
      have c18b0 : decide (t194 < a2) = true := decide_eq_true c18
      clear c18
      (first | rw [c18b0] | (simp only [i64_w, i32_w]; rw [c18b0]) | skip)
      obtain ⟨t195, A190, H⟩ := bE_ H
      have A19 := Aside0.mk A190
      clear A190
      have H' := Aside0.mk H
      clear H
      go_wp2_with (first | ((with_reducible refine gate_callee (f := 65) rfl ?_); refine goesL_ (some 30) rfl rfl Try.func65 (by kernel_rfl) rfl #[.int .i64 t194, .int .i64 a2] rfl (by (try simp only [List.map_toArray, List.map_cons, List.map_nil]); first | done | rfl | (simp only [List.length_drop, List.length_take]; rfl)) ?_; (with_reducible refine (impl_FixDiv.calls kj3 t194 a2 t195 _ A19.out).mono ?_); rintro e w20 ⟨rfl, hb⟩; refine ⟨_, rfl, ?_⟩; have n0_ := Aside0.mk (below_step (bw_ HB.out) hb); clear HB; have HB := n0_; clear n0_; (try clear hb); (try clear hb2); (try clear hk); (try clear hi)))
      go_meet
      case rel => exact ⟨_, (wrap64 (65536 - t195)), (by first | rfl | (simp; done) | (simp [*]; done) | (simp [wrap64]; done)), H', ⟨by have := HJ3.out; first | omega | exact Nat.le_refl _⟩, ⟨bw_ HB.out⟩⟩
     ·rw [if_neg c18] at H
      have c18b0 : decide (t194 < a2) = false := decide_eq_false c18
      clear c18
      (first | rw [c18b0] | (simp only [i64_w, i32_w]; rw [c18b0]) | skip)
      have H' := Aside0.mk H
      clear H
      go_wp2
      go_meet
      case rel => exact ⟨_, (0), (by first | rfl | (simp; done) | (simp [*]; done) | (simp [wrap64]; done)), H', ⟨by have := HJ3.out; first | omega | exact Nat.le_refl _⟩, ⟨bw_ HB.out⟩⟩
    case rest =>
     clear HC16
     try clear c1
     try clear p2
     try clear c3
     try clear c6
     try clear p6
     try clear c14
     try clear c18
     try clear c18b0
     try clear p2
     obtain ⟨kq, x10_15, rfl, HA, HJ15, HB⟩ := hcut
     cases kq with
     | zero => exact absurd HA.out (by simp [impl_GainsAt.j1])
     | succ kj15 =>
      have H := HA.out
      clear HA
      simp only [impl_GainsAt.j1] at H
      by_cases c21 : t194 = 0
      ·rw [if_pos c21] at H
       have c21b0 : (t194 == 0) = true := beq_iff_eq.mpr c21
       have c21b1 : (t194 != 0) = false := bne_eq_false_iff_eq.mpr c21
       clear c21
       obtain ⟨t196, A220, H⟩ := bE_ H
       have A22 := Aside0.mk A220
       clear A220
       obtain ⟨t197, A230, H⟩ := bE_ H
       have A23 := Aside0.mk A230
       clear A230
       simp only [Option.some.injEq, Prod.mk.injEq] at H
       obtain ⟨rfl, rfl, rfl⟩ := H
       replace A22 : Aside0 (impl_FixMul.f x10_15 32768 = some t196) := (show wrap64 (Int.tdiv (wrap64 (65536 - 0)) 2) = 32768 from by simp [wrap64]) ▸ A22
       replace A23 : Aside0 (impl_FixMul.f x10_15 32768 = some t197) := (show wrap64 (Int.tdiv (wrap64 (65536 + 0)) 2) = 32768 from by simp [wrap64]) ▸ A23
       go_wp2_with (first | ((with_reducible refine gate_callee (f := 67) rfl ?_); refine goesL_ (some 42) rfl rfl Try.func67 (by kernel_rfl) rfl #[.int .i64 x10_15, .int .i64 (32768)] rfl (by (try simp only [List.map_toArray, List.map_cons, List.map_nil]); first | done | rfl | (simp only [List.length_drop, List.length_take]; rfl)) ?_; (with_reducible refine (impl_FixMul.calls x10_15 (32768) t196 _ A22.out).mono ?_); rintro e w24 ⟨rfl, hb⟩; refine ⟨_, rfl, ?_⟩; have n0_ := Aside0.mk (below_step (bw_ HB.out) hb); clear HB; have HB := n0_; clear n0_; (try clear hb); (try clear hb2); (try clear hk); (try clear hi)) | ((with_reducible refine gate_callee (f := 67) rfl ?_); refine goesL_ (some 47) rfl rfl Try.func67 (by kernel_rfl) rfl #[.int .i64 x10_15, .int .i64 (32768)] rfl (by (try simp only [List.map_toArray, List.map_cons, List.map_nil]); first | done | rfl | (simp only [List.length_drop, List.length_take]; rfl)) ?_; (with_reducible refine (impl_FixMul.calls x10_15 (32768) t197 _ A23.out).mono ?_); rintro e w25 ⟨rfl, hb⟩; refine ⟨_, rfl, ?_⟩; have n0_ := Aside0.mk (below_step (bw_ HB.out) hb); clear HB; have HB := n0_; clear n0_; (try clear hb); (try clear hb2); (try clear hk); (try clear hi)))
       go_ret3
       exact ⟨by first | rfl | (simp [errW_none, errW_some] <;> rfl) | (simp [*, errW_none, errW_some] <;> rfl), bw_ HB.out⟩
      ·rw [if_neg c21] at H
       have c21b0 : (t194 == 0) = false := beq_eq_false_iff_ne.mpr c21
       have c21b1 : (t194 != 0) = true := bne_iff_ne.mpr c21
       obtain ⟨t198, A260, H⟩ := bE_ H
       have A26 := Aside0.mk A260
       clear A260
       obtain ⟨t199, A270, H⟩ := bE_ H
       have A27 := Aside0.mk A270
       clear A270
       obtain ⟨t200, A280, H⟩ := bE_ H
       have A28 := Aside0.mk A280
       clear A280
       obtain ⟨t201, A290, H⟩ := bE_ H
       have A29 := Aside0.mk A290
       clear A290
       simp only [Option.some.injEq, Prod.mk.injEq] at H
       obtain ⟨rfl, rfl, rfl⟩ := H
       go_wp2_with (first | ((with_reducible refine gate_callee (f := 65) rfl ?_); refine goesL_ (some 36) rfl rfl Try.func65 (by kernel_rfl) rfl #[.int .i64 a0, .int .i64 t194] rfl (by (try simp only [List.map_toArray, List.map_cons, List.map_nil]); first | done | rfl | (simp only [List.length_drop, List.length_take]; rfl)) ?_; (with_reducible refine (impl_FixDiv.calls kj15 a0 t194 t198 _ A26.out).mono ?_); rintro e w30 ⟨rfl, hb⟩; refine ⟨_, rfl, ?_⟩; have n0_ := Aside0.mk (below_step (bw_ HB.out) hb); clear HB; have HB := n0_; clear n0_; (try clear hb); (try clear hb2); (try clear hk); (try clear hi)) | ((with_reducible refine gate_callee (f := 66) rfl ?_); refine goesL_ (some 37) rfl rfl Try.func66 (by kernel_rfl) rfl #[.int .i64 t198, .int .i64 (-65536), .int .i64 65536] rfl (by (try simp only [List.map_toArray, List.map_cons, List.map_nil]); first | done | rfl | (simp only [List.length_drop, List.length_take]; rfl)) ?_; (with_reducible refine (impl_clamp.calls t198 (-65536) 65536 t199 _ A27.out).mono ?_); rintro e w31 ⟨rfl, hb⟩; refine ⟨_, rfl, ?_⟩; have n0_ := Aside0.mk (below_step (bw_ HB.out) hb); clear HB; have HB := n0_; clear n0_; (try clear hb); (try clear hb2); (try clear hk); (try clear hi)) | ((with_reducible refine gate_callee (f := 67) rfl ?_); refine goesL_ (some 42) rfl rfl Try.func67 (by kernel_rfl) rfl #[.int .i64 x10_15, .int .i64 (wrap64 (Int.tdiv (wrap64 (65536 - t199)) 2))] rfl (by (try simp only [List.map_toArray, List.map_cons, List.map_nil]); first | done | rfl | (simp only [List.length_drop, List.length_take]; rfl)) ?_; (with_reducible refine (impl_FixMul.calls x10_15 (wrap64 (Int.tdiv (wrap64 (65536 - t199)) 2)) t200 _ A28.out).mono ?_); rintro e w32 ⟨rfl, hb⟩; refine ⟨_, rfl, ?_⟩; have n0_ := Aside0.mk (below_step (bw_ HB.out) hb); clear HB; have HB := n0_; clear n0_; (try clear hb); (try clear hb2); (try clear hk); (try clear hi)) | ((with_reducible refine gate_callee (f := 67) rfl ?_); refine goesL_ (some 47) rfl rfl Try.func67 (by kernel_rfl) rfl #[.int .i64 x10_15, .int .i64 (wrap64 (Int.tdiv (wrap64 (65536 + t199)) 2))] rfl (by (try simp only [List.map_toArray, List.map_cons, List.map_nil]); first | done | rfl | (simp only [List.length_drop, List.length_take]; rfl)) ?_; (with_reducible refine (impl_FixMul.calls x10_15 (wrap64 (Int.tdiv (wrap64 (65536 + t199)) 2)) t201 _ A29.out).mono ?_); rintro e w33 ⟨rfl, hb⟩; refine ⟨_, rfl, ?_⟩; have n0_ := Aside0.mk (below_step (bw_ HB.out) hb); clear HB; have HB := n0_; clear n0_; (try clear hb); (try clear hb2); (try clear hk); (try clear hi)))
       go_ret3
       exact ⟨by first | rfl | (simp [errW_none, errW_some] <;> rfl) | (simp [*, errW_none, errW_some] <;> rfl), bw_ HB.out⟩

/-! ### laws_FnExactGainsAt: function 7 -/
def laws_FnExactGainsAt.f (k : Nat) (a0 : Int) (a1 : Int) (a2 : Int) : Option (Bool) := (spec_GainsAt.f k a0 a1 a2).bind fun t1 => (impl_GainsAt.f k a0 a1 a2).bind fun t2 => if t2.1 = t1.1 then (if t2.2.1 = t1.2.1 then (if t2.2.2 = t1.2.2 then (some true) else none) else none) else none
theorem laws_FnExactGainsAt.mono : ∀ a0 a1 a2 k, LeO (laws_FnExactGainsAt.f k a0 a1 a2) (laws_FnExactGainsAt.f (k + 1) a0 a1 a2) := by
  intro a0 a1 a2 k
  unfold laws_FnExactGainsAt.f
  repeat' first
  | (with_reducible exact spec_GainsAt.mono _ _ _ _)
  | (with_reducible exact impl_GainsAt.mono _ _ _ _)
  | (with_reducible exact LeO.refl _)
  | (with_reducible exact LeO.none _)
  | (with_reducible refine LeO.ite ?_ ?_)
  | refine LeO.bind ?_ (fun _ => ?_)
  | exact LeO.none _
set_option maxHeartbeats 8000000 in
set_option maxRecDepth 100000 in
theorem laws_FnExactGainsAt.calls (k : Nat) (a0 : Int) (a1 : Int) (a2 : Int) (r : Bool) (w : World) (h : laws_FnExactGainsAt.f k a0 a1 a2 = some r) :
    Calls Try.prog 7 #[.int .i64 a0, .int .i64 a1, .int .i64 a2] w fun e w' => e = .returned (.bool r) ∧ Below w.heap.size w w' := by
  have HB := Aside0.mk (Below.refl w.heap.size w)
  unfold laws_FnExactGainsAt.f at h
  have H := h
  clear h
  replace H := bE_ H
  obtain ⟨⟨t1_0, t1_1, t1_2⟩, hA1, H⟩ := H
  try dsimp only at H
  have A1 := Aside0.mk hA1
  clear hA1
  replace H := bE_ H
  obtain ⟨⟨t2_0, t2_1, t2_2⟩, hA2, H⟩ := H
  try dsimp only at H
  have A2 := Aside0.mk hA2
  clear hA2
  replace H := nd_ H
  obtain ⟨c_, H⟩ := H
  subst c_
  first | have fb3 : (t2_0 == t2_0) = true := beq_self_eq_true _ | have fb3 : (t2_0.toList == t2_0.toList) = true := beq_self_eq_true _
  first | have fb4 : (t2_0 != t2_0) = false := by simp | have fb4 : (t2_0.toList != t2_0.toList) = false := by simp
  replace H := nd_ H
  obtain ⟨c_, H⟩ := H
  subst c_
  first | have fb5 : (t2_1 == t2_1) = true := beq_self_eq_true _ | have fb5 : (t2_1.toList == t2_1.toList) = true := beq_self_eq_true _
  first | have fb6 : (t2_1 != t2_1) = false := by simp | have fb6 : (t2_1.toList != t2_1.toList) = false := by simp
  replace H := nd_ H
  obtain ⟨c_, H⟩ := H
  subst c_
  first | have fb7 : (t2_2 == t2_2) = true := beq_self_eq_true _ | have fb7 : (t2_2.toList == t2_2.toList) = true := beq_self_eq_true _
  first | have fb8 : (t2_2 != t2_2) = false := by simp | have fb8 : (t2_2.toList != t2_2.toList) = false := by simp
  obtain rfl := Option.some.inj H
  go_enter Try.func7, Try.ntmps7
  go_wp2_with (first | (go_at_call 30; (with_reducible refine (spec_GainsAt.calls k a0 a1 a2 t2_0 t2_1 t2_2 _  A1.out).mono ?_); rintro e w1001 ⟨rfl, hb⟩; have hs_ := below_size HB.out; have n0_ := Aside0.mk (below_step HB.out hb); have SZ1 := Aside0.mk (show w.heap.size ≤ w1001.heap.size from (hb).size); clear HB; have HB := n0_; clear n0_; clear hb hs_) | (go_at_call 31; (with_reducible refine (impl_GainsAt.calls k a0 a1 a2 t2_0 t2_1 t2_2 _  A2.out).mono ?_); rintro e w1002 ⟨rfl, hb⟩; have hs_ := below_size HB.out; have n0_ := Aside0.mk (below_step HB.out hb); have SZ2 := Aside0.mk (show w1001.heap.size ≤ w1002.heap.size from (hb).size); clear HB; have HB := n0_; clear n0_; clear hb hs_))
  go_ret
  exact ⟨rfl, HB.out⟩

/-! the law's reading -/
/-- THE ONE PURE STATEMENT of laws_FnExactGainsAt. -/
def laws_FnExactGainsAt.Pure : Prop := ∀ (a0 : Int) (a1 : Int) (a2 : Int), ((Lit.int .i64 a0).wf = true) → ((Lit.int .i64 a1).wf = true) → ((Lit.int .i64 a2).wf = true) → ∃ k, laws_FnExactGainsAt.f k a0 a1 a2 = some true


end Go.Proofs.Ytpfddgchlllkpaa.XFnExactGainsAt
