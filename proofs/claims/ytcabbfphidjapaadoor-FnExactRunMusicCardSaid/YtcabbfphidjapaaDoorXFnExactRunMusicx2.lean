/- What the Go functions that this law comes to compute, each walked; written by a program of this session. -/
import Derived.Test.YtcabbfphidjapaaDoorXShort
import Derived.Test.YtcabbfphidjapaaDoorXMark
import Derived.Test.YtcabbfphidjapaaDoorXFnExactRunMusicx0
import Derived.Test.YtcabbfphidjapaaDoorXFnExactRunMusicx1
namespace Go.Proofs.YtcabbfphidjapaaDoor.XFnExactRunMusic
open Go.RowKit Go.Proofs.YtcabbfphidjapaaDoorW.PrintWords Go.Proofs.YtcabbfphidjapaaDoorW.PrintLast Go.Proofs.YtcabbfphidjapaaDoorW.PrintMore
attribute [local go_sem] str_geq max2_int min2_int max_two min_two max_three min_three max_four min_four   -- for this text's walks alone
set_option linter.unusedVariables false
set_option linter.unusedSimpArgs false

/-! ### spec_l15Sections: function 40 -/
mutual
def spec_l15Sections.j0 : Nat → List (S49) → Bool → Option (Bool)
 | 0, _, _ => none
 | k + 1, x0, x14 => if x14 = true then (some false) else (spec_l15Sections.l0 k x0 x0 (x0.length : Int) 0)
def spec_l15Sections.l0 : Nat → List (S49) → List (S49) → Int → Int → Option (Bool)
 | 0, _, _, _, _ => none
 | k + 1, x0, x15, x16, x17 => if x17 < x16 then (if 0 ≤ x17 then (if x17 < (x15.length : Int) then ((spec_GoodName.f k ((rd_T49 x15 x17).f0)).bind fun t113 => (if t113 = true then (if x17 ≤ (x0.length : Int) then ((spec_l15Section.f k (x0.take (x17 : Int).toNat) ((rd_T49 x15 x17).f0)).bind fun t118 => (if t118 ≥ 0 then (spec_l15Sections.j2 k x0 x15 x16 x17 true ((rd_T49 x15 x17).f0) ((rd_T49 x15 x17).f1) ((rd_T49 x15 x17).f2) ((rd_T49 x15 x17).f3)) else ((spec_l1In.f ((rd_T49 x15 x17).f1) 1 64).bind fun t119 => (if t119 = true then ((spec_l15Section.f k x0 ((rd_T49 x15 x17).f3)).bind fun t120 => (spec_l15Sections.j2 k x0 x15 x16 x17 (decide (t120 < 0)) ((rd_T49 x15 x17).f0) ((rd_T49 x15 x17).f1) ((rd_T49 x15 x17).f2) ((rd_T49 x15 x17).f3))) else (spec_l15Sections.j2 k x0 x15 x16 x17 true ((rd_T49 x15 x17).f0) ((rd_T49 x15 x17).f1) ((rd_T49 x15 x17).f2) ((rd_T49 x15 x17).f3)))))) else (none)) else (spec_l15Sections.j2 k x0 x15 x16 x17 true ((rd_T49 x15 x17).f0) ((rd_T49 x15 x17).f1) ((rd_T49 x15 x17).f2) ((rd_T49 x15 x17).f3)))) else (none)) else (none)) else (some true)
def spec_l15Sections.j2 : Nat → List (S49) → List (S49) → Int → Int → Bool → ByteArray → Int → List Int → ByteArray → Option (Bool)
 | 0, _, _, _, _, _, _, _, _, _ => none
 | k + 1, x0, x15, x16, x17, x47, x113000, x113001, x113002, x113003 => if x47 = true then (some false) else (spec_l15Sections.l1 k x0 x15 x16 x17 x113002 (x113002.length : Int) 0 x113000 x113001 x113002 x113003)
def spec_l15Sections.l1 : Nat → List (S49) → List (S49) → Int → Int → List Int → Int → Int → ByteArray → Int → List Int → ByteArray → Option (Bool)
 | 0, _, _, _, _, _, _, _, _, _, _, _ => none
 | k + 1, x0, x15, x16, x17, x49, x50, x51, x113000, x113001, x113002, x113003 => if x51 < x50 then (if 0 ≤ x51 then (if x51 < (x49.length : Int) then ((spec_l1In.f (rd x49 x51) 0 (wrap64 (x113001 - 1))).bind fun t122 => (if t122 = true then (if x51 > 0 then (if 0 ≤ (wrap64 (x51 - 1)) then (if (wrap64 (x51 - 1)) < (x113002.length : Int) then (if (rd x113002 (wrap64 (x51 - 1))) ≥ (rd x49 x51) then (some false) else (spec_l15Sections.l1 k x0 x15 x16 x17 x49 x50 (wrap64 (x51 + 1)) x113000 x113001 x113002 x113003)) else (none)) else (none)) else (spec_l15Sections.l1 k x0 x15 x16 x17 x49 x50 (wrap64 (x51 + 1)) x113000 x113001 x113002 x113003)) else (some false))) else (none)) else (none)) else (spec_l15Sections.l0 k x0 x15 x16 (wrap64 (x17 + 1)))
end
def spec_l15Sections.f (k : Nat) (l0 : List (S49)) : Option (Bool) := if (l0.length : Int) < 1 then (spec_l15Sections.j0 k l0 true) else (spec_l15Sections.j0 k l0 (decide ((l0.length : Int) > 64)))
theorem spec_l15Sections.mono_l : ∀ k, (∀ y0 y1, LeO (spec_l15Sections.j0 k y0 y1) (spec_l15Sections.j0 (k + 1) y0 y1)) ∧ (∀ y0 y1 y2 y3, LeO (spec_l15Sections.l0 k y0 y1 y2 y3) (spec_l15Sections.l0 (k + 1) y0 y1 y2 y3)) ∧ (∀ y0 y1 y2 y3 y4 y5 y6 y7 y8, LeO (spec_l15Sections.j2 k y0 y1 y2 y3 y4 y5 y6 y7 y8) (spec_l15Sections.j2 (k + 1) y0 y1 y2 y3 y4 y5 y6 y7 y8)) ∧ (∀ y0 y1 y2 y3 y4 y5 y6 y7 y8 y9 y10, LeO (spec_l15Sections.l1 k y0 y1 y2 y3 y4 y5 y6 y7 y8 y9 y10) (spec_l15Sections.l1 (k + 1) y0 y1 y2 y3 y4 y5 y6 y7 y8 y9 y10))
 | 0 => ⟨fun _ _ r h => by simp [spec_l15Sections.j0] at h, fun _ _ _ _ r h => by simp [spec_l15Sections.l0] at h, fun _ _ _ _ _ _ _ _ _ r h => by simp [spec_l15Sections.j2] at h, fun _ _ _ _ _ _ _ _ _ _ _ r h => by simp [spec_l15Sections.l1] at h⟩
 | k + 1 => by
  obtain ⟨ih0, ih1, ih2, ih3⟩ := spec_l15Sections.mono_l k
  refine ⟨?_, ?_, ?_, ?_⟩
  ·intro y0 y1
   unfold spec_l15Sections.j0
   repeat' first
   | (with_reducible exact ih0 _ _)
   | (with_reducible exact ih1 _ _ _ _)
   | (with_reducible exact ih2 _ _ _ _ _ _ _ _ _)
   | (with_reducible exact ih3 _ _ _ _ _ _ _ _ _ _ _)
   | (with_reducible exact spec_GoodName.mono _ _)
   | (with_reducible exact spec_l15Section.mono _ _ _)
   | (with_reducible exact LeO.refl _)
   | (with_reducible exact LeO.none _)
   | (with_reducible refine LeO.ite ?_ ?_)
   | (with_reducible refine LeO.bind ?_ (fun _ => ?_))
   | exact ih0 _ _
   | exact ih1 _ _ _ _
   | exact ih2 _ _ _ _ _ _ _ _ _
   | exact ih3 _ _ _ _ _ _ _ _ _ _ _
   | exact spec_GoodName.mono _ _
   | exact spec_l15Section.mono _ _ _
   | exact LeO.none _
   | refine LeO.ite ?_ ?_
   | refine LeO.bind ?_ (fun _ => ?_)
  ·intro y0 y1 y2 y3
   unfold spec_l15Sections.l0
   repeat' first
   | (with_reducible exact ih0 _ _)
   | (with_reducible exact ih1 _ _ _ _)
   | (with_reducible exact ih2 _ _ _ _ _ _ _ _ _)
   | (with_reducible exact ih3 _ _ _ _ _ _ _ _ _ _ _)
   | (with_reducible exact spec_GoodName.mono _ _)
   | (with_reducible exact spec_l15Section.mono _ _ _)
   | (with_reducible exact LeO.refl _)
   | (with_reducible exact LeO.none _)
   | (with_reducible refine LeO.ite ?_ ?_)
   | (with_reducible refine LeO.bind ?_ (fun _ => ?_))
   | exact ih0 _ _
   | exact ih1 _ _ _ _
   | exact ih2 _ _ _ _ _ _ _ _ _
   | exact ih3 _ _ _ _ _ _ _ _ _ _ _
   | exact spec_GoodName.mono _ _
   | exact spec_l15Section.mono _ _ _
   | exact LeO.none _
   | refine LeO.ite ?_ ?_
   | refine LeO.bind ?_ (fun _ => ?_)
  ·intro y0 y1 y2 y3 y4 y5 y6 y7 y8
   unfold spec_l15Sections.j2
   repeat' first
   | (with_reducible exact ih0 _ _)
   | (with_reducible exact ih1 _ _ _ _)
   | (with_reducible exact ih2 _ _ _ _ _ _ _ _ _)
   | (with_reducible exact ih3 _ _ _ _ _ _ _ _ _ _ _)
   | (with_reducible exact spec_GoodName.mono _ _)
   | (with_reducible exact spec_l15Section.mono _ _ _)
   | (with_reducible exact LeO.refl _)
   | (with_reducible exact LeO.none _)
   | (with_reducible refine LeO.ite ?_ ?_)
   | (with_reducible refine LeO.bind ?_ (fun _ => ?_))
   | exact ih0 _ _
   | exact ih1 _ _ _ _
   | exact ih2 _ _ _ _ _ _ _ _ _
   | exact ih3 _ _ _ _ _ _ _ _ _ _ _
   | exact spec_GoodName.mono _ _
   | exact spec_l15Section.mono _ _ _
   | exact LeO.none _
   | refine LeO.ite ?_ ?_
   | refine LeO.bind ?_ (fun _ => ?_)
  ·intro y0 y1 y2 y3 y4 y5 y6 y7 y8 y9 y10
   unfold spec_l15Sections.l1
   repeat' first
   | (with_reducible exact ih0 _ _)
   | (with_reducible exact ih1 _ _ _ _)
   | (with_reducible exact ih2 _ _ _ _ _ _ _ _ _)
   | (with_reducible exact ih3 _ _ _ _ _ _ _ _ _ _ _)
   | (with_reducible exact spec_GoodName.mono _ _)
   | (with_reducible exact spec_l15Section.mono _ _ _)
   | (with_reducible exact LeO.refl _)
   | (with_reducible exact LeO.none _)
   | (with_reducible refine LeO.ite ?_ ?_)
   | (with_reducible refine LeO.bind ?_ (fun _ => ?_))
   | exact ih0 _ _
   | exact ih1 _ _ _ _
   | exact ih2 _ _ _ _ _ _ _ _ _
   | exact ih3 _ _ _ _ _ _ _ _ _ _ _
   | exact spec_GoodName.mono _ _
   | exact spec_l15Section.mono _ _ _
   | exact LeO.none _
   | refine LeO.ite ?_ ?_
   | refine LeO.bind ?_ (fun _ => ?_)
theorem spec_l15Sections.mono : ∀ a0 k, LeO (spec_l15Sections.f k a0) (spec_l15Sections.f (k + 1) a0) := by
 intro a0 k
 obtain ⟨ih0, ih1, ih2, ih3⟩ := spec_l15Sections.mono_l k
 unfold spec_l15Sections.f
 repeat' first
   | (with_reducible exact ih0 _ _)
   | (with_reducible exact ih1 _ _ _ _)
   | (with_reducible exact ih2 _ _ _ _ _ _ _ _ _)
   | (with_reducible exact ih3 _ _ _ _ _ _ _ _ _ _ _)
   | (with_reducible exact spec_GoodName.mono _ _)
   | (with_reducible exact spec_l15Section.mono _ _ _)
   | (with_reducible exact LeO.refl _)
   | (with_reducible exact LeO.none _)
   | (with_reducible refine LeO.ite ?_ ?_)
   | (with_reducible refine LeO.bind ?_ (fun _ => ?_))
   | exact ih0 _ _
   | exact ih1 _ _ _ _
   | exact ih2 _ _ _ _ _ _ _ _ _
   | exact ih3 _ _ _ _ _ _ _ _ _ _ _
   | exact spec_GoodName.mono _ _
   | exact spec_l15Section.mono _ _ _
   | exact LeO.none _
   | refine LeO.ite ?_ ?_
   | refine LeO.bind ?_ (fun _ => ?_)
def spec_l15Sections.T6 : Bool × List (List Nat × List Nat) := (true, [([], []), ([0], [0]), ([1], [1]), ([2], [2]), ([3, 2], [3]), ([4], [4]), ([4], [4]), ([5, 6, 4], [4, 5, 6]), ([4], [4]), ([8, 4], [4, 8]), ([7, 9, 4, 4], [4, 7, 9]), ([10, 4], [4, 10]), ([4, 11], [4, 11]), ([12, 10], [12]), ([13], [13]), ([14, 13], [13, 14]), ([15, 13, 13], [13, 15]), ([16, 13], [13, 16]), ([13, 17], [13, 17]), ([18, 16], [18]), ([19], [19]), ([19], [19]), ([21, 19], [19, 21]), ([20, 22, 19, 19], [19, 20, 22]), ([23, 19], [19, 23]), ([19, 24], [19, 24])])
def spec_l15Sections.B6 : List Nat := [0, 1, 3, 7, 15, 31, 31, 127, 31, 287, 1023, 2047, 4095, 8191, 16383, 32767, 65535, 131071, 262143, 524287, 1048575, 1048575, 3145727, 8388607, 16777215, 33554431]
theorem spec_l15Sections.tab6 : rtab .any (opsOf Tryd.f40 6) = spec_l15Sections.T6 := by kernel_rfl
theorem spec_l15Sections.bits6 : waitsOk spec_l15Sections.T6.2 spec_l15Sections.B6 = true := by kernel_rfl
set_option maxHeartbeats 8000000 in
set_option maxRecDepth 100000 in
theorem spec_l15Sections.calls (k : Nat) (A0 : Option Addr) (c0 : Nat) (l0 : List (S49)) (r : Bool) (w : World) (hr0 : Kd.C k49 w A0 l0.length l0) (hc0 : l0.length ≤ c0) (h : spec_l15Sections.f k l0 = some r) :
  Calls Tryd.prog 40 #[.slice A0 l0.length c0] w fun e w' => e = .returned (.bool r) ∧ Below w.heap.size w w' := by
 have hu49 := Tryd.underlying49
 have HR0 := am_ hr0
 have HC0 := am_ hc0
 clear hr0 hc0
 have HB := am_ (Below.refl w.heap.size w)
 have H : (if (l0.length : Int) < 1 then (spec_l15Sections.j0 k l0 true) else (spec_l15Sections.j0 k l0 (decide ((l0.length : Int) > 64)))) = some r := h
 clear h
 have HC2 := am_ H
 clear H
 go_enter Tryd.func40, Tryd.ntmps40
 go_upto_region 1 with (fail)
 go_cut [14] (fun v14 wc => ∃ (kq : Nat) (x14_1 : Bool), v14 = .bool x14_1 ∧ Aside0 (spec_l15Sections.j0 kq l0 x14_1 = some r) ∧ Aside0 (kq ≤ k) ∧ Aside0 (Below w.heap.size w wc))
 case first =>
  have H := HC2.out
  clear HC2
  by_cases c3 : (l0.length : Int) < 1
  ·rw [if_pos c3] at H
   have c3b0 : decide ((l0.length : Int) < 1) = true := decide_eq_true c3
   have c3b1 : decide (l0.length < 1) = true := decide_eq_true (by omega)
   clear c3
   (first | rw [c3b0] | (simp only [i64_w, i32_w]; rw [c3b0]) | skip)
   have H' := am_ H
   clear H
   go_wp2
   go_meet
   case rel => exact ⟨_, (true), sq_, H', ⟨by first | omega | exact Nat.le_refl _⟩, ⟨bw_ HB.out⟩⟩
  ·rw [if_neg c3] at H
   have c3b0 : decide ((l0.length : Int) < 1) = false := decide_eq_false c3
   have c3b1 : decide (l0.length < 1) = false := decide_eq_false (by omega)
   clear c3
   (first | rw [c3b0] | (simp only [i64_w, i32_w]; rw [c3b0]) | skip)
   have H' := am_ H
   clear H
   go_wp2
   go_meet
   case rel => exact ⟨_, (decide ((l0.length : Int) > 64)), sq_, H', ⟨by first | omega | exact Nat.le_refl _⟩, ⟨bw_ HB.out⟩⟩
 case rest =>
  clear HC2
  obtain ⟨kq, x14_1, rfl, HA, HJ1, HB⟩ := hcut
  cases kq with
  | zero => exact absurd HA.out (by simp [spec_l15Sections.j0])
  | succ kj1 =>
   have H := HA.out
   clear HA
   simp only [spec_l15Sections.j0] at H
   by_cases c4 : x14_1 = true
   ·subst c4
    replace H := it_ H rfl
    obtain rfl := Option.some.inj H
    go_wp2
    go_ret
    exact ⟨by first | rfl | (simp [errW_none, errW_some] <;> rfl) | (simp [*, errW_none, errW_some] <;> rfl), bw_ HB.out⟩
   ·replace c4 := Bool.eq_false_iff.mpr c4
    subst c4
    replace H := if_ H Bool.false_ne_true
    have H' := am_ H
    clear H
    go_wp2
    go_loopg [17] kj1 (fun kq v17 w' => ∃ (x17_2 : Int), v17 = .int .i64 x17_2 ∧ Aside0 (spec_l15Sections.l0 kq l0 l0 (l0.length : Int) x17_2 = some r) ∧ Aside0 (kq ≤ kj1) ∧ Aside0 (Below w.heap.size w w'))
    case atStart => exact ⟨(0), sq_, H', ⟨Nat.le_refl _⟩, ⟨bw_ HB.out⟩⟩
    case round =>
     clear H'
     try clear c4
     obtain ⟨x17_2, rfl, HA, HK2, HB⟩ := hrel
     cases gk with
     | zero => exact absurd HA.out (by simp [spec_l15Sections.l0])
     | succ k2 =>
      have H := HA.out
      clear HA
      simp only [spec_l15Sections.l0] at H
      by_cases c5 : x17_2 < (l0.length : Int)
      ·rw [if_pos c5] at H
       have c5b0 : decide (x17_2 < (l0.length : Int)) = true := decide_eq_true c5
       clear c5
       obtain ⟨c6, H⟩ := ifn_ H
       have c6b0 : decide (0 ≤ x17_2) = true := decide_eq_true c6
       clear c6
       obtain ⟨c7, H⟩ := ifn_ H
       have c7b0 : decide (x17_2 < (l0.length : Int)) = true := decide_eq_true c7
       clear c7
       have HC8 := am_ H
       clear H
       have p111 : 0 ≤ (x17_2 : Int) := od_
       have q111 : x17_2 < (l0.length : Int) := od_
       obtain ⟨ad111, A111_2, c111_2, e111, hx111_0, hx111_1, hx111_2, hx111_3, hl111_2, hi111_2⟩ := at_T49 HR0.out x17_2 p111 q111
       cases e111
       (try replace hx111_0 := hc_ HB.out hx111_0)
       (try replace hx111_1 := hc_ HB.out hx111_1)
       (try replace hx111_2 := hc_ HB.out hx111_2)
       (try replace hx111_3 := hc_ HB.out hx111_3)
       have HR111_2 := am_ hi111_2
       have HC111_2 := am_ hl111_2
       clear hi111_2 hl111_2
       replace p111 := eq_true p111
       replace q111 := eq_true q111
       go_upto_region 6 with (first | ((with_reducible refine gate_dst (N := 4) rfl ?_); (try (refine gate_guard (by rfl) ?_; dsimp only)); refine bx_ 4 #[.string (⟨#[]⟩ : ByteArray), .int .i64 0, .slice none 0 0, .string (⟨#[]⟩ : ByteArray)] 49 ?_; intro gb112 hg w9 hbox hb; have n0_ := am_ (below_step (bw_ HB.out) hb); have n1_ := am_ (hbox); have n2_ := am_ (gs_ hg (bw_ HB.out)); have n3_ := am_ (gs_ hg (bw_ HB.out)); replace HB := n0_; have BK112 := n1_; have GW112 := n2_; have GE112 := n3_; clear n0_ n1_ n2_ n3_; clear hb hbox hg; have hcz10_0 := cz_ BK112.out 0; have hcz10_1 := cz_ BK112.out 1; have hcz10_2 := cz_ BK112.out 2; have hcz10_3 := cz_ BK112.out 3; have hfz10_0 := blk_frozen BK112.out 0; have hfz10_1 := blk_frozen BK112.out 1; have hfz10_2 := blk_frozen BK112.out 2; have hfz10_3 := blk_frozen BK112.out 3))
       (try simp only [Act.put, List.setIfInBounds_toArray, List.set_cons_zero, List.set_cons_succ])
       go_cut [47] (fun v47 wc => ∃ (kq : Nat) (x47_7 : Bool), v47 = .bool x47_7 ∧ Aside0 (spec_l15Sections.j2 kq l0 l0 (l0.length : Int) x17_2 x47_7 ((rd_T49 l0 x17_2).f0) ((rd_T49 l0 x17_2).f1) ((rd_T49 l0 x17_2).f2) ((rd_T49 l0 x17_2).f3) = some r) ∧ Aside0 (kq ≤ k2) ∧ Aside0 (wc.heap[gb112]? = some (.cells #[.string ((rd_T49 l0 x17_2).f0), .int .i64 ((rd_T49 l0 x17_2).f1), (.slice A111_2 ((rd_T49 l0 x17_2).f2).length c111_2), .string ((rd_T49 l0 x17_2).f3)] 49 (0, 0))) ∧ Aside0 (Below w.heap.size w wc))
       case first =>
        have H := HC8.out
        clear HC8
        obtain ⟨t113, A110, H⟩ := bE_ H
        have A11 := am_ A110
        clear A110
        by_cases c12 : t113 = true
        ·subst c12
         replace H := it_ H rfl
         have c13b0 := eq_true (od_ : 0 ≤ x17_2)
         obtain ⟨c14, H⟩ := ifn_ H
         have c14b0 := eq_true c14
         have c14b1 : decide (x17_2 ≤ (l0.length : Int)) = true := decide_eq_true c14
         clear c14
         obtain ⟨y114, hy114⟩ : ∃ y_ : List (S49), y_ = (l0.take (x17_2 : Int).toNat) := ⟨_, rfl⟩
         replace H : ((spec_l15Section.f k2 y114 ((rd_T49 l0 x17_2).f0)).bind fun t118 => (if t118 ≥ 0 then (spec_l15Sections.j2 k2 l0 l0 (l0.length : Int) x17_2 true ((rd_T49 l0 x17_2).f0) ((rd_T49 l0 x17_2).f1) ((rd_T49 l0 x17_2).f2) ((rd_T49 l0 x17_2).f3)) else ((spec_l1In.f ((rd_T49 l0 x17_2).f1) 1 64).bind fun t119 => (if t119 = true then ((spec_l15Section.f k2 l0 ((rd_T49 l0 x17_2).f3)).bind fun t120 => (spec_l15Sections.j2 k2 l0 l0 (l0.length : Int) x17_2 (decide (t120 < 0)) ((rd_T49 l0 x17_2).f0) ((rd_T49 l0 x17_2).f1) ((rd_T49 l0 x17_2).f2) ((rd_T49 l0 x17_2).f3))) else (spec_l15Sections.j2 k2 l0 l0 (l0.length : Int) x17_2 true ((rd_T49 l0 x17_2).f0) ((rd_T49 l0 x17_2).f1) ((rd_T49 l0 x17_2).f2) ((rd_T49 l0 x17_2).f3)))))) = some r := by first | (rw [hy114]; with_reducible exact H) | (have H2_ := (Option.bind_some _ _).symm.trans H; rw [hy114]; with_reducible exact H2_) | (have H2_ := (Option.bind_some _ _).symm.trans H; with_reducible exact H2_) | with_reducible exact H | (rw [hy114]; exact H) | exact H
         have Ny114 := am_ hy114
         clear hy114
         obtain ⟨t118, A150, H⟩ := bE_ H
         have A15 := am_ A150
         clear A150
         by_cases c16 : t118 ≥ 0
         ·rw [if_pos c16] at H
          have c16b0 : decide (0 ≤ t118) = true := decide_eq_true c16
          clear c16
          (first | rw [c16b0] | (simp only [i64_w, i32_w]; rw [c16b0]) | skip)
          have H' := am_ H
          clear H
          try go_wp2
          have n0_ : Aside0 (((((w9.setCell ⟨gb112, 0, none⟩ (.string ((rd_T49 l0 x17_2).f0))).setCell ⟨gb112, 1, none⟩ (.int .i64 ((rd_T49 l0 x17_2).f1))).setCell ⟨gb112, 2, none⟩ (.slice A111_2 ((rd_T49 l0 x17_2).f2).length c111_2)).setCell ⟨gb112, 3, none⟩ (.string ((rd_T49 l0 x17_2).f3))).heap[gb112]? = some (.cells #[.string ((rd_T49 l0 x17_2).f0), .int .i64 ((rd_T49 l0 x17_2).f1), .slice A111_2 ((rd_T49 l0 x17_2).f2).length c111_2, .string ((rd_T49 l0 x17_2).f3)] 49 (0, 0))) := ⟨by (with_reducible repeat (first | refine blk_drewN ?_ _ | refine blk_drew ?_ | refine blk_alloc ?_ _)); refine blk_put (cs := #[.string ((rd_T49 l0 x17_2).f0), .int .i64 ((rd_T49 l0 x17_2).f1), .slice A111_2 ((rd_T49 l0 x17_2).f2).length c111_2, .string (⟨#[]⟩ : ByteArray)]) ?_ 3 _ rfl; (with_reducible repeat (first | refine blk_drewN ?_ _ | refine blk_drew ?_ | refine blk_alloc ?_ _)); refine blk_put (cs := #[.string ((rd_T49 l0 x17_2).f0), .int .i64 ((rd_T49 l0 x17_2).f1), .slice none 0 0, .string (⟨#[]⟩ : ByteArray)]) ?_ 2 _ rfl; (with_reducible repeat (first | refine blk_drewN ?_ _ | refine blk_drew ?_ | refine blk_alloc ?_ _)); refine blk_put (cs := #[.string ((rd_T49 l0 x17_2).f0), .int .i64 0, .slice none 0 0, .string (⟨#[]⟩ : ByteArray)]) ?_ 1 _ rfl; (with_reducible repeat (first | refine blk_drewN ?_ _ | refine blk_drew ?_ | refine blk_alloc ?_ _)); refine blk_put (cs := #[.string (⟨#[]⟩ : ByteArray), .int .i64 0, .slice none 0 0, .string (⟨#[]⟩ : ByteArray)]) ?_ 0 _ rfl; (with_reducible repeat (first | refine blk_drewN ?_ _ | refine blk_drew ?_ | refine blk_alloc ?_ _)); exact BK112.out⟩
          have n1_ : Aside0 (Below w.heap.size w ((((w9.setCell ⟨gb112, 0, none⟩ (.string ((rd_T49 l0 x17_2).f0))).setCell ⟨gb112, 1, none⟩ (.int .i64 ((rd_T49 l0 x17_2).f1))).setCell ⟨gb112, 2, none⟩ (.slice A111_2 ((rd_T49 l0 x17_2).f2).length c111_2)).setCell ⟨gb112, 3, none⟩ (.string ((rd_T49 l0 x17_2).f3)))) := ⟨bw_ HB.out⟩
          (try clear BK112)
          (try clear HB)
          generalize ((((w9.setCell ⟨gb112, 0, none⟩ (.string ((rd_T49 l0 x17_2).f0))).setCell ⟨gb112, 1, none⟩ (.int .i64 ((rd_T49 l0 x17_2).f1))).setCell ⟨gb112, 2, none⟩ (.slice A111_2 ((rd_T49 l0 x17_2).f2).length c111_2)).setCell ⟨gb112, 3, none⟩ (.string ((rd_T49 l0 x17_2).f3))) = w17 at n0_ n1_ ⊢
          have BK112 := n0_
          have HB := n1_
          clear n0_ n1_
          have n0_ := am_ (blk_drew BK112.out)
          have n1_ := am_ (below_drew1 HB.out)
          replace BK112 := n0_
          replace HB := n1_
          clear n0_ n1_
          refine start_ (n := 26) (S := fun w' => w'.cell? ⟨gb112, 0, none⟩ = some (.string ((rd_T49 l0 x17_2).f0)) ∧ w'.cell? ⟨gb112, 1, none⟩ = some (.int .i64 ((rd_T49 l0 x17_2).f1)) ∧ w'.cell? ⟨gb112, 2, none⟩ = some (.slice A111_2 ((rd_T49 l0 x17_2).f2).length c111_2) ∧ w'.cell? ⟨gb112, 3, none⟩ = some (.string ((rd_T49 l0 x17_2).f3))) (ds := []) (Array.replicate 26 false) (by kernel_rfl) rfl rfl ⟨cz_ BK112.out 0, cz_ BK112.out 1, cz_ BK112.out 2, cz_ BK112.out 3⟩ (fun hHeld => ?_); refine with_tabW spec_l15Sections.tab6 spec_l15Sections.bits6 (fun HT_ HW_ => ?_)
          generalize w17.drew = w18 at BK112 HB hHeld ⊢
          refine pS_ 0 22 HT_ ?_
          refine tS_ 1 23 HT_ HW_ hHeld ?_
          refine oS_ 2 24 HT_ (fun K hK => ?_)
          refine goes_ Tryd.func52 (by kernel_rfl) rfl #[.string ((rd_T49 l0 x17_2).f0)] (by rfl) rfl rfl (by (try simp only [List.map_toArray, List.map_cons, List.map_nil]); first | done | rfl | (simp only [List.length_drop, List.length_take]; rfl)) ?_
          with_reducible refine (spec_GoodName.calls k2 ((rd_T49 l0 x17_2).f0) true _ A11.out).mono ?_
          rintro e w' ⟨rfl, ⟨nd, rfl⟩⟩
          refine ⟨_, rfl, ?_⟩
          have q19 : (x17_2 : Int) ≤ ((l0.length : Int) : Int) := od_
          obtain ⟨i019, hi019, _, hsz19, _⟩ := info_parts info49
          have hroom19 : l0.length ≤ c0 := HC0.out
          have hC19 : Kd.C k49 _ (some ad111) l0.length l0 := HR0.out
          have hcut19 := cut_to (P := Tryd.prog) 31 49 .i64 Tryd.underlying31 hi019 (some ad111) l0.length c0 x17_2 od_ q19 hroom19
          have hr19 := Kd.C_take (m := (x17_2 : Int).toNat) hC19 (by omega)
          have hy19 : y114.length = (x17_2 : Int).toNat := (by rw [Ny114.out, List.length_take]; omega)
          rw [← Ny114.out] at hr19
          rw [← hy19] at hcut19
          have HR117 := am_ hr19
          have HC117 := am_ (show y114.length ≤ c0 from by omega)
          clear hr19 hC19 hroom19 hi019 hsz19
          have KY19 := am_ hy19
          clear hy19
          replace q19 := eq_true q19
          refine hK.out _ _ ⟨cz_ BK112.out 0, cz_ BK112.out 1, cz_ BK112.out 2, cz_ BK112.out 3⟩ (fun hHeld => ?_)
          clear hK K
          refine nS_ ?_
          refine pS_ 3 25 HT_ ?_
          refine pS_ 4 26 HT_ ?_
          refine pS_ 5 27 HT_ ?_
          refine pS_ 6 28 HT_ ?_
          refine pS_ 7 29 HT_ ?_
          refine pS_ 8 30 HT_ ?_
          refine tS_ 9 31 HT_ HW_ hHeld ?_
          refine oS_ 10 32 HT_ (fun K hK => ?_)
          refine goes_ Tryd.func22 (by kernel_rfl) rfl #[.slice (some ad111) y114.length c0, .string ((rd_T49 l0 x17_2).f0)] (by rfl) rfl rfl (by (try simp only [List.map_toArray, List.map_cons, List.map_nil]); first | done | rfl | (simp only [List.length_drop, List.length_take]; rfl)) ?_
          with_reducible refine (spec_l15Section.calls k2 _ _ y114 ((rd_T49 l0 x17_2).f0) t118 _ ?side1 ?side2 A15.out).mono ?_
          (case side1 => repeat (first | exact (Kd.C_below HR117.out (bw_ HB.out)) | (with_reducible refine Kd.C_alloc ?_ _) | (with_reducible refine Kd.C_drewN ?_ _) | (with_reducible refine Kd.C_drew ?_)))
          (case side2 => exact HC117.out)
          rintro e w20 ⟨rfl, hb⟩
          refine ⟨_, rfl, ?_⟩
          have n0_ := am_ (blk_below (bk_ BK112.out) hb)
          have n1_ := am_ (below_step (bw_ HB.out) hb)
          replace BK112 := n0_
          replace HB := n1_
          clear n0_ n1_
          (try clear hb)
          (try clear hb2)
          (try clear hk)
          (try clear hi)
          refine hK.out _ _ ⟨cz_ BK112.out 0, cz_ BK112.out 1, cz_ BK112.out 2, cz_ BK112.out 3⟩ (fun hHeld => ?_)
          clear hK K
          refine nS_ ?_
          refine pS_ 11 33 HT_ ?_
          refine pS_ 12 34 HT_ ?_
          refine pS_ 13 35 HT_ ?_
          refine pU_ 14 36 HT_ ?_
          refine pU_ 15 37 HT_ ?_
          refine pU_ 16 38 HT_ ?_
          refine pU_ 17 39 HT_ ?_
          refine pS_ 18 40 HT_ ?_
          refine pS_ 19 41 HT_ ?_
          refine pU_ 20 42 HT_ ?_
          refine pU_ 21 43 HT_ ?_
          refine pU_ 22 44 HT_ ?_
          refine pU_ 23 45 HT_ ?_
          refine pU_ 24 46 HT_ ?_
          refine pS_ 25 47 HT_ ?_
          refine done_ (done_of HT_.out (by kernel_rfl)) ?_
          try go_wp2
          go_meet
          case rel => exact ⟨_, (true), sq_, H', ⟨by have := HJ1.out; have := HK2.out; first | omega | exact Nat.le_refl _⟩, ⟨bk_ BK112.out⟩, ⟨bw_ HB.out⟩⟩
         ·rw [if_neg c16] at H
          have c16b0 : decide (0 ≤ t118) = false := decide_eq_false c16
          clear c16
          (first | rw [c16b0] | (simp only [i64_w, i32_w]; rw [c16b0]) | skip)
          obtain ⟨t119, A210, H⟩ := bE_ H
          have A21 := am_ A210
          clear A210
          by_cases c22 : t119 = true
          ·subst c22
           replace H := it_ H rfl
           obtain ⟨t120, A230, H⟩ := bE_ H
           have A23 := am_ A230
           clear A230
           have H' := am_ H
           clear H
           try go_wp2
           have n0_ : Aside0 (((((w9.setCell ⟨gb112, 0, none⟩ (.string ((rd_T49 l0 x17_2).f0))).setCell ⟨gb112, 1, none⟩ (.int .i64 ((rd_T49 l0 x17_2).f1))).setCell ⟨gb112, 2, none⟩ (.slice A111_2 ((rd_T49 l0 x17_2).f2).length c111_2)).setCell ⟨gb112, 3, none⟩ (.string ((rd_T49 l0 x17_2).f3))).heap[gb112]? = some (.cells #[.string ((rd_T49 l0 x17_2).f0), .int .i64 ((rd_T49 l0 x17_2).f1), .slice A111_2 ((rd_T49 l0 x17_2).f2).length c111_2, .string ((rd_T49 l0 x17_2).f3)] 49 (0, 0))) := ⟨by (with_reducible repeat (first | refine blk_drewN ?_ _ | refine blk_drew ?_ | refine blk_alloc ?_ _)); refine blk_put (cs := #[.string ((rd_T49 l0 x17_2).f0), .int .i64 ((rd_T49 l0 x17_2).f1), .slice A111_2 ((rd_T49 l0 x17_2).f2).length c111_2, .string (⟨#[]⟩ : ByteArray)]) ?_ 3 _ rfl; (with_reducible repeat (first | refine blk_drewN ?_ _ | refine blk_drew ?_ | refine blk_alloc ?_ _)); refine blk_put (cs := #[.string ((rd_T49 l0 x17_2).f0), .int .i64 ((rd_T49 l0 x17_2).f1), .slice none 0 0, .string (⟨#[]⟩ : ByteArray)]) ?_ 2 _ rfl; (with_reducible repeat (first | refine blk_drewN ?_ _ | refine blk_drew ?_ | refine blk_alloc ?_ _)); refine blk_put (cs := #[.string ((rd_T49 l0 x17_2).f0), .int .i64 0, .slice none 0 0, .string (⟨#[]⟩ : ByteArray)]) ?_ 1 _ rfl; (with_reducible repeat (first | refine blk_drewN ?_ _ | refine blk_drew ?_ | refine blk_alloc ?_ _)); refine blk_put (cs := #[.string (⟨#[]⟩ : ByteArray), .int .i64 0, .slice none 0 0, .string (⟨#[]⟩ : ByteArray)]) ?_ 0 _ rfl; (with_reducible repeat (first | refine blk_drewN ?_ _ | refine blk_drew ?_ | refine blk_alloc ?_ _)); exact BK112.out⟩
           have n1_ : Aside0 (Below w.heap.size w ((((w9.setCell ⟨gb112, 0, none⟩ (.string ((rd_T49 l0 x17_2).f0))).setCell ⟨gb112, 1, none⟩ (.int .i64 ((rd_T49 l0 x17_2).f1))).setCell ⟨gb112, 2, none⟩ (.slice A111_2 ((rd_T49 l0 x17_2).f2).length c111_2)).setCell ⟨gb112, 3, none⟩ (.string ((rd_T49 l0 x17_2).f3)))) := ⟨bw_ HB.out⟩
           (try clear BK112)
           (try clear HB)
           generalize ((((w9.setCell ⟨gb112, 0, none⟩ (.string ((rd_T49 l0 x17_2).f0))).setCell ⟨gb112, 1, none⟩ (.int .i64 ((rd_T49 l0 x17_2).f1))).setCell ⟨gb112, 2, none⟩ (.slice A111_2 ((rd_T49 l0 x17_2).f2).length c111_2)).setCell ⟨gb112, 3, none⟩ (.string ((rd_T49 l0 x17_2).f3))) = w24 at n0_ n1_ ⊢
           have BK112 := n0_
           have HB := n1_
           clear n0_ n1_
           have n0_ := am_ (blk_drew BK112.out)
           have n1_ := am_ (below_drew1 HB.out)
           replace BK112 := n0_
           replace HB := n1_
           clear n0_ n1_
           refine start_ (n := 26) (S := fun w' => w'.cell? ⟨gb112, 0, none⟩ = some (.string ((rd_T49 l0 x17_2).f0)) ∧ w'.cell? ⟨gb112, 1, none⟩ = some (.int .i64 ((rd_T49 l0 x17_2).f1)) ∧ w'.cell? ⟨gb112, 2, none⟩ = some (.slice A111_2 ((rd_T49 l0 x17_2).f2).length c111_2) ∧ w'.cell? ⟨gb112, 3, none⟩ = some (.string ((rd_T49 l0 x17_2).f3))) (ds := []) (Array.replicate 26 false) (by kernel_rfl) rfl rfl ⟨cz_ BK112.out 0, cz_ BK112.out 1, cz_ BK112.out 2, cz_ BK112.out 3⟩ (fun hHeld => ?_); refine with_tabW spec_l15Sections.tab6 spec_l15Sections.bits6 (fun HT_ HW_ => ?_)
           generalize w24.drew = w25 at BK112 HB hHeld ⊢
           refine pS_ 0 22 HT_ ?_
           refine tS_ 1 23 HT_ HW_ hHeld ?_
           refine oS_ 2 24 HT_ (fun K hK => ?_)
           refine goes_ Tryd.func52 (by kernel_rfl) rfl #[.string ((rd_T49 l0 x17_2).f0)] (by rfl) rfl rfl (by (try simp only [List.map_toArray, List.map_cons, List.map_nil]); first | done | rfl | (simp only [List.length_drop, List.length_take]; rfl)) ?_
           with_reducible refine (spec_GoodName.calls k2 ((rd_T49 l0 x17_2).f0) true _ A11.out).mono ?_
           rintro e w' ⟨rfl, ⟨nd, rfl⟩⟩
           refine ⟨_, rfl, ?_⟩
           have q26 : (x17_2 : Int) ≤ ((l0.length : Int) : Int) := od_
           obtain ⟨i026, hi026, _, hsz26, _⟩ := info_parts info49
           have hroom26 : l0.length ≤ c0 := HC0.out
           have hC26 : Kd.C k49 _ (some ad111) l0.length l0 := HR0.out
           have hcut26 := cut_to (P := Tryd.prog) 31 49 .i64 Tryd.underlying31 hi026 (some ad111) l0.length c0 x17_2 od_ q26 hroom26
           have hr26 := Kd.C_take (m := (x17_2 : Int).toNat) hC26 (by omega)
           have hy26 : y114.length = (x17_2 : Int).toNat := (by rw [Ny114.out, List.length_take]; omega)
           rw [← Ny114.out] at hr26
           rw [← hy26] at hcut26
           have HR117 := am_ hr26
           have HC117 := am_ (show y114.length ≤ c0 from by omega)
           clear hr26 hC26 hroom26 hi026 hsz26
           have KY26 := am_ hy26
           clear hy26
           replace q26 := eq_true q26
           refine hK.out _ _ ⟨cz_ BK112.out 0, cz_ BK112.out 1, cz_ BK112.out 2, cz_ BK112.out 3⟩ (fun hHeld => ?_)
           clear hK K
           refine nS_ ?_
           refine pS_ 3 25 HT_ ?_
           refine pS_ 4 26 HT_ ?_
           refine pS_ 5 27 HT_ ?_
           refine pS_ 6 28 HT_ ?_
           refine pS_ 7 29 HT_ ?_
           refine pS_ 8 30 HT_ ?_
           refine tS_ 9 31 HT_ HW_ hHeld ?_
           refine oS_ 10 32 HT_ (fun K hK => ?_)
           refine goes_ Tryd.func22 (by kernel_rfl) rfl #[.slice (some ad111) y114.length c0, .string ((rd_T49 l0 x17_2).f0)] (by rfl) rfl rfl (by (try simp only [List.map_toArray, List.map_cons, List.map_nil]); first | done | rfl | (simp only [List.length_drop, List.length_take]; rfl)) ?_
           with_reducible refine (spec_l15Section.calls k2 _ _ y114 ((rd_T49 l0 x17_2).f0) t118 _ ?side1 ?side2 A15.out).mono ?_
           (case side1 => repeat (first | exact (Kd.C_below HR117.out (bw_ HB.out)) | (with_reducible refine Kd.C_alloc ?_ _) | (with_reducible refine Kd.C_drewN ?_ _) | (with_reducible refine Kd.C_drew ?_)))
           (case side2 => exact HC117.out)
           rintro e w27 ⟨rfl, hb⟩
           refine ⟨_, rfl, ?_⟩
           have n0_ := am_ (blk_below (bk_ BK112.out) hb)
           have n1_ := am_ (below_step (bw_ HB.out) hb)
           replace BK112 := n0_
           replace HB := n1_
           clear n0_ n1_
           (try clear hb)
           (try clear hb2)
           (try clear hk)
           (try clear hi)
           refine hK.out _ _ ⟨cz_ BK112.out 0, cz_ BK112.out 1, cz_ BK112.out 2, cz_ BK112.out 3⟩ (fun hHeld => ?_)
           clear hK K
           refine nS_ ?_
           refine pS_ 11 33 HT_ ?_
           refine pS_ 12 34 HT_ ?_
           refine pS_ 13 35 HT_ ?_
           refine pS_ 14 36 HT_ ?_
           refine tS_ 15 37 HT_ HW_ hHeld ?_
           refine oS_ 16 38 HT_ (fun K hK => ?_)
           refine goes_ Tryd.func21 (by kernel_rfl) rfl #[.int .i64 ((rd_T49 l0 x17_2).f1), .int .i64 1, .int .i64 64] (by rfl) rfl rfl (by (try simp only [List.map_toArray, List.map_cons, List.map_nil]); first | done | rfl | (simp only [List.length_drop, List.length_take]; rfl)) ?_
           with_reducible refine (spec_l1In.calls ((rd_T49 l0 x17_2).f1) 1 64 true _ A21.out).mono ?_
           rintro e w' ⟨rfl, ⟨nd, rfl⟩⟩
           refine ⟨_, rfl, ?_⟩
           refine hK.out _ _ ⟨cz_ BK112.out 0, cz_ BK112.out 1, cz_ BK112.out 2, cz_ BK112.out 3⟩ (fun hHeld => ?_)
           clear hK K
           refine nS_ ?_
           refine pS_ 17 39 HT_ ?_
           refine pS_ 18 40 HT_ ?_
           refine pS_ 19 41 HT_ ?_
           refine pS_ 20 42 HT_ ?_
           refine pS_ 21 43 HT_ ?_
           refine tS_ 22 44 HT_ HW_ hHeld ?_
           refine oS_ 23 45 HT_ (fun K hK => ?_)
           refine goes_ Tryd.func22 (by kernel_rfl) rfl #[.slice (some ad111) l0.length c0, .string ((rd_T49 l0 x17_2).f3)] (by rfl) rfl rfl (by (try simp only [List.map_toArray, List.map_cons, List.map_nil]); first | done | rfl | (simp only [List.length_drop, List.length_take]; rfl)) ?_
           with_reducible refine (spec_l15Section.calls k2 _ _ l0 ((rd_T49 l0 x17_2).f3) t120 _ ?side1 ?side2 A23.out).mono ?_
           (case side1 => repeat (first | exact (Kd.C_below HR0.out (bw_ HB.out)) | (with_reducible refine Kd.C_alloc ?_ _) | (with_reducible refine Kd.C_drewN ?_ _) | (with_reducible refine Kd.C_drew ?_)))
           (case side2 => exact HC0.out)
           rintro e w28 ⟨rfl, hb⟩
           refine ⟨_, rfl, ?_⟩
           have n0_ := am_ (blk_below (bk_ BK112.out) hb)
           have n1_ := am_ (below_step (bw_ HB.out) hb)
           replace BK112 := n0_
           replace HB := n1_
           clear n0_ n1_
           (try clear hb)
           (try clear hb2)
           (try clear hk)
           (try clear hi)
           refine hK.out _ _ ⟨cz_ BK112.out 0, cz_ BK112.out 1, cz_ BK112.out 2, cz_ BK112.out 3⟩ (fun hHeld => ?_)
           clear hK K
           refine nS_ ?_
           refine pS_ 24 46 HT_ ?_
           refine pS_ 25 47 HT_ ?_
           refine done_ (done_of HT_.out (by kernel_rfl)) ?_
           try go_wp2
           go_meet
           case rel => exact ⟨_, (decide (t120 < 0)), sq_, H', ⟨by have := HJ1.out; have := HK2.out; first | omega | exact Nat.le_refl _⟩, ⟨bk_ BK112.out⟩, ⟨bw_ HB.out⟩⟩
          ·replace c22 := Bool.eq_false_iff.mpr c22
           subst c22
           replace H := if_ H Bool.false_ne_true
           have H' := am_ H
           clear H
           try go_wp2
           have n0_ : Aside0 (((((w9.setCell ⟨gb112, 0, none⟩ (.string ((rd_T49 l0 x17_2).f0))).setCell ⟨gb112, 1, none⟩ (.int .i64 ((rd_T49 l0 x17_2).f1))).setCell ⟨gb112, 2, none⟩ (.slice A111_2 ((rd_T49 l0 x17_2).f2).length c111_2)).setCell ⟨gb112, 3, none⟩ (.string ((rd_T49 l0 x17_2).f3))).heap[gb112]? = some (.cells #[.string ((rd_T49 l0 x17_2).f0), .int .i64 ((rd_T49 l0 x17_2).f1), .slice A111_2 ((rd_T49 l0 x17_2).f2).length c111_2, .string ((rd_T49 l0 x17_2).f3)] 49 (0, 0))) := ⟨by (with_reducible repeat (first | refine blk_drewN ?_ _ | refine blk_drew ?_ | refine blk_alloc ?_ _)); refine blk_put (cs := #[.string ((rd_T49 l0 x17_2).f0), .int .i64 ((rd_T49 l0 x17_2).f1), .slice A111_2 ((rd_T49 l0 x17_2).f2).length c111_2, .string (⟨#[]⟩ : ByteArray)]) ?_ 3 _ rfl; (with_reducible repeat (first | refine blk_drewN ?_ _ | refine blk_drew ?_ | refine blk_alloc ?_ _)); refine blk_put (cs := #[.string ((rd_T49 l0 x17_2).f0), .int .i64 ((rd_T49 l0 x17_2).f1), .slice none 0 0, .string (⟨#[]⟩ : ByteArray)]) ?_ 2 _ rfl; (with_reducible repeat (first | refine blk_drewN ?_ _ | refine blk_drew ?_ | refine blk_alloc ?_ _)); refine blk_put (cs := #[.string ((rd_T49 l0 x17_2).f0), .int .i64 0, .slice none 0 0, .string (⟨#[]⟩ : ByteArray)]) ?_ 1 _ rfl; (with_reducible repeat (first | refine blk_drewN ?_ _ | refine blk_drew ?_ | refine blk_alloc ?_ _)); refine blk_put (cs := #[.string (⟨#[]⟩ : ByteArray), .int .i64 0, .slice none 0 0, .string (⟨#[]⟩ : ByteArray)]) ?_ 0 _ rfl; (with_reducible repeat (first | refine blk_drewN ?_ _ | refine blk_drew ?_ | refine blk_alloc ?_ _)); exact BK112.out⟩
           have n1_ : Aside0 (Below w.heap.size w ((((w9.setCell ⟨gb112, 0, none⟩ (.string ((rd_T49 l0 x17_2).f0))).setCell ⟨gb112, 1, none⟩ (.int .i64 ((rd_T49 l0 x17_2).f1))).setCell ⟨gb112, 2, none⟩ (.slice A111_2 ((rd_T49 l0 x17_2).f2).length c111_2)).setCell ⟨gb112, 3, none⟩ (.string ((rd_T49 l0 x17_2).f3)))) := ⟨bw_ HB.out⟩
           (try clear BK112)
           (try clear HB)
           generalize ((((w9.setCell ⟨gb112, 0, none⟩ (.string ((rd_T49 l0 x17_2).f0))).setCell ⟨gb112, 1, none⟩ (.int .i64 ((rd_T49 l0 x17_2).f1))).setCell ⟨gb112, 2, none⟩ (.slice A111_2 ((rd_T49 l0 x17_2).f2).length c111_2)).setCell ⟨gb112, 3, none⟩ (.string ((rd_T49 l0 x17_2).f3))) = w29 at n0_ n1_ ⊢
           have BK112 := n0_
           have HB := n1_
           clear n0_ n1_
           have n0_ := am_ (blk_drew BK112.out)
           have n1_ := am_ (below_drew1 HB.out)
           replace BK112 := n0_
           replace HB := n1_
           clear n0_ n1_
           refine start_ (n := 26) (S := fun w' => w'.cell? ⟨gb112, 0, none⟩ = some (.string ((rd_T49 l0 x17_2).f0)) ∧ w'.cell? ⟨gb112, 1, none⟩ = some (.int .i64 ((rd_T49 l0 x17_2).f1)) ∧ w'.cell? ⟨gb112, 2, none⟩ = some (.slice A111_2 ((rd_T49 l0 x17_2).f2).length c111_2) ∧ w'.cell? ⟨gb112, 3, none⟩ = some (.string ((rd_T49 l0 x17_2).f3))) (ds := []) (Array.replicate 26 false) (by kernel_rfl) rfl rfl ⟨cz_ BK112.out 0, cz_ BK112.out 1, cz_ BK112.out 2, cz_ BK112.out 3⟩ (fun hHeld => ?_); refine with_tabW spec_l15Sections.tab6 spec_l15Sections.bits6 (fun HT_ HW_ => ?_)
           generalize w29.drew = w30 at BK112 HB hHeld ⊢
           refine pS_ 0 22 HT_ ?_
           refine tS_ 1 23 HT_ HW_ hHeld ?_
           refine oS_ 2 24 HT_ (fun K hK => ?_)
           refine goes_ Tryd.func52 (by kernel_rfl) rfl #[.string ((rd_T49 l0 x17_2).f0)] (by rfl) rfl rfl (by (try simp only [List.map_toArray, List.map_cons, List.map_nil]); first | done | rfl | (simp only [List.length_drop, List.length_take]; rfl)) ?_
           with_reducible refine (spec_GoodName.calls k2 ((rd_T49 l0 x17_2).f0) true _ A11.out).mono ?_
           rintro e w' ⟨rfl, ⟨nd, rfl⟩⟩
           refine ⟨_, rfl, ?_⟩
           have q31 : (x17_2 : Int) ≤ ((l0.length : Int) : Int) := od_
           obtain ⟨i031, hi031, _, hsz31, _⟩ := info_parts info49
           have hroom31 : l0.length ≤ c0 := HC0.out
           have hC31 : Kd.C k49 _ (some ad111) l0.length l0 := HR0.out
           have hcut31 := cut_to (P := Tryd.prog) 31 49 .i64 Tryd.underlying31 hi031 (some ad111) l0.length c0 x17_2 od_ q31 hroom31
           have hr31 := Kd.C_take (m := (x17_2 : Int).toNat) hC31 (by omega)
           have hy31 : y114.length = (x17_2 : Int).toNat := (by rw [Ny114.out, List.length_take]; omega)
           rw [← Ny114.out] at hr31
           rw [← hy31] at hcut31
           have HR117 := am_ hr31
           have HC117 := am_ (show y114.length ≤ c0 from by omega)
           clear hr31 hC31 hroom31 hi031 hsz31
           have KY31 := am_ hy31
           clear hy31
           replace q31 := eq_true q31
           refine hK.out _ _ ⟨cz_ BK112.out 0, cz_ BK112.out 1, cz_ BK112.out 2, cz_ BK112.out 3⟩ (fun hHeld => ?_)
           clear hK K
           refine nS_ ?_
           refine pS_ 3 25 HT_ ?_
           refine pS_ 4 26 HT_ ?_
           refine pS_ 5 27 HT_ ?_
           refine pS_ 6 28 HT_ ?_
           refine pS_ 7 29 HT_ ?_
           refine pS_ 8 30 HT_ ?_
           refine tS_ 9 31 HT_ HW_ hHeld ?_
           refine oS_ 10 32 HT_ (fun K hK => ?_)
           refine goes_ Tryd.func22 (by kernel_rfl) rfl #[.slice (some ad111) y114.length c0, .string ((rd_T49 l0 x17_2).f0)] (by rfl) rfl rfl (by (try simp only [List.map_toArray, List.map_cons, List.map_nil]); first | done | rfl | (simp only [List.length_drop, List.length_take]; rfl)) ?_
           with_reducible refine (spec_l15Section.calls k2 _ _ y114 ((rd_T49 l0 x17_2).f0) t118 _ ?side1 ?side2 A15.out).mono ?_
           (case side1 => repeat (first | exact (Kd.C_below HR117.out (bw_ HB.out)) | (with_reducible refine Kd.C_alloc ?_ _) | (with_reducible refine Kd.C_drewN ?_ _) | (with_reducible refine Kd.C_drew ?_)))
           (case side2 => exact HC117.out)
           rintro e w32 ⟨rfl, hb⟩
           refine ⟨_, rfl, ?_⟩
           have n0_ := am_ (blk_below (bk_ BK112.out) hb)
           have n1_ := am_ (below_step (bw_ HB.out) hb)
           replace BK112 := n0_
           replace HB := n1_
           clear n0_ n1_
           (try clear hb)
           (try clear hb2)
           (try clear hk)
           (try clear hi)
           refine hK.out _ _ ⟨cz_ BK112.out 0, cz_ BK112.out 1, cz_ BK112.out 2, cz_ BK112.out 3⟩ (fun hHeld => ?_)
           clear hK K
           refine nS_ ?_
           refine pS_ 11 33 HT_ ?_
           refine pS_ 12 34 HT_ ?_
           refine pS_ 13 35 HT_ ?_
           refine pS_ 14 36 HT_ ?_
           refine tS_ 15 37 HT_ HW_ hHeld ?_
           refine oS_ 16 38 HT_ (fun K hK => ?_)
           refine goes_ Tryd.func21 (by kernel_rfl) rfl #[.int .i64 ((rd_T49 l0 x17_2).f1), .int .i64 1, .int .i64 64] (by rfl) rfl rfl (by (try simp only [List.map_toArray, List.map_cons, List.map_nil]); first | done | rfl | (simp only [List.length_drop, List.length_take]; rfl)) ?_
           with_reducible refine (spec_l1In.calls ((rd_T49 l0 x17_2).f1) 1 64 false _ A21.out).mono ?_
           rintro e w' ⟨rfl, ⟨nd, rfl⟩⟩
           refine ⟨_, rfl, ?_⟩
           refine hK.out _ _ ⟨cz_ BK112.out 0, cz_ BK112.out 1, cz_ BK112.out 2, cz_ BK112.out 3⟩ (fun hHeld => ?_)
           clear hK K
           refine nS_ ?_
           refine pS_ 17 39 HT_ ?_
           refine pS_ 18 40 HT_ ?_
           refine pS_ 19 41 HT_ ?_
           refine pU_ 20 42 HT_ ?_
           refine pU_ 21 43 HT_ ?_
           refine pU_ 22 44 HT_ ?_
           refine pU_ 23 45 HT_ ?_
           refine pU_ 24 46 HT_ ?_
           refine pS_ 25 47 HT_ ?_
           refine done_ (done_of HT_.out (by kernel_rfl)) ?_
           try go_wp2
           go_meet
           case rel => exact ⟨_, (true), sq_, H', ⟨by have := HJ1.out; have := HK2.out; first | omega | exact Nat.le_refl _⟩, ⟨bk_ BK112.out⟩, ⟨bw_ HB.out⟩⟩
        ·replace c12 := Bool.eq_false_iff.mpr c12
         subst c12
         replace H := if_ H Bool.false_ne_true
         have H' := am_ H
         clear H
         try go_wp2
         have n0_ : Aside0 (((((w9.setCell ⟨gb112, 0, none⟩ (.string ((rd_T49 l0 x17_2).f0))).setCell ⟨gb112, 1, none⟩ (.int .i64 ((rd_T49 l0 x17_2).f1))).setCell ⟨gb112, 2, none⟩ (.slice A111_2 ((rd_T49 l0 x17_2).f2).length c111_2)).setCell ⟨gb112, 3, none⟩ (.string ((rd_T49 l0 x17_2).f3))).heap[gb112]? = some (.cells #[.string ((rd_T49 l0 x17_2).f0), .int .i64 ((rd_T49 l0 x17_2).f1), .slice A111_2 ((rd_T49 l0 x17_2).f2).length c111_2, .string ((rd_T49 l0 x17_2).f3)] 49 (0, 0))) := ⟨by (with_reducible repeat (first | refine blk_drewN ?_ _ | refine blk_drew ?_ | refine blk_alloc ?_ _)); refine blk_put (cs := #[.string ((rd_T49 l0 x17_2).f0), .int .i64 ((rd_T49 l0 x17_2).f1), .slice A111_2 ((rd_T49 l0 x17_2).f2).length c111_2, .string (⟨#[]⟩ : ByteArray)]) ?_ 3 _ rfl; (with_reducible repeat (first | refine blk_drewN ?_ _ | refine blk_drew ?_ | refine blk_alloc ?_ _)); refine blk_put (cs := #[.string ((rd_T49 l0 x17_2).f0), .int .i64 ((rd_T49 l0 x17_2).f1), .slice none 0 0, .string (⟨#[]⟩ : ByteArray)]) ?_ 2 _ rfl; (with_reducible repeat (first | refine blk_drewN ?_ _ | refine blk_drew ?_ | refine blk_alloc ?_ _)); refine blk_put (cs := #[.string ((rd_T49 l0 x17_2).f0), .int .i64 0, .slice none 0 0, .string (⟨#[]⟩ : ByteArray)]) ?_ 1 _ rfl; (with_reducible repeat (first | refine blk_drewN ?_ _ | refine blk_drew ?_ | refine blk_alloc ?_ _)); refine blk_put (cs := #[.string (⟨#[]⟩ : ByteArray), .int .i64 0, .slice none 0 0, .string (⟨#[]⟩ : ByteArray)]) ?_ 0 _ rfl; (with_reducible repeat (first | refine blk_drewN ?_ _ | refine blk_drew ?_ | refine blk_alloc ?_ _)); exact BK112.out⟩
         have n1_ : Aside0 (Below w.heap.size w ((((w9.setCell ⟨gb112, 0, none⟩ (.string ((rd_T49 l0 x17_2).f0))).setCell ⟨gb112, 1, none⟩ (.int .i64 ((rd_T49 l0 x17_2).f1))).setCell ⟨gb112, 2, none⟩ (.slice A111_2 ((rd_T49 l0 x17_2).f2).length c111_2)).setCell ⟨gb112, 3, none⟩ (.string ((rd_T49 l0 x17_2).f3)))) := ⟨bw_ HB.out⟩
         (try clear BK112)
         (try clear HB)
         generalize ((((w9.setCell ⟨gb112, 0, none⟩ (.string ((rd_T49 l0 x17_2).f0))).setCell ⟨gb112, 1, none⟩ (.int .i64 ((rd_T49 l0 x17_2).f1))).setCell ⟨gb112, 2, none⟩ (.slice A111_2 ((rd_T49 l0 x17_2).f2).length c111_2)).setCell ⟨gb112, 3, none⟩ (.string ((rd_T49 l0 x17_2).f3))) = w33 at n0_ n1_ ⊢
         have BK112 := n0_
         have HB := n1_
         clear n0_ n1_
         have n0_ := am_ (blk_drew BK112.out)
         have n1_ := am_ (below_drew1 HB.out)
         replace BK112 := n0_
         replace HB := n1_
         clear n0_ n1_
         refine start_ (n := 26) (S := fun w' => w'.cell? ⟨gb112, 0, none⟩ = some (.string ((rd_T49 l0 x17_2).f0)) ∧ w'.cell? ⟨gb112, 1, none⟩ = some (.int .i64 ((rd_T49 l0 x17_2).f1)) ∧ w'.cell? ⟨gb112, 2, none⟩ = some (.slice A111_2 ((rd_T49 l0 x17_2).f2).length c111_2) ∧ w'.cell? ⟨gb112, 3, none⟩ = some (.string ((rd_T49 l0 x17_2).f3))) (ds := []) (Array.replicate 26 false) (by kernel_rfl) rfl rfl ⟨cz_ BK112.out 0, cz_ BK112.out 1, cz_ BK112.out 2, cz_ BK112.out 3⟩ (fun hHeld => ?_); refine with_tabW spec_l15Sections.tab6 spec_l15Sections.bits6 (fun HT_ HW_ => ?_)
         generalize w33.drew = w34 at BK112 HB hHeld ⊢
         refine pS_ 0 22 HT_ ?_
         refine tS_ 1 23 HT_ HW_ hHeld ?_
         refine oS_ 2 24 HT_ (fun K hK => ?_)
         refine goes_ Tryd.func52 (by kernel_rfl) rfl #[.string ((rd_T49 l0 x17_2).f0)] (by rfl) rfl rfl (by (try simp only [List.map_toArray, List.map_cons, List.map_nil]); first | done | rfl | (simp only [List.length_drop, List.length_take]; rfl)) ?_
         with_reducible refine (spec_GoodName.calls k2 ((rd_T49 l0 x17_2).f0) false _ A11.out).mono ?_
         rintro e w' ⟨rfl, ⟨nd, rfl⟩⟩
         refine ⟨_, rfl, ?_⟩
         refine hK.out _ _ ⟨cz_ BK112.out 0, cz_ BK112.out 1, cz_ BK112.out 2, cz_ BK112.out 3⟩ (fun hHeld => ?_)
         clear hK K
         refine nS_ ?_
         refine pS_ 3 25 HT_ ?_
         refine pS_ 4 26 HT_ ?_
         refine pU_ 5 27 HT_ ?_
         refine pU_ 6 28 HT_ ?_
         refine pU_ 7 29 HT_ ?_
         refine pU_ 8 30 HT_ ?_
         refine pU_ 9 31 HT_ ?_
         refine pU_ 10 32 HT_ ?_
         refine pU_ 11 33 HT_ ?_
         refine pS_ 12 34 HT_ ?_
         refine pS_ 13 35 HT_ ?_
         refine pU_ 14 36 HT_ ?_
         refine pU_ 15 37 HT_ ?_
         refine pU_ 16 38 HT_ ?_
         refine pU_ 17 39 HT_ ?_
         refine pS_ 18 40 HT_ ?_
         refine pS_ 19 41 HT_ ?_
         refine pU_ 20 42 HT_ ?_
         refine pU_ 21 43 HT_ ?_
         refine pU_ 22 44 HT_ ?_
         refine pU_ 23 45 HT_ ?_
         refine pU_ 24 46 HT_ ?_
         refine pS_ 25 47 HT_ ?_
         refine done_ (done_of HT_.out (by kernel_rfl)) ?_
         try go_wp2
         go_meet
         case rel => exact ⟨_, (true), sq_, H', ⟨by have := HJ1.out; have := HK2.out; first | omega | exact Nat.le_refl _⟩, ⟨bk_ BK112.out⟩, ⟨bw_ HB.out⟩⟩
       case rest =>
        clear HC8
        try clear c5
        obtain ⟨kq, x47_7, rfl, HA, HJ7, BK112, HB⟩ := hcut
        cases kq with
        | zero => exact absurd HA.out (by simp [spec_l15Sections.j2])
        | succ kj7 =>
         have H := HA.out
         clear HA
         simp only [spec_l15Sections.j2] at H
         by_cases c35 : x47_7 = true
         ·subst c35
          replace H := it_ H rfl
          obtain rfl := Option.some.inj H
          go_wp2
          go_ret
          exact ⟨by first | rfl | (simp [errW_none, errW_some] <;> rfl) | (simp [*, errW_none, errW_some] <;> rfl), bw_ HB.out⟩
         ·replace c35 := Bool.eq_false_iff.mpr c35
          subst c35
          replace H := if_ H Bool.false_ne_true
          have H' := am_ H
          clear H
          have hcz36_0 := cz_ BK112.out 0
          have hcz36_1 := cz_ BK112.out 1
          have hcz36_2 := cz_ BK112.out 2
          have hcz36_3 := cz_ BK112.out 3
          have hfz36_0 := blk_frozen BK112.out 0
          have hfz36_1 := blk_frozen BK112.out 1
          have hfz36_2 := blk_frozen BK112.out 2
          have hfz36_3 := blk_frozen BK112.out 3
          go_wp2
          go_loopg [51] kj7 (fun kq v51 w' => ∃ (x51_4 : Int), v51 = .int .i64 x51_4 ∧ Aside0 (spec_l15Sections.l1 kq l0 l0 (l0.length : Int) x17_2 ((rd_T49 l0 x17_2).f2) (((rd_T49 l0 x17_2).f2).length : Int) x51_4 ((rd_T49 l0 x17_2).f0) ((rd_T49 l0 x17_2).f1) ((rd_T49 l0 x17_2).f2) ((rd_T49 l0 x17_2).f3) = some r) ∧ Aside0 (kq ≤ kj7) ∧ Aside0 (w'.heap[gb112]? = some (.cells #[.string ((rd_T49 l0 x17_2).f0), .int .i64 ((rd_T49 l0 x17_2).f1), (.slice A111_2 ((rd_T49 l0 x17_2).f2).length c111_2), .string ((rd_T49 l0 x17_2).f3)] 49 (0, 0))) ∧ Aside0 (Below w.heap.size w w'))
          case atStart => exact ⟨(0), sq_, H', ⟨Nat.le_refl _⟩, ⟨bk_ BK112.out⟩, ⟨bw_ HB.out⟩⟩
          case round =>
           clear H'
           try clear c5
           try clear c35
           try clear hcz36_0
           try clear hcz36_1
           try clear hcz36_2
           try clear hcz36_3
           try clear hfz36_0
           try clear hfz36_1
           try clear hfz36_2
           try clear hfz36_3
           obtain ⟨x51_4, rfl, HA, HK4, BK112, HB⟩ := hrel
           cases gk with
           | zero => exact absurd HA.out (by simp [spec_l15Sections.l1])
           | succ k4 =>
            have H := HA.out
            clear HA
            simp only [spec_l15Sections.l1] at H
            by_cases c37 : x51_4 < (((rd_T49 l0 x17_2).f2).length : Int)
            ·rw [if_pos c37] at H
             have c37b0 : decide (x51_4 < (((rd_T49 l0 x17_2).f2).length : Int)) = true := decide_eq_true c37
             clear c37
             obtain ⟨c38, H⟩ := ifn_ H
             have c38b0 : decide (0 ≤ x51_4) = true := decide_eq_true c38
             clear c38
             obtain ⟨c39, H⟩ := ifn_ H
             have c39b0 : decide (x51_4 < (((rd_T49 l0 x17_2).f2).length : Int)) = true := decide_eq_true c39
             clear c39
             obtain ⟨t122, A400, H⟩ := bE_ H
             have A40 := am_ A400
             clear A400
             by_cases c41 : t122 = true
             ·subst c41
              replace H := it_ H rfl
              by_cases c42 : x51_4 > 0
              ·rw [if_pos c42] at H
               have c42b0 : decide (0 < x51_4) = true := decide_eq_true c42
               clear c42
               obtain ⟨ji43, hji43⟩ : ∃ j_ : Int, (wrap64 (x51_4 - 1)) = j_ := ⟨_, rfl⟩
               replace H : (if 0 ≤ (ji43) then (if (ji43) < (((rd_T49 l0 x17_2).f2).length : Int) then (if (rd ((rd_T49 l0 x17_2).f2) (ji43)) ≥ (rd ((rd_T49 l0 x17_2).f2) x51_4) then (some false) else (spec_l15Sections.l1 k4 l0 l0 (l0.length : Int) x17_2 ((rd_T49 l0 x17_2).f2) (((rd_T49 l0 x17_2).f2).length : Int) (wrap64 (x51_4 + 1)) ((rd_T49 l0 x17_2).f0) ((rd_T49 l0 x17_2).f1) ((rd_T49 l0 x17_2).f2) ((rd_T49 l0 x17_2).f3))) else (none)) else (none)) = some r := by first | (rw [hji43] at H; exact H) | (simp only [hji43] at H ⊢; exact H)
               (try rw [hji43] at A40)
               have hji43w : (IntKind.i64.wrap (x51_4 - 1)) = ji43 := (i64_w _).trans hji43
               obtain ⟨c44, H⟩ := ifn_ H
               have c44b0 : decide (0 ≤ (ji43)) = true := decide_eq_true c44
               clear c44
               obtain ⟨c45, H⟩ := ifn_ H
               have c45b0 : decide ((ji43) < (((rd_T49 l0 x17_2).f2).length : Int)) = true := decide_eq_true c45
               clear c45
               by_cases c46 : (rd ((rd_T49 l0 x17_2).f2) (ji43)) ≥ (rd ((rd_T49 l0 x17_2).f2) x51_4)
               ·rw [if_pos c46] at H
                have c46b0 : decide ((rd ((rd_T49 l0 x17_2).f2) x51_4) ≤ (rd ((rd_T49 l0 x17_2).f2) (ji43))) = true := decide_eq_true c46
                clear c46
                obtain rfl := Option.some.inj H
                have p121 : 0 ≤ (x51_4 : Int) := od_
                have q121 : x51_4 < (((rd_T49 l0 x17_2).f2).length : Int) := od_
                obtain ⟨ad121, e121, hx121_0⟩ := Kd.at_int HR111_2.out x51_4 p121 q121
                cases e121
                (try replace hx121_0 := hc_ HB.out hx121_0)
                replace p121 := eq_true p121
                replace q121 := eq_true q121
                have hcz47_0 := cz_ BK112.out 0
                have hcz47_1 := cz_ BK112.out 1
                have hcz47_2 := cz_ BK112.out 2
                have hcz47_3 := cz_ BK112.out 3
                have hfz47_0 := blk_frozen BK112.out 0
                have hfz47_1 := blk_frozen BK112.out 1
                have hfz47_2 := blk_frozen BK112.out 2
                have hfz47_3 := blk_frozen BK112.out 3
                go_wp2_with (first | ((with_reducible refine gate_callee (f := 21) rfl ?_); refine goesL_ (some 60) rfl rfl Tryd.func21 (by kernel_rfl) rfl #[.int .i64 (rd ((rd_T49 l0 x17_2).f2) x51_4), .int .i64 0, .int .i64 (wrap64 (((rd_T49 l0 x17_2).f1) - 1))] rfl (by (try simp only [List.map_toArray, List.map_cons, List.map_nil]); first | done | rfl | (simp only [List.length_drop, List.length_take]; rfl)) ?_; (with_reducible refine (spec_l1In.calls (rd ((rd_T49 l0 x17_2).f2) x51_4) 0 (wrap64 (((rd_T49 l0 x17_2).f1) - 1)) true _ A40.out).mono ?_); rintro e w' ⟨rfl, ⟨nd, rfl⟩⟩; refine ⟨_, rfl, ?_⟩; have p123 : 0 ≤ ((ji43) : Int) := od_; have q123 : (ji43) < (((rd_T49 l0 x17_2).f2).length : Int) := od_; obtain ⟨ad123, e123, hx123_0⟩ := Kd.at_int HR111_2.out (ji43) p123 q123; obtain rfl : ad121 = ad123 := (by injection e123); (try replace hx123_0 := hc_ HB.out hx123_0); replace p123 := eq_true p123; replace q123 := eq_true q123))
                go_ret
                exact ⟨by first | rfl | (simp [errW_none, errW_some] <;> rfl) | (simp only [← hji43]; first | rfl | (simp [errW_none, errW_some] <;> rfl)) | (simp [*, errW_none, errW_some] <;> rfl), bw_ HB.out⟩
               ·rw [if_neg c46] at H
                have c46b0 : decide ((rd ((rd_T49 l0 x17_2).f2) x51_4) ≤ (rd ((rd_T49 l0 x17_2).f2) (ji43))) = false := decide_eq_false c46
                clear c46
                have H' := am_ H
                clear H
                have p121 : 0 ≤ (x51_4 : Int) := od_
                have q121 : x51_4 < (((rd_T49 l0 x17_2).f2).length : Int) := od_
                obtain ⟨ad121, e121, hx121_0⟩ := Kd.at_int HR111_2.out x51_4 p121 q121
                cases e121
                (try replace hx121_0 := hc_ HB.out hx121_0)
                replace p121 := eq_true p121
                replace q121 := eq_true q121
                have hcz48_0 := cz_ BK112.out 0
                have hcz48_1 := cz_ BK112.out 1
                have hcz48_2 := cz_ BK112.out 2
                have hcz48_3 := cz_ BK112.out 3
                have hfz48_0 := blk_frozen BK112.out 0
                have hfz48_1 := blk_frozen BK112.out 1
                have hfz48_2 := blk_frozen BK112.out 2
                have hfz48_3 := blk_frozen BK112.out 3
                go_wp2_with (first | ((with_reducible refine gate_callee (f := 21) rfl ?_); refine goesL_ (some 60) rfl rfl Tryd.func21 (by kernel_rfl) rfl #[.int .i64 (rd ((rd_T49 l0 x17_2).f2) x51_4), .int .i64 0, .int .i64 (wrap64 (((rd_T49 l0 x17_2).f1) - 1))] rfl (by (try simp only [List.map_toArray, List.map_cons, List.map_nil]); first | done | rfl | (simp only [List.length_drop, List.length_take]; rfl)) ?_; (with_reducible refine (spec_l1In.calls (rd ((rd_T49 l0 x17_2).f2) x51_4) 0 (wrap64 (((rd_T49 l0 x17_2).f1) - 1)) true _ A40.out).mono ?_); rintro e w' ⟨rfl, ⟨nd, rfl⟩⟩; refine ⟨_, rfl, ?_⟩; have p123 : 0 ≤ ((ji43) : Int) := od_; have q123 : (ji43) < (((rd_T49 l0 x17_2).f2).length : Int) := od_; obtain ⟨ad123, e123, hx123_0⟩ := Kd.at_int HR111_2.out (ji43) p123 q123; obtain rfl : ad121 = ad123 := (by injection e123); (try replace hx123_0 := hc_ HB.out hx123_0); replace p123 := eq_true p123; replace q123 := eq_true q123))
                go_roundg k4
                case measure => have := HJ1.out; have := HK2.out; have := HJ7.out; have := HK4.out; omega
                case rel => exact ⟨(wrap64 (x51_4 + 1)), sq_, H', ⟨by have := HJ1.out; have := HK2.out; have := HJ7.out; have := HK4.out; omega⟩, ⟨bk_ BK112.out⟩, ⟨bw_ HB.out⟩⟩
              ·rw [if_neg c42] at H
               have c42b0 : decide (0 < x51_4) = false := decide_eq_false c42
               clear c42
               have H' := am_ H
               clear H
               have p121 : 0 ≤ (x51_4 : Int) := od_
               have q121 : x51_4 < (((rd_T49 l0 x17_2).f2).length : Int) := od_
               obtain ⟨ad121, e121, hx121_0⟩ := Kd.at_int HR111_2.out x51_4 p121 q121
               cases e121
               (try replace hx121_0 := hc_ HB.out hx121_0)
               replace p121 := eq_true p121
               replace q121 := eq_true q121
               have hcz49_0 := cz_ BK112.out 0
               have hcz49_1 := cz_ BK112.out 1
               have hcz49_2 := cz_ BK112.out 2
               have hcz49_3 := cz_ BK112.out 3
               have hfz49_0 := blk_frozen BK112.out 0
               have hfz49_1 := blk_frozen BK112.out 1
               have hfz49_2 := blk_frozen BK112.out 2
               have hfz49_3 := blk_frozen BK112.out 3
               go_wp2_with (first | ((with_reducible refine gate_callee (f := 21) rfl ?_); refine goesL_ (some 60) rfl rfl Tryd.func21 (by kernel_rfl) rfl #[.int .i64 (rd ((rd_T49 l0 x17_2).f2) x51_4), .int .i64 0, .int .i64 (wrap64 (((rd_T49 l0 x17_2).f1) - 1))] rfl (by (try simp only [List.map_toArray, List.map_cons, List.map_nil]); first | done | rfl | (simp only [List.length_drop, List.length_take]; rfl)) ?_; (with_reducible refine (spec_l1In.calls (rd ((rd_T49 l0 x17_2).f2) x51_4) 0 (wrap64 (((rd_T49 l0 x17_2).f1) - 1)) true _ A40.out).mono ?_); rintro e w' ⟨rfl, ⟨nd, rfl⟩⟩; refine ⟨_, rfl, ?_⟩))
               go_roundg k4
               case measure => have := HJ1.out; have := HK2.out; have := HJ7.out; have := HK4.out; omega
               case rel => exact ⟨(wrap64 (x51_4 + 1)), sq_, H', ⟨by have := HJ1.out; have := HK2.out; have := HJ7.out; have := HK4.out; omega⟩, ⟨bk_ BK112.out⟩, ⟨bw_ HB.out⟩⟩
             ·replace c41 := Bool.eq_false_iff.mpr c41
              subst c41
              replace H := if_ H Bool.false_ne_true
              obtain rfl := Option.some.inj H
              have p121 : 0 ≤ (x51_4 : Int) := od_
              have q121 : x51_4 < (((rd_T49 l0 x17_2).f2).length : Int) := od_
              obtain ⟨ad121, e121, hx121_0⟩ := Kd.at_int HR111_2.out x51_4 p121 q121
              cases e121
              (try replace hx121_0 := hc_ HB.out hx121_0)
              replace p121 := eq_true p121
              replace q121 := eq_true q121
              have hcz50_0 := cz_ BK112.out 0
              have hcz50_1 := cz_ BK112.out 1
              have hcz50_2 := cz_ BK112.out 2
              have hcz50_3 := cz_ BK112.out 3
              have hfz50_0 := blk_frozen BK112.out 0
              have hfz50_1 := blk_frozen BK112.out 1
              have hfz50_2 := blk_frozen BK112.out 2
              have hfz50_3 := blk_frozen BK112.out 3
              go_wp2_with (first | ((with_reducible refine gate_callee (f := 21) rfl ?_); refine goesL_ (some 60) rfl rfl Tryd.func21 (by kernel_rfl) rfl #[.int .i64 (rd ((rd_T49 l0 x17_2).f2) x51_4), .int .i64 0, .int .i64 (wrap64 (((rd_T49 l0 x17_2).f1) - 1))] rfl (by (try simp only [List.map_toArray, List.map_cons, List.map_nil]); first | done | rfl | (simp only [List.length_drop, List.length_take]; rfl)) ?_; (with_reducible refine (spec_l1In.calls (rd ((rd_T49 l0 x17_2).f2) x51_4) 0 (wrap64 (((rd_T49 l0 x17_2).f1) - 1)) false _ A40.out).mono ?_); rintro e w' ⟨rfl, ⟨nd, rfl⟩⟩; refine ⟨_, rfl, ?_⟩))
              go_ret
              exact ⟨by first | rfl | (simp [errW_none, errW_some] <;> rfl) | (simp [*, errW_none, errW_some] <;> rfl), bw_ HB.out⟩
            ·rw [if_neg c37] at H
             have c37b0 : decide (x51_4 < (((rd_T49 l0 x17_2).f2).length : Int)) = false := decide_eq_false c37
             clear c37
             have H' := am_ H
             clear H
             go_wp2
             go_roundg k4
             case measure => have := HJ1.out; have := HK2.out; have := HJ7.out; have := HK4.out; omega
             case rel => exact ⟨(wrap64 (x17_2 + 1)), sq_, H', ⟨by have := HJ1.out; have := HK2.out; have := HJ7.out; have := HK4.out; omega⟩, ⟨bw_ HB.out⟩⟩
      ·rw [if_neg c5] at H
       have c5b0 : decide (x17_2 < (l0.length : Int)) = false := decide_eq_false c5
       clear c5
       obtain rfl := Option.some.inj H
       go_wp2
       go_ret
       exact ⟨by first | rfl | (simp [errW_none, errW_some] <;> rfl) | (simp [*, errW_none, errW_some] <;> rfl), bw_ HB.out⟩

end Go.Proofs.YtcabbfphidjapaaDoor.XFnExactRunMusic
