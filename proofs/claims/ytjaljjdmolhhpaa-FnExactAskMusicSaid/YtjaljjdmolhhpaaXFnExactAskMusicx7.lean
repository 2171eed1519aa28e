/- What the Go functions that this law comes to compute, each walked; written by a program of this session. -/
import Derived.Test.YtjaljjdmolhhpaaXFnExactAskMusicx0
import Derived.Test.YtjaljjdmolhhpaaXFnExactAskMusicx6
namespace Go.Proofs.Ytjaljjdmolhhpaa.XFnExactAskMusic
open Go.RowKit Go.Proofs.YtjaljjdmolhhpaaW.PrintWords Go.Proofs.YtjaljjdmolhhpaaW.PrintLast Go.Proofs.YtjaljjdmolhhpaaW.PrintMore
attribute [local go_sem] str_geq max2_int min2_int max_two min_two max_three min_three max_four min_four   -- for this text's walks alone
set_option linter.unusedVariables false
set_option linter.unusedSimpArgs false

/-! ### impl_areSections: function 129 -/
mutual
def impl_areSections.l0 : Nat → List (S159) → List (S159) → Int → Int → Option (Bool)
 | 0, _, _, _, _ => none
 | k + 1, x0, x7, x8, x9 => if x9 < x8 then (if 0 ≤ x9 then (if x9 < (x7.length : Int) then ((impl_GoodName.f k ((rd_T159 x7 x9).f0)).bind fun t179 => (if t179 = true then ((impl_sectionAt.f k x0 ((rd_T159 x7 x9).f0)).bind fun t180 => (if t180 = x9 then ((impl_inRange.f ((rd_T159 x7 x9).f1) 1 64).bind fun t181 => (if t181 = true then ((impl_sectionAt.f k x0 ((rd_T159 x7 x9).f3)).bind fun t182 => (impl_areSections.j1 k x0 x7 x8 x9 (decide (t182 < 0)) ((rd_T159 x7 x9).f0) ((rd_T159 x7 x9).f1) ((rd_T159 x7 x9).f2) ((rd_T159 x7 x9).f3))) else (impl_areSections.j1 k x0 x7 x8 x9 true ((rd_T159 x7 x9).f0) ((rd_T159 x7 x9).f1) ((rd_T159 x7 x9).f2) ((rd_T159 x7 x9).f3)))) else (impl_areSections.j1 k x0 x7 x8 x9 true ((rd_T159 x7 x9).f0) ((rd_T159 x7 x9).f1) ((rd_T159 x7 x9).f2) ((rd_T159 x7 x9).f3)))) else (impl_areSections.j1 k x0 x7 x8 x9 true ((rd_T159 x7 x9).f0) ((rd_T159 x7 x9).f1) ((rd_T159 x7 x9).f2) ((rd_T159 x7 x9).f3)))) else (none)) else (none)) else ((impl_inRange.f (x0.length : Int) 1 64).bind fun t176 => (some t176))
def impl_areSections.j1 : Nat → List (S159) → List (S159) → Int → Int → Bool → ByteArray → Int → List Int → ByteArray → Option (Bool)
 | 0, _, _, _, _, _, _, _, _, _ => none
 | k + 1, x0, x7, x8, x9, x38, x179000, x179001, x179002, x179003 => if x38 = true then (some false) else (impl_areSections.l1 k x0 x7 x8 x9 x179002 (x179002.length : Int) 0 x179000 x179001 x179002 x179003)
def impl_areSections.l1 : Nat → List (S159) → List (S159) → Int → Int → List Int → Int → Int → ByteArray → Int → List Int → ByteArray → Option (Bool)
 | 0, _, _, _, _, _, _, _, _, _, _, _ => none
 | k + 1, x0, x7, x8, x9, x40, x41, x42, x179000, x179001, x179002, x179003 => if x42 < x41 then (if 0 ≤ x42 then (if x42 < (x40.length : Int) then ((impl_inRange.f (rd x40 x42) 0 (wrap64 (x179001 - 1))).bind fun t184 => (if t184 = true then (if x42 > 0 then (if 0 ≤ (wrap64 (x42 - 1)) then (if (wrap64 (x42 - 1)) < (x179002.length : Int) then (if (rd x179002 (wrap64 (x42 - 1))) ≥ (rd x40 x42) then (some false) else (impl_areSections.l1 k x0 x7 x8 x9 x40 x41 (wrap64 (x42 + 1)) x179000 x179001 x179002 x179003)) else (none)) else (none)) else (impl_areSections.l1 k x0 x7 x8 x9 x40 x41 (wrap64 (x42 + 1)) x179000 x179001 x179002 x179003)) else (some false))) else (none)) else (none)) else (impl_areSections.l0 k x0 x7 x8 (wrap64 (x9 + 1)))
end
def impl_areSections.f (k : Nat) (l0 : List (S159)) : Option (Bool) := impl_areSections.l0 k l0 l0 (l0.length : Int) 0
theorem impl_areSections.mono_l : ∀ k, (∀ y0 y1 y2 y3, LeO (impl_areSections.l0 k y0 y1 y2 y3) (impl_areSections.l0 (k + 1) y0 y1 y2 y3)) ∧ (∀ y0 y1 y2 y3 y4 y5 y6 y7 y8, LeO (impl_areSections.j1 k y0 y1 y2 y3 y4 y5 y6 y7 y8) (impl_areSections.j1 (k + 1) y0 y1 y2 y3 y4 y5 y6 y7 y8)) ∧ (∀ y0 y1 y2 y3 y4 y5 y6 y7 y8 y9 y10, LeO (impl_areSections.l1 k y0 y1 y2 y3 y4 y5 y6 y7 y8 y9 y10) (impl_areSections.l1 (k + 1) y0 y1 y2 y3 y4 y5 y6 y7 y8 y9 y10))
 | 0 => ⟨fun _ _ _ _ r h => by simp [impl_areSections.l0] at h, fun _ _ _ _ _ _ _ _ _ r h => by simp [impl_areSections.j1] at h, fun _ _ _ _ _ _ _ _ _ _ _ r h => by simp [impl_areSections.l1] at h⟩
 | k + 1 => by
  obtain ⟨ih0, ih1, ih2⟩ := impl_areSections.mono_l k
  refine ⟨?_, ?_, ?_⟩
  ·intro y0 y1 y2 y3
   unfold impl_areSections.l0
   repeat' first
   | (with_reducible exact ih0 _ _ _ _)
   | (with_reducible exact ih1 _ _ _ _ _ _ _ _ _)
   | (with_reducible exact ih2 _ _ _ _ _ _ _ _ _ _ _)
   | (with_reducible exact impl_GoodName.mono _ _)
   | (with_reducible exact impl_sectionAt.mono _ _ _)
   | (with_reducible exact LeO.refl _)
   | (with_reducible exact LeO.none _)
   | (with_reducible refine LeO.ite ?_ ?_)
   | (with_reducible refine LeO.bind ?_ (fun _ => ?_))
   | exact ih0 _ _ _ _
   | exact ih1 _ _ _ _ _ _ _ _ _
   | exact ih2 _ _ _ _ _ _ _ _ _ _ _
   | exact impl_GoodName.mono _ _
   | exact impl_sectionAt.mono _ _ _
   | exact LeO.none _
   | refine LeO.ite ?_ ?_
   | refine LeO.bind ?_ (fun _ => ?_)
  ·intro y0 y1 y2 y3 y4 y5 y6 y7 y8
   unfold impl_areSections.j1
   repeat' first
   | (with_reducible exact ih0 _ _ _ _)
   | (with_reducible exact ih1 _ _ _ _ _ _ _ _ _)
   | (with_reducible exact ih2 _ _ _ _ _ _ _ _ _ _ _)
   | (with_reducible exact impl_GoodName.mono _ _)
   | (with_reducible exact impl_sectionAt.mono _ _ _)
   | (with_reducible exact LeO.refl _)
   | (with_reducible exact LeO.none _)
   | (with_reducible refine LeO.ite ?_ ?_)
   | (with_reducible refine LeO.bind ?_ (fun _ => ?_))
   | exact ih0 _ _ _ _
   | exact ih1 _ _ _ _ _ _ _ _ _
   | exact ih2 _ _ _ _ _ _ _ _ _ _ _
   | exact impl_GoodName.mono _ _
   | exact impl_sectionAt.mono _ _ _
   | exact LeO.none _
   | refine LeO.ite ?_ ?_
   | refine LeO.bind ?_ (fun _ => ?_)
  ·intro y0 y1 y2 y3 y4 y5 y6 y7 y8 y9 y10
   unfold impl_areSections.l1
   repeat' first
   | (with_reducible exact ih0 _ _ _ _)
   | (with_reducible exact ih1 _ _ _ _ _ _ _ _ _)
   | (with_reducible exact ih2 _ _ _ _ _ _ _ _ _ _ _)
   | (with_reducible exact impl_GoodName.mono _ _)
   | (with_reducible exact impl_sectionAt.mono _ _ _)
   | (with_reducible exact LeO.refl _)
   | (with_reducible exact LeO.none _)
   | (with_reducible refine LeO.ite ?_ ?_)
   | (with_reducible refine LeO.bind ?_ (fun _ => ?_))
   | exact ih0 _ _ _ _
   | exact ih1 _ _ _ _ _ _ _ _ _
   | exact ih2 _ _ _ _ _ _ _ _ _ _ _
   | exact impl_GoodName.mono _ _
   | exact impl_sectionAt.mono _ _ _
   | exact LeO.none _
   | refine LeO.ite ?_ ?_
   | refine LeO.bind ?_ (fun _ => ?_)
theorem impl_areSections.mono : ∀ a0 k, LeO (impl_areSections.f k a0) (impl_areSections.f (k + 1) a0) := by
 intro a0 k
 obtain ⟨ih0, ih1, ih2⟩ := impl_areSections.mono_l k
 unfold impl_areSections.f
 repeat' first
   | (with_reducible exact ih0 _ _ _ _)
   | (with_reducible exact ih1 _ _ _ _ _ _ _ _ _)
   | (with_reducible exact ih2 _ _ _ _ _ _ _ _ _ _ _)
   | (with_reducible exact impl_GoodName.mono _ _)
   | (with_reducible exact impl_sectionAt.mono _ _ _)
   | (with_reducible exact LeO.refl _)
   | (with_reducible exact LeO.none _)
   | (with_reducible refine LeO.ite ?_ ?_)
   | (with_reducible refine LeO.bind ?_ (fun _ => ?_))
   | exact ih0 _ _ _ _
   | exact ih1 _ _ _ _ _ _ _ _ _
   | exact ih2 _ _ _ _ _ _ _ _ _ _ _
   | exact impl_GoodName.mono _ _
   | exact impl_sectionAt.mono _ _ _
   | exact LeO.none _
   | refine LeO.ite ?_ ?_
   | refine LeO.bind ?_ (fun _ => ?_)
set_option maxHeartbeats 8000000 in
set_option maxRecDepth 100000 in
theorem impl_areSections.calls (k : Nat) (A0 : Option Addr) (c0 : Nat) (l0 : List (S159)) (r : Bool) (w : World) (hr0 : Kd.C k159 w A0 l0.length l0) (hc0 : l0.length ≤ c0) (h : impl_areSections.f k l0 = some r) :
  Calls Try.prog 129 #[.slice A0 l0.length c0] w fun e w' => e = .returned (.bool r) ∧ Below w.heap.size w w' := by
 have hu159 := Try.underlying159
 have HR0 := Aside0.mk hr0
 have HC0 := Aside0.mk hc0
 clear hr0 hc0
 have HB := Aside0.mk (Below.refl w.heap.size w)
 have H : (impl_areSections.l0 k l0 l0 (l0.length : Int) 0) = some r := h
 clear h
 have H' := Aside0.mk H
 clear H
 go_enter Try.func129, Try.ntmps129
 go_wp2
 go_loopg [9] k (fun kq v9 w' => ∃ (x9_1 : Int), v9 = .int .i64 x9_1 ∧ Aside0 (impl_areSections.l0 kq l0 l0 (l0.length : Int) x9_1 = some r) ∧ Aside0 (kq ≤ k) ∧ Aside0 (Below w.heap.size w w'))
 case atStart => exact ⟨(0), (by first | rfl | (simp; done) | (simp [*]; done) | (simp [wrap64]; done)), H', ⟨Nat.le_refl _⟩, ⟨by repeat (first | (with_reducible first | exact HB.out | apply below_alloc | apply pw_below_drewN | apply below_drew1) | exact HB.out)⟩⟩
 case round =>
  clear H'
  try clear c1
  obtain ⟨x9_1, rfl, HA, HK1, HB⟩ := hrel
  cases gk with
  | zero => exact absurd HA.out (by simp [impl_areSections.l0])
  | succ k1 =>
   have H := HA.out
   clear HA
   simp only [impl_areSections.l0] at H
   by_cases c2 : x9_1 < (l0.length : Int)
   ·rw [if_pos c2] at H
    have c2b0 : decide (x9_1 < (l0.length : Int)) = true := decide_eq_true c2
    clear c2
    by_cases c3 : 0 ≤ x9_1
    ·rw [if_pos c3] at H
     have c3b0 : decide (0 ≤ x9_1) = true := decide_eq_true c3
     clear c3
     by_cases c4 : x9_1 < (l0.length : Int)
     ·rw [if_pos c4] at H
      have c4b0 : decide (x9_1 < (l0.length : Int)) = true := decide_eq_true c4
      clear c4
      have HC5 := Aside0.mk H
      clear H
      have p177 : 0 ≤ (x9_1 : Int) := of_decide_eq_true (by first | (with_reducible assumption) | assumption)
      have q177 : x9_1 < (l0.length : Int) := of_decide_eq_true (by first | (with_reducible assumption) | assumption)
      obtain ⟨ad177, A177_2, c177_2, e177, hx177_0, hx177_1, hx177_2, hx177_3, hl177_2, hi177_2⟩ := at_T159 HR0.out x9_1 p177 q177
      cases e177
      (try replace hx177_0 := (HB.out.cell (World.block_lt_of_cell? w _ hx177_0)).trans hx177_0)
      (try replace hx177_1 := (HB.out.cell (World.block_lt_of_cell? w _ hx177_1)).trans hx177_1)
      (try replace hx177_2 := (HB.out.cell (World.block_lt_of_cell? w _ hx177_2)).trans hx177_2)
      (try replace hx177_3 := (HB.out.cell (World.block_lt_of_cell? w _ hx177_3)).trans hx177_3)
      have HR177_2 := Aside0.mk hi177_2
      have HC177_2 := Aside0.mk hl177_2
      clear hi177_2 hl177_2
      replace p177 := eq_true p177
      replace q177 := eq_true q177
      go_upto_region 4 with (first | ((with_reducible refine gate_dst (N := 4) rfl ?_); refine box_event ?hg (N := 4) ?hd (cs := #[.string (⟨#[]⟩ : ByteArray), .int .i64 0, .slice none 0 0, .string (⟨#[]⟩ : ByteArray)]) (t := 159) ?hr ?_; (case hd => rfl); (case hg => rfl); (case hr => first | (go_simp; done) | (go_simp; rfl)); intro gb178 hg w6 hbox hb; have n0_ := Aside0.mk (below_step (by repeat (first | (with_reducible first | exact HB.out | apply below_alloc | apply pw_below_drewN | apply below_drew1) | exact HB.out)) hb); have n1_ := Aside0.mk (hbox); have n2_ := Aside0.mk ((by rw [hg]; exact (below_size (by repeat (first | (with_reducible first | exact HB.out | apply below_alloc | apply pw_below_drewN | apply below_drew1) | exact HB.out))) : w.heap.size ≤ gb178)); have n3_ := Aside0.mk ((by rw [hg]; exact (below_size (by repeat (first | (with_reducible first | exact HB.out | apply below_alloc | apply pw_below_drewN | apply below_drew1) | exact HB.out))) : w.heap.size ≤ gb178)); clear HB; have HB := n0_; have BK178 := n1_; have GW178 := n2_; have GE178 := n3_; clear n0_ n1_ n2_ n3_; clear hb hbox hg; have hcz7_0 : w6.cell? ⟨gb178, 0, none⟩ = some (.string (⟨#[]⟩ : ByteArray)) := (blk_cell BK178.out 0).trans rfl; have hcz7_1 : w6.cell? ⟨gb178, 1, none⟩ = some (.int .i64 0) := (blk_cell BK178.out 1).trans rfl; have hcz7_2 : w6.cell? ⟨gb178, 2, none⟩ = some (.slice none 0 0) := (blk_cell BK178.out 2).trans rfl; have hcz7_3 : w6.cell? ⟨gb178, 3, none⟩ = some (.string (⟨#[]⟩ : ByteArray)) := (blk_cell BK178.out 3).trans rfl; have hfz7_0 := blk_frozen BK178.out 0; have hfz7_1 := blk_frozen BK178.out 1; have hfz7_2 := blk_frozen BK178.out 2; have hfz7_3 := blk_frozen BK178.out 3))
      (try simp only [Act.put, List.setIfInBounds_toArray, List.set_cons_zero, List.set_cons_succ])
      go_cut [38] (fun v38 wc => ∃ (kq : Nat) (x38_4 : Bool), v38 = .bool x38_4 ∧ Aside0 (impl_areSections.j1 kq l0 l0 (l0.length : Int) x9_1 x38_4 ((rd_T159 l0 x9_1).f0) ((rd_T159 l0 x9_1).f1) ((rd_T159 l0 x9_1).f2) ((rd_T159 l0 x9_1).f3) = some r) ∧ Aside0 (kq ≤ k1) ∧ Aside0 (wc.heap[gb178]? = some (.cells #[.string ((rd_T159 l0 x9_1).f0), .int .i64 ((rd_T159 l0 x9_1).f1), (.slice A177_2 ((rd_T159 l0 x9_1).f2).length c177_2), .string ((rd_T159 l0 x9_1).f3)] 159 (0, 0))) ∧ Aside0 (Below w.heap.size w wc))
      case first =>
       have H := HC5.out
       clear HC5
       replace H := Option.bind_eq_some_iff.mp H
       obtain ⟨t179, A80, H⟩ := H
       replace H : (if t179 = true then ((impl_sectionAt.f k1 l0 ((rd_T159 l0 x9_1).f0)).bind fun t180 => (if t180 = x9_1 then ((impl_inRange.f ((rd_T159 l0 x9_1).f1) 1 64).bind fun t181 => (if t181 = true then ((impl_sectionAt.f k1 l0 ((rd_T159 l0 x9_1).f3)).bind fun t182 => (impl_areSections.j1 k1 l0 l0 (l0.length : Int) x9_1 (decide (t182 < 0)) ((rd_T159 l0 x9_1).f0) ((rd_T159 l0 x9_1).f1) ((rd_T159 l0 x9_1).f2) ((rd_T159 l0 x9_1).f3))) else (impl_areSections.j1 k1 l0 l0 (l0.length : Int) x9_1 true ((rd_T159 l0 x9_1).f0) ((rd_T159 l0 x9_1).f1) ((rd_T159 l0 x9_1).f2) ((rd_T159 l0 x9_1).f3)))) else (impl_areSections.j1 k1 l0 l0 (l0.length : Int) x9_1 true ((rd_T159 l0 x9_1).f0) ((rd_T159 l0 x9_1).f1) ((rd_T159 l0 x9_1).f2) ((rd_T159 l0 x9_1).f3)))) else (impl_areSections.j1 k1 l0 l0 (l0.length : Int) x9_1 true ((rd_T159 l0 x9_1).f0) ((rd_T159 l0 x9_1).f1) ((rd_T159 l0 x9_1).f2) ((rd_T159 l0 x9_1).f3))) = some r := H
       have A8 := Aside0.mk A80
       clear A80
       by_cases c9 : t179 = true
       ·subst c9
        have H1 : ((impl_sectionAt.f k1 l0 ((rd_T159 l0 x9_1).f0)).bind fun t180 => (if t180 = x9_1 then ((impl_inRange.f ((rd_T159 l0 x9_1).f1) 1 64).bind fun t181 => (if t181 = true then ((impl_sectionAt.f k1 l0 ((rd_T159 l0 x9_1).f3)).bind fun t182 => (impl_areSections.j1 k1 l0 l0 (l0.length : Int) x9_1 (decide (t182 < 0)) ((rd_T159 l0 x9_1).f0) ((rd_T159 l0 x9_1).f1) ((rd_T159 l0 x9_1).f2) ((rd_T159 l0 x9_1).f3))) else (impl_areSections.j1 k1 l0 l0 (l0.length : Int) x9_1 true ((rd_T159 l0 x9_1).f0) ((rd_T159 l0 x9_1).f1) ((rd_T159 l0 x9_1).f2) ((rd_T159 l0 x9_1).f3)))) else (impl_areSections.j1 k1 l0 l0 (l0.length : Int) x9_1 true ((rd_T159 l0 x9_1).f0) ((rd_T159 l0 x9_1).f1) ((rd_T159 l0 x9_1).f2) ((rd_T159 l0 x9_1).f3)))) = some r := by rw [if_pos rfl] at H; exact H
        clear H
        have H := H1
        clear H1
        replace H := Option.bind_eq_some_iff.mp H
        obtain ⟨t180, A100, H⟩ := H
        replace H : (if t180 = x9_1 then ((impl_inRange.f ((rd_T159 l0 x9_1).f1) 1 64).bind fun t181 => (if t181 = true then ((impl_sectionAt.f k1 l0 ((rd_T159 l0 x9_1).f3)).bind fun t182 => (impl_areSections.j1 k1 l0 l0 (l0.length : Int) x9_1 (decide (t182 < 0)) ((rd_T159 l0 x9_1).f0) ((rd_T159 l0 x9_1).f1) ((rd_T159 l0 x9_1).f2) ((rd_T159 l0 x9_1).f3))) else (impl_areSections.j1 k1 l0 l0 (l0.length : Int) x9_1 true ((rd_T159 l0 x9_1).f0) ((rd_T159 l0 x9_1).f1) ((rd_T159 l0 x9_1).f2) ((rd_T159 l0 x9_1).f3)))) else (impl_areSections.j1 k1 l0 l0 (l0.length : Int) x9_1 true ((rd_T159 l0 x9_1).f0) ((rd_T159 l0 x9_1).f1) ((rd_T159 l0 x9_1).f2) ((rd_T159 l0 x9_1).f3))) = some r := H
        have A10 := Aside0.mk A100
        clear A100
        by_cases c11 : t180 = x9_1
        ·rw [if_pos c11] at H
         have c11b0 : (t180 == x9_1) = true := beq_iff_eq.mpr c11
         have c11b1 : (t180 != x9_1) = false := bne_eq_false_iff_eq.mpr c11
         clear c11
         (first | rw [c11b0] | (simp only [i64_w, i32_w]; rw [c11b0]) | skip)
         replace H := Option.bind_eq_some_iff.mp H
         obtain ⟨t181, A120, H⟩ := H
         replace H : (if t181 = true then ((impl_sectionAt.f k1 l0 ((rd_T159 l0 x9_1).f3)).bind fun t182 => (impl_areSections.j1 k1 l0 l0 (l0.length : Int) x9_1 (decide (t182 < 0)) ((rd_T159 l0 x9_1).f0) ((rd_T159 l0 x9_1).f1) ((rd_T159 l0 x9_1).f2) ((rd_T159 l0 x9_1).f3))) else (impl_areSections.j1 k1 l0 l0 (l0.length : Int) x9_1 true ((rd_T159 l0 x9_1).f0) ((rd_T159 l0 x9_1).f1) ((rd_T159 l0 x9_1).f2) ((rd_T159 l0 x9_1).f3))) = some r := H
         have A12 := Aside0.mk A120
         clear A120
         by_cases c13 : t181 = true
         ·subst c13
          have H1 : ((impl_sectionAt.f k1 l0 ((rd_T159 l0 x9_1).f3)).bind fun t182 => (impl_areSections.j1 k1 l0 l0 (l0.length : Int) x9_1 (decide (t182 < 0)) ((rd_T159 l0 x9_1).f0) ((rd_T159 l0 x9_1).f1) ((rd_T159 l0 x9_1).f2) ((rd_T159 l0 x9_1).f3))) = some r := by rw [if_pos rfl] at H; exact H
          clear H
          have H := H1
          clear H1
          replace H := Option.bind_eq_some_iff.mp H
          obtain ⟨t182, A140, H⟩ := H
          replace H : (impl_areSections.j1 k1 l0 l0 (l0.length : Int) x9_1 (decide (t182 < 0)) ((rd_T159 l0 x9_1).f0) ((rd_T159 l0 x9_1).f1) ((rd_T159 l0 x9_1).f2) ((rd_T159 l0 x9_1).f3)) = some r := H
          have A14 := Aside0.mk A140
          clear A140
          have H' := Aside0.mk H
          clear H
          have hcz15_0 : w6.cell? ⟨gb178, 0, none⟩ = some (.string (⟨#[]⟩ : ByteArray)) := (blk_cell BK178.out 0).trans rfl
          have hcz15_1 : w6.cell? ⟨gb178, 1, none⟩ = some (.int .i64 0) := (blk_cell BK178.out 1).trans rfl
          have hcz15_2 : w6.cell? ⟨gb178, 2, none⟩ = some (.slice none 0 0) := (blk_cell BK178.out 2).trans rfl
          have hcz15_3 : w6.cell? ⟨gb178, 3, none⟩ = some (.string (⟨#[]⟩ : ByteArray)) := (blk_cell BK178.out 3).trans rfl
          have hfz15_0 := blk_frozen BK178.out 0
          have hfz15_1 := blk_frozen BK178.out 1
          have hfz15_2 := blk_frozen BK178.out 2
          have hfz15_3 := blk_frozen BK178.out 3
          go_wp2_with (first | ((with_reducible refine gate_callee (f := 117) rfl ?_); refine goesL_ (some 16) rfl rfl Try.func117 (by kernel_rfl) rfl #[.string ((rd_T159 l0 x9_1).f0)] rfl (by (try simp only [List.map_toArray, List.map_cons, List.map_nil]); first | done | rfl | (simp only [List.length_drop, List.length_take]; rfl)) ?_; (with_reducible refine (impl_GoodName.calls k1 ((rd_T159 l0 x9_1).f0) true _ A8.out).mono ?_); rintro e w' ⟨rfl, ⟨nd, rfl⟩⟩; refine ⟨_, rfl, ?_⟩) | (go_at_call 128; (with_reducible refine (impl_sectionAt.calls k1 _ _ l0 ((rd_T159 l0 x9_1).f0) t180 _ ?side1 ?side2 A10.out).mono ?_); (case side1 => exact Kd.C_below HR0.out (by repeat (first | (with_reducible first | exact HB.out | apply below_alloc | apply pw_below_drewN | apply below_drew1 | refine below_set ?_ GE178.out) | exact HB.out))); (case side2 => exact HC0.out); rintro e w16 ⟨rfl, hb⟩; have n0_ := Aside0.mk (blk_below (g := gb178) (o := .cells #[.string ((rd_T159 l0 x9_1).f0), .int .i64 ((rd_T159 l0 x9_1).f1), .slice A177_2 ((rd_T159 l0 x9_1).f2).length c177_2, .string ((rd_T159 l0 x9_1).f3)] 159 (0, 0)) (by (with_reducible repeat (first | refine blk_drewN ?_ _ | refine blk_drew ?_ | refine blk_alloc ?_ _)); refine blk_put (cs := #[.string ((rd_T159 l0 x9_1).f0), .int .i64 ((rd_T159 l0 x9_1).f1), .slice A177_2 ((rd_T159 l0 x9_1).f2).length c177_2, .string (⟨#[]⟩ : ByteArray)]) ?_ 3 _ rfl; (with_reducible repeat (first | refine blk_drewN ?_ _ | refine blk_drew ?_ | refine blk_alloc ?_ _)); refine blk_put (cs := #[.string ((rd_T159 l0 x9_1).f0), .int .i64 ((rd_T159 l0 x9_1).f1), .slice none 0 0, .string (⟨#[]⟩ : ByteArray)]) ?_ 2 _ rfl; (with_reducible repeat (first | refine blk_drewN ?_ _ | refine blk_drew ?_ | refine blk_alloc ?_ _)); refine blk_put (cs := #[.string ((rd_T159 l0 x9_1).f0), .int .i64 0, .slice none 0 0, .string (⟨#[]⟩ : ByteArray)]) ?_ 1 _ rfl; (with_reducible repeat (first | refine blk_drewN ?_ _ | refine blk_drew ?_ | refine blk_alloc ?_ _)); refine blk_put (cs := #[.string (⟨#[]⟩ : ByteArray), .int .i64 0, .slice none 0 0, .string (⟨#[]⟩ : ByteArray)]) ?_ 0 _ rfl; (with_reducible repeat (first | refine blk_drewN ?_ _ | refine blk_drew ?_ | refine blk_alloc ?_ _)); exact BK178.out) hb); have n1_ := Aside0.mk (below_step (by repeat (first | (with_reducible first | exact HB.out | apply below_alloc | apply pw_below_drewN | apply below_drew1 | refine below_set ?_ GE178.out) | exact HB.out)) hb); clear BK178; clear HB; have BK178 := n0_; have HB := n1_; clear n0_ n1_; (try clear hb); (try clear hb2); (try clear hk); (try clear hi); have hcz17_0 : w16.cell? ⟨gb178, 0, none⟩ = some (.string ((rd_T159 l0 x9_1).f0)) := (blk_cell BK178.out 0).trans rfl; have hcz17_1 : w16.cell? ⟨gb178, 1, none⟩ = some (.int .i64 ((rd_T159 l0 x9_1).f1)) := (blk_cell BK178.out 1).trans rfl; have hcz17_2 : w16.cell? ⟨gb178, 2, none⟩ = some (.slice A177_2 ((rd_T159 l0 x9_1).f2).length c177_2) := (blk_cell BK178.out 2).trans rfl; have hcz17_3 : w16.cell? ⟨gb178, 3, none⟩ = some (.string ((rd_T159 l0 x9_1).f3)) := (blk_cell BK178.out 3).trans rfl; have hfz17_0 := blk_frozen BK178.out 0; have hfz17_1 := blk_frozen BK178.out 1; have hfz17_2 := blk_frozen BK178.out 2; have hfz17_3 := blk_frozen BK178.out 3) | (go_at_call 92; (with_reducible refine (impl_inRange.calls ((rd_T159 l0 x9_1).f1) 1 64 true _ A12.out).mono ?_); rintro e w' ⟨rfl, ⟨nd, rfl⟩⟩) | (go_at_call 128; (with_reducible refine (impl_sectionAt.calls k1 _ _ l0 ((rd_T159 l0 x9_1).f3) t182 _ ?side1 ?side2 A14.out).mono ?_); (case side1 => repeat (first | exact (Kd.C_below HR0.out (by repeat (first | (with_reducible first | exact HB.out | apply below_alloc | apply pw_below_drewN | apply below_drew1 | refine below_set ?_ GE178.out) | exact HB.out))) | (with_reducible refine Kd.C_alloc ?_ _) | (with_reducible refine Kd.C_drewN ?_ _) | (with_reducible refine Kd.C_drew ?_))); (case side2 => exact HC0.out); rintro e w18 ⟨rfl, hb⟩; have n0_ := Aside0.mk (blk_below (g := gb178) (o := .cells #[.string ((rd_T159 l0 x9_1).f0), .int .i64 ((rd_T159 l0 x9_1).f1), .slice A177_2 ((rd_T159 l0 x9_1).f2).length c177_2, .string ((rd_T159 l0 x9_1).f3)] 159 (0, 0)) (by (with_reducible repeat (first | refine blk_drewN ?_ _ | refine blk_drew ?_ | refine blk_alloc ?_ _)); exact BK178.out) hb); have n1_ := Aside0.mk (below_step (by repeat (first | (with_reducible first | exact HB.out | apply below_alloc | apply pw_below_drewN | apply below_drew1 | refine below_set ?_ GE178.out) | exact HB.out)) hb); clear BK178; clear HB; have BK178 := n0_; have HB := n1_; clear n0_ n1_; (try clear hb); (try clear hb2); (try clear hk); (try clear hi)))
          go_meet
          case rel => exact ⟨_, (decide (t182 < 0)), (by first | rfl | (simp; done) | (simp [*]; done) | (simp [wrap64]; done)), H', ⟨by have := HK1.out; first | omega | exact Nat.le_refl _⟩, ⟨by (with_reducible repeat (first | refine blk_drewN ?_ _ | refine blk_drew ?_ | refine blk_alloc ?_ _)); exact BK178.out⟩, ⟨by repeat (first | (with_reducible first | exact HB.out | apply below_alloc | apply pw_below_drewN | apply below_drew1 | refine below_set ?_ GE178.out) | exact HB.out)⟩⟩
         ·replace c13 := Bool.eq_false_iff.mpr c13
          subst c13
          have H1 : (impl_areSections.j1 k1 l0 l0 (l0.length : Int) x9_1 true ((rd_T159 l0 x9_1).f0) ((rd_T159 l0 x9_1).f1) ((rd_T159 l0 x9_1).f2) ((rd_T159 l0 x9_1).f3)) = some r := by rw [if_neg (show ¬ (false = true) by decide)] at H; exact H
          clear H
          have H := H1
          clear H1
          have H' := Aside0.mk H
          clear H
          have hcz19_0 : w6.cell? ⟨gb178, 0, none⟩ = some (.string (⟨#[]⟩ : ByteArray)) := (blk_cell BK178.out 0).trans rfl
          have hcz19_1 : w6.cell? ⟨gb178, 1, none⟩ = some (.int .i64 0) := (blk_cell BK178.out 1).trans rfl
          have hcz19_2 : w6.cell? ⟨gb178, 2, none⟩ = some (.slice none 0 0) := (blk_cell BK178.out 2).trans rfl
          have hcz19_3 : w6.cell? ⟨gb178, 3, none⟩ = some (.string (⟨#[]⟩ : ByteArray)) := (blk_cell BK178.out 3).trans rfl
          have hfz19_0 := blk_frozen BK178.out 0
          have hfz19_1 := blk_frozen BK178.out 1
          have hfz19_2 := blk_frozen BK178.out 2
          have hfz19_3 := blk_frozen BK178.out 3
          go_wp2_with (first | ((with_reducible refine gate_callee (f := 117) rfl ?_); refine goesL_ (some 16) rfl rfl Try.func117 (by kernel_rfl) rfl #[.string ((rd_T159 l0 x9_1).f0)] rfl (by (try simp only [List.map_toArray, List.map_cons, List.map_nil]); first | done | rfl | (simp only [List.length_drop, List.length_take]; rfl)) ?_; (with_reducible refine (impl_GoodName.calls k1 ((rd_T159 l0 x9_1).f0) true _ A8.out).mono ?_); rintro e w' ⟨rfl, ⟨nd, rfl⟩⟩; refine ⟨_, rfl, ?_⟩) | (go_at_call 128; (with_reducible refine (impl_sectionAt.calls k1 _ _ l0 ((rd_T159 l0 x9_1).f0) t180 _ ?side1 ?side2 A10.out).mono ?_); (case side1 => exact Kd.C_below HR0.out (by repeat (first | (with_reducible first | exact HB.out | apply below_alloc | apply pw_below_drewN | apply below_drew1 | refine below_set ?_ GE178.out) | exact HB.out))); (case side2 => exact HC0.out); rintro e w20 ⟨rfl, hb⟩; have n0_ := Aside0.mk (blk_below (g := gb178) (o := .cells #[.string ((rd_T159 l0 x9_1).f0), .int .i64 ((rd_T159 l0 x9_1).f1), .slice A177_2 ((rd_T159 l0 x9_1).f2).length c177_2, .string ((rd_T159 l0 x9_1).f3)] 159 (0, 0)) (by (with_reducible repeat (first | refine blk_drewN ?_ _ | refine blk_drew ?_ | refine blk_alloc ?_ _)); refine blk_put (cs := #[.string ((rd_T159 l0 x9_1).f0), .int .i64 ((rd_T159 l0 x9_1).f1), .slice A177_2 ((rd_T159 l0 x9_1).f2).length c177_2, .string (⟨#[]⟩ : ByteArray)]) ?_ 3 _ rfl; (with_reducible repeat (first | refine blk_drewN ?_ _ | refine blk_drew ?_ | refine blk_alloc ?_ _)); refine blk_put (cs := #[.string ((rd_T159 l0 x9_1).f0), .int .i64 ((rd_T159 l0 x9_1).f1), .slice none 0 0, .string (⟨#[]⟩ : ByteArray)]) ?_ 2 _ rfl; (with_reducible repeat (first | refine blk_drewN ?_ _ | refine blk_drew ?_ | refine blk_alloc ?_ _)); refine blk_put (cs := #[.string ((rd_T159 l0 x9_1).f0), .int .i64 0, .slice none 0 0, .string (⟨#[]⟩ : ByteArray)]) ?_ 1 _ rfl; (with_reducible repeat (first | refine blk_drewN ?_ _ | refine blk_drew ?_ | refine blk_alloc ?_ _)); refine blk_put (cs := #[.string (⟨#[]⟩ : ByteArray), .int .i64 0, .slice none 0 0, .string (⟨#[]⟩ : ByteArray)]) ?_ 0 _ rfl; (with_reducible repeat (first | refine blk_drewN ?_ _ | refine blk_drew ?_ | refine blk_alloc ?_ _)); exact BK178.out) hb); have n1_ := Aside0.mk (below_step (by repeat (first | (with_reducible first | exact HB.out | apply below_alloc | apply pw_below_drewN | apply below_drew1 | refine below_set ?_ GE178.out) | exact HB.out)) hb); clear BK178; clear HB; have BK178 := n0_; have HB := n1_; clear n0_ n1_; (try clear hb); (try clear hb2); (try clear hk); (try clear hi); have hcz21_0 : w20.cell? ⟨gb178, 0, none⟩ = some (.string ((rd_T159 l0 x9_1).f0)) := (blk_cell BK178.out 0).trans rfl; have hcz21_1 : w20.cell? ⟨gb178, 1, none⟩ = some (.int .i64 ((rd_T159 l0 x9_1).f1)) := (blk_cell BK178.out 1).trans rfl; have hcz21_2 : w20.cell? ⟨gb178, 2, none⟩ = some (.slice A177_2 ((rd_T159 l0 x9_1).f2).length c177_2) := (blk_cell BK178.out 2).trans rfl; have hcz21_3 : w20.cell? ⟨gb178, 3, none⟩ = some (.string ((rd_T159 l0 x9_1).f3)) := (blk_cell BK178.out 3).trans rfl; have hfz21_0 := blk_frozen BK178.out 0; have hfz21_1 := blk_frozen BK178.out 1; have hfz21_2 := blk_frozen BK178.out 2; have hfz21_3 := blk_frozen BK178.out 3) | (go_at_call 92; (with_reducible refine (impl_inRange.calls ((rd_T159 l0 x9_1).f1) 1 64 false _ A12.out).mono ?_); rintro e w' ⟨rfl, ⟨nd, rfl⟩⟩))
          go_meet
          case rel => exact ⟨_, (true), (by first | rfl | (simp; done) | (simp [*]; done) | (simp [wrap64]; done)), H', ⟨by have := HK1.out; first | omega | exact Nat.le_refl _⟩, ⟨by (with_reducible repeat (first | refine blk_drewN ?_ _ | refine blk_drew ?_ | refine blk_alloc ?_ _)); exact BK178.out⟩, ⟨by repeat (first | (with_reducible first | exact HB.out | apply below_alloc | apply pw_below_drewN | apply below_drew1 | refine below_set ?_ GE178.out) | exact HB.out)⟩⟩
        ·rw [if_neg c11] at H
         have c11b0 : (t180 == x9_1) = false := beq_eq_false_iff_ne.mpr c11
         have c11b1 : (t180 != x9_1) = true := bne_iff_ne.mpr c11
         (first | rw [c11b0] | (simp only [i64_w, i32_w]; rw [c11b0]) | skip)
         have H' := Aside0.mk H
         clear H
         have hcz22_0 : w6.cell? ⟨gb178, 0, none⟩ = some (.string (⟨#[]⟩ : ByteArray)) := (blk_cell BK178.out 0).trans rfl
         have hcz22_1 : w6.cell? ⟨gb178, 1, none⟩ = some (.int .i64 0) := (blk_cell BK178.out 1).trans rfl
         have hcz22_2 : w6.cell? ⟨gb178, 2, none⟩ = some (.slice none 0 0) := (blk_cell BK178.out 2).trans rfl
         have hcz22_3 : w6.cell? ⟨gb178, 3, none⟩ = some (.string (⟨#[]⟩ : ByteArray)) := (blk_cell BK178.out 3).trans rfl
         have hfz22_0 := blk_frozen BK178.out 0
         have hfz22_1 := blk_frozen BK178.out 1
         have hfz22_2 := blk_frozen BK178.out 2
         have hfz22_3 := blk_frozen BK178.out 3
         go_wp2_with (first | ((with_reducible refine gate_callee (f := 117) rfl ?_); refine goesL_ (some 16) rfl rfl Try.func117 (by kernel_rfl) rfl #[.string ((rd_T159 l0 x9_1).f0)] rfl (by (try simp only [List.map_toArray, List.map_cons, List.map_nil]); first | done | rfl | (simp only [List.length_drop, List.length_take]; rfl)) ?_; (with_reducible refine (impl_GoodName.calls k1 ((rd_T159 l0 x9_1).f0) true _ A8.out).mono ?_); rintro e w' ⟨rfl, ⟨nd, rfl⟩⟩; refine ⟨_, rfl, ?_⟩) | (go_at_call 128; (with_reducible refine (impl_sectionAt.calls k1 _ _ l0 ((rd_T159 l0 x9_1).f0) t180 _ ?side1 ?side2 A10.out).mono ?_); (case side1 => exact Kd.C_below HR0.out (by repeat (first | (with_reducible first | exact HB.out | apply below_alloc | apply pw_below_drewN | apply below_drew1 | refine below_set ?_ GE178.out) | exact HB.out))); (case side2 => exact HC0.out); rintro e w23 ⟨rfl, hb⟩; have n0_ := Aside0.mk (blk_below (g := gb178) (o := .cells #[.string ((rd_T159 l0 x9_1).f0), .int .i64 ((rd_T159 l0 x9_1).f1), .slice A177_2 ((rd_T159 l0 x9_1).f2).length c177_2, .string ((rd_T159 l0 x9_1).f3)] 159 (0, 0)) (by (with_reducible repeat (first | refine blk_drewN ?_ _ | refine blk_drew ?_ | refine blk_alloc ?_ _)); refine blk_put (cs := #[.string ((rd_T159 l0 x9_1).f0), .int .i64 ((rd_T159 l0 x9_1).f1), .slice A177_2 ((rd_T159 l0 x9_1).f2).length c177_2, .string (⟨#[]⟩ : ByteArray)]) ?_ 3 _ rfl; (with_reducible repeat (first | refine blk_drewN ?_ _ | refine blk_drew ?_ | refine blk_alloc ?_ _)); refine blk_put (cs := #[.string ((rd_T159 l0 x9_1).f0), .int .i64 ((rd_T159 l0 x9_1).f1), .slice none 0 0, .string (⟨#[]⟩ : ByteArray)]) ?_ 2 _ rfl; (with_reducible repeat (first | refine blk_drewN ?_ _ | refine blk_drew ?_ | refine blk_alloc ?_ _)); refine blk_put (cs := #[.string ((rd_T159 l0 x9_1).f0), .int .i64 0, .slice none 0 0, .string (⟨#[]⟩ : ByteArray)]) ?_ 1 _ rfl; (with_reducible repeat (first | refine blk_drewN ?_ _ | refine blk_drew ?_ | refine blk_alloc ?_ _)); refine blk_put (cs := #[.string (⟨#[]⟩ : ByteArray), .int .i64 0, .slice none 0 0, .string (⟨#[]⟩ : ByteArray)]) ?_ 0 _ rfl; (with_reducible repeat (first | refine blk_drewN ?_ _ | refine blk_drew ?_ | refine blk_alloc ?_ _)); exact BK178.out) hb); have n1_ := Aside0.mk (below_step (by repeat (first | (with_reducible first | exact HB.out | apply below_alloc | apply pw_below_drewN | apply below_drew1 | refine below_set ?_ GE178.out) | exact HB.out)) hb); clear BK178; clear HB; have BK178 := n0_; have HB := n1_; clear n0_ n1_; (try clear hb); (try clear hb2); (try clear hk); (try clear hi)))
         go_meet
         case rel => exact ⟨_, (true), (by first | rfl | (simp; done) | (simp [*]; done) | (simp [wrap64]; done)), H', ⟨by have := HK1.out; first | omega | exact Nat.le_refl _⟩, ⟨by (with_reducible repeat (first | refine blk_drewN ?_ _ | refine blk_drew ?_ | refine blk_alloc ?_ _)); exact BK178.out⟩, ⟨by repeat (first | (with_reducible first | exact HB.out | apply below_alloc | apply pw_below_drewN | apply below_drew1 | refine below_set ?_ GE178.out) | exact HB.out)⟩⟩
       ·replace c9 := Bool.eq_false_iff.mpr c9
        subst c9
        have H1 : (impl_areSections.j1 k1 l0 l0 (l0.length : Int) x9_1 true ((rd_T159 l0 x9_1).f0) ((rd_T159 l0 x9_1).f1) ((rd_T159 l0 x9_1).f2) ((rd_T159 l0 x9_1).f3)) = some r := by rw [if_neg (show ¬ (false = true) by decide)] at H; exact H
        clear H
        have H := H1
        clear H1
        have H' := Aside0.mk H
        clear H
        have hcz24_0 : w6.cell? ⟨gb178, 0, none⟩ = some (.string (⟨#[]⟩ : ByteArray)) := (blk_cell BK178.out 0).trans rfl
        have hcz24_1 : w6.cell? ⟨gb178, 1, none⟩ = some (.int .i64 0) := (blk_cell BK178.out 1).trans rfl
        have hcz24_2 : w6.cell? ⟨gb178, 2, none⟩ = some (.slice none 0 0) := (blk_cell BK178.out 2).trans rfl
        have hcz24_3 : w6.cell? ⟨gb178, 3, none⟩ = some (.string (⟨#[]⟩ : ByteArray)) := (blk_cell BK178.out 3).trans rfl
        have hfz24_0 := blk_frozen BK178.out 0
        have hfz24_1 := blk_frozen BK178.out 1
        have hfz24_2 := blk_frozen BK178.out 2
        have hfz24_3 := blk_frozen BK178.out 3
        go_wp2_with (first | ((with_reducible refine gate_callee (f := 117) rfl ?_); refine goesL_ (some 16) rfl rfl Try.func117 (by kernel_rfl) rfl #[.string ((rd_T159 l0 x9_1).f0)] rfl (by (try simp only [List.map_toArray, List.map_cons, List.map_nil]); first | done | rfl | (simp only [List.length_drop, List.length_take]; rfl)) ?_; (with_reducible refine (impl_GoodName.calls k1 ((rd_T159 l0 x9_1).f0) false _ A8.out).mono ?_); rintro e w' ⟨rfl, ⟨nd, rfl⟩⟩; refine ⟨_, rfl, ?_⟩))
        go_meet
        case rel => exact ⟨_, (true), (by first | rfl | (simp; done) | (simp [*]; done) | (simp [wrap64]; done)), H', ⟨by have := HK1.out; first | omega | exact Nat.le_refl _⟩, ⟨by (with_reducible repeat (first | refine blk_drewN ?_ _ | refine blk_drew ?_ | refine blk_alloc ?_ _)); refine blk_put (cs := #[.string ((rd_T159 l0 x9_1).f0), .int .i64 ((rd_T159 l0 x9_1).f1), .slice A177_2 ((rd_T159 l0 x9_1).f2).length c177_2, .string (⟨#[]⟩ : ByteArray)]) ?_ 3 _ rfl; (with_reducible repeat (first | refine blk_drewN ?_ _ | refine blk_drew ?_ | refine blk_alloc ?_ _)); refine blk_put (cs := #[.string ((rd_T159 l0 x9_1).f0), .int .i64 ((rd_T159 l0 x9_1).f1), .slice none 0 0, .string (⟨#[]⟩ : ByteArray)]) ?_ 2 _ rfl; (with_reducible repeat (first | refine blk_drewN ?_ _ | refine blk_drew ?_ | refine blk_alloc ?_ _)); refine blk_put (cs := #[.string ((rd_T159 l0 x9_1).f0), .int .i64 0, .slice none 0 0, .string (⟨#[]⟩ : ByteArray)]) ?_ 1 _ rfl; (with_reducible repeat (first | refine blk_drewN ?_ _ | refine blk_drew ?_ | refine blk_alloc ?_ _)); refine blk_put (cs := #[.string (⟨#[]⟩ : ByteArray), .int .i64 0, .slice none 0 0, .string (⟨#[]⟩ : ByteArray)]) ?_ 0 _ rfl; (with_reducible repeat (first | refine blk_drewN ?_ _ | refine blk_drew ?_ | refine blk_alloc ?_ _)); exact BK178.out⟩, ⟨by repeat (first | (with_reducible first | exact HB.out | apply below_alloc | apply pw_below_drewN | apply below_drew1 | refine below_set ?_ GE178.out) | exact HB.out)⟩⟩
      case rest =>
       clear HC5
       try clear c1
       try clear p1
       try clear q1
       try clear hx1
       try clear c2
       try clear c2b0
       try clear p2
       try clear c3
       try clear c3b0
       try clear c4
       try clear c4b0
       try clear c9
       try clear c11
       try clear c11b0
       try clear c11b1
       try clear c12
       try clear c13
       try clear c17
       try clear p17
       try clear q17
       try clear hx17
       try clear hcz15_0
       try clear hcz15_1
       try clear hcz15_2
       try clear hcz15_3
       try clear hcz17_0
       try clear hcz17_1
       try clear hcz17_2
       try clear hcz17_3
       try clear hcz19_0
       try clear hcz19_1
       try clear hcz19_2
       try clear hcz19_3
       try clear hcz21_0
       try clear hcz21_1
       try clear hcz21_2
       try clear hcz21_3
       try clear hcz22_0
       try clear hcz22_1
       try clear hcz22_2
       try clear hcz22_3
       try clear hcz24_0
       try clear hcz24_1
       try clear hcz24_2
       try clear hcz24_3
       try clear hcz7_0
       try clear hcz7_1
       try clear hcz7_2
       try clear hcz7_3
       try clear hfz15_0
       try clear hfz15_1
       try clear hfz15_2
       try clear hfz15_3
       try clear hfz17_0
       try clear hfz17_1
       try clear hfz17_2
       try clear hfz17_3
       try clear hfz19_0
       try clear hfz19_1
       try clear hfz19_2
       try clear hfz19_3
       try clear hfz21_0
       try clear hfz21_1
       try clear hfz21_2
       try clear hfz21_3
       try clear hfz22_0
       try clear hfz22_1
       try clear hfz22_2
       try clear hfz22_3
       try clear hfz24_0
       try clear hfz24_1
       try clear hfz24_2
       try clear hfz24_3
       try clear hfz7_0
       try clear hfz7_1
       try clear hfz7_2
       try clear hfz7_3
       try clear hx177_0
       try clear hx177_1
       try clear hx177_2
       try clear hx177_3
       try clear p177
       try clear q177
       obtain ⟨kq, x38_4, rfl, HA, HJ4, BK178, HB⟩ := hcut
       cases kq with
       | zero => exact absurd HA.out (by simp [impl_areSections.j1])
       | succ kj4 =>
        have H := HA.out
        clear HA
        simp only [impl_areSections.j1] at H
        by_cases c25 : x38_4 = true
        ·subst c25
         have H1 : (some false) = some r := by rw [if_pos rfl] at H; exact H
         clear H
         have H := H1
         clear H1
         obtain rfl := Option.some.inj H
         go_wp2
         go_ret
         exact ⟨by first | rfl | (simp [errW_none, errW_some] <;> rfl) | (simp [*, errW_none, errW_some] <;> rfl), by repeat (first | (with_reducible first | exact HB.out | apply below_alloc | apply pw_below_drewN | apply below_drew1 | refine below_set ?_ GE178.out) | exact HB.out)⟩
        ·replace c25 := Bool.eq_false_iff.mpr c25
         subst c25
         have H1 : (impl_areSections.l1 kj4 l0 l0 (l0.length : Int) x9_1 ((rd_T159 l0 x9_1).f2) (((rd_T159 l0 x9_1).f2).length : Int) 0 ((rd_T159 l0 x9_1).f0) ((rd_T159 l0 x9_1).f1) ((rd_T159 l0 x9_1).f2) ((rd_T159 l0 x9_1).f3)) = some r := by rw [if_neg (show ¬ (false = true) by decide)] at H; exact H
         clear H
         have H := H1
         clear H1
         have H' := Aside0.mk H
         clear H
         have hcz26_0 : wc.cell? ⟨gb178, 0, none⟩ = some (.string ((rd_T159 l0 x9_1).f0)) := (blk_cell BK178.out 0).trans rfl
         have hcz26_1 : wc.cell? ⟨gb178, 1, none⟩ = some (.int .i64 ((rd_T159 l0 x9_1).f1)) := (blk_cell BK178.out 1).trans rfl
         have hcz26_2 : wc.cell? ⟨gb178, 2, none⟩ = some (.slice A177_2 ((rd_T159 l0 x9_1).f2).length c177_2) := (blk_cell BK178.out 2).trans rfl
         have hcz26_3 : wc.cell? ⟨gb178, 3, none⟩ = some (.string ((rd_T159 l0 x9_1).f3)) := (blk_cell BK178.out 3).trans rfl
         have hfz26_0 := blk_frozen BK178.out 0
         have hfz26_1 := blk_frozen BK178.out 1
         have hfz26_2 := blk_frozen BK178.out 2
         have hfz26_3 := blk_frozen BK178.out 3
         go_wp2
         go_loopg [42] kj4 (fun kq v42 w' => ∃ (x42_3 : Int), v42 = .int .i64 x42_3 ∧ Aside0 (impl_areSections.l1 kq l0 l0 (l0.length : Int) x9_1 ((rd_T159 l0 x9_1).f2) (((rd_T159 l0 x9_1).f2).length : Int) x42_3 ((rd_T159 l0 x9_1).f0) ((rd_T159 l0 x9_1).f1) ((rd_T159 l0 x9_1).f2) ((rd_T159 l0 x9_1).f3) = some r) ∧ Aside0 (kq ≤ kj4) ∧ Aside0 (w'.heap[gb178]? = some (.cells #[.string ((rd_T159 l0 x9_1).f0), .int .i64 ((rd_T159 l0 x9_1).f1), (.slice A177_2 ((rd_T159 l0 x9_1).f2).length c177_2), .string ((rd_T159 l0 x9_1).f3)] 159 (0, 0))) ∧ Aside0 (Below w.heap.size w w'))
         case atStart => exact ⟨(0), (by first | rfl | (simp; done) | (simp [*]; done) | (simp [wrap64]; done)), H', ⟨Nat.le_refl _⟩, ⟨by (with_reducible repeat (first | refine blk_drewN ?_ _ | refine blk_drew ?_ | refine blk_alloc ?_ _)); exact BK178.out⟩, ⟨by repeat (first | (with_reducible first | exact HB.out | apply below_alloc | apply pw_below_drewN | apply below_drew1 | refine below_set ?_ GE178.out) | exact HB.out)⟩⟩
         case round =>
          clear H'
          try clear c1
          try clear p1
          try clear q1
          try clear hx1
          try clear c2
          try clear c2b0
          try clear p2
          try clear c3
          try clear c3b0
          try clear c4
          try clear c4b0
          try clear c9
          try clear c11
          try clear c11b0
          try clear c11b1
          try clear c12
          try clear c13
          try clear c17
          try clear p17
          try clear q17
          try clear hx17
          try clear c25
          try clear hcz15_0
          try clear hcz15_1
          try clear hcz15_2
          try clear hcz15_3
          try clear hcz17_0
          try clear hcz17_1
          try clear hcz17_2
          try clear hcz17_3
          try clear hcz19_0
          try clear hcz19_1
          try clear hcz19_2
          try clear hcz19_3
          try clear hcz21_0
          try clear hcz21_1
          try clear hcz21_2
          try clear hcz21_3
          try clear hcz22_0
          try clear hcz22_1
          try clear hcz22_2
          try clear hcz22_3
          try clear hcz24_0
          try clear hcz24_1
          try clear hcz24_2
          try clear hcz24_3
          try clear hcz26_0
          try clear hcz26_1
          try clear hcz26_2
          try clear hcz26_3
          try clear hcz7_0
          try clear hcz7_1
          try clear hcz7_2
          try clear hcz7_3
          try clear hfz15_0
          try clear hfz15_1
          try clear hfz15_2
          try clear hfz15_3
          try clear hfz17_0
          try clear hfz17_1
          try clear hfz17_2
          try clear hfz17_3
          try clear hfz19_0
          try clear hfz19_1
          try clear hfz19_2
          try clear hfz19_3
          try clear hfz21_0
          try clear hfz21_1
          try clear hfz21_2
          try clear hfz21_3
          try clear hfz22_0
          try clear hfz22_1
          try clear hfz22_2
          try clear hfz22_3
          try clear hfz24_0
          try clear hfz24_1
          try clear hfz24_2
          try clear hfz24_3
          try clear hfz26_0
          try clear hfz26_1
          try clear hfz26_2
          try clear hfz26_3
          try clear hfz7_0
          try clear hfz7_1
          try clear hfz7_2
          try clear hfz7_3
          try clear hx177_0
          try clear hx177_1
          try clear hx177_2
          try clear hx177_3
          try clear p1
          try clear p17
          try clear p177
          try clear p2
          try clear q1
          try clear q17
          try clear q177
          obtain ⟨x42_3, rfl, HA, HK3, BK178, HB⟩ := hrel
          cases gk with
          | zero => exact absurd HA.out (by simp [impl_areSections.l1])
          | succ k3 =>
           have H := HA.out
           clear HA
           simp only [impl_areSections.l1] at H
           by_cases c27 : x42_3 < (((rd_T159 l0 x9_1).f2).length : Int)
           ·rw [if_pos c27] at H
            have c27b0 : decide (x42_3 < (((rd_T159 l0 x9_1).f2).length : Int)) = true := decide_eq_true c27
            clear c27
            by_cases c28 : 0 ≤ x42_3
            ·rw [if_pos c28] at H
             have c28b0 : decide (0 ≤ x42_3) = true := decide_eq_true c28
             clear c28
             by_cases c29 : x42_3 < (((rd_T159 l0 x9_1).f2).length : Int)
             ·rw [if_pos c29] at H
              have c29b0 : decide (x42_3 < (((rd_T159 l0 x9_1).f2).length : Int)) = true := decide_eq_true c29
              clear c29
              replace H := Option.bind_eq_some_iff.mp H
              obtain ⟨t184, A300, H⟩ := H
              replace H : (if t184 = true then (if x42_3 > 0 then (if 0 ≤ (wrap64 (x42_3 - 1)) then (if (wrap64 (x42_3 - 1)) < (((rd_T159 l0 x9_1).f2).length : Int) then (if (rd ((rd_T159 l0 x9_1).f2) (wrap64 (x42_3 - 1))) ≥ (rd ((rd_T159 l0 x9_1).f2) x42_3) then (some false) else (impl_areSections.l1 k3 l0 l0 (l0.length : Int) x9_1 ((rd_T159 l0 x9_1).f2) (((rd_T159 l0 x9_1).f2).length : Int) (wrap64 (x42_3 + 1)) ((rd_T159 l0 x9_1).f0) ((rd_T159 l0 x9_1).f1) ((rd_T159 l0 x9_1).f2) ((rd_T159 l0 x9_1).f3))) else (none)) else (none)) else (impl_areSections.l1 k3 l0 l0 (l0.length : Int) x9_1 ((rd_T159 l0 x9_1).f2) (((rd_T159 l0 x9_1).f2).length : Int) (wrap64 (x42_3 + 1)) ((rd_T159 l0 x9_1).f0) ((rd_T159 l0 x9_1).f1) ((rd_T159 l0 x9_1).f2) ((rd_T159 l0 x9_1).f3))) else (some false)) = some r := H
              have A30 := Aside0.mk A300
              clear A300
              by_cases c31 : t184 = true
              ·subst c31
               have H1 : (if x42_3 > 0 then (if 0 ≤ (wrap64 (x42_3 - 1)) then (if (wrap64 (x42_3 - 1)) < (((rd_T159 l0 x9_1).f2).length : Int) then (if (rd ((rd_T159 l0 x9_1).f2) (wrap64 (x42_3 - 1))) ≥ (rd ((rd_T159 l0 x9_1).f2) x42_3) then (some false) else (impl_areSections.l1 k3 l0 l0 (l0.length : Int) x9_1 ((rd_T159 l0 x9_1).f2) (((rd_T159 l0 x9_1).f2).length : Int) (wrap64 (x42_3 + 1)) ((rd_T159 l0 x9_1).f0) ((rd_T159 l0 x9_1).f1) ((rd_T159 l0 x9_1).f2) ((rd_T159 l0 x9_1).f3))) else (none)) else (none)) else (impl_areSections.l1 k3 l0 l0 (l0.length : Int) x9_1 ((rd_T159 l0 x9_1).f2) (((rd_T159 l0 x9_1).f2).length : Int) (wrap64 (x42_3 + 1)) ((rd_T159 l0 x9_1).f0) ((rd_T159 l0 x9_1).f1) ((rd_T159 l0 x9_1).f2) ((rd_T159 l0 x9_1).f3))) = some r := by rw [if_pos rfl] at H; exact H
               clear H
               have H := H1
               clear H1
               by_cases c32 : x42_3 > 0
               ·rw [if_pos c32] at H
                have c32b0 : decide (0 < x42_3) = true := decide_eq_true c32
                clear c32
                obtain ⟨ji33, hji33⟩ : ∃ j_ : Int, (wrap64 (x42_3 - 1)) = j_ := ⟨_, rfl⟩
                replace H : (if 0 ≤ (ji33) then (if (ji33) < (((rd_T159 l0 x9_1).f2).length : Int) then (if (rd ((rd_T159 l0 x9_1).f2) (ji33)) ≥ (rd ((rd_T159 l0 x9_1).f2) x42_3) then (some false) else (impl_areSections.l1 k3 l0 l0 (l0.length : Int) x9_1 ((rd_T159 l0 x9_1).f2) (((rd_T159 l0 x9_1).f2).length : Int) (wrap64 (x42_3 + 1)) ((rd_T159 l0 x9_1).f0) ((rd_T159 l0 x9_1).f1) ((rd_T159 l0 x9_1).f2) ((rd_T159 l0 x9_1).f3))) else (none)) else (none)) = some r := by first | (rw [hji33] at H; exact H) | (simp only [hji33] at H ⊢; exact H)
                (try rw [hji33] at A30)
                have hji33w : (IntKind.i64.wrap (x42_3 - 1)) = ji33 := (i64_w _).trans hji33
                by_cases c34 : 0 ≤ (ji33)
                ·rw [if_pos c34] at H
                 have c34b0 : decide (0 ≤ (ji33)) = true := decide_eq_true c34
                 clear c34
                 by_cases c35 : (ji33) < (((rd_T159 l0 x9_1).f2).length : Int)
                 ·rw [if_pos c35] at H
                  have c35b0 : decide ((ji33) < (((rd_T159 l0 x9_1).f2).length : Int)) = true := decide_eq_true c35
                  clear c35
                  by_cases c36 : (rd ((rd_T159 l0 x9_1).f2) (ji33)) ≥ (rd ((rd_T159 l0 x9_1).f2) x42_3)
                  ·rw [if_pos c36] at H
                   have c36b0 : decide ((rd ((rd_T159 l0 x9_1).f2) x42_3) ≤ (rd ((rd_T159 l0 x9_1).f2) (ji33))) = true := decide_eq_true c36
                   clear c36
                   obtain rfl := Option.some.inj H
                   have p183 : 0 ≤ (x42_3 : Int) := of_decide_eq_true (by first | (with_reducible assumption) | assumption)
                   have q183 : x42_3 < (((rd_T159 l0 x9_1).f2).length : Int) := of_decide_eq_true (by first | (with_reducible assumption) | assumption)
                   obtain ⟨ad183, e183, hx183_0⟩ := Kd.at_int HR177_2.out x42_3 p183 q183
                   cases e183
                   (try replace hx183_0 := (HB.out.cell (World.block_lt_of_cell? w _ hx183_0)).trans hx183_0)
                   replace p183 := eq_true p183
                   replace q183 := eq_true q183
                   have hcz37_0 : wr.cell? ⟨gb178, 0, none⟩ = some (.string ((rd_T159 l0 x9_1).f0)) := (blk_cell BK178.out 0).trans rfl
                   have hcz37_1 : wr.cell? ⟨gb178, 1, none⟩ = some (.int .i64 ((rd_T159 l0 x9_1).f1)) := (blk_cell BK178.out 1).trans rfl
                   have hcz37_2 : wr.cell? ⟨gb178, 2, none⟩ = some (.slice (some ad183) ((rd_T159 l0 x9_1).f2).length c177_2) := (blk_cell BK178.out 2).trans rfl
                   have hcz37_3 : wr.cell? ⟨gb178, 3, none⟩ = some (.string ((rd_T159 l0 x9_1).f3)) := (blk_cell BK178.out 3).trans rfl
                   have hfz37_0 := blk_frozen BK178.out 0
                   have hfz37_1 := blk_frozen BK178.out 1
                   have hfz37_2 := blk_frozen BK178.out 2
                   have hfz37_3 := blk_frozen BK178.out 3
                   go_wp2_with (first | ((with_reducible refine gate_callee (f := 92) rfl ?_); refine goesL_ (some 51) rfl rfl Try.func92 (by kernel_rfl) rfl #[.int .i64 (rd ((rd_T159 l0 x9_1).f2) x42_3), .int .i64 0, .int .i64 (wrap64 (((rd_T159 l0 x9_1).f1) - 1))] rfl (by (try simp only [List.map_toArray, List.map_cons, List.map_nil]); first | done | rfl | (simp only [List.length_drop, List.length_take]; rfl)) ?_; (with_reducible refine (impl_inRange.calls (rd ((rd_T159 l0 x9_1).f2) x42_3) 0 (wrap64 (((rd_T159 l0 x9_1).f1) - 1)) true _ A30.out).mono ?_); rintro e w' ⟨rfl, ⟨nd, rfl⟩⟩; refine ⟨_, rfl, ?_⟩; have p185 : 0 ≤ ((ji33) : Int) := of_decide_eq_true (by first | (with_reducible assumption) | assumption); have q185 : (ji33) < (((rd_T159 l0 x9_1).f2).length : Int) := of_decide_eq_true (by first | (with_reducible assumption) | assumption); obtain ⟨ad185, e185, hx185_0⟩ := Kd.at_int HR177_2.out (ji33) p185 q185; obtain rfl : ad183 = ad185 := (by injection e185); (try replace hx185_0 := (HB.out.cell (World.block_lt_of_cell? w _ hx185_0)).trans hx185_0); replace p185 := eq_true p185; replace q185 := eq_true q185))
                   go_ret
                   exact ⟨by first | rfl | (simp [errW_none, errW_some] <;> rfl) | (simp only [← hji33]; first | rfl | (simp [errW_none, errW_some] <;> rfl)) | (simp [*, errW_none, errW_some] <;> rfl), by repeat (first | (with_reducible first | exact HB.out | apply below_alloc | apply pw_below_drewN | apply below_drew1 | refine below_set ?_ GE178.out) | exact HB.out)⟩
                  ·rw [if_neg c36] at H
                   have c36b0 : decide ((rd ((rd_T159 l0 x9_1).f2) x42_3) ≤ (rd ((rd_T159 l0 x9_1).f2) (ji33))) = false := decide_eq_false c36
                   clear c36
                   have H' := Aside0.mk H
                   clear H
                   have p183 : 0 ≤ (x42_3 : Int) := of_decide_eq_true (by first | (with_reducible assumption) | assumption)
                   have q183 : x42_3 < (((rd_T159 l0 x9_1).f2).length : Int) := of_decide_eq_true (by first | (with_reducible assumption) | assumption)
                   obtain ⟨ad183, e183, hx183_0⟩ := Kd.at_int HR177_2.out x42_3 p183 q183
                   cases e183
                   (try replace hx183_0 := (HB.out.cell (World.block_lt_of_cell? w _ hx183_0)).trans hx183_0)
                   replace p183 := eq_true p183
                   replace q183 := eq_true q183
                   have hcz38_0 : wr.cell? ⟨gb178, 0, none⟩ = some (.string ((rd_T159 l0 x9_1).f0)) := (blk_cell BK178.out 0).trans rfl
                   have hcz38_1 : wr.cell? ⟨gb178, 1, none⟩ = some (.int .i64 ((rd_T159 l0 x9_1).f1)) := (blk_cell BK178.out 1).trans rfl
                   have hcz38_2 : wr.cell? ⟨gb178, 2, none⟩ = some (.slice (some ad183) ((rd_T159 l0 x9_1).f2).length c177_2) := (blk_cell BK178.out 2).trans rfl
                   have hcz38_3 : wr.cell? ⟨gb178, 3, none⟩ = some (.string ((rd_T159 l0 x9_1).f3)) := (blk_cell BK178.out 3).trans rfl
                   have hfz38_0 := blk_frozen BK178.out 0
                   have hfz38_1 := blk_frozen BK178.out 1
                   have hfz38_2 := blk_frozen BK178.out 2
                   have hfz38_3 := blk_frozen BK178.out 3
                   go_wp2_with (first | ((with_reducible refine gate_callee (f := 92) rfl ?_); refine goesL_ (some 51) rfl rfl Try.func92 (by kernel_rfl) rfl #[.int .i64 (rd ((rd_T159 l0 x9_1).f2) x42_3), .int .i64 0, .int .i64 (wrap64 (((rd_T159 l0 x9_1).f1) - 1))] rfl (by (try simp only [List.map_toArray, List.map_cons, List.map_nil]); first | done | rfl | (simp only [List.length_drop, List.length_take]; rfl)) ?_; (with_reducible refine (impl_inRange.calls (rd ((rd_T159 l0 x9_1).f2) x42_3) 0 (wrap64 (((rd_T159 l0 x9_1).f1) - 1)) true _ A30.out).mono ?_); rintro e w' ⟨rfl, ⟨nd, rfl⟩⟩; refine ⟨_, rfl, ?_⟩; have p185 : 0 ≤ ((ji33) : Int) := of_decide_eq_true (by first | (with_reducible assumption) | assumption); have q185 : (ji33) < (((rd_T159 l0 x9_1).f2).length : Int) := of_decide_eq_true (by first | (with_reducible assumption) | assumption); obtain ⟨ad185, e185, hx185_0⟩ := Kd.at_int HR177_2.out (ji33) p185 q185; obtain rfl : ad183 = ad185 := (by injection e185); (try replace hx185_0 := (HB.out.cell (World.block_lt_of_cell? w _ hx185_0)).trans hx185_0); replace p185 := eq_true p185; replace q185 := eq_true q185))
                   go_roundg k3
                   case measure => have := HK1.out; have := HJ4.out; have := HK3.out; omega
                   case rel => exact ⟨(wrap64 (x42_3 + 1)), (by first | rfl | (simp; done) | (simp [*]; done) | (simp [wrap64]; done)), H', ⟨by have := HK1.out; have := HJ4.out; have := HK3.out; omega⟩, ⟨by (with_reducible repeat (first | refine blk_drewN ?_ _ | refine blk_drew ?_ | refine blk_alloc ?_ _)); exact BK178.out⟩, ⟨by repeat (first | (with_reducible first | exact HB.out | apply below_alloc | apply pw_below_drewN | apply below_drew1 | refine below_set ?_ GE178.out) | exact HB.out)⟩⟩
                 ·rw [if_neg c35] at H
                  exact absurd H (by simp)
                ·rw [if_neg c34] at H
                 exact absurd H (by simp)
               ·rw [if_neg c32] at H
                have c32b0 : decide (0 < x42_3) = false := decide_eq_false c32
                clear c32
                have H' := Aside0.mk H
                clear H
                have p183 : 0 ≤ (x42_3 : Int) := of_decide_eq_true (by first | (with_reducible assumption) | assumption)
                have q183 : x42_3 < (((rd_T159 l0 x9_1).f2).length : Int) := of_decide_eq_true (by first | (with_reducible assumption) | assumption)
                obtain ⟨ad183, e183, hx183_0⟩ := Kd.at_int HR177_2.out x42_3 p183 q183
                cases e183
                (try replace hx183_0 := (HB.out.cell (World.block_lt_of_cell? w _ hx183_0)).trans hx183_0)
                replace p183 := eq_true p183
                replace q183 := eq_true q183
                have hcz39_0 : wr.cell? ⟨gb178, 0, none⟩ = some (.string ((rd_T159 l0 x9_1).f0)) := (blk_cell BK178.out 0).trans rfl
                have hcz39_1 : wr.cell? ⟨gb178, 1, none⟩ = some (.int .i64 ((rd_T159 l0 x9_1).f1)) := (blk_cell BK178.out 1).trans rfl
                have hcz39_2 : wr.cell? ⟨gb178, 2, none⟩ = some (.slice (some ad183) ((rd_T159 l0 x9_1).f2).length c177_2) := (blk_cell BK178.out 2).trans rfl
                have hcz39_3 : wr.cell? ⟨gb178, 3, none⟩ = some (.string ((rd_T159 l0 x9_1).f3)) := (blk_cell BK178.out 3).trans rfl
                have hfz39_0 := blk_frozen BK178.out 0
                have hfz39_1 := blk_frozen BK178.out 1
                have hfz39_2 := blk_frozen BK178.out 2
                have hfz39_3 := blk_frozen BK178.out 3
                go_wp2_with (first | ((with_reducible refine gate_callee (f := 92) rfl ?_); refine goesL_ (some 51) rfl rfl Try.func92 (by kernel_rfl) rfl #[.int .i64 (rd ((rd_T159 l0 x9_1).f2) x42_3), .int .i64 0, .int .i64 (wrap64 (((rd_T159 l0 x9_1).f1) - 1))] rfl (by (try simp only [List.map_toArray, List.map_cons, List.map_nil]); first | done | rfl | (simp only [List.length_drop, List.length_take]; rfl)) ?_; (with_reducible refine (impl_inRange.calls (rd ((rd_T159 l0 x9_1).f2) x42_3) 0 (wrap64 (((rd_T159 l0 x9_1).f1) - 1)) true _ A30.out).mono ?_); rintro e w' ⟨rfl, ⟨nd, rfl⟩⟩; refine ⟨_, rfl, ?_⟩))
                go_roundg k3
                case measure => have := HK1.out; have := HJ4.out; have := HK3.out; omega
                case rel => exact ⟨(wrap64 (x42_3 + 1)), (by first | rfl | (simp; done) | (simp [*]; done) | (simp [wrap64]; done)), H', ⟨by have := HK1.out; have := HJ4.out; have := HK3.out; omega⟩, ⟨by (with_reducible repeat (first | refine blk_drewN ?_ _ | refine blk_drew ?_ | refine blk_alloc ?_ _)); exact BK178.out⟩, ⟨by repeat (first | (with_reducible first | exact HB.out | apply below_alloc | apply pw_below_drewN | apply below_drew1 | refine below_set ?_ GE178.out) | exact HB.out)⟩⟩
              ·replace c31 := Bool.eq_false_iff.mpr c31
               subst c31
               have H1 : (some false) = some r := by rw [if_neg (show ¬ (false = true) by decide)] at H; exact H
               clear H
               have H := H1
               clear H1
               obtain rfl := Option.some.inj H
               have p183 : 0 ≤ (x42_3 : Int) := of_decide_eq_true (by first | (with_reducible assumption) | assumption)
               have q183 : x42_3 < (((rd_T159 l0 x9_1).f2).length : Int) := of_decide_eq_true (by first | (with_reducible assumption) | assumption)
               obtain ⟨ad183, e183, hx183_0⟩ := Kd.at_int HR177_2.out x42_3 p183 q183
               cases e183
               (try replace hx183_0 := (HB.out.cell (World.block_lt_of_cell? w _ hx183_0)).trans hx183_0)
               replace p183 := eq_true p183
               replace q183 := eq_true q183
               have hcz40_0 : wr.cell? ⟨gb178, 0, none⟩ = some (.string ((rd_T159 l0 x9_1).f0)) := (blk_cell BK178.out 0).trans rfl
               have hcz40_1 : wr.cell? ⟨gb178, 1, none⟩ = some (.int .i64 ((rd_T159 l0 x9_1).f1)) := (blk_cell BK178.out 1).trans rfl
               have hcz40_2 : wr.cell? ⟨gb178, 2, none⟩ = some (.slice (some ad183) ((rd_T159 l0 x9_1).f2).length c177_2) := (blk_cell BK178.out 2).trans rfl
               have hcz40_3 : wr.cell? ⟨gb178, 3, none⟩ = some (.string ((rd_T159 l0 x9_1).f3)) := (blk_cell BK178.out 3).trans rfl
               have hfz40_0 := blk_frozen BK178.out 0
               have hfz40_1 := blk_frozen BK178.out 1
               have hfz40_2 := blk_frozen BK178.out 2
               have hfz40_3 := blk_frozen BK178.out 3
               go_wp2_with (first | ((with_reducible refine gate_callee (f := 92) rfl ?_); refine goesL_ (some 51) rfl rfl Try.func92 (by kernel_rfl) rfl #[.int .i64 (rd ((rd_T159 l0 x9_1).f2) x42_3), .int .i64 0, .int .i64 (wrap64 (((rd_T159 l0 x9_1).f1) - 1))] rfl (by (try simp only [List.map_toArray, List.map_cons, List.map_nil]); first | done | rfl | (simp only [List.length_drop, List.length_take]; rfl)) ?_; (with_reducible refine (impl_inRange.calls (rd ((rd_T159 l0 x9_1).f2) x42_3) 0 (wrap64 (((rd_T159 l0 x9_1).f1) - 1)) false _ A30.out).mono ?_); rintro e w' ⟨rfl, ⟨nd, rfl⟩⟩; refine ⟨_, rfl, ?_⟩))
               go_ret
               exact ⟨by first | rfl | (simp [errW_none, errW_some] <;> rfl) | (simp [*, errW_none, errW_some] <;> rfl), by repeat (first | (with_reducible first | exact HB.out | apply below_alloc | apply pw_below_drewN | apply below_drew1 | refine below_set ?_ GE178.out) | exact HB.out)⟩
             ·rw [if_neg c29] at H
              exact absurd H (by simp)
            ·rw [if_neg c28] at H
             exact absurd H (by simp)
           ·rw [if_neg c27] at H
            have c27b0 : decide (x42_3 < (((rd_T159 l0 x9_1).f2).length : Int)) = false := decide_eq_false c27
            clear c27
            have H' := Aside0.mk H
            clear H
            go_wp2
            go_roundg k3
            case measure => have := HK1.out; have := HJ4.out; have := HK3.out; omega
            case rel => exact ⟨(wrap64 (x9_1 + 1)), (by first | rfl | (simp; done) | (simp [*]; done) | (simp [wrap64]; done)), H', ⟨by have := HK1.out; have := HJ4.out; have := HK3.out; omega⟩, ⟨by repeat (first | (with_reducible first | exact HB.out | apply below_alloc | apply pw_below_drewN | apply below_drew1 | refine below_set ?_ GE178.out) | exact HB.out)⟩⟩
     ·rw [if_neg c4] at H
      exact absurd H (by simp)
    ·rw [if_neg c3] at H
     exact absurd H (by simp)
   ·rw [if_neg c2] at H
    have c2b0 : decide (x9_1 < (l0.length : Int)) = false := decide_eq_false c2
    clear c2
    replace H := Option.bind_eq_some_iff.mp H
    obtain ⟨t176, A410, H⟩ := H
    replace H : (some t176) = some r := H
    have A41 := Aside0.mk A410
    clear A410
    obtain rfl := Option.some.inj H
    go_wp2_with (first | ((with_reducible refine gate_callee (f := 92) rfl ?_); refine goesL_ (some 71) rfl rfl Try.func92 (by kernel_rfl) rfl #[.int .i64 (l0.length : Int), .int .i64 1, .int .i64 64] rfl (by (try simp only [List.map_toArray, List.map_cons, List.map_nil]); first | done | rfl | (simp only [List.length_drop, List.length_take]; rfl)) ?_; (with_reducible refine (impl_inRange.calls (l0.length : Int) 1 64 t176 _ A41.out).mono ?_); rintro e w' ⟨rfl, ⟨nd, rfl⟩⟩; refine ⟨_, rfl, ?_⟩))
    go_ret
    exact ⟨by first | rfl | (simp [errW_none, errW_some] <;> rfl) | (simp [*, errW_none, errW_some] <;> rfl), by repeat (first | (with_reducible first | exact HB.out | apply below_alloc | apply pw_below_drewN | apply below_drew1) | exact HB.out)⟩

end Go.Proofs.Ytjaljjdmolhhpaa.XFnExactAskMusic
