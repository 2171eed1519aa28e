/- What the Go functions that this law comes to compute, each walked; written by a program of this session. -/
import Derived.Test.YtfgdfnnddoncjaaXShort
import Derived.Test.YtfgdfnnddoncjaaXMark
import Derived.Test.YtfgdfnnddoncjaaXFnExactRebindx0
import Derived.Test.YtfgdfnnddoncjaaXFnExactRebindx1
namespace Go.Proofs.Ytfgdfnnddoncjaa.XFnExactRebind
open Go.RowKit Go.Proofs.YtfgdfnnddoncjaaW.PrintWords Go.Proofs.YtfgdfnnddoncjaaW.PrintLast Go.Proofs.YtfgdfnnddoncjaaW.PrintMore
attribute [local go_sem] str_geq max2_int min2_int max_two min_two max_three min_three max_four min_four   -- for this text's walks alone
set_option linter.unusedVariables false
set_option linter.unusedSimpArgs false

/-! ### spec_l17Same: function 28 -/
def spec_l17Same.l0 : Nat → List Int → List Int → Int → Int → Option (Bool)
 | 0, _, _, _, _ => none
 | k + 1, x0, x1, x12, x13 => if x13 < x12 then (if 0 ≤ x13 then (if x13 < (x0.length : Int) then (if x13 < (x1.length : Int) then (if (rd x0 x13) = (rd x1 x13) then (spec_l17Same.l0 k x0 x1 x12 (wrap64 (x13 + 1))) else (some false)) else (none)) else (none)) else (none)) else (some true)
def spec_l17Same.f (k : Nat) (l0 : List Int) (l1 : List Int) : Option (Bool) := if (l0.length : Int) = (l1.length : Int) then (spec_l17Same.l0 k l0 l1 (l0.length : Int) 0) else (some false)
theorem spec_l17Same.mono_l : ∀ k, (∀ y0 y1 y2 y3, LeO (spec_l17Same.l0 k y0 y1 y2 y3) (spec_l17Same.l0 (k + 1) y0 y1 y2 y3))
 | 0 => fun _ _ _ _ r h => by simp [spec_l17Same.l0] at h
 | k + 1 => by
  have ih0 := spec_l17Same.mono_l k
  ·intro y0 y1 y2 y3
   unfold spec_l17Same.l0
   repeat' first
   | (with_reducible exact ih0 _ _ _ _)
   | (with_reducible exact LeO.refl _)
   | (with_reducible exact LeO.none _)
   | (with_reducible refine LeO.ite ?_ ?_)
   | (with_reducible refine LeO.bind ?_ (fun _ => ?_))
   | exact ih0 _ _ _ _
   | exact LeO.none _
   | refine LeO.ite ?_ ?_
   | refine LeO.bind ?_ (fun _ => ?_)
theorem spec_l17Same.mono : ∀ a0 a1 k, LeO (spec_l17Same.f k a0 a1) (spec_l17Same.f (k + 1) a0 a1) := by
 intro a0 a1 k
 have ih0 := spec_l17Same.mono_l k
 unfold spec_l17Same.f
 repeat' first
   | (with_reducible exact ih0 _ _ _ _)
   | (with_reducible exact LeO.refl _)
   | (with_reducible exact LeO.none _)
   | (with_reducible refine LeO.ite ?_ ?_)
   | (with_reducible refine LeO.bind ?_ (fun _ => ?_))
   | exact ih0 _ _ _ _
   | exact LeO.none _
   | refine LeO.ite ?_ ?_
   | refine LeO.bind ?_ (fun _ => ?_)
set_option maxHeartbeats 8000000 in
set_option maxRecDepth 100000 in
theorem spec_l17Same.calls (k : Nat) (A0 : Option Addr) (c0 : Nat) (l0 : List Int) (A1 : Option Addr) (c1 : Nat) (l1 : List Int) (r : Bool) (w : World) (hr0 : Kd.C (Kd.int .i64) w A0 l0.length l0) (hc0 : l0.length ≤ c0) (hr1 : Kd.C (Kd.int .i64) w A1 l1.length l1) (hc1 : l1.length ≤ c1) (h : spec_l17Same.f k l0 l1 = some r) :
  Calls Try.prog 28 #[.slice A0 l0.length c0, .slice A1 l1.length c1] w fun e w' => e = .returned (.bool r) ∧ Drawn0 w w' := by
 have HR0 := am_ hr0
 have HC0 := am_ hc0
 clear hr0 hc0
 have HR1 := am_ hr1
 have HC1 := am_ hc1
 clear hr1 hc1
 have H : (if (l0.length : Int) = (l1.length : Int) then (spec_l17Same.l0 k l0 l1 (l0.length : Int) 0) else (some false)) = some r := h
 clear h
 by_cases c3 : (l0.length : Int) = (l1.length : Int)
 ·rw [if_pos c3] at H
  have c3b0 : ((l0.length : Int) == (l1.length : Int)) = true := beq_iff_eq.mpr c3
  have c3b1 : ((l0.length : Int) != (l1.length : Int)) = false := bne_eq_false_iff_eq.mpr c3
  have c3b2 : (l0.length == l1.length) = true := by first | simpa using c3 | (simp at c3 ⊢; omega)
  clear c3
  have H' := am_ H
  clear H
  go_enter Try.func28, Try.ntmps28
  go_wp2
  repeat (go_quiet (fail); try go_wp2)
  go_loopg [13] k (fun kq v13 w' => ∃ (x13_1 : Int), v13 = .int .i64 x13_1 ∧ Aside0 (spec_l17Same.l0 kq l0 l1 (l0.length : Int) x13_1 = some r) ∧ Aside0 (kq ≤ k) ∧ Drawn0 w w')
  case atStart => exact ⟨(0), sq_, H', ⟨Nat.le_refl _⟩, by repeat (first | exact Drawn0.refl _ | apply Drawn0.step)⟩
  case round =>
   clear H'
   try clear c1
   try clear c3
   try clear c3b0
   try clear c3b1
   try clear c3b2
   obtain ⟨x13_1, rfl, HA, HK1, ⟨m1, rfl⟩⟩ := hrel
   cases gk with
   | zero => exact absurd HA.out (by simp [spec_l17Same.l0])
   | succ k1 =>
    have H := HA.out
    clear HA
    simp only [spec_l17Same.l0] at H
    by_cases c4 : x13_1 < (l0.length : Int)
    ·rw [if_pos c4] at H
     have c4b0 : decide (x13_1 < (l0.length : Int)) = true := decide_eq_true c4
     clear c4
     obtain ⟨c5, H⟩ := ifn_ H
     have c5b0 : decide (0 ≤ x13_1) = true := decide_eq_true c5
     clear c5
     obtain ⟨c6, H⟩ := ifn_ H
     have c6b0 : decide (x13_1 < (l0.length : Int)) = true := decide_eq_true c6
     clear c6
     obtain ⟨c7, H⟩ := ifn_ H
     have c7b0 : decide (x13_1 < (l1.length : Int)) = true := decide_eq_true c7
     clear c7
     by_cases c8 : (rd l0 x13_1) = (rd l1 x13_1)
     ·rw [if_pos c8] at H
      have c8b0 : ((rd l0 x13_1) == (rd l1 x13_1)) = true := beq_iff_eq.mpr c8
      have c8b1 : ((rd l0 x13_1) != (rd l1 x13_1)) = false := bne_eq_false_iff_eq.mpr c8
      clear c8
      have H' := am_ H
      clear H
      have p111 : 0 ≤ (x13_1 : Int) := od_
      have q111 : x13_1 < (l0.length : Int) := od_
      obtain ⟨ad111, e111, hx111_0⟩ := Kd.at_int HR0.out x13_1 p111 q111
      cases e111
      replace p111 := eq_true p111
      replace q111 := eq_true q111
      have p112 : 0 ≤ (x13_1 : Int) := od_
      have q112 : x13_1 < (l1.length : Int) := od_
      obtain ⟨ad112, e112, hx112_0⟩ := Kd.at_int HR1.out x13_1 p112 q112
      cases e112
      replace p112 := eq_true p112
      replace q112 := eq_true q112
      go_wp2
      repeat (go_quiet (fail); try go_wp2)
      go_roundg k1
      case measure => have := HK1.out; omega
      case rel => exact ⟨(wrap64 (x13_1 + 1)), sq_, H', ⟨by have := HK1.out; omega⟩, by repeat (first | exact Drawn0.refl _ | apply Drawn0.step)⟩
     ·rw [if_neg c8] at H
      have c8b0 : ((rd l0 x13_1) == (rd l1 x13_1)) = false := beq_eq_false_iff_ne.mpr c8
      have c8b1 : ((rd l0 x13_1) != (rd l1 x13_1)) = true := bne_iff_ne.mpr c8
      obtain rfl := Option.some.inj H
      have p111 : 0 ≤ (x13_1 : Int) := od_
      have q111 : x13_1 < (l0.length : Int) := od_
      obtain ⟨ad111, e111, hx111_0⟩ := Kd.at_int HR0.out x13_1 p111 q111
      cases e111
      replace p111 := eq_true p111
      replace q111 := eq_true q111
      have p112 : 0 ≤ (x13_1 : Int) := od_
      have q112 : x13_1 < (l1.length : Int) := od_
      obtain ⟨ad112, e112, hx112_0⟩ := Kd.at_int HR1.out x13_1 p112 q112
      cases e112
      replace p112 := eq_true p112
      replace q112 := eq_true q112
      go_wp2
      repeat (go_quiet (fail); try go_wp2)
      go_ret
      exact ⟨by first | rfl | (simp; done) | (simp [*]; done), by repeat (first | exact Drawn0.refl _ | apply Drawn0.step)⟩
    ·rw [if_neg c4] at H
     have c4b0 : decide (x13_1 < (l0.length : Int)) = false := decide_eq_false c4
     clear c4
     obtain rfl := Option.some.inj H
     go_wp2
     repeat (go_quiet (fail); try go_wp2)
     go_ret
     exact ⟨by first | rfl | (simp; done) | (simp [*]; done), by repeat (first | exact Drawn0.refl _ | apply Drawn0.step)⟩
 ·rw [if_neg c3] at H
  have c3b0 : ((l0.length : Int) == (l1.length : Int)) = false := beq_eq_false_iff_ne.mpr c3
  have c3b1 : ((l0.length : Int) != (l1.length : Int)) = true := bne_iff_ne.mpr c3
  have c3b2 : (l0.length == l1.length) = false := by first | simpa using c3 | (simp at c3 ⊢; omega)
  obtain rfl := Option.some.inj H
  go_enter Try.func28, Try.ntmps28
  go_wp2
  repeat (go_quiet (fail); try go_wp2)
  go_ret
  exact ⟨by first | rfl | (simp; done) | (simp [*]; done), by repeat (first | exact Drawn0.refl _ | apply Drawn0.step)⟩

/-! ### spec_GoodBinds: function 25 -/
mutual
def spec_GoodBinds.l0 : Nat → List (S53) → List (S53) → Int → Int → Option (Bool)
 | 0, _, _, _, _ => none
 | k + 1, x0, x10, x11, x12 => if x12 < x11 then (if 0 ≤ x12 then (if x12 < (x10.length : Int) then ((spec_GoodName.f k ((rd_T53 x10 x12).f0)).bind fun t115 => (if t115 = true then ((spec_l17Chord.f k ((rd_T53 x10 x12).f1)).bind fun t116 => (if t116 = true then (if x12 > 0 then (if 0 ≤ (wrap64 (x12 - 1)) then (if (wrap64 (x12 - 1)) < (x0.length : Int) then (spec_GoodBinds.j1 k x0 x12 x10 x11 x12 (!(Op.bytesLess (((rd_T53 x0 (wrap64 (x12 - 1))).f0).toList) (((rd_T53 x10 x12).f0).toList))) ((rd_T53 x10 x12).f0) ((rd_T53 x10 x12).f1)) else (none)) else (none)) else (spec_GoodBinds.j1 k x0 x12 x10 x11 x12 false ((rd_T53 x10 x12).f0) ((rd_T53 x10 x12).f1))) else (spec_GoodBinds.j1 k x0 x12 x10 x11 x12 true ((rd_T53 x10 x12).f0) ((rd_T53 x10 x12).f1)))) else (spec_GoodBinds.j1 k x0 x12 x10 x11 x12 true ((rd_T53 x10 x12).f0) ((rd_T53 x10 x12).f1)))) else (none)) else (none)) else (some true)
def spec_GoodBinds.j1 : Nat → List (S53) → Int → List (S53) → Int → Int → Bool → ByteArray → List Int → Option (Bool)
 | 0, _, _, _, _, _, _, _, _ => none
 | k + 1, x0, x3, x10, x11, x12, x41, x115000, x115001 => if x41 = true then (some false) else (if 0 ≤ x3 then (if x3 ≤ (x0.length : Int) then ((some (x0.take (x3 : Int).toNat : List (S53))).bind fun y118 => (spec_GoodBinds.l1 k x0 x10 x11 x12 y118 (y118.length : Int) 0 x115000 x115001)) else (none)) else (none))
def spec_GoodBinds.l1 : Nat → List (S53) → List (S53) → Int → Int → List (S53) → Int → Int → ByteArray → List Int → Option (Bool)
 | 0, _, _, _, _, _, _, _, _, _ => none
 | k + 1, x0, x10, x11, x12, x44, x45, x46, x115000, x115001 => if x46 < x45 then (if 0 ≤ x46 then (if x46 < (x44.length : Int) then ((spec_l17Same.f k ((rd_T53 x44 x46).f1) x115001).bind fun t124 => (if t124 = true then (some false) else (spec_GoodBinds.l1 k x0 x10 x11 x12 x44 x45 (wrap64 (x46 + 1)) x115000 x115001))) else (none)) else (none)) else (spec_GoodBinds.l0 k x0 x10 x11 (wrap64 (x12 + 1)))
end
def spec_GoodBinds.f (k : Nat) (l0 : List (S53)) : Option (Bool) := if (l0.length : Int) > 20 then (some false) else (spec_GoodBinds.l0 k l0 l0 (l0.length : Int) 0)
theorem spec_GoodBinds.mono_l : ∀ k, (∀ y0 y1 y2 y3, LeO (spec_GoodBinds.l0 k y0 y1 y2 y3) (spec_GoodBinds.l0 (k + 1) y0 y1 y2 y3)) ∧ (∀ y0 y1 y2 y3 y4 y5 y6 y7, LeO (spec_GoodBinds.j1 k y0 y1 y2 y3 y4 y5 y6 y7) (spec_GoodBinds.j1 (k + 1) y0 y1 y2 y3 y4 y5 y6 y7)) ∧ (∀ y0 y1 y2 y3 y4 y5 y6 y7 y8, LeO (spec_GoodBinds.l1 k y0 y1 y2 y3 y4 y5 y6 y7 y8) (spec_GoodBinds.l1 (k + 1) y0 y1 y2 y3 y4 y5 y6 y7 y8))
 | 0 => ⟨fun _ _ _ _ r h => by simp [spec_GoodBinds.l0] at h, fun _ _ _ _ _ _ _ _ r h => by simp [spec_GoodBinds.j1] at h, fun _ _ _ _ _ _ _ _ _ r h => by simp [spec_GoodBinds.l1] at h⟩
 | k + 1 => by
  obtain ⟨ih0, ih1, ih2⟩ := spec_GoodBinds.mono_l k
  refine ⟨?_, ?_, ?_⟩
  ·intro y0 y1 y2 y3
   unfold spec_GoodBinds.l0
   repeat' first
   | (with_reducible exact ih0 _ _ _ _)
   | (with_reducible exact ih1 _ _ _ _ _ _ _ _)
   | (with_reducible exact ih2 _ _ _ _ _ _ _ _ _)
   | (with_reducible exact spec_GoodName.mono _ _)
   | (with_reducible exact spec_l17Chord.mono _ _)
   | (with_reducible exact spec_l17Same.mono _ _ _)
   | (with_reducible exact LeO.refl _)
   | (with_reducible exact LeO.none _)
   | (with_reducible refine LeO.ite ?_ ?_)
   | (with_reducible refine LeO.bind ?_ (fun _ => ?_))
   | exact ih0 _ _ _ _
   | exact ih1 _ _ _ _ _ _ _ _
   | exact ih2 _ _ _ _ _ _ _ _ _
   | exact spec_GoodName.mono _ _
   | exact spec_l17Chord.mono _ _
   | exact spec_l17Same.mono _ _ _
   | exact LeO.none _
   | refine LeO.ite ?_ ?_
   | refine LeO.bind ?_ (fun _ => ?_)
  ·intro y0 y1 y2 y3 y4 y5 y6 y7
   unfold spec_GoodBinds.j1
   repeat' first
   | (with_reducible exact ih0 _ _ _ _)
   | (with_reducible exact ih1 _ _ _ _ _ _ _ _)
   | (with_reducible exact ih2 _ _ _ _ _ _ _ _ _)
   | (with_reducible exact spec_GoodName.mono _ _)
   | (with_reducible exact spec_l17Chord.mono _ _)
   | (with_reducible exact spec_l17Same.mono _ _ _)
   | (with_reducible exact LeO.refl _)
   | (with_reducible exact LeO.none _)
   | (with_reducible refine LeO.ite ?_ ?_)
   | (with_reducible refine LeO.bind ?_ (fun _ => ?_))
   | exact ih0 _ _ _ _
   | exact ih1 _ _ _ _ _ _ _ _
   | exact ih2 _ _ _ _ _ _ _ _ _
   | exact spec_GoodName.mono _ _
   | exact spec_l17Chord.mono _ _
   | exact spec_l17Same.mono _ _ _
   | exact LeO.none _
   | refine LeO.ite ?_ ?_
   | refine LeO.bind ?_ (fun _ => ?_)
  ·intro y0 y1 y2 y3 y4 y5 y6 y7 y8
   unfold spec_GoodBinds.l1
   repeat' first
   | (with_reducible exact ih0 _ _ _ _)
   | (with_reducible exact ih1 _ _ _ _ _ _ _ _)
   | (with_reducible exact ih2 _ _ _ _ _ _ _ _ _)
   | (with_reducible exact spec_GoodName.mono _ _)
   | (with_reducible exact spec_l17Chord.mono _ _)
   | (with_reducible exact spec_l17Same.mono _ _ _)
   | (with_reducible exact LeO.refl _)
   | (with_reducible exact LeO.none _)
   | (with_reducible refine LeO.ite ?_ ?_)
   | (with_reducible refine LeO.bind ?_ (fun _ => ?_))
   | exact ih0 _ _ _ _
   | exact ih1 _ _ _ _ _ _ _ _
   | exact ih2 _ _ _ _ _ _ _ _ _
   | exact spec_GoodName.mono _ _
   | exact spec_l17Chord.mono _ _
   | exact spec_l17Same.mono _ _ _
   | exact LeO.none _
   | refine LeO.ite ?_ ?_
   | refine LeO.bind ?_ (fun _ => ?_)
theorem spec_GoodBinds.mono : ∀ a0 k, LeO (spec_GoodBinds.f k a0) (spec_GoodBinds.f (k + 1) a0) := by
 intro a0 k
 obtain ⟨ih0, ih1, ih2⟩ := spec_GoodBinds.mono_l k
 unfold spec_GoodBinds.f
 repeat' first
   | (with_reducible exact ih0 _ _ _ _)
   | (with_reducible exact ih1 _ _ _ _ _ _ _ _)
   | (with_reducible exact ih2 _ _ _ _ _ _ _ _ _)
   | (with_reducible exact spec_GoodName.mono _ _)
   | (with_reducible exact spec_l17Chord.mono _ _)
   | (with_reducible exact spec_l17Same.mono _ _ _)
   | (with_reducible exact LeO.refl _)
   | (with_reducible exact LeO.none _)
   | (with_reducible refine LeO.ite ?_ ?_)
   | (with_reducible refine LeO.bind ?_ (fun _ => ?_))
   | exact ih0 _ _ _ _
   | exact ih1 _ _ _ _ _ _ _ _
   | exact ih2 _ _ _ _ _ _ _ _ _
   | exact spec_GoodName.mono _ _
   | exact spec_l17Chord.mono _ _
   | exact spec_l17Same.mono _ _ _
   | exact LeO.none _
   | refine LeO.ite ?_ ?_
   | refine LeO.bind ?_ (fun _ => ?_)
set_option maxHeartbeats 8000000 in
set_option maxRecDepth 100000 in
theorem spec_GoodBinds.calls (k : Nat) (A0 : Option Addr) (c0 : Nat) (l0 : List (S53)) (r : Bool) (w : World) (hr0 : Kd.C k53 w A0 l0.length l0) (hc0 : l0.length ≤ c0) (h : spec_GoodBinds.f k l0 = some r) :
  Calls Try.prog 25 #[.slice A0 l0.length c0] w fun e w' => e = .returned (.bool r) ∧ Below w.heap.size w w' := by
 have hu53 := Try.underlying53
 have HR0 := am_ hr0
 have HC0 := am_ hc0
 clear hr0 hc0
 have HB := am_ (Below.refl w.heap.size w)
 have H : (if (l0.length : Int) > 20 then (some false) else (spec_GoodBinds.l0 k l0 l0 (l0.length : Int) 0)) = some r := h
 clear h
 by_cases c2 : (l0.length : Int) > 20
 ·rw [if_pos c2] at H
  have c2b0 : decide (20 < (l0.length : Int)) = true := decide_eq_true c2
  have c2b1 : decide (20 < l0.length) = true := decide_eq_true (by omega)
  clear c2
  obtain rfl := Option.some.inj H
  go_enter Try.func25, Try.ntmps25
  go_wp2
  repeat (go_quiet (fail); try go_wp2)
  go_ret
  exact ⟨by first | rfl | (simp [errW_none, errW_some] <;> rfl) | (simp [*, errW_none, errW_some] <;> rfl), bw_ HB.out⟩
 ·rw [if_neg c2] at H
  have c2b0 : decide (20 < (l0.length : Int)) = false := decide_eq_false c2
  have c2b1 : decide (20 < l0.length) = false := decide_eq_false (by omega)
  clear c2
  have H' := am_ H
  clear H
  go_enter Try.func25, Try.ntmps25
  go_wp2
  repeat (go_quiet (fail); try go_wp2)
  go_loopg [12] k (fun kq v12 w' => ∃ (x12_1 : Int), v12 = .int .i64 x12_1 ∧ Aside0 (spec_GoodBinds.l0 kq l0 l0 (l0.length : Int) x12_1 = some r) ∧ Aside0 (kq ≤ k) ∧ Aside0 (Below w.heap.size w w'))
  case atStart => exact ⟨(0), sq_, H', ⟨Nat.le_refl _⟩, ⟨bw_ HB.out⟩⟩
  case round =>
   clear H'
   try clear c2
   try clear c2b0
   try clear c2b1
   obtain ⟨x12_1, rfl, HA, HK1, HB⟩ := hrel
   cases gk with
   | zero => exact absurd HA.out (by simp [spec_GoodBinds.l0])
   | succ k1 =>
    have H := HA.out
    clear HA
    simp only [spec_GoodBinds.l0] at H
    by_cases c3 : x12_1 < (l0.length : Int)
    ·rw [if_pos c3] at H
     have c3b0 : decide (x12_1 < (l0.length : Int)) = true := decide_eq_true c3
     clear c3
     obtain ⟨c4, H⟩ := ifn_ H
     have c4b0 : decide (0 ≤ x12_1) = true := decide_eq_true c4
     clear c4
     obtain ⟨c5, H⟩ := ifn_ H
     have c5b0 : decide (x12_1 < (l0.length : Int)) = true := decide_eq_true c5
     clear c5
     have HC6 := am_ H
     clear H
     have p113 : 0 ≤ (x12_1 : Int) := od_
     have q113 : x12_1 < (l0.length : Int) := od_
     obtain ⟨ad113, A113_1, c113_1, e113, hx113_0, hx113_1, hl113_1, hi113_1⟩ := at_T53 HR0.out x12_1 p113 q113
     cases e113
     (try replace hx113_0 := hc_ HB.out hx113_0)
     (try replace hx113_1 := hc_ HB.out hx113_1)
     have HR113_1 := am_ hi113_1
     have HC113_1 := am_ hl113_1
     clear hi113_1 hl113_1
     replace p113 := eq_true p113
     replace q113 := eq_true q113
     go_upto_region 6 with (first | ((with_reducible refine gate_dst (N := 4) rfl ?_); refine bx_ 4 #[.string (⟨#[]⟩ : ByteArray), .slice none 0 0] 53 ?_; intro gb114 hg w7 hbox hb; have n0_ := am_ (below_step (bw_ HB.out) hb); have n1_ := am_ (hbox); have n2_ := am_ (gs_ hg (bw_ HB.out)); have n3_ := am_ (gs_ hg (bw_ HB.out)); replace HB := n0_; have BK114 := n1_; have GW114 := n2_; have GE114 := n3_; clear n0_ n1_ n2_ n3_; clear hb hbox hg; have hcz8_0 := cz_ BK114.out 0; have hcz8_1 := cz_ BK114.out 1; have hfz8_0 := blk_frozen BK114.out 0; have hfz8_1 := blk_frozen BK114.out 1))
     repeat (go_quiet (first | ((with_reducible refine gate_dst (N := 4) rfl ?_); refine bx_ 4 #[.string (⟨#[]⟩ : ByteArray), .slice none 0 0] 53 ?_; intro gb114 hg w7 hbox hb; have n0_ := am_ (below_step (bw_ HB.out) hb); have n1_ := am_ (hbox); have n2_ := am_ (gs_ hg (bw_ HB.out)); have n3_ := am_ (gs_ hg (bw_ HB.out)); replace HB := n0_; have BK114 := n1_; have GW114 := n2_; have GE114 := n3_; clear n0_ n1_ n2_ n3_; clear hb hbox hg; have hcz8_0 := cz_ BK114.out 0; have hcz8_1 := cz_ BK114.out 1; have hfz8_0 := blk_frozen BK114.out 0; have hfz8_1 := blk_frozen BK114.out 1)); go_upto_region 6 with (first | ((with_reducible refine gate_dst (N := 4) rfl ?_); refine bx_ 4 #[.string (⟨#[]⟩ : ByteArray), .slice none 0 0] 53 ?_; intro gb114 hg w7 hbox hb; have n0_ := am_ (below_step (bw_ HB.out) hb); have n1_ := am_ (hbox); have n2_ := am_ (gs_ hg (bw_ HB.out)); have n3_ := am_ (gs_ hg (bw_ HB.out)); replace HB := n0_; have BK114 := n1_; have GW114 := n2_; have GE114 := n3_; clear n0_ n1_ n2_ n3_; clear hb hbox hg; have hcz8_0 := cz_ BK114.out 0; have hcz8_1 := cz_ BK114.out 1; have hfz8_0 := blk_frozen BK114.out 0; have hfz8_1 := blk_frozen BK114.out 1)))
     (try simp only [Act.put, List.setIfInBounds_toArray, List.set_cons_zero, List.set_cons_succ])
     go_cut [41] (fun v41 wc => ∃ (kq : Nat) (x41_5 : Bool), v41 = .bool x41_5 ∧ Aside0 (spec_GoodBinds.j1 kq l0 x12_1 l0 (l0.length : Int) x12_1 x41_5 ((rd_T53 l0 x12_1).f0) ((rd_T53 l0 x12_1).f1) = some r) ∧ Aside0 (kq ≤ k1) ∧ Aside0 (wc.heap[gb114]? = some (.cells #[.string ((rd_T53 l0 x12_1).f0), (.slice A113_1 ((rd_T53 l0 x12_1).f1).length c113_1)] 53 (0, 0))) ∧ Aside0 (Below w.heap.size w wc))
     case first =>
      have H := HC6.out
      clear HC6
      obtain ⟨t115, A90, H⟩ := bE_ H
      have A9 := am_ A90
      clear A90
      by_cases c10 : t115 = true
      ·subst c10
       replace H := it_ H rfl
       obtain ⟨t116, A110, H⟩ := bE_ H
       have A11 := am_ A110
       clear A110
       by_cases c12 : t116 = true
       ·subst c12
        replace H := it_ H rfl
        by_cases c13 : x12_1 > 0
        ·rw [if_pos c13] at H
         have c13b0 : decide (0 < x12_1) = true := decide_eq_true c13
         clear c13
         (first | rw [c13b0] | (simp only [i64_w, i32_w]; rw [c13b0]) | skip)
         obtain ⟨ji14, hji14⟩ : ∃ j_ : Int, (wrap64 (x12_1 - 1)) = j_ := ⟨_, rfl⟩
         replace H : (if 0 ≤ (ji14) then (if (ji14) < (l0.length : Int) then (spec_GoodBinds.j1 k1 l0 x12_1 l0 (l0.length : Int) x12_1 (!(Op.bytesLess (((rd_T53 l0 (ji14)).f0).toList) (((rd_T53 l0 x12_1).f0).toList))) ((rd_T53 l0 x12_1).f0) ((rd_T53 l0 x12_1).f1)) else (none)) else (none)) = some r := by first | (rw [hji14] at H; exact H) | (simp only [hji14] at H ⊢; exact H)
         (try rw [hji14] at A9)
         (try rw [hji14] at A11)
         have hji14w : (IntKind.i64.wrap (x12_1 - 1)) = ji14 := (i64_w _).trans hji14
         obtain ⟨c15, H⟩ := ifn_ H
         have c15b0 : decide (0 ≤ (ji14)) = true := decide_eq_true c15
         clear c15
         obtain ⟨c16, H⟩ := ifn_ H
         have c16b0 : decide ((ji14) < (l0.length : Int)) = true := decide_eq_true c16
         clear c16
         have H' := am_ H
         clear H
         have hcz17_0 := cz_ BK114.out 0
         have hcz17_1 := cz_ BK114.out 1
         have hfz17_0 := blk_frozen BK114.out 0
         have hfz17_1 := blk_frozen BK114.out 1
         go_wp2_with (first | (go_at_call 26; (with_reducible refine (spec_GoodName.calls k1 ((rd_T53 l0 x12_1).f0) true _ A9.out).mono ?_); rintro e w' ⟨rfl, ⟨nd, rfl⟩⟩; (try first | exact ⟨rfl, _, World.drewN_drewN _ _ _⟩ | exact ⟨rfl, _, Eq.trans (World.drewN_drewN _ _ _) (congrArg (World.drewN _) (Nat.add_assoc _ _ _))⟩)) | (go_at_call 27; (with_reducible refine (spec_l17Chord.calls k1 _ _ ((rd_T53 l0 x12_1).f1) true _ ?side1 ?side2 A11.out).mono ?_); (case side1 => exact Kd.C_below HR113_1.out (bw_ HB.out)); (case side2 => exact HC113_1.out); rintro e w' ⟨rfl, ⟨nd, rfl⟩⟩; (try first | exact ⟨rfl, _, World.drewN_drewN _ _ _⟩ | exact ⟨rfl, _, Eq.trans (World.drewN_drewN _ _ _) (congrArg (World.drewN _) (Nat.add_assoc _ _ _))⟩); have p117 : 0 ≤ ((ji14) : Int) := od_; have q117 : (ji14) < (l0.length : Int) := od_; obtain ⟨ad117, A117_1, c117_1, e117, hx117_0, hx117_1, hl117_1, hi117_1⟩ := at_T53 HR0.out (ji14) p117 q117; obtain rfl : ad113 = ad117 := (by injection e117); have hn117_0 : ad113.block ≠ gb114 := Nat.ne_of_lt (Nat.lt_of_lt_of_le (by have := World.block_lt_of_cell? _ _ hx117_0; first | rwa [add_block] at this | exact this) GW114.out); have hn117_1 : ad113.block ≠ gb114 := Nat.ne_of_lt (Nat.lt_of_lt_of_le (by have := World.block_lt_of_cell? _ _ hx117_0; first | rwa [add_block] at this | exact this) GW114.out); (try replace hx117_0 := hc_ HB.out hx117_0); (try replace hx117_1 := hc_ HB.out hx117_1); have HR117_1 := am_ hi117_1; have HC117_1 := am_ hl117_1; clear hi117_1 hl117_1; replace hx117_0 := (cell_far (p := ⟨gb114, 0, none⟩) (by first | (rw [add_block]; exact hn117_0) | (show (Addr.add _ _).block ≠ _; rw [add_block]; exact hn117_0) | exact hn117_0) (.string ((rd_T53 l0 x12_1).f0))).trans hx117_0; replace hx117_1 := (cell_far (p := ⟨gb114, 0, none⟩) (by first | (rw [add_block]; exact hn117_0) | (show (Addr.add _ _).block ≠ _; rw [add_block]; exact hn117_0) | exact hn117_0) (.string ((rd_T53 l0 x12_1).f0))).trans hx117_1; replace hx117_0 := (cell_far (p := ⟨gb114, 1, none⟩) (by first | (rw [add_block]; exact hn117_1) | (show (Addr.add _ _).block ≠ _; rw [add_block]; exact hn117_1) | exact hn117_1) (.slice A113_1 ((rd_T53 l0 x12_1).f1).length c113_1)).trans hx117_0; replace hx117_1 := (cell_far (p := ⟨gb114, 1, none⟩) (by first | (rw [add_block]; exact hn117_1) | (show (Addr.add _ _).block ≠ _; rw [add_block]; exact hn117_1) | exact hn117_1) (.slice A113_1 ((rd_T53 l0 x12_1).f1).length c113_1)).trans hx117_1; (try have hy117_0 := fun (n_ : Nat) => (show ((((w7.drewN n_).setCell ⟨gb114, 0, none⟩ (.string ((rd_T53 l0 x12_1).f0))).setCell ⟨gb114, 1, none⟩ (.slice A113_1 ((rd_T53 l0 x12_1).f1).length c113_1))).cell? _ = some _ from hx117_0)); (try have hy117_1 := fun (n_ : Nat) => (show ((((w7.drewN n_).setCell ⟨gb114, 0, none⟩ (.string ((rd_T53 l0 x12_1).f0))).setCell ⟨gb114, 1, none⟩ (.slice A113_1 ((rd_T53 l0 x12_1).f1).length c113_1))).cell? _ = some _ from hx117_1)); clear hn117_0; clear hn117_1; replace p117 := eq_true p117; replace q117 := eq_true q117))
         repeat (go_quiet (first | (go_at_call 26; (with_reducible refine (spec_GoodName.calls k1 ((rd_T53 l0 x12_1).f0) true _ A9.out).mono ?_); rintro e w' ⟨rfl, ⟨nd, rfl⟩⟩; (try first | exact ⟨rfl, _, World.drewN_drewN _ _ _⟩ | exact ⟨rfl, _, Eq.trans (World.drewN_drewN _ _ _) (congrArg (World.drewN _) (Nat.add_assoc _ _ _))⟩)) | (go_at_call 27; (with_reducible refine (spec_l17Chord.calls k1 _ _ ((rd_T53 l0 x12_1).f1) true _ ?side1 ?side2 A11.out).mono ?_); (case side1 => exact Kd.C_below HR113_1.out (bw_ HB.out)); (case side2 => exact HC113_1.out); rintro e w' ⟨rfl, ⟨nd, rfl⟩⟩; (try first | exact ⟨rfl, _, World.drewN_drewN _ _ _⟩ | exact ⟨rfl, _, Eq.trans (World.drewN_drewN _ _ _) (congrArg (World.drewN _) (Nat.add_assoc _ _ _))⟩); have p117 : 0 ≤ ((ji14) : Int) := od_; have q117 : (ji14) < (l0.length : Int) := od_; obtain ⟨ad117, A117_1, c117_1, e117, hx117_0, hx117_1, hl117_1, hi117_1⟩ := at_T53 HR0.out (ji14) p117 q117; obtain rfl : ad113 = ad117 := (by injection e117); have hn117_0 : ad113.block ≠ gb114 := Nat.ne_of_lt (Nat.lt_of_lt_of_le (by have := World.block_lt_of_cell? _ _ hx117_0; first | rwa [add_block] at this | exact this) GW114.out); have hn117_1 : ad113.block ≠ gb114 := Nat.ne_of_lt (Nat.lt_of_lt_of_le (by have := World.block_lt_of_cell? _ _ hx117_0; first | rwa [add_block] at this | exact this) GW114.out); (try replace hx117_0 := hc_ HB.out hx117_0); (try replace hx117_1 := hc_ HB.out hx117_1); have HR117_1 := am_ hi117_1; have HC117_1 := am_ hl117_1; clear hi117_1 hl117_1; replace hx117_0 := (cell_far (p := ⟨gb114, 0, none⟩) (by first | (rw [add_block]; exact hn117_0) | (show (Addr.add _ _).block ≠ _; rw [add_block]; exact hn117_0) | exact hn117_0) (.string ((rd_T53 l0 x12_1).f0))).trans hx117_0; replace hx117_1 := (cell_far (p := ⟨gb114, 0, none⟩) (by first | (rw [add_block]; exact hn117_0) | (show (Addr.add _ _).block ≠ _; rw [add_block]; exact hn117_0) | exact hn117_0) (.string ((rd_T53 l0 x12_1).f0))).trans hx117_1; replace hx117_0 := (cell_far (p := ⟨gb114, 1, none⟩) (by first | (rw [add_block]; exact hn117_1) | (show (Addr.add _ _).block ≠ _; rw [add_block]; exact hn117_1) | exact hn117_1) (.slice A113_1 ((rd_T53 l0 x12_1).f1).length c113_1)).trans hx117_0; replace hx117_1 := (cell_far (p := ⟨gb114, 1, none⟩) (by first | (rw [add_block]; exact hn117_1) | (show (Addr.add _ _).block ≠ _; rw [add_block]; exact hn117_1) | exact hn117_1) (.slice A113_1 ((rd_T53 l0 x12_1).f1).length c113_1)).trans hx117_1; (try have hy117_0 := fun (n_ : Nat) => (show ((((w7.drewN n_).setCell ⟨gb114, 0, none⟩ (.string ((rd_T53 l0 x12_1).f0))).setCell ⟨gb114, 1, none⟩ (.slice A113_1 ((rd_T53 l0 x12_1).f1).length c113_1))).cell? _ = some _ from hx117_0)); (try have hy117_1 := fun (n_ : Nat) => (show ((((w7.drewN n_).setCell ⟨gb114, 0, none⟩ (.string ((rd_T53 l0 x12_1).f0))).setCell ⟨gb114, 1, none⟩ (.slice A113_1 ((rd_T53 l0 x12_1).f1).length c113_1))).cell? _ = some _ from hx117_1)); clear hn117_0; clear hn117_1; replace p117 := eq_true p117; replace q117 := eq_true q117)); try go_wp2_with (first | (go_at_call 26; (with_reducible refine (spec_GoodName.calls k1 ((rd_T53 l0 x12_1).f0) true _ A9.out).mono ?_); rintro e w' ⟨rfl, ⟨nd, rfl⟩⟩; (try first | exact ⟨rfl, _, World.drewN_drewN _ _ _⟩ | exact ⟨rfl, _, Eq.trans (World.drewN_drewN _ _ _) (congrArg (World.drewN _) (Nat.add_assoc _ _ _))⟩)) | (go_at_call 27; (with_reducible refine (spec_l17Chord.calls k1 _ _ ((rd_T53 l0 x12_1).f1) true _ ?side1 ?side2 A11.out).mono ?_); (case side1 => exact Kd.C_below HR113_1.out (bw_ HB.out)); (case side2 => exact HC113_1.out); rintro e w' ⟨rfl, ⟨nd, rfl⟩⟩; (try first | exact ⟨rfl, _, World.drewN_drewN _ _ _⟩ | exact ⟨rfl, _, Eq.trans (World.drewN_drewN _ _ _) (congrArg (World.drewN _) (Nat.add_assoc _ _ _))⟩); have p117 : 0 ≤ ((ji14) : Int) := od_; have q117 : (ji14) < (l0.length : Int) := od_; obtain ⟨ad117, A117_1, c117_1, e117, hx117_0, hx117_1, hl117_1, hi117_1⟩ := at_T53 HR0.out (ji14) p117 q117; obtain rfl : ad113 = ad117 := (by injection e117); have hn117_0 : ad113.block ≠ gb114 := Nat.ne_of_lt (Nat.lt_of_lt_of_le (by have := World.block_lt_of_cell? _ _ hx117_0; first | rwa [add_block] at this | exact this) GW114.out); have hn117_1 : ad113.block ≠ gb114 := Nat.ne_of_lt (Nat.lt_of_lt_of_le (by have := World.block_lt_of_cell? _ _ hx117_0; first | rwa [add_block] at this | exact this) GW114.out); (try replace hx117_0 := hc_ HB.out hx117_0); (try replace hx117_1 := hc_ HB.out hx117_1); have HR117_1 := am_ hi117_1; have HC117_1 := am_ hl117_1; clear hi117_1 hl117_1; replace hx117_0 := (cell_far (p := ⟨gb114, 0, none⟩) (by first | (rw [add_block]; exact hn117_0) | (show (Addr.add _ _).block ≠ _; rw [add_block]; exact hn117_0) | exact hn117_0) (.string ((rd_T53 l0 x12_1).f0))).trans hx117_0; replace hx117_1 := (cell_far (p := ⟨gb114, 0, none⟩) (by first | (rw [add_block]; exact hn117_0) | (show (Addr.add _ _).block ≠ _; rw [add_block]; exact hn117_0) | exact hn117_0) (.string ((rd_T53 l0 x12_1).f0))).trans hx117_1; replace hx117_0 := (cell_far (p := ⟨gb114, 1, none⟩) (by first | (rw [add_block]; exact hn117_1) | (show (Addr.add _ _).block ≠ _; rw [add_block]; exact hn117_1) | exact hn117_1) (.slice A113_1 ((rd_T53 l0 x12_1).f1).length c113_1)).trans hx117_0; replace hx117_1 := (cell_far (p := ⟨gb114, 1, none⟩) (by first | (rw [add_block]; exact hn117_1) | (show (Addr.add _ _).block ≠ _; rw [add_block]; exact hn117_1) | exact hn117_1) (.slice A113_1 ((rd_T53 l0 x12_1).f1).length c113_1)).trans hx117_1; (try have hy117_0 := fun (n_ : Nat) => (show ((((w7.drewN n_).setCell ⟨gb114, 0, none⟩ (.string ((rd_T53 l0 x12_1).f0))).setCell ⟨gb114, 1, none⟩ (.slice A113_1 ((rd_T53 l0 x12_1).f1).length c113_1))).cell? _ = some _ from hx117_0)); (try have hy117_1 := fun (n_ : Nat) => (show ((((w7.drewN n_).setCell ⟨gb114, 0, none⟩ (.string ((rd_T53 l0 x12_1).f0))).setCell ⟨gb114, 1, none⟩ (.slice A113_1 ((rd_T53 l0 x12_1).f1).length c113_1))).cell? _ = some _ from hx117_1)); clear hn117_0; clear hn117_1; replace p117 := eq_true p117; replace q117 := eq_true q117)))
         go_meet
         case rel => exact ⟨_, (!(Op.bytesLess (((rd_T53 l0 (ji14)).f0).toList) (((rd_T53 l0 x12_1).f0).toList))), (by first | rfl | (simp; done) | (simp only [← hji14] <;> (first | rfl | simp)) | (simp [*]; done)), H', ⟨by have := HK1.out; first | omega | exact Nat.le_refl _⟩, ⟨by (with_reducible repeat (first | refine blk_drewN ?_ _ | refine blk_drew ?_ | refine blk_alloc ?_ _)); refine blk_put (cs := #[.string ((rd_T53 l0 x12_1).f0), .slice none 0 0]) ?_ 1 _ rfl; (with_reducible repeat (first | refine blk_drewN ?_ _ | refine blk_drew ?_ | refine blk_alloc ?_ _)); refine blk_put (cs := #[.string (⟨#[]⟩ : ByteArray), .slice none 0 0]) ?_ 0 _ rfl; (with_reducible repeat (first | refine blk_drewN ?_ _ | refine blk_drew ?_ | refine blk_alloc ?_ _)); exact BK114.out⟩, ⟨bw_ HB.out⟩⟩
        ·rw [if_neg c13] at H
         have c13b0 : decide (0 < x12_1) = false := decide_eq_false c13
         clear c13
         (first | rw [c13b0] | (simp only [i64_w, i32_w]; rw [c13b0]) | skip)
         have H' := am_ H
         clear H
         have hcz18_0 := cz_ BK114.out 0
         have hcz18_1 := cz_ BK114.out 1
         have hfz18_0 := blk_frozen BK114.out 0
         have hfz18_1 := blk_frozen BK114.out 1
         go_wp2_with (first | (go_at_call 26; (with_reducible refine (spec_GoodName.calls k1 ((rd_T53 l0 x12_1).f0) true _ A9.out).mono ?_); rintro e w' ⟨rfl, ⟨nd, rfl⟩⟩; (try first | exact ⟨rfl, _, World.drewN_drewN _ _ _⟩ | exact ⟨rfl, _, Eq.trans (World.drewN_drewN _ _ _) (congrArg (World.drewN _) (Nat.add_assoc _ _ _))⟩)) | (go_at_call 27; (with_reducible refine (spec_l17Chord.calls k1 _ _ ((rd_T53 l0 x12_1).f1) true _ ?side1 ?side2 A11.out).mono ?_); (case side1 => exact Kd.C_below HR113_1.out (bw_ HB.out)); (case side2 => exact HC113_1.out); rintro e w' ⟨rfl, ⟨nd, rfl⟩⟩; (try first | exact ⟨rfl, _, World.drewN_drewN _ _ _⟩ | exact ⟨rfl, _, Eq.trans (World.drewN_drewN _ _ _) (congrArg (World.drewN _) (Nat.add_assoc _ _ _))⟩)))
         repeat (go_quiet (first | (go_at_call 26; (with_reducible refine (spec_GoodName.calls k1 ((rd_T53 l0 x12_1).f0) true _ A9.out).mono ?_); rintro e w' ⟨rfl, ⟨nd, rfl⟩⟩; (try first | exact ⟨rfl, _, World.drewN_drewN _ _ _⟩ | exact ⟨rfl, _, Eq.trans (World.drewN_drewN _ _ _) (congrArg (World.drewN _) (Nat.add_assoc _ _ _))⟩)) | (go_at_call 27; (with_reducible refine (spec_l17Chord.calls k1 _ _ ((rd_T53 l0 x12_1).f1) true _ ?side1 ?side2 A11.out).mono ?_); (case side1 => exact Kd.C_below HR113_1.out (bw_ HB.out)); (case side2 => exact HC113_1.out); rintro e w' ⟨rfl, ⟨nd, rfl⟩⟩; (try first | exact ⟨rfl, _, World.drewN_drewN _ _ _⟩ | exact ⟨rfl, _, Eq.trans (World.drewN_drewN _ _ _) (congrArg (World.drewN _) (Nat.add_assoc _ _ _))⟩))); try go_wp2_with (first | (go_at_call 26; (with_reducible refine (spec_GoodName.calls k1 ((rd_T53 l0 x12_1).f0) true _ A9.out).mono ?_); rintro e w' ⟨rfl, ⟨nd, rfl⟩⟩; (try first | exact ⟨rfl, _, World.drewN_drewN _ _ _⟩ | exact ⟨rfl, _, Eq.trans (World.drewN_drewN _ _ _) (congrArg (World.drewN _) (Nat.add_assoc _ _ _))⟩)) | (go_at_call 27; (with_reducible refine (spec_l17Chord.calls k1 _ _ ((rd_T53 l0 x12_1).f1) true _ ?side1 ?side2 A11.out).mono ?_); (case side1 => exact Kd.C_below HR113_1.out (bw_ HB.out)); (case side2 => exact HC113_1.out); rintro e w' ⟨rfl, ⟨nd, rfl⟩⟩; (try first | exact ⟨rfl, _, World.drewN_drewN _ _ _⟩ | exact ⟨rfl, _, Eq.trans (World.drewN_drewN _ _ _) (congrArg (World.drewN _) (Nat.add_assoc _ _ _))⟩))))
         go_meet
         case rel => exact ⟨_, (false), sq_, H', ⟨by have := HK1.out; first | omega | exact Nat.le_refl _⟩, ⟨by (with_reducible repeat (first | refine blk_drewN ?_ _ | refine blk_drew ?_ | refine blk_alloc ?_ _)); refine blk_put (cs := #[.string ((rd_T53 l0 x12_1).f0), .slice none 0 0]) ?_ 1 _ rfl; (with_reducible repeat (first | refine blk_drewN ?_ _ | refine blk_drew ?_ | refine blk_alloc ?_ _)); refine blk_put (cs := #[.string (⟨#[]⟩ : ByteArray), .slice none 0 0]) ?_ 0 _ rfl; (with_reducible repeat (first | refine blk_drewN ?_ _ | refine blk_drew ?_ | refine blk_alloc ?_ _)); exact BK114.out⟩, ⟨bw_ HB.out⟩⟩
       ·replace c12 := Bool.eq_false_iff.mpr c12
        subst c12
        replace H := if_ H Bool.false_ne_true
        have H' := am_ H
        clear H
        have hcz19_0 := cz_ BK114.out 0
        have hcz19_1 := cz_ BK114.out 1
        have hfz19_0 := blk_frozen BK114.out 0
        have hfz19_1 := blk_frozen BK114.out 1
        go_wp2_with (first | (go_at_call 26; (with_reducible refine (spec_GoodName.calls k1 ((rd_T53 l0 x12_1).f0) true _ A9.out).mono ?_); rintro e w' ⟨rfl, ⟨nd, rfl⟩⟩; (try first | exact ⟨rfl, _, World.drewN_drewN _ _ _⟩ | exact ⟨rfl, _, Eq.trans (World.drewN_drewN _ _ _) (congrArg (World.drewN _) (Nat.add_assoc _ _ _))⟩)) | (go_at_call 27; (with_reducible refine (spec_l17Chord.calls k1 _ _ ((rd_T53 l0 x12_1).f1) false _ ?side1 ?side2 A11.out).mono ?_); (case side1 => exact Kd.C_below HR113_1.out (bw_ HB.out)); (case side2 => exact HC113_1.out); rintro e w' ⟨rfl, ⟨nd, rfl⟩⟩; (try first | exact ⟨rfl, _, World.drewN_drewN _ _ _⟩ | exact ⟨rfl, _, Eq.trans (World.drewN_drewN _ _ _) (congrArg (World.drewN _) (Nat.add_assoc _ _ _))⟩)))
        repeat (go_quiet (first | (go_at_call 26; (with_reducible refine (spec_GoodName.calls k1 ((rd_T53 l0 x12_1).f0) true _ A9.out).mono ?_); rintro e w' ⟨rfl, ⟨nd, rfl⟩⟩; (try first | exact ⟨rfl, _, World.drewN_drewN _ _ _⟩ | exact ⟨rfl, _, Eq.trans (World.drewN_drewN _ _ _) (congrArg (World.drewN _) (Nat.add_assoc _ _ _))⟩)) | (go_at_call 27; (with_reducible refine (spec_l17Chord.calls k1 _ _ ((rd_T53 l0 x12_1).f1) false _ ?side1 ?side2 A11.out).mono ?_); (case side1 => exact Kd.C_below HR113_1.out (bw_ HB.out)); (case side2 => exact HC113_1.out); rintro e w' ⟨rfl, ⟨nd, rfl⟩⟩; (try first | exact ⟨rfl, _, World.drewN_drewN _ _ _⟩ | exact ⟨rfl, _, Eq.trans (World.drewN_drewN _ _ _) (congrArg (World.drewN _) (Nat.add_assoc _ _ _))⟩))); try go_wp2_with (first | (go_at_call 26; (with_reducible refine (spec_GoodName.calls k1 ((rd_T53 l0 x12_1).f0) true _ A9.out).mono ?_); rintro e w' ⟨rfl, ⟨nd, rfl⟩⟩; (try first | exact ⟨rfl, _, World.drewN_drewN _ _ _⟩ | exact ⟨rfl, _, Eq.trans (World.drewN_drewN _ _ _) (congrArg (World.drewN _) (Nat.add_assoc _ _ _))⟩)) | (go_at_call 27; (with_reducible refine (spec_l17Chord.calls k1 _ _ ((rd_T53 l0 x12_1).f1) false _ ?side1 ?side2 A11.out).mono ?_); (case side1 => exact Kd.C_below HR113_1.out (bw_ HB.out)); (case side2 => exact HC113_1.out); rintro e w' ⟨rfl, ⟨nd, rfl⟩⟩; (try first | exact ⟨rfl, _, World.drewN_drewN _ _ _⟩ | exact ⟨rfl, _, Eq.trans (World.drewN_drewN _ _ _) (congrArg (World.drewN _) (Nat.add_assoc _ _ _))⟩))))
        go_meet
        case rel => exact ⟨_, (true), sq_, H', ⟨by have := HK1.out; first | omega | exact Nat.le_refl _⟩, ⟨by (with_reducible repeat (first | refine blk_drewN ?_ _ | refine blk_drew ?_ | refine blk_alloc ?_ _)); refine blk_put (cs := #[.string ((rd_T53 l0 x12_1).f0), .slice none 0 0]) ?_ 1 _ rfl; (with_reducible repeat (first | refine blk_drewN ?_ _ | refine blk_drew ?_ | refine blk_alloc ?_ _)); refine blk_put (cs := #[.string (⟨#[]⟩ : ByteArray), .slice none 0 0]) ?_ 0 _ rfl; (with_reducible repeat (first | refine blk_drewN ?_ _ | refine blk_drew ?_ | refine blk_alloc ?_ _)); exact BK114.out⟩, ⟨bw_ HB.out⟩⟩
      ·replace c10 := Bool.eq_false_iff.mpr c10
       subst c10
       replace H := if_ H Bool.false_ne_true
       have H' := am_ H
       clear H
       have hcz20_0 := cz_ BK114.out 0
       have hcz20_1 := cz_ BK114.out 1
       have hfz20_0 := blk_frozen BK114.out 0
       have hfz20_1 := blk_frozen BK114.out 1
       go_wp2_with (first | (go_at_call 26; (with_reducible refine (spec_GoodName.calls k1 ((rd_T53 l0 x12_1).f0) false _ A9.out).mono ?_); rintro e w' ⟨rfl, ⟨nd, rfl⟩⟩; (try first | exact ⟨rfl, _, World.drewN_drewN _ _ _⟩ | exact ⟨rfl, _, Eq.trans (World.drewN_drewN _ _ _) (congrArg (World.drewN _) (Nat.add_assoc _ _ _))⟩)))
       repeat (go_quiet (first | (go_at_call 26; (with_reducible refine (spec_GoodName.calls k1 ((rd_T53 l0 x12_1).f0) false _ A9.out).mono ?_); rintro e w' ⟨rfl, ⟨nd, rfl⟩⟩; (try first | exact ⟨rfl, _, World.drewN_drewN _ _ _⟩ | exact ⟨rfl, _, Eq.trans (World.drewN_drewN _ _ _) (congrArg (World.drewN _) (Nat.add_assoc _ _ _))⟩))); try go_wp2_with (first | (go_at_call 26; (with_reducible refine (spec_GoodName.calls k1 ((rd_T53 l0 x12_1).f0) false _ A9.out).mono ?_); rintro e w' ⟨rfl, ⟨nd, rfl⟩⟩; (try first | exact ⟨rfl, _, World.drewN_drewN _ _ _⟩ | exact ⟨rfl, _, Eq.trans (World.drewN_drewN _ _ _) (congrArg (World.drewN _) (Nat.add_assoc _ _ _))⟩))))
       go_meet
       case rel => exact ⟨_, (true), sq_, H', ⟨by have := HK1.out; first | omega | exact Nat.le_refl _⟩, ⟨by (with_reducible repeat (first | refine blk_drewN ?_ _ | refine blk_drew ?_ | refine blk_alloc ?_ _)); refine blk_put (cs := #[.string ((rd_T53 l0 x12_1).f0), .slice none 0 0]) ?_ 1 _ rfl; (with_reducible repeat (first | refine blk_drewN ?_ _ | refine blk_drew ?_ | refine blk_alloc ?_ _)); refine blk_put (cs := #[.string (⟨#[]⟩ : ByteArray), .slice none 0 0]) ?_ 0 _ rfl; (with_reducible repeat (first | refine blk_drewN ?_ _ | refine blk_drew ?_ | refine blk_alloc ?_ _)); exact BK114.out⟩, ⟨bw_ HB.out⟩⟩
     case rest =>
      clear HC6
      try clear c2
      try clear c2b0
      try clear c2b1
      try clear c3
      try clear c3b0
      try clear c4
      try clear c4b0
      try clear c5
      try clear c5b0
      try clear hcz8_0
      try clear hcz8_1
      try clear hfz8_0
      try clear hfz8_1
      try clear hx113_0
      try clear hx113_1
      try clear p113
      try clear q113
      obtain ⟨kq, x41_5, rfl, HA, HJ5, BK114, HB⟩ := hcut
      cases kq with
      | zero => exact absurd HA.out (by simp [spec_GoodBinds.j1])
      | succ kj5 =>
       have H := HA.out
       clear HA
       simp only [spec_GoodBinds.j1] at H
       by_cases c21 : x41_5 = true
       ·subst c21
        replace H := it_ H rfl
        obtain rfl := Option.some.inj H
        go_wp2
        repeat (go_quiet (fail); try go_wp2)
        go_ret
        exact ⟨by first | rfl | (simp [errW_none, errW_some] <;> rfl) | (simp [*, errW_none, errW_some] <;> rfl), bw_ HB.out⟩
       ·replace c21 := Bool.eq_false_iff.mpr c21
        subst c21
        replace H := if_ H Bool.false_ne_true
        obtain ⟨c22, H⟩ := ifn_ H
        have c22b0 := eq_true c22
        have c22b1 : decide (0 ≤ x12_1) = true := decide_eq_true c22
        clear c22
        obtain ⟨c23, H⟩ := ifn_ H
        have c23b0 := eq_true c23
        have c23b1 : decide (x12_1 ≤ (l0.length : Int)) = true := decide_eq_true c23
        clear c23
        obtain ⟨y118, hy118⟩ : ∃ y_ : List (S53), y_ = (l0.take (x12_1 : Int).toNat) := ⟨_, rfl⟩
        replace H : (spec_GoodBinds.l1 kj5 l0 l0 (l0.length : Int) x12_1 y118 (y118.length : Int) 0 ((rd_T53 l0 x12_1).f0) ((rd_T53 l0 x12_1).f1)) = some r := by first | (rw [hy118]; with_reducible exact H) | (have H2_ := (Option.bind_some _ _).symm.trans H; rw [hy118]; with_reducible exact H2_) | (have H2_ := (Option.bind_some _ _).symm.trans H; with_reducible exact H2_) | with_reducible exact H | (rw [hy118]; exact H) | exact H
        have Ny118 := am_ hy118
        clear hy118
        have H' := am_ H
        clear H
        have q24 : (x12_1 : Int) ≤ ((l0.length : Int) : Int) := od_
        obtain ⟨i024, hi024, _, hsz24, _⟩ := info_parts info53
        have hroom24 : l0.length ≤ c0 := HC0.out
        have hC24 : Kd.C k53 _ (some ad113) l0.length l0 := HR0.out
        have hcut24 := cut_to (P := Try.prog) 25 53 .i64 Try.underlying25 hi024 (some ad113) l0.length c0 x12_1 od_ q24 hroom24
        have hr24 := Kd.C_take (m := (x12_1 : Int).toNat) hC24 (by omega)
        have hy24 : y118.length = (x12_1 : Int).toNat := (by rw [Ny118.out, List.length_take]; omega)
        rw [← Ny118.out] at hr24
        rw [← hy24] at hcut24
        have HR121 := am_ hr24
        have HC121 := am_ (show y118.length ≤ c0 from by omega)
        clear hr24 hC24 hroom24 hi024 hsz24
        have KY24 := am_ hy24
        clear hy24
        replace q24 := eq_true q24
        go_wp2
        repeat (go_quiet (fail); try go_wp2)
        go_loopg [46] kj5 (fun kq v46 w' => ∃ (x46_3 : Int), v46 = .int .i64 x46_3 ∧ Aside0 (spec_GoodBinds.l1 kq l0 l0 (l0.length : Int) x12_1 y118 (y118.length : Int) x46_3 ((rd_T53 l0 x12_1).f0) ((rd_T53 l0 x12_1).f1) = some r) ∧ Aside0 (kq ≤ kj5) ∧ Aside0 (w'.heap[gb114]? = some (.cells #[.string ((rd_T53 l0 x12_1).f0), (.slice A113_1 ((rd_T53 l0 x12_1).f1).length c113_1)] 53 (0, 0))) ∧ Aside0 (Below w.heap.size w w'))
        case atStart => exact ⟨(0), sq_, H', ⟨Nat.le_refl _⟩, ⟨bk_ BK114.out⟩, ⟨bw_ HB.out⟩⟩
        case round =>
         clear H'
         try clear c2
         try clear c2b0
         try clear c2b1
         try clear c3
         try clear c3b0
         try clear c4
         try clear c4b0
         try clear c5
         try clear c5b0
         try clear c21
         try clear c22
         try clear c22b0
         try clear c22b1
         try clear c23
         try clear c23b0
         try clear c23b1
         try clear q24
         try clear hcz8_0
         try clear hcz8_1
         try clear hfz8_0
         try clear hfz8_1
         try clear hx113_0
         try clear hx113_1
         try clear p113
         try clear q113
         try clear q24
         obtain ⟨x46_3, rfl, HA, HK3, BK114, HB⟩ := hrel
         cases gk with
         | zero => exact absurd HA.out (by simp [spec_GoodBinds.l1])
         | succ k3 =>
          have H := HA.out
          clear HA
          simp only [spec_GoodBinds.l1] at H
          by_cases c25 : x46_3 < (y118.length : Int)
          ·rw [if_pos c25] at H
           have c25b0 : decide (x46_3 < (y118.length : Int)) = true := decide_eq_true c25
           clear c25
           obtain ⟨c26, H⟩ := ifn_ H
           have c26b0 : decide (0 ≤ x46_3) = true := decide_eq_true c26
           clear c26
           obtain ⟨c27, H⟩ := ifn_ H
           have c27b0 : decide (x46_3 < (y118.length : Int)) = true := decide_eq_true c27
           clear c27
           obtain ⟨t124, A280, H⟩ := bE_ H
           have A28 := am_ A280
           clear A280
           by_cases c29 : t124 = true
           ·subst c29
            replace H := it_ H rfl
            obtain rfl := Option.some.inj H
            have p122 : 0 ≤ (x46_3 : Int) := od_
            have q122 : x46_3 < (y118.length : Int) := od_
            obtain ⟨ad122, A122_1, c122_1, e122, hx122_0, hx122_1, hl122_1, hi122_1⟩ := at_T53 HR121.out x46_3 p122 q122
            obtain rfl : ad113 = ad122 := (by injection e122)
            (try replace hx122_0 := hc_ HB.out hx122_0)
            (try replace hx122_1 := hc_ HB.out hx122_1)
            have HR122_1 := am_ hi122_1
            have HC122_1 := am_ hl122_1
            clear hi122_1 hl122_1
            replace p122 := eq_true p122
            replace q122 := eq_true q122
            go_wp2_with (first | ((with_reducible refine gate_dst (N := 6) rfl ?_); refine bx_ 6 #[.string (⟨#[]⟩ : ByteArray), .slice none 0 0] 53 ?_; intro gb123 hg w30 hbox hb; have n0_ := am_ (blk_below (bk_ BK114.out) hb); have n1_ := am_ (below_step (bw_ HB.out) hb); have n2_ := am_ (hbox); have n3_ := am_ (gs_ hg (bw_ HB.out)); have n4_ := am_ (gs_ hg (bw_ HB.out)); have n5_ := am_ (nl_ hg (bk_ BK114.out)); have n6_ := am_ (ng_ hg (bk_ BK114.out)); replace BK114 := n0_; replace HB := n1_; have BK123 := n2_; have GW123 := n3_; have GE123 := n4_; have NB114_123 := n5_; have NB123_114 := n6_; clear n0_ n1_ n2_ n3_ n4_ n5_ n6_; clear hb hbox hg; have hnb31 := NB123_114.out; have hnc31 := NB114_123.out; have hcz32_0 := cz_ BK123.out 0; have hcz32_1 := cz_ BK123.out 1; have hfz32_0 := blk_frozen BK123.out 0; have hfz32_1 := blk_frozen BK123.out 1; have hcz33_0 := cz_ BK114.out 0; have hcz33_1 := cz_ BK114.out 1; have hfz33_0 := blk_frozen BK114.out 0; have hfz33_1 := blk_frozen BK114.out 1) | (go_at_call 28; (with_reducible refine (spec_l17Same.calls k3 _ _ ((rd_T53 y118 x46_3).f1) _ _ ((rd_T53 l0 x12_1).f1) true _ ?side1 ?side2 ?side3 ?side4 A28.out).mono ?_); (case side1 => exact Kd.C_below HR122_1.out (bw_ HB.out)); (case side2 => exact HC122_1.out); (case side3 => exact Kd.C_below HR113_1.out (bw_ HB.out)); (case side4 => exact HC113_1.out); rintro e w' ⟨rfl, ⟨nd, rfl⟩⟩; (try first | exact ⟨rfl, _, World.drewN_drewN _ _ _⟩ | exact ⟨rfl, _, Eq.trans (World.drewN_drewN _ _ _) (congrArg (World.drewN _) (Nat.add_assoc _ _ _))⟩)))
            repeat (go_quiet (first | ((with_reducible refine gate_dst (N := 6) rfl ?_); refine bx_ 6 #[.string (⟨#[]⟩ : ByteArray), .slice none 0 0] 53 ?_; intro gb123 hg w30 hbox hb; have n0_ := am_ (blk_below (bk_ BK114.out) hb); have n1_ := am_ (below_step (bw_ HB.out) hb); have n2_ := am_ (hbox); have n3_ := am_ (gs_ hg (bw_ HB.out)); have n4_ := am_ (gs_ hg (bw_ HB.out)); have n5_ := am_ (nl_ hg (bk_ BK114.out)); have n6_ := am_ (ng_ hg (bk_ BK114.out)); replace BK114 := n0_; replace HB := n1_; have BK123 := n2_; have GW123 := n3_; have GE123 := n4_; have NB114_123 := n5_; have NB123_114 := n6_; clear n0_ n1_ n2_ n3_ n4_ n5_ n6_; clear hb hbox hg; have hnb31 := NB123_114.out; have hnc31 := NB114_123.out; have hcz32_0 := cz_ BK123.out 0; have hcz32_1 := cz_ BK123.out 1; have hfz32_0 := blk_frozen BK123.out 0; have hfz32_1 := blk_frozen BK123.out 1; have hcz33_0 := cz_ BK114.out 0; have hcz33_1 := cz_ BK114.out 1; have hfz33_0 := blk_frozen BK114.out 0; have hfz33_1 := blk_frozen BK114.out 1) | (go_at_call 28; (with_reducible refine (spec_l17Same.calls k3 _ _ ((rd_T53 y118 x46_3).f1) _ _ ((rd_T53 l0 x12_1).f1) true _ ?side1 ?side2 ?side3 ?side4 A28.out).mono ?_); (case side1 => exact Kd.C_below HR122_1.out (bw_ HB.out)); (case side2 => exact HC122_1.out); (case side3 => exact Kd.C_below HR113_1.out (bw_ HB.out)); (case side4 => exact HC113_1.out); rintro e w' ⟨rfl, ⟨nd, rfl⟩⟩; (try first | exact ⟨rfl, _, World.drewN_drewN _ _ _⟩ | exact ⟨rfl, _, Eq.trans (World.drewN_drewN _ _ _) (congrArg (World.drewN _) (Nat.add_assoc _ _ _))⟩))); try go_wp2_with (first | ((with_reducible refine gate_dst (N := 6) rfl ?_); refine bx_ 6 #[.string (⟨#[]⟩ : ByteArray), .slice none 0 0] 53 ?_; intro gb123 hg w30 hbox hb; have n0_ := am_ (blk_below (bk_ BK114.out) hb); have n1_ := am_ (below_step (bw_ HB.out) hb); have n2_ := am_ (hbox); have n3_ := am_ (gs_ hg (bw_ HB.out)); have n4_ := am_ (gs_ hg (bw_ HB.out)); have n5_ := am_ (nl_ hg (bk_ BK114.out)); have n6_ := am_ (ng_ hg (bk_ BK114.out)); replace BK114 := n0_; replace HB := n1_; have BK123 := n2_; have GW123 := n3_; have GE123 := n4_; have NB114_123 := n5_; have NB123_114 := n6_; clear n0_ n1_ n2_ n3_ n4_ n5_ n6_; clear hb hbox hg; have hnb31 := NB123_114.out; have hnc31 := NB114_123.out; have hcz32_0 := cz_ BK123.out 0; have hcz32_1 := cz_ BK123.out 1; have hfz32_0 := blk_frozen BK123.out 0; have hfz32_1 := blk_frozen BK123.out 1; have hcz33_0 := cz_ BK114.out 0; have hcz33_1 := cz_ BK114.out 1; have hfz33_0 := blk_frozen BK114.out 0; have hfz33_1 := blk_frozen BK114.out 1) | (go_at_call 28; (with_reducible refine (spec_l17Same.calls k3 _ _ ((rd_T53 y118 x46_3).f1) _ _ ((rd_T53 l0 x12_1).f1) true _ ?side1 ?side2 ?side3 ?side4 A28.out).mono ?_); (case side1 => exact Kd.C_below HR122_1.out (bw_ HB.out)); (case side2 => exact HC122_1.out); (case side3 => exact Kd.C_below HR113_1.out (bw_ HB.out)); (case side4 => exact HC113_1.out); rintro e w' ⟨rfl, ⟨nd, rfl⟩⟩; (try first | exact ⟨rfl, _, World.drewN_drewN _ _ _⟩ | exact ⟨rfl, _, Eq.trans (World.drewN_drewN _ _ _) (congrArg (World.drewN _) (Nat.add_assoc _ _ _))⟩))))
            go_ret
            exact ⟨by first | rfl | (simp [errW_none, errW_some] <;> rfl) | (simp [*, errW_none, errW_some] <;> rfl), bw_ HB.out⟩
           ·replace c29 := Bool.eq_false_iff.mpr c29
            subst c29
            replace H := if_ H Bool.false_ne_true
            have H' := am_ H
            clear H
            have p122 : 0 ≤ (x46_3 : Int) := od_
            have q122 : x46_3 < (y118.length : Int) := od_
            obtain ⟨ad122, A122_1, c122_1, e122, hx122_0, hx122_1, hl122_1, hi122_1⟩ := at_T53 HR121.out x46_3 p122 q122
            obtain rfl : ad113 = ad122 := (by injection e122)
            (try replace hx122_0 := hc_ HB.out hx122_0)
            (try replace hx122_1 := hc_ HB.out hx122_1)
            have HR122_1 := am_ hi122_1
            have HC122_1 := am_ hl122_1
            clear hi122_1 hl122_1
            replace p122 := eq_true p122
            replace q122 := eq_true q122
            go_wp2_with (first | ((with_reducible refine gate_dst (N := 6) rfl ?_); refine bx_ 6 #[.string (⟨#[]⟩ : ByteArray), .slice none 0 0] 53 ?_; intro gb123 hg w34 hbox hb; have n0_ := am_ (blk_below (bk_ BK114.out) hb); have n1_ := am_ (below_step (bw_ HB.out) hb); have n2_ := am_ (hbox); have n3_ := am_ (gs_ hg (bw_ HB.out)); have n4_ := am_ (gs_ hg (bw_ HB.out)); have n5_ := am_ (nl_ hg (bk_ BK114.out)); have n6_ := am_ (ng_ hg (bk_ BK114.out)); replace BK114 := n0_; replace HB := n1_; have BK123 := n2_; have GW123 := n3_; have GE123 := n4_; have NB114_123 := n5_; have NB123_114 := n6_; clear n0_ n1_ n2_ n3_ n4_ n5_ n6_; clear hb hbox hg; have hnb35 := NB123_114.out; have hnc35 := NB114_123.out; have hcz36_0 := cz_ BK123.out 0; have hcz36_1 := cz_ BK123.out 1; have hfz36_0 := blk_frozen BK123.out 0; have hfz36_1 := blk_frozen BK123.out 1; have hcz37_0 := cz_ BK114.out 0; have hcz37_1 := cz_ BK114.out 1; have hfz37_0 := blk_frozen BK114.out 0; have hfz37_1 := blk_frozen BK114.out 1) | (go_at_call 28; (with_reducible refine (spec_l17Same.calls k3 _ _ ((rd_T53 y118 x46_3).f1) _ _ ((rd_T53 l0 x12_1).f1) false _ ?side1 ?side2 ?side3 ?side4 A28.out).mono ?_); (case side1 => exact Kd.C_below HR122_1.out (bw_ HB.out)); (case side2 => exact HC122_1.out); (case side3 => exact Kd.C_below HR113_1.out (bw_ HB.out)); (case side4 => exact HC113_1.out); rintro e w' ⟨rfl, ⟨nd, rfl⟩⟩; (try first | exact ⟨rfl, _, World.drewN_drewN _ _ _⟩ | exact ⟨rfl, _, Eq.trans (World.drewN_drewN _ _ _) (congrArg (World.drewN _) (Nat.add_assoc _ _ _))⟩)))
            repeat (go_quiet (first | ((with_reducible refine gate_dst (N := 6) rfl ?_); refine bx_ 6 #[.string (⟨#[]⟩ : ByteArray), .slice none 0 0] 53 ?_; intro gb123 hg w34 hbox hb; have n0_ := am_ (blk_below (bk_ BK114.out) hb); have n1_ := am_ (below_step (bw_ HB.out) hb); have n2_ := am_ (hbox); have n3_ := am_ (gs_ hg (bw_ HB.out)); have n4_ := am_ (gs_ hg (bw_ HB.out)); have n5_ := am_ (nl_ hg (bk_ BK114.out)); have n6_ := am_ (ng_ hg (bk_ BK114.out)); replace BK114 := n0_; replace HB := n1_; have BK123 := n2_; have GW123 := n3_; have GE123 := n4_; have NB114_123 := n5_; have NB123_114 := n6_; clear n0_ n1_ n2_ n3_ n4_ n5_ n6_; clear hb hbox hg; have hnb35 := NB123_114.out; have hnc35 := NB114_123.out; have hcz36_0 := cz_ BK123.out 0; have hcz36_1 := cz_ BK123.out 1; have hfz36_0 := blk_frozen BK123.out 0; have hfz36_1 := blk_frozen BK123.out 1; have hcz37_0 := cz_ BK114.out 0; have hcz37_1 := cz_ BK114.out 1; have hfz37_0 := blk_frozen BK114.out 0; have hfz37_1 := blk_frozen BK114.out 1) | (go_at_call 28; (with_reducible refine (spec_l17Same.calls k3 _ _ ((rd_T53 y118 x46_3).f1) _ _ ((rd_T53 l0 x12_1).f1) false _ ?side1 ?side2 ?side3 ?side4 A28.out).mono ?_); (case side1 => exact Kd.C_below HR122_1.out (bw_ HB.out)); (case side2 => exact HC122_1.out); (case side3 => exact Kd.C_below HR113_1.out (bw_ HB.out)); (case side4 => exact HC113_1.out); rintro e w' ⟨rfl, ⟨nd, rfl⟩⟩; (try first | exact ⟨rfl, _, World.drewN_drewN _ _ _⟩ | exact ⟨rfl, _, Eq.trans (World.drewN_drewN _ _ _) (congrArg (World.drewN _) (Nat.add_assoc _ _ _))⟩))); try go_wp2_with (first | ((with_reducible refine gate_dst (N := 6) rfl ?_); refine bx_ 6 #[.string (⟨#[]⟩ : ByteArray), .slice none 0 0] 53 ?_; intro gb123 hg w34 hbox hb; have n0_ := am_ (blk_below (bk_ BK114.out) hb); have n1_ := am_ (below_step (bw_ HB.out) hb); have n2_ := am_ (hbox); have n3_ := am_ (gs_ hg (bw_ HB.out)); have n4_ := am_ (gs_ hg (bw_ HB.out)); have n5_ := am_ (nl_ hg (bk_ BK114.out)); have n6_ := am_ (ng_ hg (bk_ BK114.out)); replace BK114 := n0_; replace HB := n1_; have BK123 := n2_; have GW123 := n3_; have GE123 := n4_; have NB114_123 := n5_; have NB123_114 := n6_; clear n0_ n1_ n2_ n3_ n4_ n5_ n6_; clear hb hbox hg; have hnb35 := NB123_114.out; have hnc35 := NB114_123.out; have hcz36_0 := cz_ BK123.out 0; have hcz36_1 := cz_ BK123.out 1; have hfz36_0 := blk_frozen BK123.out 0; have hfz36_1 := blk_frozen BK123.out 1; have hcz37_0 := cz_ BK114.out 0; have hcz37_1 := cz_ BK114.out 1; have hfz37_0 := blk_frozen BK114.out 0; have hfz37_1 := blk_frozen BK114.out 1) | (go_at_call 28; (with_reducible refine (spec_l17Same.calls k3 _ _ ((rd_T53 y118 x46_3).f1) _ _ ((rd_T53 l0 x12_1).f1) false _ ?side1 ?side2 ?side3 ?side4 A28.out).mono ?_); (case side1 => exact Kd.C_below HR122_1.out (bw_ HB.out)); (case side2 => exact HC122_1.out); (case side3 => exact Kd.C_below HR113_1.out (bw_ HB.out)); (case side4 => exact HC113_1.out); rintro e w' ⟨rfl, ⟨nd, rfl⟩⟩; (try first | exact ⟨rfl, _, World.drewN_drewN _ _ _⟩ | exact ⟨rfl, _, Eq.trans (World.drewN_drewN _ _ _) (congrArg (World.drewN _) (Nat.add_assoc _ _ _))⟩))))
            go_roundg k3
            case measure => have := HK1.out; have := HJ5.out; have := HK3.out; omega
            case rel => exact ⟨(wrap64 (x46_3 + 1)), sq_, H', ⟨by have := HK1.out; have := HJ5.out; have := HK3.out; omega⟩, ⟨by (with_reducible repeat (first | refine blk_drewN ?_ _ | refine blk_drew ?_ | refine blk_alloc ?_ _)); refine blk_far ?_ NB114_123.out _; (with_reducible repeat (first | refine blk_drewN ?_ _ | refine blk_drew ?_ | refine blk_alloc ?_ _)); refine blk_far ?_ NB114_123.out _; (with_reducible repeat (first | refine blk_drewN ?_ _ | refine blk_drew ?_ | refine blk_alloc ?_ _)); exact BK114.out⟩, ⟨bw_ HB.out⟩⟩
          ·rw [if_neg c25] at H
           have c25b0 : decide (x46_3 < (y118.length : Int)) = false := decide_eq_false c25
           clear c25
           have H' := am_ H
           clear H
           go_wp2
           repeat (go_quiet (fail); try go_wp2)
           go_roundg k3
           case measure => have := HK1.out; have := HJ5.out; have := HK3.out; omega
           case rel => exact ⟨(wrap64 (x12_1 + 1)), sq_, H', ⟨by have := HK1.out; have := HJ5.out; have := HK3.out; omega⟩, ⟨bw_ HB.out⟩⟩
    ·rw [if_neg c3] at H
     have c3b0 : decide (x12_1 < (l0.length : Int)) = false := decide_eq_false c3
     clear c3
     obtain rfl := Option.some.inj H
     go_wp2
     repeat (go_quiet (fail); try go_wp2)
     go_ret
     exact ⟨by first | rfl | (simp [errW_none, errW_some] <;> rfl) | (simp [*, errW_none, errW_some] <;> rfl), bw_ HB.out⟩

end Go.Proofs.Ytfgdfnnddoncjaa.XFnExactRebind
