/- What the Go functions that this law comes to compute, each walked; written by a program of this session. -/
import Derived.Test.YtbjdhmgednhdgaaXShort
import Derived.Test.YtbjdhmgednhdgaaXFlt
import Derived.Test.YtbjdhmgednhdgaaXMark
import Derived.Test.YtbjdhmgednhdgaaXFnExactRunBusesx0
import Derived.Test.YtbjdhmgednhdgaaXFnExactRunBusesx1
import Derived.Test.YtbjdhmgednhdgaaXFnExactRunBusesx2
namespace Go.Proofs.Ytbjdhmgednhdgaa.XFnExactRunBuses
open Go.RowKit Go.Proofs.YtbjdhmgednhdgaaW.PrintWords Go.Proofs.YtbjdhmgednhdgaaW.PrintLast Go.Proofs.YtbjdhmgednhdgaaW.PrintMore
attribute [local go_sem] run_fadd run_fsub run_fmul run_fdiv run_fconv run_fofI run_feq run_fneq run_flss run_fgtr run_fleq run_fgeq run_store_flt str_geq max2_int min2_int max_two min_two max_three min_three max_four min_four   -- for this text's walks alone
set_option linter.unusedVariables false
set_option linter.unusedSimpArgs false

/-! ### spec_RunBuses: function 29 -/
def rbS (a g B : Int) : Bool := fmulOk a.toNat g.toNat && (fmulOk B.toNat (fmul a.toNat g.toNat).toNat && faddOk (fmul B.toNat (fmul a.toNat g.toNat).toNat).toNat 0)
def rbbadS (a g B : Int) : Bool := !rbfin a || (fmulOk a.toNat g.toNat && !fmulOk B.toNat (fmul a.toNat g.toNat).toNat)
def rbnan (r : Nat) : Prop := ∃ s f, Ieee.double.read r = .nan s f
theorem rbnan_of {r : Nat} (h : 9218868437227405312 < r % 9223372036854775808) : rbnan r := by
  have d1 : Ieee.double.signWeight = 9223372036854775808 := by decide
  have d2 : Ieee.double.binade = 4503599627370496 := by decide
  have d3 : Ieee.double.infRung = 9218868437227405312 := by decide
  unfold rbnan Ieee.Format.read
  rw [d1, d2, d3]
  simp only
  rw [if_neg (by omega), if_neg (by omega), if_neg (by omega)]
  exact ⟨_, _, rfl⟩
theorem rbnan_feq {r : Nat} (h : rbnan r) : feq r r = false := by
  obtain ⟨s, f, e⟩ := h
  show ((Ieee.double.read r).order (Ieee.double.read r) == some .eq) = false
  rw [e]
  rfl
theorem rbcut (a b : Nat) (t : Nat) : 9218868437227405312 < ((Question.nanBits .f64 a b).cut t) % 9223372036854775808 := by
  show 9218868437227405312 < ((t % 2) * 2 ^ 63 + 0x7ff0000000000000 + 1 + (t / 2) % (2 ^ 52 - 1)) % 9223372036854775808
  have h1 := Nat.mod_lt (t / 2) (show 2 ^ 52 - 1 > 0 by decide)
  generalize (t / 2) % (2 ^ 52 - 1) = x at h1 ⊢
  have h2 : t % 2 = 0 ∨ t % 2 = 1 := by omega
  rcases h2 with h | h <;> rw [h] <;> omega
theorem rbmul_any {P : Program} (w : World) (t : TypeId) (a b : Int) : ∃ (r : Int) (m : Nat), (binOp .mul t (.float .f64 a.toNat) (.float .f64 b.toNat)).run P w = .ok (.float .f64 r.toNat) (w.drewN m) ∧ (fmulOk a.toNat b.toNat = true → r = fmul a.toNat b.toNat) ∧ (fmulOk a.toNat b.toNat = false → rbnan r.toNat) := by
  cases hm : FloatKind.f64.format.mul a.toNat b.toNat with
  | some r =>
    have ok : fmulOk a.toNat b.toNat = true := by unfold fmulOk; rw [hm]; rfl
    exact ⟨fmul a.toNat b.toNat, 0, run_fmul w t _ _ ok, fun _ => rfl, fun h => absurd (ok.symm.trans h) (by decide)⟩
  | none =>
    have ok : fmulOk a.toNat b.toNat = false := by unfold fmulOk; rw [hm]; rfl
    refine ⟨(((Question.nanBits .f64 a.toNat b.toNat).cut (w.tape w.drawn (.nanBits .f64 a.toNat b.toNat)) : Nat) : Int), 1, ?_, fun h => absurd (ok.symm.trans h) (by decide), fun _ => rbnan_of (rbcut a.toNat b.toNat _)⟩
    show _ = Result.ok _ w.drew
    simp [binOp, Op.floatArith, hm, choose, Sem.run, Question.forced]
theorem rbadd_any {P : Program} (w : World) (t : TypeId) (a b : Int) : ∃ (r : Int) (m : Nat), (binOp .add t (.float .f64 a.toNat) (.float .f64 b.toNat)).run P w = .ok (.float .f64 r.toNat) (w.drewN m) ∧ (rbnan a.toNat → rbnan r.toNat) := by
  cases hm : FloatKind.f64.format.add a.toNat b.toNat with
  | some r =>
    have ok : faddOk a.toNat b.toNat = true := by unfold faddOk; rw [hm]; rfl
    refine ⟨fadd a.toNat b.toNat, 0, run_fadd w t _ _ ok, fun h => ?_⟩
    obtain ⟨s, f, e⟩ := h
    have : ((Ieee.double.read a.toNat).sum (Ieee.double.read b.toNat)).map Ieee.double.write = some r := hm
    rw [e] at this
    cases this
  | none =>
    refine ⟨(((Question.nanBits .f64 a.toNat b.toNat).cut (w.tape w.drawn (.nanBits .f64 a.toNat b.toNat)) : Nat) : Int), 1, ?_, fun _ => rbnan_of (rbcut a.toNat b.toNat _)⟩
    show _ = Result.ok _ w.drew
    simp [binOp, Op.floatArith, hm, choose, Sem.run, Question.forced]
theorem rbfin_spec (z : Int) : spec_l2Finite.f z = some (rbfin z) := by
  have h1 : math_IsNaN.f z = some (!feq z.toNat z.toNat) := rfl
  have h2 : math_IsInf.f z 0 = some (fgt (Go.bits .andNot .u64 (z.toNat : Int) 9223372036854775808).toNat 9218868437227405311) := rfl
  unfold spec_l2Finite.f rbfin
  rw [h1, h2]
  simp only [Option.bind_some]
  cases feq z.toNat z.toNat <;> cases fgt (Go.bits .andNot .u64 (z.toNat : Int) 9223372036854775808).toNat 9218868437227405311 <;> rfl
theorem rbnan_fin {z : Int} (h : rbnan z.toNat) : rbfin z = false := by
  unfold rbfin
  rw [rbnan_feq h]
  rfl
theorem rbop_ {P : Program} {o : Oper} {a : Act} {w w' : World} {K : Act → World → Prop} {Q : Exit → Act → World → Prop} {c : Bool} {v : Value} {X : Prop} (hc : c = true) (h : (execOp a.eval o).run P w = .ok (.value v) w') (hk : K (a.put o.dst v) w') : if c = true then Oper.wp P o a w K Q else X := by
  rw [if_pos hc]
  unfold Oper.wp
  rw [h]
  exact hk
mutual
def spec_RunBuses.j0 : Nat → List (S76) → List Int → Bool → Option (List Int × Int × Bool)
 | 0, _, _, _ => none
 | k + 1, x0, x1, x31 => if x31 = true then (some (([] : List Int), 0, false)) else (spec_RunBuses.l0 k x0 x1 x0 (x0.length : Int) 0)
def spec_RunBuses.l0 : Nat → List (S76) → List Int → List (S76) → Int → Int → Option (List Int × Int × Bool)
 | 0, _, _, _, _, _ => none
 | k + 1, x0, x1, x32, x33, x34 => if x34 < x33 then (if 0 ≤ x34 then (if x34 < (x32.length : Int) then ((spec_GoodReal.f ((rd_T76 x32 x34).f0)).bind fun t126 => (if t126 = true then ((spec_GoodFilter.f ((rd_T76 x32 x34).f1.f0) ((rd_T76 x32 x34).f1.f1) ((rd_T76 x32 x34).f1.f2) ((rd_T76 x32 x34).f1.f3) ((rd_T76 x32 x34).f1.f4)).bind fun t127 => (if t127 = true then (if ((rd_T76 x32 x34).f2) = (-1) then (spec_RunBuses.l0 k x0 x1 x32 x33 (wrap64 (x34 + 1))) else ((spec_l1In.f ((rd_T76 x32 x34).f2) (wrap64 (x34 + 1)) (wrap64 ((x0.length : Int) - 1))).bind fun t128 => (if t128 = true then (spec_RunBuses.l0 k x0 x1 x32 x33 (wrap64 (x34 + 1))) else (some (([] : List Int), 0, false))))) else (some (([] : List Int), 0, false)))) else (some (([] : List Int), 0, false)))) else (none)) else (none)) else ((some (([] : List Int) : List Int)).bind fun y129 => (if y129.length + x1.length < 17592186044416 then (spec_RunBuses.l1 k (y129 ++ x1) ([] : List Int) 0 x0 (x0.length : Int) 0) else (none)))
def spec_RunBuses.l1 : Nat → List Int → List Int → Int → List (S76) → Int → Int → Option (List Int × Int × Bool)
 | 0, _, _, _, _, _, _ => none
 | k + 1, x9, x10, x11, x69, x70, x71 => if x71 < x70 then (if 0 ≤ x71 then (if x71 < (x69.length : Int) then (if x71 < (x9.length : Int) then (if rbS (rd x9 x71) ((rd_T76 x69 x71).f0) ((rd_T76 x69 x71).f1.f0) = true then (if fmulOk (rd x9 x71).toNat ((rd_T76 x69 x71).f0).toNat = true then (if fmulOk ((rd_T76 x69 x71).f1.f0).toNat (fmul (rd x9 x71).toNat ((rd_T76 x69 x71).f0).toNat).toNat = true then (if faddOk (fmul ((rd_T76 x69 x71).f1.f0).toNat (fmul (rd x9 x71).toNat ((rd_T76 x69 x71).f0).toNat).toNat).toNat 0 = true then ((spec_l2Finite.f (rd x9 x71)).bind fun t139 => (if t139 = true then ((spec_l2Finite.f (fadd (fmul ((rd_T76 x69 x71).f1.f0).toNat (fmul (rd x9 x71).toNat ((rd_T76 x69 x71).f0).toNat).toNat).toNat 0)).bind fun t140 => (spec_RunBuses.j3 k x9 x10 x11 (fadd (fmul ((rd_T76 x69 x71).f1.f0).toNat (fmul (rd x9 x71).toNat ((rd_T76 x69 x71).f0).toNat).toNat).toNat 0) x69 x70 x71 (!t140) ((rd_T76 x69 x71).f0) ((rd_T76 x69 x71).f1.f0) ((rd_T76 x69 x71).f1.f1) ((rd_T76 x69 x71).f1.f2) ((rd_T76 x69 x71).f1.f3) ((rd_T76 x69 x71).f1.f4) ((rd_T76 x69 x71).f2))) else (spec_RunBuses.j3 k x9 x10 x11 (fadd (fmul ((rd_T76 x69 x71).f1.f0).toNat (fmul (rd x9 x71).toNat ((rd_T76 x69 x71).f0).toNat).toNat).toNat 0) x69 x70 x71 true ((rd_T76 x69 x71).f0) ((rd_T76 x69 x71).f1.f0) ((rd_T76 x69 x71).f1.f1) ((rd_T76 x69 x71).f1.f2) ((rd_T76 x69 x71).f1.f3) ((rd_T76 x69 x71).f1.f4) ((rd_T76 x69 x71).f2)))) else (none)) else (none)) else (none)) else (if rbbadS (rd x9 x71) ((rd_T76 x69 x71).f0) ((rd_T76 x69 x71).f1.f0) = true then (some (([] : List Int), 0, false)) else none)) else (none)) else (none)) else (none)) else ((spec_l2Finite.f x11).bind fun t147 => (if t147 = true then ((spec_l2Plain.f x11).bind fun t148 => (some (x10, t148, true))) else (some (([] : List Int), 0, false))))
def spec_RunBuses.j3 : Nat → List Int → List Int → Int → Int → List (S76) → Int → Int → Bool → Int → Int → Int → Int → Int → Int → Int → Option (List Int × Int × Bool)
 | 0, _, _, _, _, _, _, _, _, _, _, _, _, _, _, _ => none
 | k + 1, x9, x10, x11, x16, x69, x70, x71, x100, x137000, x137001, x137002, x137003, x137004, x137005, x137006 => if x100 = true then (some (([] : List Int), 0, false)) else ((spec_l2Plain.f x16).bind fun t141 => (if x10.length < 17592186044416 then ((some (x10 ++ [t141] : List Int)).bind fun y142 => (if x137006 < 0 then (if faddOk x11.toNat t141.toNat = true then (spec_RunBuses.l1 k x9 y142 (fadd x11.toNat t141.toNat) x69 x70 (wrap64 (x71 + 1))) else (none)) else (if 0 ≤ x137006 then (if x137006 < (x9.length : Int) then (if faddOk (rd x9 x137006).toNat t141.toNat = true then (spec_RunBuses.l1 k (x9.set (x137006 : Int).toNat (fadd (rd x9 x137006).toNat t141.toNat)) y142 x11 x69 x70 (wrap64 (x71 + 1))) else (none)) else (none)) else (none)))) else (none)))
end
def spec_RunBuses.f (k : Nat) (l0 : List (S76)) (l1 : List Int) : Option (List Int × Int × Bool) := if (l0.length : Int) > 8 then (spec_RunBuses.j0 k l0 l1 true) else (if (l1.length : Int) = (l0.length : Int) then ((spec_l16Reals.f k l1).bind fun t123 => (spec_RunBuses.j0 k l0 l1 (!t123))) else (spec_RunBuses.j0 k l0 l1 true))
theorem spec_RunBuses.mono_l : ∀ k, (∀ y0 y1 y2, LeO (spec_RunBuses.j0 k y0 y1 y2) (spec_RunBuses.j0 (k + 1) y0 y1 y2)) ∧ (∀ y0 y1 y2 y3 y4, LeO (spec_RunBuses.l0 k y0 y1 y2 y3 y4) (spec_RunBuses.l0 (k + 1) y0 y1 y2 y3 y4)) ∧ (∀ y0 y1 y2 y3 y4 y5, LeO (spec_RunBuses.l1 k y0 y1 y2 y3 y4 y5) (spec_RunBuses.l1 (k + 1) y0 y1 y2 y3 y4 y5)) ∧ (∀ y0 y1 y2 y3 y4 y5 y6 y7 y8 y9 y10 y11 y12 y13 y14, LeO (spec_RunBuses.j3 k y0 y1 y2 y3 y4 y5 y6 y7 y8 y9 y10 y11 y12 y13 y14) (spec_RunBuses.j3 (k + 1) y0 y1 y2 y3 y4 y5 y6 y7 y8 y9 y10 y11 y12 y13 y14))
 | 0 => ⟨fun _ _ _ r h => by simp [spec_RunBuses.j0] at h, fun _ _ _ _ _ r h => by simp [spec_RunBuses.l0] at h, fun _ _ _ _ _ _ r h => by simp [spec_RunBuses.l1] at h, fun _ _ _ _ _ _ _ _ _ _ _ _ _ _ _ r h => by simp [spec_RunBuses.j3] at h⟩
 | k + 1 => by
  obtain ⟨ih0, ih1, ih2, ih3⟩ := spec_RunBuses.mono_l k
  refine ⟨?_, ?_, ?_, ?_⟩
  ·intro y0 y1 y2
   unfold spec_RunBuses.j0
   repeat' first
   | (with_reducible exact ih0 _ _ _)
   | (with_reducible exact ih1 _ _ _ _ _)
   | (with_reducible exact ih2 _ _ _ _ _ _)
   | (with_reducible exact ih3 _ _ _ _ _ _ _ _ _ _ _ _ _ _ _)
   | (with_reducible exact spec_l16Reals.mono _ _)
   | (with_reducible exact LeO.refl _)
   | (with_reducible exact LeO.none _)
   | (with_reducible refine LeO.ite ?_ ?_)
   | (with_reducible refine LeO.bind ?_ (fun _ => ?_))
   | exact ih0 _ _ _
   | exact ih1 _ _ _ _ _
   | exact ih2 _ _ _ _ _ _
   | exact ih3 _ _ _ _ _ _ _ _ _ _ _ _ _ _ _
   | exact spec_l16Reals.mono _ _
   | exact LeO.none _
   | refine LeO.ite ?_ ?_
   | refine LeO.bind ?_ (fun _ => ?_)
  ·intro y0 y1 y2 y3 y4
   unfold spec_RunBuses.l0
   repeat' first
   | (with_reducible exact ih0 _ _ _)
   | (with_reducible exact ih1 _ _ _ _ _)
   | (with_reducible exact ih2 _ _ _ _ _ _)
   | (with_reducible exact ih3 _ _ _ _ _ _ _ _ _ _ _ _ _ _ _)
   | (with_reducible exact spec_l16Reals.mono _ _)
   | (with_reducible exact LeO.refl _)
   | (with_reducible exact LeO.none _)
   | (with_reducible refine LeO.ite ?_ ?_)
   | (with_reducible refine LeO.bind ?_ (fun _ => ?_))
   | exact ih0 _ _ _
   | exact ih1 _ _ _ _ _
   | exact ih2 _ _ _ _ _ _
   | exact ih3 _ _ _ _ _ _ _ _ _ _ _ _ _ _ _
   | exact spec_l16Reals.mono _ _
   | exact LeO.none _
   | refine LeO.ite ?_ ?_
   | refine LeO.bind ?_ (fun _ => ?_)
  ·intro y0 y1 y2 y3 y4 y5
   unfold spec_RunBuses.l1
   repeat' first
   | (with_reducible exact ih0 _ _ _)
   | (with_reducible exact ih1 _ _ _ _ _)
   | (with_reducible exact ih2 _ _ _ _ _ _)
   | (with_reducible exact ih3 _ _ _ _ _ _ _ _ _ _ _ _ _ _ _)
   | (with_reducible exact spec_l16Reals.mono _ _)
   | (with_reducible exact LeO.refl _)
   | (with_reducible exact LeO.none _)
   | (with_reducible refine LeO.ite ?_ ?_)
   | (with_reducible refine LeO.bind ?_ (fun _ => ?_))
   | exact ih0 _ _ _
   | exact ih1 _ _ _ _ _
   | exact ih2 _ _ _ _ _ _
   | exact ih3 _ _ _ _ _ _ _ _ _ _ _ _ _ _ _
   | exact spec_l16Reals.mono _ _
   | exact LeO.none _
   | refine LeO.ite ?_ ?_
   | refine LeO.bind ?_ (fun _ => ?_)
  ·intro y0 y1 y2 y3 y4 y5 y6 y7 y8 y9 y10 y11 y12 y13 y14
   unfold spec_RunBuses.j3
   repeat' first
   | (with_reducible exact ih0 _ _ _)
   | (with_reducible exact ih1 _ _ _ _ _)
   | (with_reducible exact ih2 _ _ _ _ _ _)
   | (with_reducible exact ih3 _ _ _ _ _ _ _ _ _ _ _ _ _ _ _)
   | (with_reducible exact spec_l16Reals.mono _ _)
   | (with_reducible exact LeO.refl _)
   | (with_reducible exact LeO.none _)
   | (with_reducible refine LeO.ite ?_ ?_)
   | (with_reducible refine LeO.bind ?_ (fun _ => ?_))
   | exact ih0 _ _ _
   | exact ih1 _ _ _ _ _
   | exact ih2 _ _ _ _ _ _
   | exact ih3 _ _ _ _ _ _ _ _ _ _ _ _ _ _ _
   | exact spec_l16Reals.mono _ _
   | exact LeO.none _
   | refine LeO.ite ?_ ?_
   | refine LeO.bind ?_ (fun _ => ?_)
theorem spec_RunBuses.mono : ∀ a0 a1 k, LeO (spec_RunBuses.f k a0 a1) (spec_RunBuses.f (k + 1) a0 a1) := by
 intro a0 a1 k
 obtain ⟨ih0, ih1, ih2, ih3⟩ := spec_RunBuses.mono_l k
 unfold spec_RunBuses.f
 repeat' first
   | (with_reducible exact ih0 _ _ _)
   | (with_reducible exact ih1 _ _ _ _ _)
   | (with_reducible exact ih2 _ _ _ _ _ _)
   | (with_reducible exact ih3 _ _ _ _ _ _ _ _ _ _ _ _ _ _ _)
   | (with_reducible exact spec_l16Reals.mono _ _)
   | (with_reducible exact LeO.refl _)
   | (with_reducible exact LeO.none _)
   | (with_reducible refine LeO.ite ?_ ?_)
   | (with_reducible refine LeO.bind ?_ (fun _ => ?_))
   | exact ih0 _ _ _
   | exact ih1 _ _ _ _ _
   | exact ih2 _ _ _ _ _ _
   | exact ih3 _ _ _ _ _ _ _ _ _ _ _ _ _ _ _
   | exact spec_l16Reals.mono _ _
   | exact LeO.none _
   | refine LeO.ite ?_ ?_
   | refine LeO.bind ?_ (fun _ => ?_)
def spec_RunBuses.T15 : Bool × List (List Nat × List Nat) := (true, [([], []), ([], []), ([0, 1], [0, 1]), ([2], [2]), ([], []), ([4], [4]), ([3, 5], [3, 5]), ([6, 0, 1, 2, 3, 4, 5, 6], [6])])
def spec_RunBuses.B15 : List Nat := [0, 0, 3, 7, 0, 16, 63, 127]
theorem spec_RunBuses.tab15 : rtab .any (opsOf Try.f29 15) = spec_RunBuses.T15 := by kernel_rfl
theorem spec_RunBuses.bits15 : waitsOk spec_RunBuses.T15.2 spec_RunBuses.B15 = true := by kernel_rfl
def spec_RunBuses.T24 : Bool × List (List Nat × List Nat) := (true, [([], []), ([], []), ([1], [1]), ([], []), ([], []), ([4], [4]), ([3, 5], [3, 5]), ([6], [6]), ([], []), ([7, 8], [7, 8]), ([0, 2, 0, 1, 2, 3, 4, 5, 6, 7, 8, 9], [0, 2]), ([10, 9, 0, 1, 2, 3, 4, 5, 6, 7, 8, 9], [9, 10])])
def spec_RunBuses.B24 : List Nat := [0, 0, 2, 0, 0, 16, 56, 120, 0, 504, 1023, 2047]
theorem spec_RunBuses.tab24 : rtab .any (opsOf Try.f29 24) = spec_RunBuses.T24 := by kernel_rfl
theorem spec_RunBuses.bits24 : waitsOk spec_RunBuses.T24.2 spec_RunBuses.B24 = true := by kernel_rfl
set_option maxHeartbeats 80000000 in
set_option maxRecDepth 100000 in
theorem spec_RunBuses.calls (k : Nat) (A0 : Option Addr) (c0 : Nat) (l0 : List (S76)) (A1 : Option Addr) (c1 : Nat) (l1 : List Int) (r1 : List Int) (r2 : Int) (r3 : Bool) (w : World) (hr0 : Kd.C k76 w A0 l0.length l0) (hc0 : l0.length ≤ c0) (hr1 : Kd.C Kd.flt w A1 l1.length l1) (hc1 : l1.length ≤ c1) (h : spec_RunBuses.f k l0 l1 = some (r1, r2, r3)) :
  Calls Try.prog 29 #[.slice A0 l0.length c0, .slice A1 l1.length c1] w fun e w' => ∃ v0_ : Value, e = .returned (.tuple #[v0_, .float .f64 r2.toNat, .bool r3]) ∧ Kd.R Kd.flt 22 w' w.heap.size (fun _ => True) v0_ r1 ∧ Below w.heap.size w w' := by
 have hu76 := Try.underlying76
 have hu26 := Try.underlying26
 have HR0 := am_ hr0
 have HC0 := am_ hc0
 clear hr0 hc0
 have HR1 := am_ hr1
 have HC1 := am_ hc1
 clear hr1 hc1
 have HB := am_ (Below.refl w.heap.size w)
 have H : (if (l0.length : Int) > 8 then (spec_RunBuses.j0 k l0 l1 true) else (if (l1.length : Int) = (l0.length : Int) then ((spec_l16Reals.f k l1).bind fun t123 => (spec_RunBuses.j0 k l0 l1 (!t123))) else (spec_RunBuses.j0 k l0 l1 true))) = some (r1, r2, r3) := h
 clear h
 have HC3 := am_ H
 clear H
 go_enter Try.func29, Try.ntmps29
 go_upto_region 1 with (fail)
 go_cut [31] (fun v31 wc => ∃ (kq : Nat) (x31_2 : Bool), v31 = .bool x31_2 ∧ Aside0 (spec_RunBuses.j0 kq l0 l1 x31_2 = some (r1, r2, r3)) ∧ Aside0 (kq ≤ k) ∧ Aside0 (Below w.heap.size w wc))
 case first =>
  have H := HC3.out
  clear HC3
  by_cases c4 : (l0.length : Int) > 8
  ·rw [if_pos c4] at H
   have c4b0 : decide (8 < (l0.length : Int)) = true := decide_eq_true c4
   have c4b1 : decide (8 < l0.length) = true := decide_eq_true (by omega)
   clear c4
   (first | rw [c4b0] | (simp only [i64_w, i32_w]; rw [c4b0]) | skip)
   have H' := am_ H
   clear H
   go_wp2
   go_meet
   case rel => exact ⟨_, (true), sq_, H', ⟨by first | omega | exact Nat.le_refl _⟩, ⟨bw_ HB.out⟩⟩
  ·rw [if_neg c4] at H
   have c4b0 : decide (8 < (l0.length : Int)) = false := decide_eq_false c4
   have c4b1 : decide (8 < l0.length) = false := decide_eq_false (by omega)
   clear c4
   (first | rw [c4b0] | (simp only [i64_w, i32_w]; rw [c4b0]) | skip)
   by_cases c5 : (l1.length : Int) = (l0.length : Int)
   ·rw [if_pos c5] at H
    have c5b0 : ((l1.length : Int) == (l0.length : Int)) = true := beq_iff_eq.mpr c5
    have c5b1 : ((l1.length : Int) != (l0.length : Int)) = false := bne_eq_false_iff_eq.mpr c5
    have c5b2 : (l1.length == l0.length) = true := by first | simpa using c5 | (simp at c5 ⊢; omega)
    clear c5
    obtain ⟨t123, A60, H⟩ := bE_ H
    have A6 := am_ A60
    clear A60
    have H' := am_ H
    clear H
    go_wp2_with (first | (go_at_call 44; (with_reducible refine (spec_l16Reals.calls k _ _ l1 t123 _ ?side1 ?side2 A6.out).mono ?_); (case side1 => repeat (first | exact (Kd.C_below HR1.out HB.out) | (with_reducible refine Kd.C_alloc ?_ _) | (with_reducible refine Kd.C_drewN ?_ _) | (with_reducible refine Kd.C_drew ?_))); (case side2 => exact HC1.out); rintro e w' ⟨rfl, ⟨nd, rfl⟩⟩))
    go_meet
    case rel => exact ⟨_, (!t123), sq_, H', ⟨by first | omega | exact Nat.le_refl _⟩, ⟨bw_ HB.out⟩⟩
   ·rw [if_neg c5] at H
    have c5b0 : ((l1.length : Int) == (l0.length : Int)) = false := beq_eq_false_iff_ne.mpr c5
    have c5b1 : ((l1.length : Int) != (l0.length : Int)) = true := bne_iff_ne.mpr c5
    have c5b2 : (l1.length == l0.length) = false := by first | simpa using c5 | (simp at c5 ⊢; omega)
    have H' := am_ H
    clear H
    go_wp2
    go_meet
    case rel => exact ⟨_, (true), sq_, H', ⟨by first | omega | exact Nat.le_refl _⟩, ⟨bw_ HB.out⟩⟩
 case rest => as_aux_lemma =>
  clear HC3
  try clear c1
  obtain ⟨kq, x31_2, rfl, HA, HJ2, HB⟩ := hcut
  cases kq with
  | zero => exact absurd HA.out (by simp [spec_RunBuses.j0])
  | succ kj2 =>
   have H := HA.out
   clear HA
   simp only [spec_RunBuses.j0] at H
   by_cases c7 : x31_2 = true
   ·subst c7
    replace H := it_ H rfl
    simp only [Option.some.injEq, Prod.mk.injEq] at H
    obtain ⟨rfl, rfl, rfl⟩ := H
    go_wp2
    go_ret3
    exact ⟨_, by first | rfl | (simp [errW_none, errW_some] <;> rfl) | (simp [*, errW_none, errW_some] <;> rfl), by first | exact Kd.R_nil _ _ _ _ _ | exact Kd.N_nil _ _ _ _ _ | exact Kd.V_nil _ _ _ _ _ | exact Kd.Q_nil _ _ _ _ _ | exact Kd.S_nil _ _ _ _ _, bw_ HB.out⟩
   ·replace c7 := Bool.eq_false_iff.mpr c7
    subst c7
    replace H := if_ H Bool.false_ne_true
    have H' := am_ H
    clear H
    go_wp2
    go_loopg [34] kj2 (fun kq v34 w' => ∃ (x34_2 : Int), v34 = .int .i64 x34_2 ∧ Aside0 (spec_RunBuses.l0 kq l0 l1 l0 (l0.length : Int) x34_2 = some (r1, r2, r3)) ∧ Aside0 (kq ≤ kj2) ∧ Aside0 (Below w.heap.size w w'))
    case atStart => exact ⟨(0), sq_, H', ⟨Nat.le_refl _⟩, ⟨bw_ HB.out⟩⟩
    case round =>
     clear H'
     try clear c1
     try clear c7
     obtain ⟨x34_2, rfl, HA, HK2, HB⟩ := hrel
     cases gk with
     | zero => exact absurd HA.out (by simp [spec_RunBuses.l0])
     | succ k2 =>
      have H := HA.out
      clear HA
      simp only [spec_RunBuses.l0] at H
      by_cases c8 : x34_2 < (l0.length : Int)
      ·rw [if_pos c8] at H
       have c8b0 : decide (x34_2 < (l0.length : Int)) = true := decide_eq_true c8
       clear c8
       obtain ⟨c9, H⟩ := ifn_ H
       have c9b0 : decide (0 ≤ x34_2) = true := decide_eq_true c9
       clear c9
       obtain ⟨c10, H⟩ := ifn_ H
       have c10b0 : decide (x34_2 < (l0.length : Int)) = true := decide_eq_true c10
       clear c10
       obtain ⟨t126, A110, H⟩ := bE_ H
       have A11 := am_ A110
       clear A110
       by_cases c12 : t126 = true
       ·subst c12
        replace H := it_ H rfl
        obtain ⟨t127, A130, H⟩ := bE_ H
        have A13 := am_ A130
        clear A130
        by_cases c14 : t127 = true
        ·subst c14
         replace H := it_ H rfl
         by_cases c15 : ((rd_T76 l0 x34_2).f2) = (-1)
         ·rw [if_pos c15] at H
          have c15b0 : (((rd_T76 l0 x34_2).f2) == (-1)) = true := beq_iff_eq.mpr c15
          have c15b1 : (((rd_T76 l0 x34_2).f2) != (-1)) = false := bne_eq_false_iff_eq.mpr c15
          clear c15
          have H' := am_ H
          clear H
          have p124 : 0 ≤ (x34_2 : Int) := od_
          have q124 : x34_2 < (l0.length : Int) := od_
          obtain ⟨ad124, e124, hx124_0, hx124_1, hx124_2, hx124_3, hx124_4, hx124_5, hx124_6⟩ := at_T76 HR0.out x34_2 p124 q124
          cases e124
          (try replace hx124_0 := hc_ HB.out hx124_0)
          (try replace hx124_1 := hc_ HB.out hx124_1)
          (try replace hx124_2 := hc_ HB.out hx124_2)
          (try replace hx124_3 := hc_ HB.out hx124_3)
          (try replace hx124_4 := hc_ HB.out hx124_4)
          (try replace hx124_5 := hc_ HB.out hx124_5)
          (try replace hx124_6 := hc_ HB.out hx124_6)
          replace p124 := eq_true p124
          replace q124 := eq_true q124
          go_wp2_with (first | ((with_reducible refine gate_dst (N := 8) rfl ?_); (try (refine gate_guard (by rfl) ?_; dsimp only)); refine bx_ 8 #[.float .f64 0, .float .f64 0, .float .f64 0, .float .f64 0, .float .f64 0, .float .f64 0, .int .i64 0] 76 ?_; intro gb125 hg w16 hbox hb; have n0_ := am_ (below_step (bw_ HB.out) hb); have n1_ := am_ (hbox); have n2_ := am_ (gs_ hg (bw_ HB.out)); have n3_ := am_ (gs_ hg (bw_ HB.out)); replace HB := n0_; have BK125 := n1_; have GW125 := n2_; have GE125 := n3_; clear n0_ n1_ n2_ n3_; clear hb hbox hg) | ((with_reducible refine gate_store (t := 76) (p := 8) rfl ?_); refine srow_ 76 (.tmp 8) (.tmp 38) gb125 #[.float .f64 ((rd_T76 l0 x34_2).f0).toNat, .float .f64 ((rd_T76 l0 x34_2).f1.f0).toNat, .float .f64 ((rd_T76 l0 x34_2).f1.f1).toNat, .float .f64 ((rd_T76 l0 x34_2).f1.f2).toNat, .float .f64 ((rd_T76 l0 x34_2).f1.f3).toNat, .float .f64 ((rd_T76 l0 x34_2).f1.f4).toNat, .int .i64 ((rd_T76 l0 x34_2).f2)] _ BK125.out info76 ?_; intro wst hb49 hs49 hB49; have n0_ := am_ (hB49 _ _ HB.out GE125.out); have n1_ := am_ hb49; replace HB := n0_; replace BK125 := n1_; clear n0_ n1_ hb49 hs49 hB49; have hcz17_0 := cz_ BK125.out 0; have hcz17_1 := cz_ BK125.out 1; have hcz17_2 := cz_ BK125.out 2; have hcz17_3 := cz_ BK125.out 3; have hcz17_4 := cz_ BK125.out 4; have hcz17_5 := cz_ BK125.out 5; have hcz17_6 := cz_ BK125.out 6; have hfz17_0 := blk_frozen BK125.out 0; have hfz17_1 := blk_frozen BK125.out 1; have hfz17_2 := blk_frozen BK125.out 2; have hfz17_3 := blk_frozen BK125.out 3; have hfz17_4 := blk_frozen BK125.out 4; have hfz17_5 := blk_frozen BK125.out 5; have hfz17_6 := blk_frozen BK125.out 6) | ((with_reducible refine gate_callee (f := 35) rfl ?_); refine goesL_ (some 41) rfl rfl Try.func35 (by kernel_rfl) rfl #[.float .f64 ((rd_T76 l0 x34_2).f0).toNat] rfl (by (try simp only [List.map_toArray, List.map_cons, List.map_nil]); first | done | rfl | (simp only [List.length_drop, List.length_take]; rfl)) ?_; (with_reducible refine (spec_GoodReal.calls ((rd_T76 l0 x34_2).f0) true _ A11.out).mono ?_); rintro e w' ⟨rfl, ⟨nd, rfl⟩⟩; refine ⟨_, rfl, ?_⟩) | (go_at_call 8; (with_reducible refine (spec_GoodFilter.calls ((rd_T76 l0 x34_2).f1.f0) ((rd_T76 l0 x34_2).f1.f1) ((rd_T76 l0 x34_2).f1.f2) ((rd_T76 l0 x34_2).f1.f3) ((rd_T76 l0 x34_2).f1.f4) true _ A13.out).mono ?_); rintro e w18 ⟨rfl, hb⟩; have n0_ := am_ (blk_below (g := gb125) (o := .cells #[.float .f64 ((rd_T76 l0 x34_2).f0).toNat, .float .f64 ((rd_T76 l0 x34_2).f1.f0).toNat, .float .f64 ((rd_T76 l0 x34_2).f1.f1).toNat, .float .f64 ((rd_T76 l0 x34_2).f1.f2).toNat, .float .f64 ((rd_T76 l0 x34_2).f1.f3).toNat, .float .f64 ((rd_T76 l0 x34_2).f1.f4).toNat, .int .i64 ((rd_T76 l0 x34_2).f2)] 76 (0, 0)) (by (with_reducible repeat (first | refine blk_drewN ?_ _ | refine blk_drew ?_ | refine blk_alloc ?_ _)); exact BK125.out) hb); have n1_ := am_ (below_step (bw_ HB.out) hb); replace BK125 := n0_; replace HB := n1_; clear n0_ n1_; (try clear hb); (try clear hb2); (try clear hk); (try clear hi); have hcz19_0 := cz_ BK125.out 0; have hcz19_1 := cz_ BK125.out 1; have hcz19_2 := cz_ BK125.out 2; have hcz19_3 := cz_ BK125.out 3; have hcz19_4 := cz_ BK125.out 4; have hcz19_5 := cz_ BK125.out 5; have hcz19_6 := cz_ BK125.out 6; have hfz19_0 := blk_frozen BK125.out 0; have hfz19_1 := blk_frozen BK125.out 1; have hfz19_2 := blk_frozen BK125.out 2; have hfz19_3 := blk_frozen BK125.out 3; have hfz19_4 := blk_frozen BK125.out 4; have hfz19_5 := blk_frozen BK125.out 5; have hfz19_6 := blk_frozen BK125.out 6))
          go_roundg k2
          case measure => have := HJ2.out; have := HK2.out; omega
          case rel => exact ⟨(wrap64 (x34_2 + 1)), sq_, H', ⟨by have := HJ2.out; have := HK2.out; omega⟩, ⟨bw_ HB.out⟩⟩
         ·rw [if_neg c15] at H
          have c15b0 : (((rd_T76 l0 x34_2).f2) == (-1)) = false := beq_eq_false_iff_ne.mpr c15
          have c15b1 : (((rd_T76 l0 x34_2).f2) != (-1)) = true := bne_iff_ne.mpr c15
          obtain ⟨t128, A200, H⟩ := bE_ H
          have A20 := am_ A200
          clear A200
          by_cases c21 : t128 = true
          ·subst c21
           replace H := it_ H rfl
           have H' := am_ H
           clear H
           have p124 : 0 ≤ (x34_2 : Int) := od_
           have q124 : x34_2 < (l0.length : Int) := od_
           obtain ⟨ad124, e124, hx124_0, hx124_1, hx124_2, hx124_3, hx124_4, hx124_5, hx124_6⟩ := at_T76 HR0.out x34_2 p124 q124
           cases e124
           (try replace hx124_0 := hc_ HB.out hx124_0)
           (try replace hx124_1 := hc_ HB.out hx124_1)
           (try replace hx124_2 := hc_ HB.out hx124_2)
           (try replace hx124_3 := hc_ HB.out hx124_3)
           (try replace hx124_4 := hc_ HB.out hx124_4)
           (try replace hx124_5 := hc_ HB.out hx124_5)
           (try replace hx124_6 := hc_ HB.out hx124_6)
           replace p124 := eq_true p124
           replace q124 := eq_true q124
           go_wp2_with (first | ((with_reducible refine gate_dst (N := 8) rfl ?_); (try (refine gate_guard (by rfl) ?_; dsimp only)); refine bx_ 8 #[.float .f64 0, .float .f64 0, .float .f64 0, .float .f64 0, .float .f64 0, .float .f64 0, .int .i64 0] 76 ?_; intro gb125 hg w22 hbox hb; have n0_ := am_ (below_step (bw_ HB.out) hb); have n1_ := am_ (hbox); have n2_ := am_ (gs_ hg (bw_ HB.out)); have n3_ := am_ (gs_ hg (bw_ HB.out)); replace HB := n0_; have BK125 := n1_; have GW125 := n2_; have GE125 := n3_; clear n0_ n1_ n2_ n3_; clear hb hbox hg) | ((with_reducible refine gate_store (t := 76) (p := 8) rfl ?_); refine srow_ 76 (.tmp 8) (.tmp 38) gb125 #[.float .f64 ((rd_T76 l0 x34_2).f0).toNat, .float .f64 ((rd_T76 l0 x34_2).f1.f0).toNat, .float .f64 ((rd_T76 l0 x34_2).f1.f1).toNat, .float .f64 ((rd_T76 l0 x34_2).f1.f2).toNat, .float .f64 ((rd_T76 l0 x34_2).f1.f3).toNat, .float .f64 ((rd_T76 l0 x34_2).f1.f4).toNat, .int .i64 ((rd_T76 l0 x34_2).f2)] _ BK125.out info76 ?_; intro wst hb49 hs49 hB49; have n0_ := am_ (hB49 _ _ HB.out GE125.out); have n1_ := am_ hb49; replace HB := n0_; replace BK125 := n1_; clear n0_ n1_ hb49 hs49 hB49; have hcz23_0 := cz_ BK125.out 0; have hcz23_1 := cz_ BK125.out 1; have hcz23_2 := cz_ BK125.out 2; have hcz23_3 := cz_ BK125.out 3; have hcz23_4 := cz_ BK125.out 4; have hcz23_5 := cz_ BK125.out 5; have hcz23_6 := cz_ BK125.out 6; have hfz23_0 := blk_frozen BK125.out 0; have hfz23_1 := blk_frozen BK125.out 1; have hfz23_2 := blk_frozen BK125.out 2; have hfz23_3 := blk_frozen BK125.out 3; have hfz23_4 := blk_frozen BK125.out 4; have hfz23_5 := blk_frozen BK125.out 5; have hfz23_6 := blk_frozen BK125.out 6) | ((with_reducible refine gate_callee (f := 35) rfl ?_); refine goesL_ (some 41) rfl rfl Try.func35 (by kernel_rfl) rfl #[.float .f64 ((rd_T76 l0 x34_2).f0).toNat] rfl (by (try simp only [List.map_toArray, List.map_cons, List.map_nil]); first | done | rfl | (simp only [List.length_drop, List.length_take]; rfl)) ?_; (with_reducible refine (spec_GoodReal.calls ((rd_T76 l0 x34_2).f0) true _ A11.out).mono ?_); rintro e w' ⟨rfl, ⟨nd, rfl⟩⟩; refine ⟨_, rfl, ?_⟩) | (go_at_call 8; (with_reducible refine (spec_GoodFilter.calls ((rd_T76 l0 x34_2).f1.f0) ((rd_T76 l0 x34_2).f1.f1) ((rd_T76 l0 x34_2).f1.f2) ((rd_T76 l0 x34_2).f1.f3) ((rd_T76 l0 x34_2).f1.f4) true _ A13.out).mono ?_); rintro e w24 ⟨rfl, hb⟩; have n0_ := am_ (blk_below (g := gb125) (o := .cells #[.float .f64 ((rd_T76 l0 x34_2).f0).toNat, .float .f64 ((rd_T76 l0 x34_2).f1.f0).toNat, .float .f64 ((rd_T76 l0 x34_2).f1.f1).toNat, .float .f64 ((rd_T76 l0 x34_2).f1.f2).toNat, .float .f64 ((rd_T76 l0 x34_2).f1.f3).toNat, .float .f64 ((rd_T76 l0 x34_2).f1.f4).toNat, .int .i64 ((rd_T76 l0 x34_2).f2)] 76 (0, 0)) (by (with_reducible repeat (first | refine blk_drewN ?_ _ | refine blk_drew ?_ | refine blk_alloc ?_ _)); exact BK125.out) hb); have n1_ := am_ (below_step (bw_ HB.out) hb); replace BK125 := n0_; replace HB := n1_; clear n0_ n1_; (try clear hb); (try clear hb2); (try clear hk); (try clear hi); have hcz25_0 := cz_ BK125.out 0; have hcz25_1 := cz_ BK125.out 1; have hcz25_2 := cz_ BK125.out 2; have hcz25_3 := cz_ BK125.out 3; have hcz25_4 := cz_ BK125.out 4; have hcz25_5 := cz_ BK125.out 5; have hcz25_6 := cz_ BK125.out 6; have hfz25_0 := blk_frozen BK125.out 0; have hfz25_1 := blk_frozen BK125.out 1; have hfz25_2 := blk_frozen BK125.out 2; have hfz25_3 := blk_frozen BK125.out 3; have hfz25_4 := blk_frozen BK125.out 4; have hfz25_5 := blk_frozen BK125.out 5; have hfz25_6 := blk_frozen BK125.out 6) | (go_at_call 50; (try simp only [i64_w]); (with_reducible refine (spec_l1In.calls ((rd_T76 l0 x34_2).f2) (wrap64 (x34_2 + 1)) (wrap64 ((l0.length : Int) - 1)) true _ A20.out).mono ?_); rintro e w' ⟨rfl, ⟨nd, rfl⟩⟩))
           go_roundg k2
           case measure => have := HJ2.out; have := HK2.out; omega
           case rel => exact ⟨(wrap64 (x34_2 + 1)), sq_, H', ⟨by have := HJ2.out; have := HK2.out; omega⟩, ⟨bw_ HB.out⟩⟩
          ·replace c21 := Bool.eq_false_iff.mpr c21
           subst c21
           replace H := if_ H Bool.false_ne_true
           simp only [Option.some.injEq, Prod.mk.injEq] at H
           obtain ⟨rfl, rfl, rfl⟩ := H
           have p124 : 0 ≤ (x34_2 : Int) := od_
           have q124 : x34_2 < (l0.length : Int) := od_
           obtain ⟨ad124, e124, hx124_0, hx124_1, hx124_2, hx124_3, hx124_4, hx124_5, hx124_6⟩ := at_T76 HR0.out x34_2 p124 q124
           cases e124
           (try replace hx124_0 := hc_ HB.out hx124_0)
           (try replace hx124_1 := hc_ HB.out hx124_1)
           (try replace hx124_2 := hc_ HB.out hx124_2)
           (try replace hx124_3 := hc_ HB.out hx124_3)
           (try replace hx124_4 := hc_ HB.out hx124_4)
           (try replace hx124_5 := hc_ HB.out hx124_5)
           (try replace hx124_6 := hc_ HB.out hx124_6)
           replace p124 := eq_true p124
           replace q124 := eq_true q124
           go_wp2_with (first | ((with_reducible refine gate_dst (N := 8) rfl ?_); (try (refine gate_guard (by rfl) ?_; dsimp only)); refine bx_ 8 #[.float .f64 0, .float .f64 0, .float .f64 0, .float .f64 0, .float .f64 0, .float .f64 0, .int .i64 0] 76 ?_; intro gb125 hg w26 hbox hb; have n0_ := am_ (below_step (bw_ HB.out) hb); have n1_ := am_ (hbox); have n2_ := am_ (gs_ hg (bw_ HB.out)); have n3_ := am_ (gs_ hg (bw_ HB.out)); replace HB := n0_; have BK125 := n1_; have GW125 := n2_; have GE125 := n3_; clear n0_ n1_ n2_ n3_; clear hb hbox hg) | ((with_reducible refine gate_store (t := 76) (p := 8) rfl ?_); refine srow_ 76 (.tmp 8) (.tmp 38) gb125 #[.float .f64 ((rd_T76 l0 x34_2).f0).toNat, .float .f64 ((rd_T76 l0 x34_2).f1.f0).toNat, .float .f64 ((rd_T76 l0 x34_2).f1.f1).toNat, .float .f64 ((rd_T76 l0 x34_2).f1.f2).toNat, .float .f64 ((rd_T76 l0 x34_2).f1.f3).toNat, .float .f64 ((rd_T76 l0 x34_2).f1.f4).toNat, .int .i64 ((rd_T76 l0 x34_2).f2)] _ BK125.out info76 ?_; intro wst hb49 hs49 hB49; have n0_ := am_ (hB49 _ _ HB.out GE125.out); have n1_ := am_ hb49; replace HB := n0_; replace BK125 := n1_; clear n0_ n1_ hb49 hs49 hB49; have hcz27_0 := cz_ BK125.out 0; have hcz27_1 := cz_ BK125.out 1; have hcz27_2 := cz_ BK125.out 2; have hcz27_3 := cz_ BK125.out 3; have hcz27_4 := cz_ BK125.out 4; have hcz27_5 := cz_ BK125.out 5; have hcz27_6 := cz_ BK125.out 6; have hfz27_0 := blk_frozen BK125.out 0; have hfz27_1 := blk_frozen BK125.out 1; have hfz27_2 := blk_frozen BK125.out 2; have hfz27_3 := blk_frozen BK125.out 3; have hfz27_4 := blk_frozen BK125.out 4; have hfz27_5 := blk_frozen BK125.out 5; have hfz27_6 := blk_frozen BK125.out 6) | ((with_reducible refine gate_callee (f := 35) rfl ?_); refine goesL_ (some 41) rfl rfl Try.func35 (by kernel_rfl) rfl #[.float .f64 ((rd_T76 l0 x34_2).f0).toNat] rfl (by (try simp only [List.map_toArray, List.map_cons, List.map_nil]); first | done | rfl | (simp only [List.length_drop, List.length_take]; rfl)) ?_; (with_reducible refine (spec_GoodReal.calls ((rd_T76 l0 x34_2).f0) true _ A11.out).mono ?_); rintro e w' ⟨rfl, ⟨nd, rfl⟩⟩; refine ⟨_, rfl, ?_⟩) | (go_at_call 8; (with_reducible refine (spec_GoodFilter.calls ((rd_T76 l0 x34_2).f1.f0) ((rd_T76 l0 x34_2).f1.f1) ((rd_T76 l0 x34_2).f1.f2) ((rd_T76 l0 x34_2).f1.f3) ((rd_T76 l0 x34_2).f1.f4) true _ A13.out).mono ?_); rintro e w28 ⟨rfl, hb⟩; have n0_ := am_ (blk_below (g := gb125) (o := .cells #[.float .f64 ((rd_T76 l0 x34_2).f0).toNat, .float .f64 ((rd_T76 l0 x34_2).f1.f0).toNat, .float .f64 ((rd_T76 l0 x34_2).f1.f1).toNat, .float .f64 ((rd_T76 l0 x34_2).f1.f2).toNat, .float .f64 ((rd_T76 l0 x34_2).f1.f3).toNat, .float .f64 ((rd_T76 l0 x34_2).f1.f4).toNat, .int .i64 ((rd_T76 l0 x34_2).f2)] 76 (0, 0)) (by (with_reducible repeat (first | refine blk_drewN ?_ _ | refine blk_drew ?_ | refine blk_alloc ?_ _)); exact BK125.out) hb); have n1_ := am_ (below_step (bw_ HB.out) hb); replace BK125 := n0_; replace HB := n1_; clear n0_ n1_; (try clear hb); (try clear hb2); (try clear hk); (try clear hi); have hcz29_0 := cz_ BK125.out 0; have hcz29_1 := cz_ BK125.out 1; have hcz29_2 := cz_ BK125.out 2; have hcz29_3 := cz_ BK125.out 3; have hcz29_4 := cz_ BK125.out 4; have hcz29_5 := cz_ BK125.out 5; have hcz29_6 := cz_ BK125.out 6; have hfz29_0 := blk_frozen BK125.out 0; have hfz29_1 := blk_frozen BK125.out 1; have hfz29_2 := blk_frozen BK125.out 2; have hfz29_3 := blk_frozen BK125.out 3; have hfz29_4 := blk_frozen BK125.out 4; have hfz29_5 := blk_frozen BK125.out 5; have hfz29_6 := blk_frozen BK125.out 6) | (go_at_call 50; (try simp only [i64_w]); (with_reducible refine (spec_l1In.calls ((rd_T76 l0 x34_2).f2) (wrap64 (x34_2 + 1)) (wrap64 ((l0.length : Int) - 1)) false _ A20.out).mono ?_); rintro e w' ⟨rfl, ⟨nd, rfl⟩⟩))
           go_ret3
           exact ⟨_, by first | rfl | (simp [errW_none, errW_some] <;> rfl) | (simp [*, errW_none, errW_some] <;> rfl), by first | exact Kd.R_nil _ _ _ _ _ | exact Kd.N_nil _ _ _ _ _ | exact Kd.V_nil _ _ _ _ _ | exact Kd.Q_nil _ _ _ _ _ | exact Kd.S_nil _ _ _ _ _, bw_ HB.out⟩
        ·replace c14 := Bool.eq_false_iff.mpr c14
         subst c14
         replace H := if_ H Bool.false_ne_true
         simp only [Option.some.injEq, Prod.mk.injEq] at H
         obtain ⟨rfl, rfl, rfl⟩ := H
         have p124 : 0 ≤ (x34_2 : Int) := od_
         have q124 : x34_2 < (l0.length : Int) := od_
         obtain ⟨ad124, e124, hx124_0, hx124_1, hx124_2, hx124_3, hx124_4, hx124_5, hx124_6⟩ := at_T76 HR0.out x34_2 p124 q124
         cases e124
         (try replace hx124_0 := hc_ HB.out hx124_0)
         (try replace hx124_1 := hc_ HB.out hx124_1)
         (try replace hx124_2 := hc_ HB.out hx124_2)
         (try replace hx124_3 := hc_ HB.out hx124_3)
         (try replace hx124_4 := hc_ HB.out hx124_4)
         (try replace hx124_5 := hc_ HB.out hx124_5)
         (try replace hx124_6 := hc_ HB.out hx124_6)
         replace p124 := eq_true p124
         replace q124 := eq_true q124
         go_wp2_with (first | ((with_reducible refine gate_dst (N := 8) rfl ?_); (try (refine gate_guard (by rfl) ?_; dsimp only)); refine bx_ 8 #[.float .f64 0, .float .f64 0, .float .f64 0, .float .f64 0, .float .f64 0, .float .f64 0, .int .i64 0] 76 ?_; intro gb125 hg w30 hbox hb; have n0_ := am_ (below_step (bw_ HB.out) hb); have n1_ := am_ (hbox); have n2_ := am_ (gs_ hg (bw_ HB.out)); have n3_ := am_ (gs_ hg (bw_ HB.out)); replace HB := n0_; have BK125 := n1_; have GW125 := n2_; have GE125 := n3_; clear n0_ n1_ n2_ n3_; clear hb hbox hg) | ((with_reducible refine gate_store (t := 76) (p := 8) rfl ?_); refine srow_ 76 (.tmp 8) (.tmp 38) gb125 #[.float .f64 ((rd_T76 l0 x34_2).f0).toNat, .float .f64 ((rd_T76 l0 x34_2).f1.f0).toNat, .float .f64 ((rd_T76 l0 x34_2).f1.f1).toNat, .float .f64 ((rd_T76 l0 x34_2).f1.f2).toNat, .float .f64 ((rd_T76 l0 x34_2).f1.f3).toNat, .float .f64 ((rd_T76 l0 x34_2).f1.f4).toNat, .int .i64 ((rd_T76 l0 x34_2).f2)] _ BK125.out info76 ?_; intro wst hb49 hs49 hB49; have n0_ := am_ (hB49 _ _ HB.out GE125.out); have n1_ := am_ hb49; replace HB := n0_; replace BK125 := n1_; clear n0_ n1_ hb49 hs49 hB49; have hcz31_0 := cz_ BK125.out 0; have hcz31_1 := cz_ BK125.out 1; have hcz31_2 := cz_ BK125.out 2; have hcz31_3 := cz_ BK125.out 3; have hcz31_4 := cz_ BK125.out 4; have hcz31_5 := cz_ BK125.out 5; have hcz31_6 := cz_ BK125.out 6; have hfz31_0 := blk_frozen BK125.out 0; have hfz31_1 := blk_frozen BK125.out 1; have hfz31_2 := blk_frozen BK125.out 2; have hfz31_3 := blk_frozen BK125.out 3; have hfz31_4 := blk_frozen BK125.out 4; have hfz31_5 := blk_frozen BK125.out 5; have hfz31_6 := blk_frozen BK125.out 6) | ((with_reducible refine gate_callee (f := 35) rfl ?_); refine goesL_ (some 41) rfl rfl Try.func35 (by kernel_rfl) rfl #[.float .f64 ((rd_T76 l0 x34_2).f0).toNat] rfl (by (try simp only [List.map_toArray, List.map_cons, List.map_nil]); first | done | rfl | (simp only [List.length_drop, List.length_take]; rfl)) ?_; (with_reducible refine (spec_GoodReal.calls ((rd_T76 l0 x34_2).f0) true _ A11.out).mono ?_); rintro e w' ⟨rfl, ⟨nd, rfl⟩⟩; refine ⟨_, rfl, ?_⟩) | (go_at_call 8; (with_reducible refine (spec_GoodFilter.calls ((rd_T76 l0 x34_2).f1.f0) ((rd_T76 l0 x34_2).f1.f1) ((rd_T76 l0 x34_2).f1.f2) ((rd_T76 l0 x34_2).f1.f3) ((rd_T76 l0 x34_2).f1.f4) false _ A13.out).mono ?_); rintro e w32 ⟨rfl, hb⟩; have n0_ := am_ (blk_below (g := gb125) (o := .cells #[.float .f64 ((rd_T76 l0 x34_2).f0).toNat, .float .f64 ((rd_T76 l0 x34_2).f1.f0).toNat, .float .f64 ((rd_T76 l0 x34_2).f1.f1).toNat, .float .f64 ((rd_T76 l0 x34_2).f1.f2).toNat, .float .f64 ((rd_T76 l0 x34_2).f1.f3).toNat, .float .f64 ((rd_T76 l0 x34_2).f1.f4).toNat, .int .i64 ((rd_T76 l0 x34_2).f2)] 76 (0, 0)) (by (with_reducible repeat (first | refine blk_drewN ?_ _ | refine blk_drew ?_ | refine blk_alloc ?_ _)); exact BK125.out) hb); have n1_ := am_ (below_step (bw_ HB.out) hb); replace BK125 := n0_; replace HB := n1_; clear n0_ n1_; (try clear hb); (try clear hb2); (try clear hk); (try clear hi)))
         go_ret3
         exact ⟨_, by first | rfl | (simp [errW_none, errW_some] <;> rfl) | (simp [*, errW_none, errW_some] <;> rfl), by first | exact Kd.R_nil _ _ _ _ _ | exact Kd.N_nil _ _ _ _ _ | exact Kd.V_nil _ _ _ _ _ | exact Kd.Q_nil _ _ _ _ _ | exact Kd.S_nil _ _ _ _ _, bw_ HB.out⟩
       ·replace c12 := Bool.eq_false_iff.mpr c12
        subst c12
        replace H := if_ H Bool.false_ne_true
        simp only [Option.some.injEq, Prod.mk.injEq] at H
        obtain ⟨rfl, rfl, rfl⟩ := H
        have p124 : 0 ≤ (x34_2 : Int) := od_
        have q124 : x34_2 < (l0.length : Int) := od_
        obtain ⟨ad124, e124, hx124_0, hx124_1, hx124_2, hx124_3, hx124_4, hx124_5, hx124_6⟩ := at_T76 HR0.out x34_2 p124 q124
        cases e124
        (try replace hx124_0 := hc_ HB.out hx124_0)
        (try replace hx124_1 := hc_ HB.out hx124_1)
        (try replace hx124_2 := hc_ HB.out hx124_2)
        (try replace hx124_3 := hc_ HB.out hx124_3)
        (try replace hx124_4 := hc_ HB.out hx124_4)
        (try replace hx124_5 := hc_ HB.out hx124_5)
        (try replace hx124_6 := hc_ HB.out hx124_6)
        replace p124 := eq_true p124
        replace q124 := eq_true q124
        go_wp2_with (first | ((with_reducible refine gate_dst (N := 8) rfl ?_); (try (refine gate_guard (by rfl) ?_; dsimp only)); refine bx_ 8 #[.float .f64 0, .float .f64 0, .float .f64 0, .float .f64 0, .float .f64 0, .float .f64 0, .int .i64 0] 76 ?_; intro gb125 hg w33 hbox hb; have n0_ := am_ (below_step (bw_ HB.out) hb); have n1_ := am_ (hbox); have n2_ := am_ (gs_ hg (bw_ HB.out)); have n3_ := am_ (gs_ hg (bw_ HB.out)); replace HB := n0_; have BK125 := n1_; have GW125 := n2_; have GE125 := n3_; clear n0_ n1_ n2_ n3_; clear hb hbox hg) | ((with_reducible refine gate_store (t := 76) (p := 8) rfl ?_); refine srow_ 76 (.tmp 8) (.tmp 38) gb125 #[.float .f64 ((rd_T76 l0 x34_2).f0).toNat, .float .f64 ((rd_T76 l0 x34_2).f1.f0).toNat, .float .f64 ((rd_T76 l0 x34_2).f1.f1).toNat, .float .f64 ((rd_T76 l0 x34_2).f1.f2).toNat, .float .f64 ((rd_T76 l0 x34_2).f1.f3).toNat, .float .f64 ((rd_T76 l0 x34_2).f1.f4).toNat, .int .i64 ((rd_T76 l0 x34_2).f2)] _ BK125.out info76 ?_; intro wst hb49 hs49 hB49; have n0_ := am_ (hB49 _ _ HB.out GE125.out); have n1_ := am_ hb49; replace HB := n0_; replace BK125 := n1_; clear n0_ n1_ hb49 hs49 hB49; have hcz34_0 := cz_ BK125.out 0; have hcz34_1 := cz_ BK125.out 1; have hcz34_2 := cz_ BK125.out 2; have hcz34_3 := cz_ BK125.out 3; have hcz34_4 := cz_ BK125.out 4; have hcz34_5 := cz_ BK125.out 5; have hcz34_6 := cz_ BK125.out 6; have hfz34_0 := blk_frozen BK125.out 0; have hfz34_1 := blk_frozen BK125.out 1; have hfz34_2 := blk_frozen BK125.out 2; have hfz34_3 := blk_frozen BK125.out 3; have hfz34_4 := blk_frozen BK125.out 4; have hfz34_5 := blk_frozen BK125.out 5; have hfz34_6 := blk_frozen BK125.out 6) | ((with_reducible refine gate_callee (f := 35) rfl ?_); refine goesL_ (some 41) rfl rfl Try.func35 (by kernel_rfl) rfl #[.float .f64 ((rd_T76 l0 x34_2).f0).toNat] rfl (by (try simp only [List.map_toArray, List.map_cons, List.map_nil]); first | done | rfl | (simp only [List.length_drop, List.length_take]; rfl)) ?_; (with_reducible refine (spec_GoodReal.calls ((rd_T76 l0 x34_2).f0) false _ A11.out).mono ?_); rintro e w' ⟨rfl, ⟨nd, rfl⟩⟩; refine ⟨_, rfl, ?_⟩))
        go_ret3
        exact ⟨_, by first | rfl | (simp [errW_none, errW_some] <;> rfl) | (simp [*, errW_none, errW_some] <;> rfl), by first | exact Kd.R_nil _ _ _ _ _ | exact Kd.N_nil _ _ _ _ _ | exact Kd.V_nil _ _ _ _ _ | exact Kd.Q_nil _ _ _ _ _ | exact Kd.S_nil _ _ _ _ _, bw_ HB.out⟩
      ·rw [if_neg c8] at H
       have c8b0 : decide (x34_2 < (l0.length : Int)) = false := decide_eq_false c8
       clear c8
       obtain ⟨y129, hy129⟩ : ∃ y_ : List Int, y_ = (([] : List Int)) := ⟨_, rfl⟩
       replace H : (if y129.length + l1.length < 17592186044416 then (spec_RunBuses.l1 k2 (y129 ++ l1) ([] : List Int) 0 l0 (l0.length : Int) 0) else (none)) = some (r1, r2, r3) := by first | (rw [hy129]; with_reducible exact H) | (have H2_ := (Option.bind_some _ _).symm.trans H; rw [hy129]; with_reducible exact H2_) | (have H2_ := (Option.bind_some _ _).symm.trans H; with_reducible exact H2_) | with_reducible exact H | (rw [hy129]; exact H) | exact H
       have Ny129 := am_ hy129
       clear hy129
       obtain ⟨c35, H⟩ := ifn_ H
       have LMc35 := am_ c35
       clear c35
       obtain ⟨y132, hy132⟩ : ∃ y_ : List Int, y_ = (y129 ++ l1) := ⟨_, rfl⟩
       replace H : (spec_RunBuses.l1 k2 y132 ([] : List Int) 0 l0 (l0.length : Int) 0) = some (r1, r2, r3) := by first | (rw [hy132]; with_reducible exact H) | (have H2_ := (Option.bind_some _ _).symm.trans H; rw [hy132]; with_reducible exact H2_) | (have H2_ := (Option.bind_some _ _).symm.trans H; with_reducible exact H2_) | with_reducible exact H | (rw [hy132]; exact H) | exact H
       have Ny132 := am_ hy132
       clear hy132
       have H' := am_ H
       clear H
       go_wp2_with (first | ((with_reducible refine gate_dst (N := 66) rfl ?_); (try (refine gate_guard (by rfl) ?_; dsimp only)); refine Kd.R_lit Kd.flt _ 22 ?hg (N := 66) ?hd (xs := ([] : List Int)) (inner := []) (ok := fun _ => True) (okp := fun _ => True) ?hr ?hp (fun _ hk => hk) trivial (Below.refl _ _) (Nat.le_refl _) (by simp) ?_; (case hd => rfl); (case hg => rfl); (case hr => first | (go_simp; done) | (go_simp; rfl)); (case hp => exact (Reps.none _ _)); intro v130 w36 ho37 hb hg_ hnew_; clear hg_ hnew_; (first | rw [← Ny129.out] at ho37 | (simp only [Int.reduceToNat] at ho37; rw [← Ny129.out] at ho37)); have n0_ := am_ (Kd.R_lower ho37 (below_size (bw_ HB.out))); have n1_ := am_ (below_step (bw_ HB.out) hb); have HO131 := n0_; replace HB := n1_; clear n0_ n1_; clear hb ho37) | ((with_reducible refine gate_builtin (b := .append) (xs := #[.tmp 66, .tmp 67]) rfl ?_); (try (refine gate_guard (by rfl) ?_; dsimp only)); at_builtin; refine Kd.R_append_rows Kd.flt (w0 := w) w.heap.size rfl (.tmp 66) (.tmp 67) 37 22 (.float .f64 0) 8 rfl Try.underlying37 info22 rfl (by decide) (by omega) v130 y129 l1 _ _ _ (fun _ => True) (fun _ => False) rfl rfl ?aO ?aR (fun _ _ h => h) (fun _ h => h.elim) ?aF ?aB ?aS ?aL ?_; (case aR => repeat (first | exact (Kd.C_below HR1.out HB.out) | (with_reducible refine Kd.C_alloc ?_ _) | (with_reducible refine Kd.C_drewN ?_ _) | (with_reducible refine Kd.C_drew ?_))); (case aB => exact (bw_ HB.out)); (case aF => exact (fun _ _ => trivial)); (case aO => exact (ra_ HO131.out)); (case aS => exact (below_size (bw_ HB.out))); (case aL => have := LMc35.out; omega); intro v133 w38 ho hb hg hat; rw [← Ny132.out] at ho; have n0_ := am_ (hb); have n1_ := am_ (ho); clear HO131; replace HB := n0_; have HO134 := n1_; clear n0_ n1_; clear ho hb hg hat))
       go_loopg [10, 11, 71] k2 (fun kq v10 v11 v71 w' => ∃ (x9_3 : List Int) (x10_3 : List Int) (x11_3 : Int) (x71_3 : Int), v11 = .float .f64 x11_3.toNat ∧ v71 = .int .i64 x71_3 ∧ Aside0 (spec_RunBuses.l1 kq x9_3 x10_3 x11_3 l0 (l0.length : Int) x71_3 = some (r1, r2, r3)) ∧ Aside0 (kq ≤ k2) ∧ Aside0 (Kd.R Kd.flt 22 w' w.heap.size (fun k_ => nb k_ v10) v133 x9_3) ∧ Aside0 (Kd.R Kd.flt 22 w' w.heap.size (fun k_ => nb k_ v133) v10 x10_3) ∧ Aside0 (Below w.heap.size w w'))
       case atStart => exact ⟨(y132), (([] : List Int)), (0), (0), sq_, sq_, H', ⟨Nat.le_refl _⟩, ⟨ra_ (Kd.R_mono HO134.out (fun _ hk => (by simp [Value.ownBlock])))⟩, ⟨by first | exact Kd.R_nil _ _ _ _ _ | exact Kd.N_nil _ _ _ _ _ | exact Kd.V_nil _ _ _ _ _ | exact Kd.Q_nil _ _ _ _ _ | exact Kd.S_nil _ _ _ _ _⟩, ⟨bw_ HB.out⟩⟩
       case round =>
        clear H'
        try clear c1
        try clear c7
        try clear c8
        try clear c8b0
        try clear c35
        obtain ⟨x9_3, x10_3, x11_3, x71_3, rfl, rfl, HA, HK3, HO_9, HO_10, HB⟩ := hrel
        cases gk with
        | zero => exact absurd HA.out (by simp [spec_RunBuses.l1])
        | succ k3 =>
         have H := HA.out
         clear HA
         simp only [spec_RunBuses.l1] at H
         by_cases c39 : x71_3 < (l0.length : Int)
         ·rw [if_pos c39] at H
          have c39b0 : decide (x71_3 < (l0.length : Int)) = true := decide_eq_true c39
          clear c39
          obtain ⟨c40, H⟩ := ifn_ H
          have c40b0 : decide (0 ≤ x71_3) = true := decide_eq_true c40
          clear c40
          obtain ⟨c41, H⟩ := ifn_ H
          have c41b0 : decide (x71_3 < (l0.length : Int)) = true := decide_eq_true c41
          clear c41
          obtain ⟨c42, H⟩ := ifn_ H
          have c42b0 : decide (x71_3 < (x9_3.length : Int)) = true := decide_eq_true c42
          clear c42
          by_cases cS : rbS (rd x9_3 x71_3) ((rd_T76 l0 x71_3).f0) ((rd_T76 l0 x71_3).f1.f0) = true
          ·rw [if_pos cS] at H
           clear cS
           obtain ⟨c43, H⟩ := ifn_ H
           have c43b0 : fmulOk (rd x9_3 x71_3).toNat ((rd_T76 l0 x71_3).f0).toNat = true := c43
           clear c43
           obtain ⟨c44, H⟩ := ifn_ H
           have c44b0 : fmulOk ((rd_T76 l0 x71_3).f1.f0).toNat (fmul (rd x9_3 x71_3).toNat ((rd_T76 l0 x71_3).f0).toNat).toNat = true := c44
           clear c44
           obtain ⟨c45, H⟩ := ifn_ H
           have c45b0 : faddOk (fmul ((rd_T76 l0 x71_3).f1.f0).toNat (fmul (rd x9_3 x71_3).toNat ((rd_T76 l0 x71_3).f0).toNat).toNat).toNat 0 = true := c45
           clear c45
           have HC46 := am_ H
           clear H
           have p135 : 0 ≤ (x71_3 : Int) := od_
           have q135 : x71_3 < (l0.length : Int) := od_
           obtain ⟨ad135, e135, hx135_0, hx135_1, hx135_2, hx135_3, hx135_4, hx135_5, hx135_6⟩ := at_T76 HR0.out x71_3 p135 q135
           cases e135
           (try replace hx135_0 := hc_ HB.out hx135_0)
           (try replace hx135_1 := hc_ HB.out hx135_1)
           (try replace hx135_2 := hc_ HB.out hx135_2)
           (try replace hx135_3 := hc_ HB.out hx135_3)
           (try replace hx135_4 := hc_ HB.out hx135_4)
           (try replace hx135_5 := hc_ HB.out hx135_5)
           (try replace hx135_6 := hc_ HB.out hx135_6)
           replace p135 := eq_true p135
           replace q135 := eq_true q135
           go_wp2_with (first | ((with_reducible refine gate_dst (N := 13) rfl ?_); (try (refine gate_guard (by rfl) ?_; dsimp only)); refine bx_ 13 #[.float .f64 0, .float .f64 0, .float .f64 0, .float .f64 0, .float .f64 0, .float .f64 0, .int .i64 0] 76 ?_; intro gb136 hg w47 hbox hb; have n0_ := am_ (Kd.R_below (ra_ HO_9.out) hb); have n1_ := am_ (Kd.R_below (ra_ HO_10.out) hb); have n2_ := am_ (below_step (bw_ HB.out) hb); have n3_ := am_ (hbox); have n4_ := am_ (gs_ hg (bw_ HB.out)); have n5_ := am_ (gs_ hg (bw_ HB.out)); replace HO_9 := n0_; replace HO_10 := n1_; replace HB := n2_; have BK136 := n3_; have GW136 := n4_; have GE136 := n5_; clear n0_ n1_ n2_ n3_ n4_ n5_; clear hb hbox hg) | ((with_reducible refine gate_store (t := 76) (p := 13) rfl ?_); refine srow_ 76 (.tmp 13) (.tmp 75) gb136 #[.float .f64 ((rd_T76 l0 x71_3).f0).toNat, .float .f64 ((rd_T76 l0 x71_3).f1.f0).toNat, .float .f64 ((rd_T76 l0 x71_3).f1.f1).toNat, .float .f64 ((rd_T76 l0 x71_3).f1.f2).toNat, .float .f64 ((rd_T76 l0 x71_3).f1.f3).toNat, .float .f64 ((rd_T76 l0 x71_3).f1.f4).toNat, .int .i64 ((rd_T76 l0 x71_3).f2)] _ BK136.out info76 ?_; intro w49 hb49 hs49 hB49; have n0_ := am_ (Kd.R_mono (Kd.R_step (Kd.R_types HO_9.out BK136.out (by decide)) (fun k_ hk_ _ => hs49 k_ hk_.2)) (fun _ h_ => h_.1)); have n1_ := am_ (Kd.R_mono (Kd.R_step (Kd.R_types HO_10.out BK136.out (by decide)) (fun k_ hk_ _ => hs49 k_ hk_.2)) (fun _ h_ => h_.1)); have n3_ := am_ (hB49 _ _ HB.out GE136.out); have n2_ := am_ hb49; replace HO_9 := n0_; replace HO_10 := n1_; replace BK136 := n2_; replace HB := n3_; clear n0_ n1_ n2_ n3_ hb49 hs49 hB49))
           have n0_ := am_ (Kd.R_drew HO_9.out)
           have n1_ := am_ (Kd.R_drew HO_10.out)
           have n2_ := am_ (blk_drew BK136.out)
           have n3_ := am_ (below_drew1 HB.out)
           replace HO_9 := n0_
           replace HO_10 := n1_
           replace BK136 := n2_
           replace HB := n3_
           clear n0_ n1_ n2_ n3_
           obtain ⟨Ao51, co51, eo51⟩ := Kd.R_slice HO_9.out
           (first | subst eo51 | (injection eo51 with f1_ f2_ f3_; have f4_ := f1_.symm; have f5_ := f3_.symm; clear f1_ f2_ f3_; subst f4_; subst f5_))
           have p137 : 0 ≤ (x71_3 : Int) := od_
           have q137 : x71_3 < (x9_3.length : Int) := od_
           obtain ⟨ad137, e137, hx137_0⟩ := Kd.at_flt (Kd.R_reads' HO_9.out).2.2 x71_3 p137 q137
           cases e137
           replace p137 := eq_true p137
           replace q137 := eq_true q137
           refine start_ (n := 8) (S := fun w' => w'.cell? ⟨gb136, 0, none⟩ = some (.float .f64 ((rd_T76 l0 x71_3).f0).toNat) ∧ w'.cell? ⟨gb136, 1, none⟩ = some (.float .f64 ((rd_T76 l0 x71_3).f1.f0).toNat) ∧ w'.cell? ⟨gb136, 2, none⟩ = some (.float .f64 ((rd_T76 l0 x71_3).f1.f1).toNat) ∧ w'.cell? ⟨gb136, 3, none⟩ = some (.float .f64 ((rd_T76 l0 x71_3).f1.f2).toNat) ∧ w'.cell? ⟨gb136, 4, none⟩ = some (.float .f64 ((rd_T76 l0 x71_3).f1.f3).toNat) ∧ w'.cell? ⟨gb136, 5, none⟩ = some (.float .f64 ((rd_T76 l0 x71_3).f1.f4).toNat) ∧ w'.cell? ⟨gb136, 6, none⟩ = some (.int .i64 ((rd_T76 l0 x71_3).f2)) ∧ w'.cell? (ad137.add (x71_3).toNat) = some (.float .f64 (rd x9_3 x71_3).toNat)) (ds := []) (Array.replicate 8 false) (by kernel_rfl) rfl rfl ⟨cz_ BK136.out 0, cz_ BK136.out 1, cz_ BK136.out 2, cz_ BK136.out 3, cz_ BK136.out 4, cz_ BK136.out 5, cz_ BK136.out 6, hx137_0⟩ (fun hHeld => ?_); refine with_tabW spec_RunBuses.tab15 spec_RunBuses.bits15 (fun HT_ HW_ => ?_)
           generalize w49.drew = w50 at HO_9 HO_10 BK136 HB hx137_0 hHeld ⊢
           refine pS_ 0 76 HT_ ?_
           refine pS_ 1 77 HT_ ?_
           refine pS_ 2 78 HT_ ?_
           refine pS_ 4 80 HT_ ?_
           refine tS_ 3 79 HT_ HW_ hHeld ?_
           refine tS_ 5 81 HT_ HW_ hHeld ?_
           refine pS_ 6 82 HT_ ?_
           refine pS_ 7 14 HT_ ?_
           refine done_ (done_of HT_.out (by kernel_rfl)) ?_
           have hcz52_0 := cz_ BK136.out 0
           have hcz52_1 := cz_ BK136.out 1
           have hcz52_2 := cz_ BK136.out 2
           have hcz52_3 := cz_ BK136.out 3
           have hcz52_4 := cz_ BK136.out 4
           have hcz52_5 := cz_ BK136.out 5
           have hcz52_6 := cz_ BK136.out 6
           have hfz52_0 := blk_frozen BK136.out 0
           have hfz52_1 := blk_frozen BK136.out 1
           have hfz52_2 := blk_frozen BK136.out 2
           have hfz52_3 := blk_frozen BK136.out 3
           have hfz52_4 := blk_frozen BK136.out 4
           have hfz52_5 := blk_frozen BK136.out 5
           have hfz52_6 := blk_frozen BK136.out 6
           go_upto_region 18 with (fail)
           go_cut [100] (fun v100 wc => ∃ (kq : Nat) (x100_45 : Bool), v100 = .bool x100_45 ∧ Aside0 (spec_RunBuses.j3 kq x9_3 x10_3 x11_3 (fadd (fmul ((rd_T76 l0 x71_3).f1.f0).toNat (fmul (rd x9_3 x71_3).toNat ((rd_T76 l0 x71_3).f0).toNat).toNat).toNat 0) l0 (l0.length : Int) x71_3 x100_45 ((rd_T76 l0 x71_3).f0) ((rd_T76 l0 x71_3).f1.f0) ((rd_T76 l0 x71_3).f1.f1) ((rd_T76 l0 x71_3).f1.f2) ((rd_T76 l0 x71_3).f1.f3) ((rd_T76 l0 x71_3).f1.f4) ((rd_T76 l0 x71_3).f2) = some (r1, r2, r3)) ∧ Aside0 (kq ≤ k3) ∧ Aside0 (Kd.R Kd.flt 22 wc w.heap.size (fun k_ => nb k_ u10) (.slice (some ad137) x9_3.length co51) x9_3) ∧ Aside0 (Kd.R Kd.flt 22 wc w.heap.size (fun k_ => nb k_ (.slice (some ad137) x9_3.length co51)) u10 x10_3) ∧ Aside0 (wc.heap[gb136]? = some (.cells #[.float .f64 ((rd_T76 l0 x71_3).f0).toNat, .float .f64 ((rd_T76 l0 x71_3).f1.f0).toNat, .float .f64 ((rd_T76 l0 x71_3).f1.f1).toNat, .float .f64 ((rd_T76 l0 x71_3).f1.f2).toNat, .float .f64 ((rd_T76 l0 x71_3).f1.f3).toNat, .float .f64 ((rd_T76 l0 x71_3).f1.f4).toNat, .int .i64 ((rd_T76 l0 x71_3).f2)] 76 (0, 0))) ∧ Aside0 (Below w.heap.size w wc))
           case first =>
            have H := HC46.out
            clear HC46
            obtain ⟨t139, A530, H⟩ := bE_ H
            have A53 := am_ A530
            clear A530
            by_cases c54 : t139 = true
            ·subst c54
             replace H := it_ H rfl
             obtain ⟨t140, A550, H⟩ := bE_ H
             have A55 := am_ A550
             clear A550
             have H' := am_ H
             clear H
             have p138 : 0 ≤ (x71_3 : Int) := od_
             have q138 : x71_3 < (x9_3.length : Int) := od_
             obtain ⟨ad138, e138, hx138_0⟩ := Kd.at_flt (Kd.R_reads' HO_9.out).2.2 x71_3 p138 q138
             obtain rfl : ad137 = ad138 := (by injection e138)
             replace p138 := eq_true p138
             replace q138 := eq_true q138
             go_wp2_with (first | ((with_reducible refine gate_callee (f := 38) rfl ?_); refine goesL_ (some 94) rfl rfl Try.func38 (by kernel_rfl) rfl #[.float .f64 (rd x9_3 x71_3).toNat] rfl (by (try simp only [List.map_toArray, List.map_cons, List.map_nil]); first | done | rfl | (simp only [List.length_drop, List.length_take]; rfl)) ?_; (with_reducible refine (spec_l2Finite.calls (rd x9_3 x71_3) true _ A53.out).mono ?_); rintro e w' ⟨rfl, ⟨nd, rfl⟩⟩; refine ⟨_, rfl, ?_⟩) | (go_at_call 38; (with_reducible refine (spec_l2Finite.calls (fadd (fmul ((rd_T76 l0 x71_3).f1.f0).toNat (fmul (rd x9_3 x71_3).toNat ((rd_T76 l0 x71_3).f0).toNat).toNat).toNat 0) t140 _ A55.out).mono ?_); rintro e w' ⟨rfl, ⟨nd, rfl⟩⟩))
             go_meet
             case rel => exact ⟨_, (!t140), sq_, H', ⟨by have := HJ2.out; have := HK2.out; have := HK3.out; first | omega | exact Nat.le_refl _⟩, ⟨ra_ HO_9.out⟩, ⟨ra_ HO_10.out⟩, ⟨bk_ BK136.out⟩, ⟨bw_ HB.out⟩⟩
            ·replace c54 := Bool.eq_false_iff.mpr c54
             subst c54
             replace H := if_ H Bool.false_ne_true
             have H' := am_ H
             clear H
             have p138 : 0 ≤ (x71_3 : Int) := od_
             have q138 : x71_3 < (x9_3.length : Int) := od_
             obtain ⟨ad138, e138, hx138_0⟩ := Kd.at_flt (Kd.R_reads' HO_9.out).2.2 x71_3 p138 q138
             obtain rfl : ad137 = ad138 := (by injection e138)
             replace p138 := eq_true p138
             replace q138 := eq_true q138
             go_wp2_with (first | ((with_reducible refine gate_callee (f := 38) rfl ?_); refine goesL_ (some 94) rfl rfl Try.func38 (by kernel_rfl) rfl #[.float .f64 (rd x9_3 x71_3).toNat] rfl (by (try simp only [List.map_toArray, List.map_cons, List.map_nil]); first | done | rfl | (simp only [List.length_drop, List.length_take]; rfl)) ?_; (with_reducible refine (spec_l2Finite.calls (rd x9_3 x71_3) false _ A53.out).mono ?_); rintro e w' ⟨rfl, ⟨nd, rfl⟩⟩; refine ⟨_, rfl, ?_⟩))
             go_meet
             case rel => exact ⟨_, (true), sq_, H', ⟨by have := HJ2.out; have := HK2.out; have := HK3.out; first | omega | exact Nat.le_refl _⟩, ⟨ra_ HO_9.out⟩, ⟨ra_ HO_10.out⟩, ⟨bk_ BK136.out⟩, ⟨bw_ HB.out⟩⟩
           case rest => as_aux_lemma =>
            clear HC46
            try clear c1
            try clear c7
            try clear c8
            try clear c8b0
            try clear c35
            try clear c39
            try clear c39b0
            try clear c40
            try clear c40b0
            try clear c41
            try clear c41b0
            try clear c42
            try clear c42b0
            try clear c43
            try clear c43b0
            try clear c44
            try clear c44b0
            try clear c45
            try clear c45b0
            try clear hcz48_0
            try clear hcz48_1
            try clear hcz48_2
            try clear hcz48_3
            try clear hcz48_4
            try clear hcz48_5
            try clear hcz48_6
            try clear hcz52_0
            try clear hcz52_1
            try clear hcz52_2
            try clear hcz52_3
            try clear hcz52_4
            try clear hcz52_5
            try clear hcz52_6
            try clear hfz48_0
            try clear hfz48_1
            try clear hfz48_2
            try clear hfz48_3
            try clear hfz48_4
            try clear hfz48_5
            try clear hfz48_6
            try clear hfz52_0
            try clear hfz52_1
            try clear hfz52_2
            try clear hfz52_3
            try clear hfz52_4
            try clear hfz52_5
            try clear hfz52_6
            try clear hx135_0
            try clear hx135_1
            try clear hx135_2
            try clear hx135_3
            try clear hx135_4
            try clear hx135_5
            try clear hx135_6
            try clear hx137_0
            try clear p135
            try clear p137
            try clear q135
            try clear q137
            obtain ⟨kq, x100_45, rfl, HA, HJ45, HO_9, HO_10, BK136, HB⟩ := hcut
            cases kq with
            | zero => exact absurd HA.out (by simp [spec_RunBuses.j3])
            | succ kj45 =>
             have H := HA.out
             clear HA
             simp only [spec_RunBuses.j3] at H
             by_cases c56 : x100_45 = true
             ·subst c56
              replace H := it_ H rfl
              simp only [Option.some.injEq, Prod.mk.injEq] at H
              obtain ⟨rfl, rfl, rfl⟩ := H
              go_wp2
              go_ret3
              exact ⟨_, by first | rfl | (simp [errW_none, errW_some] <;> rfl) | (simp [*, errW_none, errW_some] <;> rfl), by first | exact Kd.R_nil _ _ _ _ _ | exact Kd.N_nil _ _ _ _ _ | exact Kd.V_nil _ _ _ _ _ | exact Kd.Q_nil _ _ _ _ _ | exact Kd.S_nil _ _ _ _ _, bw_ HB.out⟩
             ·replace c56 := Bool.eq_false_iff.mpr c56
              subst c56
              replace H := if_ H Bool.false_ne_true
              obtain ⟨t141, A570, H⟩ := bE_ H
              have A57 := am_ A570
              clear A570
              obtain ⟨c58, H⟩ := ifn_ H
              have LMc58 := am_ c58
              clear c58
              obtain ⟨y142, hy142⟩ : ∃ y_ : List Int, y_ = (x10_3 ++ [t141]) := ⟨_, rfl⟩
              replace H : (if ((rd_T76 l0 x71_3).f2) < 0 then (if faddOk x11_3.toNat t141.toNat = true then (spec_RunBuses.l1 kj45 x9_3 y142 (fadd x11_3.toNat t141.toNat) l0 (l0.length : Int) (wrap64 (x71_3 + 1))) else (none)) else (if 0 ≤ ((rd_T76 l0 x71_3).f2) then (if ((rd_T76 l0 x71_3).f2) < (x9_3.length : Int) then (if faddOk (rd x9_3 ((rd_T76 l0 x71_3).f2)).toNat t141.toNat = true then (spec_RunBuses.l1 kj45 (x9_3.set (((rd_T76 l0 x71_3).f2) : Int).toNat (fadd (rd x9_3 ((rd_T76 l0 x71_3).f2)).toNat t141.toNat)) y142 x11_3 l0 (l0.length : Int) (wrap64 (x71_3 + 1))) else (none)) else (none)) else (none))) = some (r1, r2, r3) := by first | (rw [hy142]; with_reducible exact H) | (have H2_ := (Option.bind_some _ _).symm.trans H; rw [hy142]; with_reducible exact H2_) | (have H2_ := (Option.bind_some _ _).symm.trans H; with_reducible exact H2_) | with_reducible exact H | (rw [hy142]; exact H) | exact H
              have Ny142 := am_ hy142
              clear hy142
              by_cases c59 : ((rd_T76 l0 x71_3).f2) < 0
              ·rw [if_pos c59] at H
               have c59b0 : decide (((rd_T76 l0 x71_3).f2) < 0) = true := decide_eq_true c59
               clear c59
               obtain ⟨c60, H⟩ := ifn_ H
               have c60b0 : faddOk x11_3.toNat t141.toNat = true := c60
               clear c60
               have H' := am_ H
               clear H
               go_wp2_with (first | ((with_reducible refine gate_callee (f := 39) rfl ?_); refine goesL_ (some 102) rfl rfl Try.func39 (by kernel_rfl) rfl #[.float .f64 (fadd (fmul ((rd_T76 l0 x71_3).f1.f0).toNat (fmul (rd x9_3 x71_3).toNat ((rd_T76 l0 x71_3).f0).toNat).toNat).toNat 0).toNat] rfl (by (try simp only [List.map_toArray, List.map_cons, List.map_nil]); first | done | rfl | (simp only [List.length_drop, List.length_take]; rfl)) ?_; (with_reducible refine (spec_l2Plain.calls (fadd (fmul ((rd_T76 l0 x71_3).f1.f0).toNat (fmul (rd x9_3 x71_3).toNat ((rd_T76 l0 x71_3).f0).toNat).toNat).toNat 0) t141 _ A57.out).mono ?_); rintro e w' ⟨rfl, ⟨nd, rfl⟩⟩; refine ⟨_, rfl, ?_⟩) | ((with_reducible refine gate_builtin (b := .append) (xs := #[.tmp 103, .tmp 105]) rfl ?_); (try (refine gate_guard (by rfl) ?_; dsimp only)); at_builtin; refine Kd.R_append Kd.flt (w0 := w) w.heap.size rfl (.tmp 103) (.tmp 105) 37 22 (.float .f64 0) 8 rfl Try.underlying37 info22 rfl (by decide) (by omega) u10 x10_3 t141 [.float .f64 t141.toNat] (fun k_ => nb k_ (.slice (some ad137) x9_3.length co51)) (fun _ => False) rfl rfl ?aP (fun _ hk => hk.elim) ?aF ?aO ?aB ?aS ?aL ?_; (case aP => exact rfl); (case aB => exact (bw_ HB.out)); (case aF => exact (fun k_ hk => Kd.fresh' (Kd.R_lt (ra_ HO_9.out)) k_ hk)); (case aO => exact (ra_ HO_10.out)); (case aS => exact (below_size (bw_ HB.out))); (case aL => have := LMc58.out; omega); intro v143 w61 ho hb hg hat; rw [← Ny142.out] at ho; have n0_ := am_ (Kd.R_after (ok := (fun _ => True)) (ra_ (Kd.R_mono HO_9.out (fun _ hk => ⟨trivial, hk⟩))) hg hat); have n1_ := am_ (blk_grown (bk_ BK136.out) hg (Kd.R_ne HO_10.out BK136.out (by decide))); have n2_ := am_ (hb); have n3_ := am_ (ho); clear HO_10; replace HO_9 := n0_; replace BK136 := n1_; replace HB := n2_; have HO144 := n3_; clear n0_ n1_ n2_ n3_; clear ho hb hg hat; have hcz62_0 := cz_ BK136.out 0; have hcz62_1 := cz_ BK136.out 1; have hcz62_2 := cz_ BK136.out 2; have hcz62_3 := cz_ BK136.out 3; have hcz62_4 := cz_ BK136.out 4; have hcz62_5 := cz_ BK136.out 5; have hcz62_6 := cz_ BK136.out 6; have hfz62_0 := blk_frozen BK136.out 0; have hfz62_1 := blk_frozen BK136.out 1; have hfz62_2 := blk_frozen BK136.out 2; have hfz62_3 := blk_frozen BK136.out 3; have hfz62_4 := blk_frozen BK136.out 4; have hfz62_5 := blk_frozen BK136.out 5; have hfz62_6 := blk_frozen BK136.out 6))
               go_roundg kj45
               case measure => have := HJ2.out; have := HK2.out; have := HK3.out; have := HJ45.out; omega
               case rel => exact ⟨(x9_3), (y142), (fadd x11_3.toNat t141.toNat), (wrap64 (x71_3 + 1)), sq_, sq_, H', ⟨by have := HJ2.out; have := HK2.out; have := HK3.out; have := HJ45.out; omega⟩, ⟨ra_ (Kd.R_mono HO_9.out (fun _ hk => hk.2))⟩, ⟨ra_ HO144.out⟩, ⟨bw_ HB.out⟩⟩
              ·rw [if_neg c59] at H
               have c59b0 : decide (((rd_T76 l0 x71_3).f2) < 0) = false := decide_eq_false c59
               clear c59
               obtain ⟨c63, H⟩ := ifn_ H
               have c63b0 : decide (0 ≤ ((rd_T76 l0 x71_3).f2)) = true := decide_eq_true c63
               clear c63
               obtain ⟨c64, H⟩ := ifn_ H
               have c64b0 : decide (((rd_T76 l0 x71_3).f2) < (x9_3.length : Int)) = true := decide_eq_true c64
               clear c64
               obtain ⟨c65, H⟩ := ifn_ H
               have c65b0 : faddOk (rd x9_3 ((rd_T76 l0 x71_3).f2)).toNat t141.toNat = true := c65
               clear c65
               obtain ⟨y146, hy146⟩ : ∃ y_ : List Int, y_ = (x9_3.set (((rd_T76 l0 x71_3).f2) : Int).toNat (fadd (rd x9_3 ((rd_T76 l0 x71_3).f2)).toNat t141.toNat)) := ⟨_, rfl⟩
               replace H : (spec_RunBuses.l1 kj45 y146 y142 x11_3 l0 (l0.length : Int) (wrap64 (x71_3 + 1))) = some (r1, r2, r3) := by first | (rw [hy146]; with_reducible exact H) | (have H2_ := (Option.bind_some _ _).symm.trans H; rw [hy146]; with_reducible exact H2_) | (have H2_ := (Option.bind_some _ _).symm.trans H; with_reducible exact H2_) | with_reducible exact H | (rw [hy146]; exact H) | exact H
               have Ny146 := am_ hy146
               clear hy146
               have H' := am_ H
               clear H
               try go_wp2_with (first | ((with_reducible refine gate_callee (f := 39) rfl ?_); refine goesL_ (some 102) rfl rfl Try.func39 (by kernel_rfl) rfl #[.float .f64 (fadd (fmul ((rd_T76 l0 x71_3).f1.f0).toNat (fmul (rd x9_3 x71_3).toNat ((rd_T76 l0 x71_3).f0).toNat).toNat).toNat 0).toNat] rfl (by (try simp only [List.map_toArray, List.map_cons, List.map_nil]); first | done | rfl | (simp only [List.length_drop, List.length_take]; rfl)) ?_; (with_reducible refine (spec_l2Plain.calls (fadd (fmul ((rd_T76 l0 x71_3).f1.f0).toNat (fmul (rd x9_3 x71_3).toNat ((rd_T76 l0 x71_3).f0).toNat).toNat).toNat 0) t141 _ A57.out).mono ?_); rintro e w' ⟨rfl, ⟨nd, rfl⟩⟩; refine ⟨_, rfl, ?_⟩; (try (rw [drewN_self wc]; generalize hq_ : World.drewN wc _ = wc; have n0_ : Aside0 (Kd.R Kd.flt 22 wc w.heap.size (fun k_ => nb k_ (.slice (some ad137) x9_3.length co51)) u10 x10_3) := ⟨by rw [← hq_]; exact (ra_ HO_10.out)⟩; have n1_ : Aside0 (Kd.R Kd.flt 22 wc w.heap.size (fun k_ => nb k_ u10) (.slice (some ad137) x9_3.length co51) x9_3) := ⟨by rw [← hq_]; exact (ra_ HO_9.out)⟩; have n2_ : Aside0 (wc.heap[gb136]? = some (.cells #[.float .f64 ((rd_T76 l0 x71_3).f0).toNat, .float .f64 ((rd_T76 l0 x71_3).f1.f0).toNat, .float .f64 ((rd_T76 l0 x71_3).f1.f1).toNat, .float .f64 ((rd_T76 l0 x71_3).f1.f2).toNat, .float .f64 ((rd_T76 l0 x71_3).f1.f3).toNat, .float .f64 ((rd_T76 l0 x71_3).f1.f4).toNat, .int .i64 ((rd_T76 l0 x71_3).f2)] 76 (0, 0))) := ⟨by rw [← hq_]; exact (bk_ BK136.out)⟩; have n3_ : Aside0 (Below w.heap.size w wc) := ⟨by rw [← hq_]; exact (bw_ HB.out)⟩; clear HO_10 HO_9 BK136 HB hq_; have HO_10 := n0_; have HO_9 := n1_; have BK136 := n2_; have HB := n3_; clear n0_ n1_ n2_ n3_))) | ((with_reducible refine gate_builtin (b := .append) (xs := #[.tmp 103, .tmp 105]) rfl ?_); (try (refine gate_guard (by rfl) ?_; dsimp only)); at_builtin; refine Kd.R_append Kd.flt (w0 := w) w.heap.size rfl (.tmp 103) (.tmp 105) 37 22 (.float .f64 0) 8 rfl Try.underlying37 info22 rfl (by decide) (by omega) u10 x10_3 t141 [.float .f64 t141.toNat] (fun k_ => nb k_ (.slice (some ad137) x9_3.length co51)) (fun _ => False) rfl rfl ?aP (fun _ hk => hk.elim) ?aF ?aO ?aB ?aS ?aL ?_; (case aP => exact rfl); (case aB => exact (bw_ HB.out)); (case aF => exact (fun k_ hk => Kd.fresh' (Kd.R_lt (ra_ HO_9.out)) k_ hk)); (case aO => exact (ra_ HO_10.out)); (case aS => exact (below_size (bw_ HB.out))); (case aL => have := LMc58.out; omega); intro v143 w67 ho hb hg hat; rw [← Ny142.out] at ho; have n0_ := am_ (Kd.R_after (ok := (fun _ => True)) (ra_ (Kd.R_mono HO_9.out (fun _ hk => ⟨trivial, hk⟩))) hg hat); have n1_ := am_ (blk_grown (bk_ BK136.out) hg (Kd.R_ne HO_10.out BK136.out (by decide))); have n2_ := am_ (hb); have n3_ := am_ (ho); clear HO_10; replace HO_9 := n0_; replace BK136 := n1_; replace HB := n2_; have HO144 := n3_; clear n0_ n1_ n2_ n3_; clear ho hb hg hat; have hcz68_0 := cz_ BK136.out 0; have hcz68_1 := cz_ BK136.out 1; have hcz68_2 := cz_ BK136.out 2; have hcz68_3 := cz_ BK136.out 3; have hcz68_4 := cz_ BK136.out 4; have hcz68_5 := cz_ BK136.out 5; have hcz68_6 := cz_ BK136.out 6; have hfz68_0 := blk_frozen BK136.out 0; have hfz68_1 := blk_frozen BK136.out 1; have hfz68_2 := blk_frozen BK136.out 2; have hfz68_3 := blk_frozen BK136.out 3; have hfz68_4 := blk_frozen BK136.out 4; have hfz68_5 := blk_frozen BK136.out 5; have hfz68_6 := blk_frozen BK136.out 6))
               have n0_ := am_ (Kd.R_drew HO_9.out)
               have n1_ := am_ (Kd.R_drew HO144.out)
               have n2_ := am_ (blk_drew BK136.out)
               have n3_ := am_ (below_drew1 HB.out)
               replace HO_9 := n0_
               replace HO144 := n1_
               replace BK136 := n2_
               replace HB := n3_
               clear n0_ n1_ n2_ n3_
               have p145 : 0 ≤ (((rd_T76 l0 x71_3).f2) : Int) := od_
               have q145 : ((rd_T76 l0 x71_3).f2) < (x9_3.length : Int) := od_
               obtain ⟨ad145, e145, hx145_0⟩ := Kd.at_flt (Kd.R_reads' HO_9.out).2.2 ((rd_T76 l0 x71_3).f2) p145 q145
               obtain rfl : ad137 = ad145 := (by injection e145)
               replace p145 := eq_true p145
               replace q145 := eq_true q145
               have p66 : 0 ≤ (((rd_T76 l0 x71_3).f2) : Int) := od_
               have q66 : (((rd_T76 l0 x71_3).f2) : Int) < ((x9_3.length : Int) : Int) := od_
               obtain ⟨go66, co66, eo66, gb66, gl66, cl66, HG66⟩ := Kd.R_form HO_9.out (by omega)
               (first | cases eo66 | (injection eo66 with ea_ en_ ec_; (first | subst ea_ | (injection ea_ with ea_; subst ea_)); subst ec_; clear en_))
               have GB66 := am_ gb66
               have GG66 := am_ HG66
               clear gb66 gl66 HG66
               (first | simp only [add_plain] at hx137_0 | skip)
               (first | simp only [add_plain] at hx138_0 | skip)
               (first | simp only [add_plain] at hx145_0 | skip)
               obtain ⟨hx66_0, hf66_0⟩ := Kd.R_celln 0 HO_9.out (((rd_T76 l0 x71_3).f2) : Int) p66 q66
               replace p66 := eq_true p66
               replace q66 := eq_true q66
               have HP70 := Kd.R_putn HO_9.out (((rd_T76 l0 x71_3).f2) : Int) (fadd (rd x9_3 ((rd_T76 l0 x71_3).f2)).toNat t141.toNat)
               rw [← Ny146.out] at HP70
               have HQ70 := am_ HP70
               clear HP70
               refine start_ (n := 12) (S := fun w' => w'.cell? ⟨gb136, 0, none⟩ = some (.float .f64 ((rd_T76 l0 x71_3).f0).toNat) ∧ w'.cell? ⟨gb136, 1, none⟩ = some (.float .f64 ((rd_T76 l0 x71_3).f1.f0).toNat) ∧ w'.cell? ⟨gb136, 2, none⟩ = some (.float .f64 ((rd_T76 l0 x71_3).f1.f1).toNat) ∧ w'.cell? ⟨gb136, 3, none⟩ = some (.float .f64 ((rd_T76 l0 x71_3).f1.f2).toNat) ∧ w'.cell? ⟨gb136, 4, none⟩ = some (.float .f64 ((rd_T76 l0 x71_3).f1.f3).toNat) ∧ w'.cell? ⟨gb136, 5, none⟩ = some (.float .f64 ((rd_T76 l0 x71_3).f1.f4).toNat) ∧ w'.cell? ⟨gb136, 6, none⟩ = some (.int .i64 ((rd_T76 l0 x71_3).f2)) ∧ w'.cell? ⟨go66, (((rd_T76 l0 x71_3).f2)).toNat, none⟩ = some (.float .f64 (rd x9_3 ((rd_T76 l0 x71_3).f2)).toNat)) (ds := [11]) (Array.replicate 12 false) (by kernel_rfl) rfl rfl ⟨cz_ BK136.out 0, cz_ BK136.out 1, cz_ BK136.out 2, cz_ BK136.out 3, cz_ BK136.out 4, cz_ BK136.out 5, cz_ BK136.out 6, hx145_0⟩ (fun hHeld => ?_); refine with_tabW spec_RunBuses.tab24 spec_RunBuses.bits24 (fun HT_ HW_ => ?_)
               generalize w67.drew = w69 at HO_9 HO144 BK136 HB GG66 HQ70 hf66_0 hx145_0 hx66_0 hHeld ⊢
               refine pS_ 0 113 HT_ ?_
               refine pS_ 1 114 HT_ ?_
               refine pS_ 3 116 HT_ ?_
               refine pS_ 4 117 HT_ ?_
               refine pS_ 8 121 HT_ ?_
               refine tS_ 2 115 HT_ HW_ hHeld ?_
               refine tS_ 5 118 HT_ HW_ hHeld ?_
               refine pS_ 6 119 HT_ ?_
               refine tS_ 7 120 HT_ HW_ hHeld ?_
               refine pS_ 9 122 HT_ ?_
               refine pS_ 10 123 HT_ ?_
               refine last_ (i := 11) (N := none) #[true, true, true, true, true, true, true, true, true, true, true, true] rfl rfl (one_of HT_.out (by kernel_rfl)) (by decide) (fun K hK => ?_)
               refine skip_ (w1 := ?_) (by rfl) rfl ?_ ?_
               rotate_left
               ·go_simp
                rfl
               refine hK.out _ _ ?_
               clear hK K
               refine done_ (done_of HT_.out (by kernel_rfl)) ?_
               try go_wp2
               go_roundg kj45
               case measure => have := HJ2.out; have := HK2.out; have := HK3.out; have := HJ45.out; omega
               case rel => exact ⟨(y146), (y142), (x11_3), (wrap64 (x71_3 + 1)), sq_, sq_, H', ⟨by have := HJ2.out; have := HK2.out; have := HK3.out; have := HJ45.out; omega⟩, ⟨ra_ (Kd.R_mono HQ70.out (fun _ hk => hk.2))⟩, ⟨ra_ (Kd.R_mono (Kd.R_far (p := ⟨go66, (((rd_T76 l0 x71_3).f2) : Int).toNat, none⟩) (Kd.R_mono HO144.out (fun k_ hk => (⟨hk, fun e_ => hk (by rw [e_]; rfl)⟩ : _ ∧ k_ ≠ go66))) (fun _ hk => hk.2) (.float .f64 (fadd (rd x9_3 ((rd_T76 l0 x71_3).f2)).toNat t141.toNat).toNat)) (fun _ hk => hk.1))⟩, ⟨bw_ HB.out⟩⟩
          ·rw [if_neg cS] at H
           obtain ⟨cb, H⟩ := ifn_ H
           have CB := am_ cb
           clear cb cS
           simp only [Option.some.injEq, Prod.mk.injEq] at H
           obtain ⟨rfl, rfl, rfl⟩ := H
           have p135 : 0 ≤ (x71_3 : Int) := od_
           have q135 : x71_3 < (l0.length : Int) := od_
           obtain ⟨ad135, e135, hx135_0, hx135_1, hx135_2, hx135_3, hx135_4, hx135_5, hx135_6⟩ := at_T76 HR0.out x71_3 p135 q135
           cases e135
           (try replace hx135_0 := hc_ HB.out hx135_0)
           (try replace hx135_1 := hc_ HB.out hx135_1)
           (try replace hx135_2 := hc_ HB.out hx135_2)
           (try replace hx135_3 := hc_ HB.out hx135_3)
           (try replace hx135_4 := hc_ HB.out hx135_4)
           (try replace hx135_5 := hc_ HB.out hx135_5)
           (try replace hx135_6 := hc_ HB.out hx135_6)
           replace p135 := eq_true p135
           replace q135 := eq_true q135
           go_wp2_with (first | ((with_reducible refine gate_dst (N := 13) rfl ?_); (try (refine gate_guard (by rfl) ?_; dsimp only)); refine bx_ 13 #[.float .f64 0, .float .f64 0, .float .f64 0, .float .f64 0, .float .f64 0, .float .f64 0, .int .i64 0] 76 ?_; intro gb136 hg w47 hbox hb; have n0_ := am_ (Kd.R_below (ra_ HO_9.out) hb); have n1_ := am_ (Kd.R_below (ra_ HO_10.out) hb); have n2_ := am_ (below_step (bw_ HB.out) hb); have n3_ := am_ (hbox); have n4_ := am_ (gs_ hg (bw_ HB.out)); have n5_ := am_ (gs_ hg (bw_ HB.out)); replace HO_9 := n0_; replace HO_10 := n1_; replace HB := n2_; have BK136 := n3_; have GW136 := n4_; have GE136 := n5_; clear n0_ n1_ n2_ n3_ n4_ n5_; clear hb hbox hg) | ((with_reducible refine gate_store (t := 76) (p := 13) rfl ?_); refine srow_ 76 (.tmp 13) (.tmp 75) gb136 #[.float .f64 ((rd_T76 l0 x71_3).f0).toNat, .float .f64 ((rd_T76 l0 x71_3).f1.f0).toNat, .float .f64 ((rd_T76 l0 x71_3).f1.f1).toNat, .float .f64 ((rd_T76 l0 x71_3).f1.f2).toNat, .float .f64 ((rd_T76 l0 x71_3).f1.f3).toNat, .float .f64 ((rd_T76 l0 x71_3).f1.f4).toNat, .int .i64 ((rd_T76 l0 x71_3).f2)] _ BK136.out info76 ?_; intro w49 hb49 hs49 hB49; have n0_ := am_ (Kd.R_mono (Kd.R_step (Kd.R_types HO_9.out BK136.out (by decide)) (fun k_ hk_ _ => hs49 k_ hk_.2)) (fun _ h_ => h_.1)); have n1_ := am_ (Kd.R_mono (Kd.R_step (Kd.R_types HO_10.out BK136.out (by decide)) (fun k_ hk_ _ => hs49 k_ hk_.2)) (fun _ h_ => h_.1)); have n3_ := am_ (hB49 _ _ HB.out GE136.out); have n2_ := am_ hb49; replace HO_9 := n0_; replace HO_10 := n1_; replace BK136 := n2_; replace HB := n3_; clear n0_ n1_ n2_ n3_ hb49 hs49 hB49))
           have n0_ := am_ (Kd.R_drew HO_9.out)
           have n1_ := am_ (Kd.R_drew HO_10.out)
           have n2_ := am_ (blk_drew BK136.out)
           have n3_ := am_ (below_drew1 HB.out)
           replace HO_9 := n0_
           replace HO_10 := n1_
           replace BK136 := n2_
           replace HB := n3_
           clear n0_ n1_ n2_ n3_
           obtain ⟨Ao51, co51, eo51⟩ := Kd.R_slice HO_9.out
           (first | subst eo51 | (injection eo51 with f1_ f2_ f3_; have f4_ := f1_.symm; have f5_ := f3_.symm; clear f1_ f2_ f3_; subst f4_; subst f5_))
           have p137 : 0 ≤ (x71_3 : Int) := od_
           have q137 : x71_3 < (x9_3.length : Int) := od_
           obtain ⟨ad137, e137, hx137_0⟩ := Kd.at_flt (Kd.R_reads' HO_9.out).2.2 x71_3 p137 q137
           cases e137
           replace p137 := eq_true p137
           replace q137 := eq_true q137
           refine start_ (n := 8) (S := fun w' => w'.cell? ⟨gb136, 0, none⟩ = some (.float .f64 ((rd_T76 l0 x71_3).f0).toNat) ∧ w'.cell? ⟨gb136, 1, none⟩ = some (.float .f64 ((rd_T76 l0 x71_3).f1.f0).toNat) ∧ w'.cell? ⟨gb136, 2, none⟩ = some (.float .f64 ((rd_T76 l0 x71_3).f1.f1).toNat) ∧ w'.cell? ⟨gb136, 3, none⟩ = some (.float .f64 ((rd_T76 l0 x71_3).f1.f2).toNat) ∧ w'.cell? ⟨gb136, 4, none⟩ = some (.float .f64 ((rd_T76 l0 x71_3).f1.f3).toNat) ∧ w'.cell? ⟨gb136, 5, none⟩ = some (.float .f64 ((rd_T76 l0 x71_3).f1.f4).toNat) ∧ w'.cell? ⟨gb136, 6, none⟩ = some (.int .i64 ((rd_T76 l0 x71_3).f2)) ∧ w'.cell? (ad137.add (x71_3).toNat) = some (.float .f64 (rd x9_3 x71_3).toNat)) (ds := []) (Array.replicate 8 false) (by kernel_rfl) rfl rfl ⟨cz_ BK136.out 0, cz_ BK136.out 1, cz_ BK136.out 2, cz_ BK136.out 3, cz_ BK136.out 4, cz_ BK136.out 5, cz_ BK136.out 6, hx137_0⟩ (fun hHeld => ?_); refine with_tabW spec_RunBuses.tab15 spec_RunBuses.bits15 (fun HT_ HW_ => ?_)
           generalize w49.drew = w50 at HO_9 HO_10 BK136 HB hx137_0 hHeld ⊢
           refine pS_ 0 76 HT_ ?_
           refine pS_ 1 77 HT_ ?_
           refine pS_ 2 78 HT_ ?_
           refine pS_ 4 80 HT_ ?_
           refine tS_ 3 79 HT_ HW_ hHeld ?_
           refine tS_ 5 81 HT_ HW_ hHeld ?_
           obtain ⟨r1, m1, h1, hf1, hg1⟩ := rbmul_any (P := Try.prog) w50 22 (rd x9_3 x71_3) ((rd_T76 l0 x71_3).f0)
           refine oS_ 6 82 HT_ (fun K hK => ?_)
           refine rbop_ (by rfl) (v := .float .f64 r1.toNat) (w' := w50.drewN m1) (by first | (go_simp; done) | (go_simp; rw [h1]; rfl) | (go_simp; simp [h1]; done)) ?_
           refine hK.out _ _ hHeld (fun hHeld => ?_)
           clear hK K h1
           refine nD_ 82 ?_
           refine pS_ 7 14 HT_ ?_
           refine done_ (done_of HT_.out (by kernel_rfl)) ?_
           have HF1 := am_ hf1
           clear hf1 hg1
           have n0_ := am_ (Kd.R_drewN HO_9.out m1)
           have n2_ := am_ (blk_drewN BK136.out m1)
           have n3_ := am_ (pw_below_drewN HB.out m1)
           clear HO_9 HO_10 BK136 HB hx137_0
           generalize w50.drewN m1 = wz at n0_ n2_ n3_ ⊢
           have HO_9 := n0_
           have BK136 := n2_
           have HB := n3_
           clear n0_ n2_ n3_
           have hcz52_0 := cz_ BK136.out 0
           have hcz52_1 := cz_ BK136.out 1
           have hcz52_2 := cz_ BK136.out 2
           have hcz52_3 := cz_ BK136.out 3
           have hcz52_4 := cz_ BK136.out 4
           have hcz52_5 := cz_ BK136.out 5
           have hcz52_6 := cz_ BK136.out 6
           have hfz52_0 := blk_frozen BK136.out 0
           have hfz52_1 := blk_frozen BK136.out 1
           have hfz52_2 := blk_frozen BK136.out 2
           have hfz52_3 := blk_frozen BK136.out 3
           have hfz52_4 := blk_frozen BK136.out 4
           have hfz52_5 := blk_frozen BK136.out 5
           have hfz52_6 := blk_frozen BK136.out 6
           have p138 : 0 ≤ (x71_3 : Int) := of_eq_true p137
           have q138 : x71_3 < (x9_3.length : Int) := of_eq_true q137
           obtain ⟨ad138, e138, hx138_0⟩ := Kd.at_flt (Kd.R_reads' HO_9.out).2.2 x71_3 p138 q138
           obtain rfl : ad137 = ad138 := (by injection e138)
           replace p138 := eq_true p138
           replace q138 := eq_true q138
           obtain ⟨r2, m2, h2, hf2, hg2⟩ := rbmul_any (P := Try.prog) wz 22 ((rd_T76 l0 x71_3).f1.f0) r1
           obtain ⟨r3, m3, h3, hg3⟩ := rbadd_any (P := Try.prog) (wz.drewN m2) 22 r2 0
           clear hf2
           have HG2 := am_ hg2
           have HG3 := am_ hg3
           clear hg2 hg3
           have h3b : (binOp .add 22 (.float .f64 r2.toNat) (.float .f64 0)).run Try.prog (wz.drewN m2) = .ok (.float .f64 r3.toNat) ((wz.drewN m2).drewN m3) := h3
           clear h3
           go_upto_region 18 with (first | (simp only [h2]) | (simp only [h3b]))
           clear h2 h3b
           by_cases cA : rbfin (rd x9_3 x71_3) = true
           ·have F1 : spec_l2Finite.f (rd x9_3 x71_3) = some true := by rw [rbfin_spec, cA]
            have F2 : spec_l2Finite.f r3 = some false := by
             rw [rbfin_spec]
             have hb := CB.out
             unfold rbbadS at hb
             rw [cA] at hb
             simp only [Bool.not_true, Bool.false_or, Bool.and_eq_true, Bool.not_eq_true'] at hb
             have e1 := HF1.out hb.1
             rw [rbnan_fin (HG3.out (HG2.out (by rw [e1]; exact hb.2)))]
            clear cA
            go_wp2_with (first | ((with_reducible refine gate_callee (f := 38) rfl ?_); refine goesL_ (some 94) rfl rfl Try.func38 (by kernel_rfl) rfl #[.float .f64 (rd x9_3 x71_3).toNat] rfl (by (try simp only [List.map_toArray, List.map_cons, List.map_nil]); first | done | rfl | (simp only [List.length_drop, List.length_take]; rfl)) ?_; (with_reducible refine (spec_l2Finite.calls (rd x9_3 x71_3) true _ F1).mono ?_); rintro e w' ⟨rfl, ⟨nd, rfl⟩⟩; refine ⟨_, rfl, ?_⟩) | (go_at_call 38; (with_reducible refine (spec_l2Finite.calls r3 false _ F2).mono ?_); rintro e w' ⟨rfl, ⟨nd, rfl⟩⟩))
            go_ret3
            exact ⟨_, by first | rfl | (simp [errW_none, errW_some] <;> rfl) | (simp [*, errW_none, errW_some] <;> rfl), by first | exact Kd.R_nil _ _ _ _ _, bw_ HB.out⟩
           ·have F1 : spec_l2Finite.f (rd x9_3 x71_3) = some false := by rw [rbfin_spec, Bool.eq_false_iff.mpr cA]
            clear cA
            go_wp2_with (first | ((with_reducible refine gate_callee (f := 38) rfl ?_); refine goesL_ (some 94) rfl rfl Try.func38 (by kernel_rfl) rfl #[.float .f64 (rd x9_3 x71_3).toNat] rfl (by (try simp only [List.map_toArray, List.map_cons, List.map_nil]); first | done | rfl | (simp only [List.length_drop, List.length_take]; rfl)) ?_; (with_reducible refine (spec_l2Finite.calls (rd x9_3 x71_3) false _ F1).mono ?_); rintro e w' ⟨rfl, ⟨nd, rfl⟩⟩; refine ⟨_, rfl, ?_⟩))
            go_ret3
            exact ⟨_, by first | rfl | (simp [errW_none, errW_some] <;> rfl) | (simp [*, errW_none, errW_some] <;> rfl), by first | exact Kd.R_nil _ _ _ _ _, bw_ HB.out⟩
         ·rw [if_neg c39] at H
          have c39b0 : decide (x71_3 < (l0.length : Int)) = false := decide_eq_false c39
          clear c39
          obtain ⟨t147, A710, H⟩ := bE_ H
          have A71 := am_ A710
          clear A710
          by_cases c72 : t147 = true
          ·subst c72
           replace H := it_ H rfl
           obtain ⟨t148, A730, H⟩ := bE_ H
           have A73 := am_ A730
           clear A730
           simp only [Option.some.injEq, Prod.mk.injEq] at H
           obtain ⟨rfl, rfl, rfl⟩ := H
           go_wp2_with (first | ((with_reducible refine gate_callee (f := 38) rfl ?_); refine goesL_ (some 126) rfl rfl Try.func38 (by kernel_rfl) rfl #[.float .f64 x11_3.toNat] rfl (by (try simp only [List.map_toArray, List.map_cons, List.map_nil]); first | done | rfl | (simp only [List.length_drop, List.length_take]; rfl)) ?_; (with_reducible refine (spec_l2Finite.calls x11_3 true _ A71.out).mono ?_); rintro e w' ⟨rfl, ⟨nd, rfl⟩⟩; refine ⟨_, rfl, ?_⟩) | ((with_reducible refine gate_callee (f := 39) rfl ?_); refine goesL_ (some 130) rfl rfl Try.func39 (by kernel_rfl) rfl #[.float .f64 x11_3.toNat] rfl (by (try simp only [List.map_toArray, List.map_cons, List.map_nil]); first | done | rfl | (simp only [List.length_drop, List.length_take]; rfl)) ?_; (with_reducible refine (spec_l2Plain.calls x11_3 t148 _ A73.out).mono ?_); rintro e w' ⟨rfl, ⟨nd, rfl⟩⟩; refine ⟨_, rfl, ?_⟩))
           go_ret3
           exact ⟨_, by first | rfl | (simp [errW_none, errW_some] <;> rfl) | (simp [*, errW_none, errW_some] <;> rfl), ra_ (Kd.R_mono HO_10.out (fun _ hk => trivial)), bw_ HB.out⟩
          ·replace c72 := Bool.eq_false_iff.mpr c72
           subst c72
           replace H := if_ H Bool.false_ne_true
           simp only [Option.some.injEq, Prod.mk.injEq] at H
           obtain ⟨rfl, rfl, rfl⟩ := H
           go_wp2_with (first | ((with_reducible refine gate_callee (f := 38) rfl ?_); refine goesL_ (some 126) rfl rfl Try.func38 (by kernel_rfl) rfl #[.float .f64 x11_3.toNat] rfl (by (try simp only [List.map_toArray, List.map_cons, List.map_nil]); first | done | rfl | (simp only [List.length_drop, List.length_take]; rfl)) ?_; (with_reducible refine (spec_l2Finite.calls x11_3 false _ A71.out).mono ?_); rintro e w' ⟨rfl, ⟨nd, rfl⟩⟩; refine ⟨_, rfl, ?_⟩))
           go_ret3
           exact ⟨_, by first | rfl | (simp [errW_none, errW_some] <;> rfl) | (simp [*, errW_none, errW_some] <;> rfl), by first | exact Kd.R_nil _ _ _ _ _ | exact Kd.N_nil _ _ _ _ _ | exact Kd.V_nil _ _ _ _ _ | exact Kd.Q_nil _ _ _ _ _ | exact Kd.S_nil _ _ _ _ _, bw_ HB.out⟩
end Go.Proofs.Ytbjdhmgednhdgaa.XFnExactRunBuses
