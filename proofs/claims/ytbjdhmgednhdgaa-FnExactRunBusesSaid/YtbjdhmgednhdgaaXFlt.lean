/- Floats of 64 bits as numbers: a kind (a number's bits, told as a whole number), its reads and movers, and the comparisons. -/
import Derived.Test.YtbjdhmgednhdgaaXWords
import Derived.Test.YtbjdhmgednhdgaaXOpen
namespace Go.Proofs.YtbjdhmgednhdgaaW.PrintWords
open Go.RowKit
abbrev fltV (n : Int) : Value := .float .f64 n.toNat
namespace Kd
def flt : Kd Int := scalar fltV (fun _ => rfl)
theorem heap_flt : Heap Kd.flt := ⟨fun _ h => h⟩
theorem at_flt {w : World} {A : Option Addr} {n : Nat} {xs : List Int} (h : Kd.flt.C w A n xs) (i : Int) (h0 : 0 ≤ i) (h1 : i < n) : ∃ ad, A = some ad ∧ w.cell? (ad.add i.toNat) = some (.float .f64 (rd xs i).toNat) :=
  ReadsOf.at_ (reads_of_C (enc := fltV) (d := (0 : Int)) (h1 := fun _ => rfl) h) i h0 h1
end Kd
end Go.Proofs.YtbjdhmgednhdgaaW.PrintWords
namespace Go.Proofs.YtbjdhmgednhdgaaW.PrintMore
open Go.RowKit Go.Proofs.YtbjdhmgednhdgaaW.PrintWords
/-- a = b, a < b: of two floats' bits. -/
def feq (a b : Nat) : Bool := FloatKind.f64.format.order a b == some .eq
def flt (a b : Nat) : Bool := FloatKind.f64.format.order a b == some .lt
def fgt (a b : Nat) : Bool := FloatKind.f64.format.order a b == some .gt
theorem run_feq (t : TypeId) (a b : Nat) : binOp .eql t (.float .f64 a) (.float .f64 b) = pure (.bool (feq a b)) := by simp [binOp, Op.floatCmp, feq]
theorem run_fneq (t : TypeId) (a b : Nat) : binOp .neq t (.float .f64 a) (.float .f64 b) = pure (.bool (!feq a b)) := by simp [binOp, Op.floatCmp, feq, bne]
theorem run_flss (t : TypeId) (a b : Nat) : binOp .lss t (.float .f64 a) (.float .f64 b) = pure (.bool (flt a b)) := by simp [binOp, Op.floatCmp, flt]
theorem run_fgtr (t : TypeId) (a b : Nat) : binOp .gtr t (.float .f64 a) (.float .f64 b) = pure (.bool (fgt a b)) := by simp [binOp, Op.floatCmp, fgt]
theorem run_fleq (t : TypeId) (a b : Nat) : binOp .leq t (.float .f64 a) (.float .f64 b) = pure (.bool (flt a b || feq a b)) := by simp [binOp, Op.floatCmp, feq, flt]
theorem run_fgeq (t : TypeId) (a b : Nat) : binOp .geq t (.float .f64 a) (.float .f64 b) = pure (.bool (fgt a b || feq a b)) := by simp [binOp, Op.floatCmp, feq, fgt]
theorem run_fconv {P : Program} (w : World) (s t : TypeId) (b : Nat) (hs : P.underlying s = some (.float .f64)) (ht : P.underlying t = some (.float .f64)) : (convert s t (.float .f64 b)).run P w = .ok (.float .f64 b) w := by
  simp [convert, run_underlying hs, run_underlying ht, Conv.floatToFloat]
-- sums, products and quotients that are no NaN
def faddOk (a b : Nat) : Bool := (FloatKind.f64.format.add a b).isSome
def fadd (a b : Nat) : Int := ((FloatKind.f64.format.add a b).getD 0 : Nat)
theorem run_fadd {P : Program} (w : World) (t : TypeId) (a b : Nat) (h : faddOk a b = true) : (binOp .add t (.float .f64 a) (.float .f64 b)).run P w = .ok (.float .f64 (fadd a b).toNat) w := by
  obtain ⟨r, hr⟩ := Option.isSome_iff_exists.1 h
  have e : (fadd a b).toNat = r := by
    unfold fadd
    rw [hr]
    rfl
  rw [e]
  simp [binOp, Op.floatArith, hr]
def fsubOk (a b : Nat) : Bool := (FloatKind.f64.format.sub a b).isSome
def fsub (a b : Nat) : Int := ((FloatKind.f64.format.sub a b).getD 0 : Nat)
theorem run_fsub {P : Program} (w : World) (t : TypeId) (a b : Nat) (h : fsubOk a b = true) : (binOp .sub t (.float .f64 a) (.float .f64 b)).run P w = .ok (.float .f64 (fsub a b).toNat) w := by
  obtain ⟨r, hr⟩ := Option.isSome_iff_exists.1 h
  have e : (fsub a b).toNat = r := by
    unfold fsub
    rw [hr]
    rfl
  rw [e]
  simp [binOp, Op.floatArith, hr]
def fmulOk (a b : Nat) : Bool := (FloatKind.f64.format.mul a b).isSome
def fmul (a b : Nat) : Int := ((FloatKind.f64.format.mul a b).getD 0 : Nat)
theorem run_fmul {P : Program} (w : World) (t : TypeId) (a b : Nat) (h : fmulOk a b = true) : (binOp .mul t (.float .f64 a) (.float .f64 b)).run P w = .ok (.float .f64 (fmul a b).toNat) w := by
  obtain ⟨r, hr⟩ := Option.isSome_iff_exists.1 h
  have e : (fmul a b).toNat = r := by
    unfold fmul
    rw [hr]
    rfl
  rw [e]
  simp [binOp, Op.floatArith, hr]
def fdivOk (a b : Nat) : Bool := (FloatKind.f64.format.div a b).isSome
def fdiv (a b : Nat) : Int := ((FloatKind.f64.format.div a b).getD 0 : Nat)
theorem run_fdiv {P : Program} (w : World) (t : TypeId) (a b : Nat) (h : fdivOk a b = true) : (binOp .quo t (.float .f64 a) (.float .f64 b)).run P w = .ok (.float .f64 (fdiv a b).toNat) w := by
  obtain ⟨r, hr⟩ := Option.isSome_iff_exists.1 h
  have e : (fdiv a b).toNat = r := by
    unfold fdiv
    rw [hr]
    rfl
  rw [e]
  simp [binOp, Op.floatArith, hr]
def fofI (n : Int) : Int := (FloatKind.f64.nearest n : Nat)
theorem run_fofI {P : Program} (w : World) (src dst : TypeId) (q : IntKind) (n : Int) (hs : (P.underlying src).isSome = true) (hd : P.underlying dst = some (.float .f64)) : (convert src dst (.int q n)).run P w = .ok (.float .f64 (fofI n).toNat) w := by
  have e : (fofI n).toNat = FloatKind.f64.nearest n := rfl
  rw [e]
  obtain ⟨s, hs'⟩ := Option.isSome_iff_exists.1 hs
  cases s <;> simp [convert, run_underlying hs', run_underlying hd, Conv.intToFloat]
theorem run_store_flt (P : Program) (w : World) (a : Addr) (m : Mode) (b : Nat) : (store a (.float .f64 b) m).run P w = stored P w a (.float .f64 b) m := run_store P w a _ m rfl
end Go.Proofs.YtbjdhmgednhdgaaW.PrintMore
namespace Go.Proofs.Ytbjdhmgednhdgaa.X
open Go.ChangeShapes Go.WideShapes Go.Deep Go.RowKit Go.Proofs.YtbjdhmgednhdgaaW.PrintWords
theorem opens_flt {P : Program} {t : TypeId} (ht : P.underlying t = some (.float .f64)) (hc : P.cellsOf t = 1) : Opens P t Kd.flt (fun n => (Lit.float .f64 n.toNat).wf = true) := by
  refine ⟨hc, fun {H enc w base spare held fuel cs x} h => ?_⟩
  cases fuel with
  | zero => simp [DataW.trod] at h
  | succ n =>
    unfold DataW.trod at h
    simp only [ht] at h
    match cs, h with
    | [.float k b], h =>
      simp only at h
      split at h
      · rename_i hw
        obtain ⟨rfl, hw⟩ := hw
        exact ⟨(b : Int), rfl, by simpa using hw⟩
      · cases h
    | [], h => cases h
    | a :: b :: r, h => cases a <;> simp at h
    | [.bool _], h => cases h
    | [.int _ _], h => cases h
    | [.string _], h => cases h
    | [.pointer _], h => cases h
    | [.slice _ _ _], h => cases h
    | [.agg _], h => cases h
    | [.map _], h => cases h
    | [.complex _ _ _], h => cases h
    | [.nilFunc], h => cases h
    | [.nilIface], h => cases h
    | [.iface _ _], h => cases h
    | [.func _ _ _], h => cases h
    | [.tuple _], h => cases h
    | [.chan _], h => cases h
end Go.Proofs.Ytbjdhmgednhdgaa.X
