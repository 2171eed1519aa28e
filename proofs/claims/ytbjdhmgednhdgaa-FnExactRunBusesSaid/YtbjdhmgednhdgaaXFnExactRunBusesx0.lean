/- What the Go functions that this law comes to compute, each walked; written by a program of this session. -/
import Derived.Great.BuildSlice
import Derived.Test.YtbjdhmgednhdgaaXFlt
import Derived.Test.YtbjdhmgednhdgaaProg
import Derived.Below
import Derived.Deep.Draws
import Derived.Deep.AppendLies
import Derived.Maps.AppendAt
import Derived.OwnWalk
import Derived.Laws.BytesArg
import Derived.Laws.MakeOwn
import Derived.Laws.OwnMore
import Derived.Deep.OwnRows
import Derived.Tactics
import Derived.Lib.ConvBytes
import Derived.Laws.Slices
import Derived.WalkKit
import Derived.KernelRfl
import Derived.RowKit3
import Derived.Deep.LoopGhost
import Derived.Deep.QuietTactic
import Derived.BigQuiet
import Derived.WideLaws
import Derived.Deep.DeepCutAuto
import Derived.Deep.CutBlock
import Derived.Deep.RegionHeld3
import Derived.Laws.Rows
import Derived.Lib.AppendStr
import Derived.ArgAppend
import Derived.Laws.IdiomCopy
import Derived.OrdersHeld
import Derived.Laws.BitsLemmas
import Derived.RowKit
import Derived.Test.YtbjdhmgednhdgaaXStep
import Derived.Test.YtbjdhmgednhdgaaXWords
namespace Go.Proofs.Ytbjdhmgednhdgaa.XFnExactRunBuses
open Go.RowKit Go.Proofs.YtbjdhmgednhdgaaW.PrintWords Go.Proofs.YtbjdhmgednhdgaaW.PrintLast Go.Proofs.YtbjdhmgednhdgaaW.PrintMore
attribute [local go_sem] run_fadd run_fsub run_fmul run_fdiv run_fconv run_fofI run_feq run_fneq run_flss run_fgtr run_fleq run_fgeq run_store_flt str_geq max2_int min2_int max_two min_two max_three min_three max_four min_four   -- for this text's walks alone
set_option linter.unusedVariables false
set_option linter.unusedSimpArgs false



def errW : Option Int → Value
  | none => .nilIface
  | some c => .iface 0 (.int .i64 c)
theorem errW_none : errW none = .nilIface := rfl
theorem errW_some (c : Int) : errW (some c) = .iface 0 (.int .i64 c) := rfl

theorem info22 : (Try.prog.info? 22).map (fun i => (i.zero, i.size, i.bytes)) = some (some (.float .f64 0), 1, 8) := by kernel_rfl
theorem info76 : (Try.prog.info? 76).map (fun i => (i.zero, i.size, i.bytes)) = some (some (.agg #[(.float .f64 0), (.float .f64 0), (.float .f64 0), (.float .f64 0), (.float .f64 0), (.float .f64 0), (.int .i64 0)]), 7, 56) := by kernel_rfl
-- the values' own types
/-! #### struct type 24 -/
structure S24 where
  f0 : Int
  f1 : Int
  f2 : Int
  f3 : Int
  f4 : Int
def z24 : S24 := ⟨(0 : Int), (0 : Int), (0 : Int), (0 : Int), (0 : Int)⟩
def k24 : Kd S24 := Kd.iso (Kd.pair Kd.flt (Kd.pair Kd.flt (Kd.pair Kd.flt (Kd.pair Kd.flt Kd.flt)))) (fun x : S24 => (x.f0, x.f1, x.f2, x.f3, x.f4))
theorem k24_open {w : World} {x : S24} {cs : List Value} (h : k24.K w x cs) : cs = [.float .f64 x.f0.toNat, .float .f64 x.f1.toNat, .float .f64 x.f2.toNat, .float .f64 x.f3.toNat, .float .f64 x.f4.toNat] := by
  obtain ⟨_, _, rfl, rfl, ⟨_, _, rfl, rfl, ⟨_, _, rfl, rfl, ⟨_, _, rfl, rfl, rfl⟩⟩⟩⟩ := h
  exact rfl
theorem k24_openM {w : World} {base : Nat} {ok : Nat → Prop} {x : S24} {cs : List Value} (h : k24.M w base ok x cs) : cs = [.float .f64 x.f0.toNat, .float .f64 x.f1.toNat, .float .f64 x.f2.toNat, .float .f64 x.f3.toNat, .float .f64 x.f4.toNat] := by
  obtain ⟨_, _, rfl, rfl, ⟨_, _, rfl, rfl, ⟨_, _, rfl, rfl, ⟨_, _, rfl, rfl, rfl⟩⟩⟩⟩ := h
  exact rfl
theorem k24_mk (w : World) (x : S24)  : k24.K w x [.float .f64 x.f0.toNat, .float .f64 x.f1.toNat, .float .f64 x.f2.toNat, .float .f64 x.f3.toNat, .float .f64 x.f4.toNat] := ⟨[.float .f64 x.f0.toNat], [.float .f64 x.f1.toNat, .float .f64 x.f2.toNat, .float .f64 x.f3.toNat, .float .f64 x.f4.toNat], rfl, rfl, ⟨[.float .f64 x.f1.toNat], [.float .f64 x.f2.toNat, .float .f64 x.f3.toNat, .float .f64 x.f4.toNat], rfl, rfl, ⟨[.float .f64 x.f2.toNat], [.float .f64 x.f3.toNat, .float .f64 x.f4.toNat], rfl, rfl, ⟨[.float .f64 x.f3.toNat], [.float .f64 x.f4.toNat], rfl, rfl, rfl⟩⟩⟩⟩
theorem k24_mkM (w : World) (base : Nat) (ok : Nat → Prop) (x : S24)  : k24.M w base ok x [.float .f64 x.f0.toNat, .float .f64 x.f1.toNat, .float .f64 x.f2.toNat, .float .f64 x.f3.toNat, .float .f64 x.f4.toNat] := ⟨[.float .f64 x.f0.toNat], [.float .f64 x.f1.toNat, .float .f64 x.f2.toNat, .float .f64 x.f3.toNat, .float .f64 x.f4.toNat], rfl, rfl, ⟨[.float .f64 x.f1.toNat], [.float .f64 x.f2.toNat, .float .f64 x.f3.toNat, .float .f64 x.f4.toNat], rfl, rfl, ⟨[.float .f64 x.f2.toNat], [.float .f64 x.f3.toNat, .float .f64 x.f4.toNat], rfl, rfl, ⟨[.float .f64 x.f3.toNat], [.float .f64 x.f4.toNat], rfl, rfl, rfl⟩⟩⟩⟩
def rd_T24 (xs : List S24) (i : Int) : S24 := xs.getD i.toNat z24
theorem at_T24 {w : World} {A : Option Addr} {n : Nat} {xs : List S24} (h : Kd.C k24 w A n xs) (i : Int) (h0 : 0 ≤ i) (h1 : i < n) : ∃ ad , A = some ad ∧ w.cell? (ad.add (i.toNat * 5)) = some (.float .f64 (rd_T24 xs i).f0.toNat) ∧ w.cell? ⟨(ad.add (i.toNat * 5)).block, (ad.add (i.toNat * 5)).off + 1, none⟩ = some (.float .f64 (rd_T24 xs i).f1.toNat) ∧ w.cell? ⟨(ad.add (i.toNat * 5)).block, (ad.add (i.toNat * 5)).off + 2, none⟩ = some (.float .f64 (rd_T24 xs i).f2.toNat) ∧ w.cell? ⟨(ad.add (i.toNat * 5)).block, (ad.add (i.toNat * 5)).off + 3, none⟩ = some (.float .f64 (rd_T24 xs i).f3.toNat) ∧ w.cell? ⟨(ad.add (i.toNat * 5)).block, (ad.add (i.toNat * 5)).off + 4, none⟩ = some (.float .f64 (rd_T24 xs i).f4.toNat) := by
  obtain ⟨ad, c, e, _, hK, hc0⟩ := Kd.C_get h z24 i h0 h1
  have hc : ∀ j u, c[j]? = some u → w.cell? (ad.add (i.toNat * 5 + j)) = some u := hc0
  obtain rfl := k24_open hK
  exact ⟨ad, e, hc 0 _ rfl, by rw [← add_field _ _ 1 (by omega)]; exact hc 1 _ rfl, by rw [← add_field _ _ 2 (by omega)]; exact hc 2 _ rfl, by rw [← add_field _ _ 3 (by omega)]; exact hc 3 _ rfl, by rw [← add_field _ _ 4 (by omega)]; exact hc 4 _ rfl⟩

/-! #### struct type 80 -/
structure S80 where
  f0 : Int
  f1 : S24
  f2 : Int
def z80 : S80 := ⟨(0 : Int), z24, (0 : Int)⟩
def k80 : Kd S80 := Kd.iso (Kd.pair Kd.flt (Kd.pair k24 (Kd.int .i64))) (fun x : S80 => (x.f0, x.f1, x.f2))
theorem k80_open {w : World} {x : S80} {cs : List Value} (h : k80.K w x cs) : cs = [.float .f64 x.f0.toNat, .float .f64 x.f1.f0.toNat, .float .f64 x.f1.f1.toNat, .float .f64 x.f1.f2.toNat, .float .f64 x.f1.f3.toNat, .float .f64 x.f1.f4.toNat, .int .i64 x.f2] := by
  obtain ⟨_, _, rfl, rfl, ⟨_, _, rfl, s1, rfl⟩⟩ := h
  obtain rfl := k24_open s1
  exact rfl
theorem k80_openM {w : World} {base : Nat} {ok : Nat → Prop} {x : S80} {cs : List Value} (h : k80.M w base ok x cs) : cs = [.float .f64 x.f0.toNat, .float .f64 x.f1.f0.toNat, .float .f64 x.f1.f1.toNat, .float .f64 x.f1.f2.toNat, .float .f64 x.f1.f3.toNat, .float .f64 x.f1.f4.toNat, .int .i64 x.f2] := by
  obtain ⟨_, _, rfl, rfl, ⟨_, _, rfl, s1, rfl⟩⟩ := h
  obtain rfl := k24_openM s1
  exact rfl
theorem k80_mk (w : World) (x : S80)  : k80.K w x [.float .f64 x.f0.toNat, .float .f64 x.f1.f0.toNat, .float .f64 x.f1.f1.toNat, .float .f64 x.f1.f2.toNat, .float .f64 x.f1.f3.toNat, .float .f64 x.f1.f4.toNat, .int .i64 x.f2] := ⟨[.float .f64 x.f0.toNat], [.float .f64 x.f1.f0.toNat, .float .f64 x.f1.f1.toNat, .float .f64 x.f1.f2.toNat, .float .f64 x.f1.f3.toNat, .float .f64 x.f1.f4.toNat, .int .i64 x.f2], rfl, rfl, ⟨[.float .f64 x.f1.f0.toNat, .float .f64 x.f1.f1.toNat, .float .f64 x.f1.f2.toNat, .float .f64 x.f1.f3.toNat, .float .f64 x.f1.f4.toNat], [.int .i64 x.f2], rfl, (k24_mk w x.f1 ), rfl⟩⟩
theorem k80_mkM (w : World) (base : Nat) (ok : Nat → Prop) (x : S80)  : k80.M w base ok x [.float .f64 x.f0.toNat, .float .f64 x.f1.f0.toNat, .float .f64 x.f1.f1.toNat, .float .f64 x.f1.f2.toNat, .float .f64 x.f1.f3.toNat, .float .f64 x.f1.f4.toNat, .int .i64 x.f2] := ⟨[.float .f64 x.f0.toNat], [.float .f64 x.f1.f0.toNat, .float .f64 x.f1.f1.toNat, .float .f64 x.f1.f2.toNat, .float .f64 x.f1.f3.toNat, .float .f64 x.f1.f4.toNat, .int .i64 x.f2], rfl, rfl, ⟨[.float .f64 x.f1.f0.toNat, .float .f64 x.f1.f1.toNat, .float .f64 x.f1.f2.toNat, .float .f64 x.f1.f3.toNat, .float .f64 x.f1.f4.toNat], [.int .i64 x.f2], rfl, (k24_mkM w base ok x.f1 ), rfl⟩⟩
def rd_T80 (xs : List S80) (i : Int) : S80 := xs.getD i.toNat z80
theorem at_T80 {w : World} {A : Option Addr} {n : Nat} {xs : List S80} (h : Kd.C k80 w A n xs) (i : Int) (h0 : 0 ≤ i) (h1 : i < n) : ∃ ad , A = some ad ∧ w.cell? (ad.add (i.toNat * 7)) = some (.float .f64 (rd_T80 xs i).f0.toNat) ∧ w.cell? ⟨(ad.add (i.toNat * 7)).block, (ad.add (i.toNat * 7)).off + 1, none⟩ = some (.float .f64 (rd_T80 xs i).f1.f0.toNat) ∧ w.cell? ⟨(ad.add (i.toNat * 7)).block, (ad.add (i.toNat * 7)).off + 2, none⟩ = some (.float .f64 (rd_T80 xs i).f1.f1.toNat) ∧ w.cell? ⟨(ad.add (i.toNat * 7)).block, (ad.add (i.toNat * 7)).off + 3, none⟩ = some (.float .f64 (rd_T80 xs i).f1.f2.toNat) ∧ w.cell? ⟨(ad.add (i.toNat * 7)).block, (ad.add (i.toNat * 7)).off + 4, none⟩ = some (.float .f64 (rd_T80 xs i).f1.f3.toNat) ∧ w.cell? ⟨(ad.add (i.toNat * 7)).block, (ad.add (i.toNat * 7)).off + 5, none⟩ = some (.float .f64 (rd_T80 xs i).f1.f4.toNat) ∧ w.cell? ⟨(ad.add (i.toNat * 7)).block, (ad.add (i.toNat * 7)).off + 6, none⟩ = some (.int .i64 (rd_T80 xs i).f2) := by
  obtain ⟨ad, c, e, _, hK, hc0⟩ := Kd.C_get h z80 i h0 h1
  have hc : ∀ j u, c[j]? = some u → w.cell? (ad.add (i.toNat * 7 + j)) = some u := hc0
  obtain rfl := k80_open hK
  exact ⟨ad, e, hc 0 _ rfl, by rw [← add_field _ _ 1 (by omega)]; exact hc 1 _ rfl, by rw [← add_field _ _ 2 (by omega)]; exact hc 2 _ rfl, by rw [← add_field _ _ 3 (by omega)]; exact hc 3 _ rfl, by rw [← add_field _ _ 4 (by omega)]; exact hc 4 _ rfl, by rw [← add_field _ _ 5 (by omega)]; exact hc 5 _ rfl, by rw [← add_field _ _ 6 (by omega)]; exact hc 6 _ rfl⟩

/-! #### struct type 26 -/
structure S26 where
  f0 : Int
  f1 : Int
  f2 : Int
  f3 : Int
  f4 : Int
def z26 : S26 := ⟨(0 : Int), (0 : Int), (0 : Int), (0 : Int), (0 : Int)⟩
def k26 : Kd S26 := Kd.iso (Kd.pair Kd.flt (Kd.pair Kd.flt (Kd.pair Kd.flt (Kd.pair Kd.flt Kd.flt)))) (fun x : S26 => (x.f0, x.f1, x.f2, x.f3, x.f4))
theorem k26_open {w : World} {x : S26} {cs : List Value} (h : k26.K w x cs) : cs = [.float .f64 x.f0.toNat, .float .f64 x.f1.toNat, .float .f64 x.f2.toNat, .float .f64 x.f3.toNat, .float .f64 x.f4.toNat] := by
  obtain ⟨_, _, rfl, rfl, ⟨_, _, rfl, rfl, ⟨_, _, rfl, rfl, ⟨_, _, rfl, rfl, rfl⟩⟩⟩⟩ := h
  exact rfl
theorem k26_openM {w : World} {base : Nat} {ok : Nat → Prop} {x : S26} {cs : List Value} (h : k26.M w base ok x cs) : cs = [.float .f64 x.f0.toNat, .float .f64 x.f1.toNat, .float .f64 x.f2.toNat, .float .f64 x.f3.toNat, .float .f64 x.f4.toNat] := by
  obtain ⟨_, _, rfl, rfl, ⟨_, _, rfl, rfl, ⟨_, _, rfl, rfl, ⟨_, _, rfl, rfl, rfl⟩⟩⟩⟩ := h
  exact rfl
theorem k26_mk (w : World) (x : S26)  : k26.K w x [.float .f64 x.f0.toNat, .float .f64 x.f1.toNat, .float .f64 x.f2.toNat, .float .f64 x.f3.toNat, .float .f64 x.f4.toNat] := ⟨[.float .f64 x.f0.toNat], [.float .f64 x.f1.toNat, .float .f64 x.f2.toNat, .float .f64 x.f3.toNat, .float .f64 x.f4.toNat], rfl, rfl, ⟨[.float .f64 x.f1.toNat], [.float .f64 x.f2.toNat, .float .f64 x.f3.toNat, .float .f64 x.f4.toNat], rfl, rfl, ⟨[.float .f64 x.f2.toNat], [.float .f64 x.f3.toNat, .float .f64 x.f4.toNat], rfl, rfl, ⟨[.float .f64 x.f3.toNat], [.float .f64 x.f4.toNat], rfl, rfl, rfl⟩⟩⟩⟩
theorem k26_mkM (w : World) (base : Nat) (ok : Nat → Prop) (x : S26)  : k26.M w base ok x [.float .f64 x.f0.toNat, .float .f64 x.f1.toNat, .float .f64 x.f2.toNat, .float .f64 x.f3.toNat, .float .f64 x.f4.toNat] := ⟨[.float .f64 x.f0.toNat], [.float .f64 x.f1.toNat, .float .f64 x.f2.toNat, .float .f64 x.f3.toNat, .float .f64 x.f4.toNat], rfl, rfl, ⟨[.float .f64 x.f1.toNat], [.float .f64 x.f2.toNat, .float .f64 x.f3.toNat, .float .f64 x.f4.toNat], rfl, rfl, ⟨[.float .f64 x.f2.toNat], [.float .f64 x.f3.toNat, .float .f64 x.f4.toNat], rfl, rfl, ⟨[.float .f64 x.f3.toNat], [.float .f64 x.f4.toNat], rfl, rfl, rfl⟩⟩⟩⟩
def rd_T26 (xs : List S26) (i : Int) : S26 := xs.getD i.toNat z26
theorem at_T26 {w : World} {A : Option Addr} {n : Nat} {xs : List S26} (h : Kd.C k26 w A n xs) (i : Int) (h0 : 0 ≤ i) (h1 : i < n) : ∃ ad , A = some ad ∧ w.cell? (ad.add (i.toNat * 5)) = some (.float .f64 (rd_T26 xs i).f0.toNat) ∧ w.cell? ⟨(ad.add (i.toNat * 5)).block, (ad.add (i.toNat * 5)).off + 1, none⟩ = some (.float .f64 (rd_T26 xs i).f1.toNat) ∧ w.cell? ⟨(ad.add (i.toNat * 5)).block, (ad.add (i.toNat * 5)).off + 2, none⟩ = some (.float .f64 (rd_T26 xs i).f2.toNat) ∧ w.cell? ⟨(ad.add (i.toNat * 5)).block, (ad.add (i.toNat * 5)).off + 3, none⟩ = some (.float .f64 (rd_T26 xs i).f3.toNat) ∧ w.cell? ⟨(ad.add (i.toNat * 5)).block, (ad.add (i.toNat * 5)).off + 4, none⟩ = some (.float .f64 (rd_T26 xs i).f4.toNat) := by
  obtain ⟨ad, c, e, _, hK, hc0⟩ := Kd.C_get h z26 i h0 h1
  have hc : ∀ j u, c[j]? = some u → w.cell? (ad.add (i.toNat * 5 + j)) = some u := hc0
  obtain rfl := k26_open hK
  exact ⟨ad, e, hc 0 _ rfl, by rw [← add_field _ _ 1 (by omega)]; exact hc 1 _ rfl, by rw [← add_field _ _ 2 (by omega)]; exact hc 2 _ rfl, by rw [← add_field _ _ 3 (by omega)]; exact hc 3 _ rfl, by rw [← add_field _ _ 4 (by omega)]; exact hc 4 _ rfl⟩

/-! #### struct type 76 -/
structure S76 where
  f0 : Int
  f1 : S26
  f2 : Int
def z76 : S76 := ⟨(0 : Int), z26, (0 : Int)⟩
def k76 : Kd S76 := Kd.iso (Kd.pair Kd.flt (Kd.pair k26 (Kd.int .i64))) (fun x : S76 => (x.f0, x.f1, x.f2))
theorem k76_open {w : World} {x : S76} {cs : List Value} (h : k76.K w x cs) : cs = [.float .f64 x.f0.toNat, .float .f64 x.f1.f0.toNat, .float .f64 x.f1.f1.toNat, .float .f64 x.f1.f2.toNat, .float .f64 x.f1.f3.toNat, .float .f64 x.f1.f4.toNat, .int .i64 x.f2] := by
  obtain ⟨_, _, rfl, rfl, ⟨_, _, rfl, s1, rfl⟩⟩ := h
  obtain rfl := k26_open s1
  exact rfl
theorem k76_openM {w : World} {base : Nat} {ok : Nat → Prop} {x : S76} {cs : List Value} (h : k76.M w base ok x cs) : cs = [.float .f64 x.f0.toNat, .float .f64 x.f1.f0.toNat, .float .f64 x.f1.f1.toNat, .float .f64 x.f1.f2.toNat, .float .f64 x.f1.f3.toNat, .float .f64 x.f1.f4.toNat, .int .i64 x.f2] := by
  obtain ⟨_, _, rfl, rfl, ⟨_, _, rfl, s1, rfl⟩⟩ := h
  obtain rfl := k26_openM s1
  exact rfl
theorem k76_mk (w : World) (x : S76)  : k76.K w x [.float .f64 x.f0.toNat, .float .f64 x.f1.f0.toNat, .float .f64 x.f1.f1.toNat, .float .f64 x.f1.f2.toNat, .float .f64 x.f1.f3.toNat, .float .f64 x.f1.f4.toNat, .int .i64 x.f2] := ⟨[.float .f64 x.f0.toNat], [.float .f64 x.f1.f0.toNat, .float .f64 x.f1.f1.toNat, .float .f64 x.f1.f2.toNat, .float .f64 x.f1.f3.toNat, .float .f64 x.f1.f4.toNat, .int .i64 x.f2], rfl, rfl, ⟨[.float .f64 x.f1.f0.toNat, .float .f64 x.f1.f1.toNat, .float .f64 x.f1.f2.toNat, .float .f64 x.f1.f3.toNat, .float .f64 x.f1.f4.toNat], [.int .i64 x.f2], rfl, (k26_mk w x.f1 ), rfl⟩⟩
theorem k76_mkM (w : World) (base : Nat) (ok : Nat → Prop) (x : S76)  : k76.M w base ok x [.float .f64 x.f0.toNat, .float .f64 x.f1.f0.toNat, .float .f64 x.f1.f1.toNat, .float .f64 x.f1.f2.toNat, .float .f64 x.f1.f3.toNat, .float .f64 x.f1.f4.toNat, .int .i64 x.f2] := ⟨[.float .f64 x.f0.toNat], [.float .f64 x.f1.f0.toNat, .float .f64 x.f1.f1.toNat, .float .f64 x.f1.f2.toNat, .float .f64 x.f1.f3.toNat, .float .f64 x.f1.f4.toNat, .int .i64 x.f2], rfl, rfl, ⟨[.float .f64 x.f1.f0.toNat, .float .f64 x.f1.f1.toNat, .float .f64 x.f1.f2.toNat, .float .f64 x.f1.f3.toNat, .float .f64 x.f1.f4.toNat], [.int .i64 x.f2], rfl, (k26_mkM w base ok x.f1 ), rfl⟩⟩
def rd_T76 (xs : List S76) (i : Int) : S76 := xs.getD i.toNat z76
theorem at_T76 {w : World} {A : Option Addr} {n : Nat} {xs : List S76} (h : Kd.C k76 w A n xs) (i : Int) (h0 : 0 ≤ i) (h1 : i < n) : ∃ ad , A = some ad ∧ w.cell? (ad.add (i.toNat * 7)) = some (.float .f64 (rd_T76 xs i).f0.toNat) ∧ w.cell? ⟨(ad.add (i.toNat * 7)).block, (ad.add (i.toNat * 7)).off + 1, none⟩ = some (.float .f64 (rd_T76 xs i).f1.f0.toNat) ∧ w.cell? ⟨(ad.add (i.toNat * 7)).block, (ad.add (i.toNat * 7)).off + 2, none⟩ = some (.float .f64 (rd_T76 xs i).f1.f1.toNat) ∧ w.cell? ⟨(ad.add (i.toNat * 7)).block, (ad.add (i.toNat * 7)).off + 3, none⟩ = some (.float .f64 (rd_T76 xs i).f1.f2.toNat) ∧ w.cell? ⟨(ad.add (i.toNat * 7)).block, (ad.add (i.toNat * 7)).off + 4, none⟩ = some (.float .f64 (rd_T76 xs i).f1.f3.toNat) ∧ w.cell? ⟨(ad.add (i.toNat * 7)).block, (ad.add (i.toNat * 7)).off + 5, none⟩ = some (.float .f64 (rd_T76 xs i).f1.f4.toNat) ∧ w.cell? ⟨(ad.add (i.toNat * 7)).block, (ad.add (i.toNat * 7)).off + 6, none⟩ = some (.int .i64 (rd_T76 xs i).f2) := by
  obtain ⟨ad, c, e, _, hK, hc0⟩ := Kd.C_get h z76 i h0 h1
  have hc : ∀ j u, c[j]? = some u → w.cell? (ad.add (i.toNat * 7 + j)) = some u := hc0
  obtain rfl := k76_open hK
  exact ⟨ad, e, hc 0 _ rfl, by rw [← add_field _ _ 1 (by omega)]; exact hc 1 _ rfl, by rw [← add_field _ _ 2 (by omega)]; exact hc 2 _ rfl, by rw [← add_field _ _ 3 (by omega)]; exact hc 3 _ rfl, by rw [← add_field _ _ 4 (by omega)]; exact hc 4 _ rfl, by rw [← add_field _ _ 5 (by omega)]; exact hc 5 _ rfl, by rw [← add_field _ _ 6 (by omega)]; exact hc 6 _ rfl⟩

def rd_L7 (xs : List (List S80)) (i : Int) : (List S80) := xs.getD i.toNat ([] : List S80)
theorem at_L7 {w : World} {A : Option Addr} {n : Nat} {xs : List (List S80)} (h : Kd.C (Kd.slice 80 k80) w A n xs) (i : Int) (h0 : 0 ≤ i) (h1 : i < n) : ∃ ad A0 c0, A = some ad ∧ w.cell? (ad.add i.toNat) = some (.slice A0 (rd_L7 xs i).length c0) ∧ (rd_L7 xs i).length ≤ c0 ∧ k80.C w A0 (rd_L7 xs i).length (rd_L7 xs i) := by
  obtain ⟨ad, c, e, _, hK, hc0⟩ := Kd.C_get h ([] : List S80) i h0 h1
  have hc : ∀ j u, c[j]? = some u → w.cell? (ad.add (i.toNat * 1 + j)) = some u := hc0
  obtain ⟨A0, c0, rfl, l0, g0⟩ := hK
  exact ⟨ad, A0, c0, e, by have hq := hc 0 _ rfl; rwa [Nat.mul_one, Nat.add_zero] at hq, l0, g0⟩

def rd_L8 (xs : List (List Int)) (i : Int) : (List Int) := xs.getD i.toNat ([] : List Int)
theorem at_L8 {w : World} {A : Option Addr} {n : Nat} {xs : List (List Int)} (h : Kd.C (Kd.slice 22 Kd.flt) w A n xs) (i : Int) (h0 : 0 ≤ i) (h1 : i < n) : ∃ ad A0 c0, A = some ad ∧ w.cell? (ad.add i.toNat) = some (.slice A0 (rd_L8 xs i).length c0) ∧ (rd_L8 xs i).length ≤ c0 ∧ Kd.flt.C w A0 (rd_L8 xs i).length (rd_L8 xs i) := by
  obtain ⟨ad, c, e, _, hK, hc0⟩ := Kd.C_get h ([] : List Int) i h0 h1
  have hc : ∀ j u, c[j]? = some u → w.cell? (ad.add (i.toNat * 1 + j)) = some u := hc0
  obtain ⟨A0, c0, rfl, l0, g0⟩ := hK
  exact ⟨ad, A0, c0, e, by have hq := hc 0 _ rfl; rwa [Nat.mul_one, Nat.add_zero] at hq, l0, g0⟩

def rbfin (x : Int) : Bool := !(!feq x.toNat x.toNat) && !(fgt (Go.bits .andNot .u64 (x.toNat : Int) 9223372036854775808).toNat 9218868437227405311)
theorem srow_ {P : Program} {ops : Array Oper} {rest : List Oper} {o : Oper} {a : Act} {w : World} {Q : Exit → Act → World → Prop} {z : Option Value} {n b : Nat} (ty : TypeId) (x y : Operand) (g : Nat) (cells old : Array Value) (hg : w.heap[g]? = some (.cells old ty (0, 0))) (hi : (P.info? ty).map (fun i => (i.zero, i.size, i.bytes)) = some (z, n, b))
    (h : ∀ w1, w1.heap[g]? = some (.cells cells ty (0, 0)) → (∀ k, k ≠ g → w1.heap[k]? = w.heap[k]?) → (∀ (B : Nat) (w0 : World), Below B w0 w → B ≤ g → Below B w0 w1) → wpList P ops Q rest a w1)
    (hn : cells.size = n := by rfl) (ho1 : old.size = cells.size := by rfl) (h1 : cells.toList.all (·.oneCell') = true := by rfl) (hx : a.eval x = .pointer (some ⟨g, 0, none⟩) := by rfl) (hy : a.eval y = .agg cells := by rfl) (hgd : o.guard = none := by rfl) (hd : o.dst = none := by rfl) (ho : o.op = .store ty x y := by rfl) : wpList P ops Q (o :: rest) a w := by
  have hs : (P.info? ty).map (·.size) = some cells.size := by
    cases hq : P.info? ty with
    | none => rw [hq] at hi; cases hi
    | some i =>
      rw [hq, Option.map_some, Option.some.injEq, Prod.mk.injEq, Prod.mk.injEq] at hi
      rw [Option.map_some, hi.2.1, hn]
  refine wpList_store_row hgd ty x y ho g cells hx hy ty old hg hs ho1 (by rw [← Array.all_toList]; exact h1) ?_
  rw [hd]
  refine h _ (by simp [World.setRow, Array.getElem?_modify, hg]) (fun k hk => by simp [World.setRow, Array.getElem?_modify, Ne.symm hk]) (fun B w0 hb hle => hb.trans ⟨rfl, rfl, rfl, by simp [World.setRow], fun k hk => by simp [World.setRow, Array.getElem?_modify, show g ≠ k by omega]⟩)
end Go.Proofs.Ytbjdhmgednhdgaa.XFnExactRunBuses
