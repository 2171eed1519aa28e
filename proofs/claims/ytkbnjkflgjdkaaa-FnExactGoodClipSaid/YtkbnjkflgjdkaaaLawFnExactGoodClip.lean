/- The law FnExactGoodClip of the given program, joined: its Go text, walked, answers true for every input that reads as data. -/
import Derived.Test.YtkbnjkflgjdkaaaRows
import Derived.Test.YtkbnjkflgjdkaaaXFnExactGoodClipx9
import Derived.Test.YtkbnjkflgjdkaaaPureFnExactGoodClip
import Derived.Test.YtkbnjkflgjdkaaaXOpen
import Derived.WalkKit
import Derived.ProofKit
import Derived.OpenShut
import Derived.ShutString
import Derived.ChangeOld
import Derived.Below
import Derived.SizedLaws
import Derived.Carry
import Derived.WideShapes
namespace Go.Proofs.Ytkbnjkflgjdkaaa.fnExactGoodClip
open Go.ChangeShapes Go.WideShapes Go.ChangeAt Go.RowKit Go.Proofs.Ytkbnjkflgjdkaaa.XFnExactGoodClip Go.Proofs.YtkbnjkflgjdkaaaW.PrintWords
open Go.ChangeMaps (open_string shut_string)
set_option linter.unusedVariables false
theorem own : ownKnob Try.prog.godebug = none := by kernel_rfl
theorem laidOut : laidOutB Try.prog = true := by kernel_rfl
set_option maxRecDepth 100000 in
theorem op3 : X.Opens Try.prog 3 (Kd.int .i64) (fun z => (Lit.int .i64 z).wf = true) := X.opens_int (by kernel_rfl) (by kernel_rfl)
set_option maxRecDepth 100000 in
theorem op9 : X.Opens Try.prog 9 Kd.string (fun z => z.size ≤ maxLen) := X.opens_string (by kernel_rfl) (by kernel_rfl)
set_option maxRecDepth 100000 in
theorem op67 : X.Opens Try.prog 67 k67 (fun z => ok67 z) := by
  have h_ := X.opens_struct (d := (Kd.pair (Kd.int .i64) (Kd.int .i64))) (f := fun x : S67 => (x.f0, x.f1)) Try.underlying67 (by kernel_rfl) (fun y => ⟨⟨y.1, y.2⟩, rfl⟩) (X.opensF_cons (by rfl) op3 (X.opensF_one (by rfl) op3))
  exact h_.mono (fun z h => h)
set_option maxRecDepth 100000 in
theorem op50 : X.Opens Try.prog 50 (Kd.slice 67 k67) (fun z => z.length ≤ maxLen ∧ ∀ z261 ∈ z, ok67 z261) := X.opens_slice (by kernel_rfl) (by kernel_rfl) op67
set_option maxRecDepth 100000 in
theorem op52 : X.Opens Try.prog 52 k52 (fun z => ok52 z) := by
  have h_ := X.opens_struct (d := (Kd.pair Kd.string (Kd.slice 67 k67))) (f := fun x : S52 => (x.f0, x.f1)) Try.underlying52 (by kernel_rfl) (fun y => ⟨⟨y.1, y.2⟩, rfl⟩) (X.opensF_cons (by rfl) op9 (X.opensF_one (by rfl) op50))
  exact h_.mono (fun z h => h)
set_option maxRecDepth 100000 in
theorem op22 : X.Opens Try.prog 22 (Kd.slice 52 k52) (fun z => z.length ≤ maxLen ∧ ∀ z262 ∈ z, ok52 z262) := X.opens_slice (by kernel_rfl) (by kernel_rfl) op52
set_option maxRecDepth 100000 in
theorem op54 : X.Opens Try.prog 54 k54 (fun z => ok54 z) := by
  have h_ := X.opens_struct (d := (Kd.pair (Kd.int .i64) Kd.string)) (f := fun x : S54 => (x.f0, x.f1)) Try.underlying54 (by kernel_rfl) (fun y => ⟨⟨y.1, y.2⟩, rfl⟩) (X.opensF_cons (by rfl) op3 (X.opensF_one (by rfl) op9))
  exact h_.mono (fun z h => h)
set_option maxRecDepth 100000 in
theorem op23 : X.Opens Try.prog 23 (Kd.slice 54 k54) (fun z => z.length ≤ maxLen ∧ ∀ z263 ∈ z, ok54 z263) := X.opens_slice (by kernel_rfl) (by kernel_rfl) op54
set_option maxRecDepth 100000 in
theorem op25 : X.Opens Try.prog 25 k25 (fun z => ok25 z) := by
  have h_ := X.opens_struct (d := (Kd.pair (Kd.int .i64) (Kd.pair (Kd.slice 52 k52) (Kd.slice 54 k54)))) (f := fun x : S25 => (x.f0, x.f1, x.f2)) Try.underlying25 (by kernel_rfl) (fun y => ⟨⟨y.1, y.2.1, y.2.2⟩, rfl⟩) (X.opensF_cons (by rfl) op3 (X.opensF_cons (by rfl) op22 (X.opensF_one (by rfl) op23)))
  exact h_.mono (fun z h => h)
set_option maxRecDepth 100000 in
theorem lifted (os : Os) (started : os.Started) (H : Type) (enc : TypeId × Value → H) :
    ReturnsInHanded {} Try.checked os 3 .any (Rows.fnExactGoodClipSpec.pre6 enc Try.prog Try.f3 Rows.fnExactGoodClipRow.domain false) (Rows.fnExactGoodClipSpec.post enc Try.prog Try.f3 false true false false) := by
  refine returnsInHanded_of_change_sized (C := Try.checked) own started (by kernel_rfl) Try.func3
    (ChangeSpec.witness6 (enc := enc) (C := Try.checked) false ⟨#[], #[.agg #[.int .i64 0, .slice none 0 0, .slice none 0 0]], []⟩ 8 (by kernel_rfl) (by kernel_rfl) (by kernel_rfl) (by kernel_rfl)) ?_
  intro W base args ds gs before hval0 hW hcnd hsz0 _
  clear hsz0
  have hval : ∀ (j : Nat) t v, Try.f3.params[j]? = some t → args[j]? = some v → Value.okWide Try.prog W .any base t v := hval0
  have hW' := hW
  obtain ⟨p, q, hA0, hV, rfl, hfz, hnd⟩ := hW
  have hA : DataW.TrodAll enc Try.prog W 0 (fun _ => true) true Try.f3.params.toList args.toList ds p := hA0
  rw [Try.params3] at hA hval
  obtain ⟨v0, vs0, d0, ds0, p0, q0, hargs, rfl, rfl, h0, r0⟩ := trodAll_cons hA
  obtain ⟨rfl, rfl, rfl⟩ := trodAll_nil r0
  obtain rfl : args = #[v0] := by cases args; simp_all
  obtain ⟨rfl, rfl⟩ := trodVars_none hV
  obtain ⟨cs0, rfl, _⟩ := okWide_struct Try.underlying25 (hval 0 25 v0 rfl rfl)
  have k0 := h0
  have lt0 : ∀ x ∈ p0, x.block < W.heap.size := by obtain ⟨m, hm⟩ := k0; exact DataW.trod_lt m _ _ _ hm
  obtain ⟨fu0, hf0⟩ := h0
  obtain ⟨z0, hK0, ho0⟩ := op25.2 hf0
  obtain ⟨A0_1, c0_1, A0_2, c0_2, hcs0, hc0_1, hr0_1, hc0_2, hr0_2⟩ := k25_open hK0
  obtain ⟨cs0⟩ := cs0
  obtain rfl : cs0 = _ := hcs0
  clear hA0 hval0
  obtain ⟨k, h⟩ := Pure.FnExactGoodClip z0.f0 z0.f1 z0.f2 ho0.1 ho0.2.1 ho0.2.2
  refine (XFnExactGoodClip.laws_FnExactGoodClip.calls k z0.f0 _ _ z0.f1 _ _ z0.f2 true W hr0_1 hc0_1 hr0_2 hc0_2 h).mono fun e W' hh => ?_
  obtain ⟨rfl, bel⟩ := hh
  exact ⟨_, rfl, _, _, _, [], _, [], hW', trodAll_mk1 (shut_bool Try.underlying4 _), (trodAll_cons_mk (Below.trod laidOut (by kernel_rfl) (of_decide_eq_true (by kernel_rfl)) k0 bel lt0) trodAll_mk0), rfl, bel.frame _, fun h => by cases h⟩
theorem over : Rows.fnExactGoodClipRow.holds Try.pinned (OpenSpec.ofChange Rows.fnExactGoodClipSpec) :=
  OpenClaim.holds_of_wide 3 Try.f3 rfl rfl rfl rfl rfl rfl rfl ⟨rfl, rfl, rfl, rfl, rfl⟩ rfl rfl rfl rfl rfl (by kernel_rfl) Try.func3 (by kernel_rfl)
    (of_decide_eq_true (by kernel_rfl)) (by unfold Func.isWrapper; first | (rw [if_pos (by decide +kernel)]; kernel_rfl) | (rw [if_neg (by decide +kernel)]; exact ⟨rfl, rfl⟩))
    (fun os started H enc _ => lifted os started H enc)
theorem proved : Rows.FnExactGoodClipSaid := over
#print axioms proved
end Go.Proofs.Ytkbnjkflgjdkaaa.fnExactGoodClip
namespace Go.Proofs.Ytkbnjkflgjdkaaa
/-- The row, under a short name, for the claim. -/
theorem fnExactGoodClip_holds : Rows.FnExactGoodClipSaid := fnExactGoodClip.proved
end Go.Proofs.Ytkbnjkflgjdkaaa
