/- The law FnExactPowerOf of the given program, joined: its Go text, walked, answers true for every input that reads as data. -/
import Derived.Test.YtbjdhmgednhdgaaXFlt
import Derived.Test.YtbjdhmgednhdgaaRows
import Derived.Test.YtbjdhmgednhdgaaXFnExactPowerOfx2
import Derived.Test.YtbjdhmgednhdgaaPureFnExactPowerOf
import Derived.Test.YtbjdhmgednhdgaaXOpen
import Derived.WalkKit
import Derived.ProofKit
import Derived.OpenShut
import Derived.ShutString
import Derived.ChangeOld
import Derived.Below
import Derived.SizedLaws
import Derived.Carry
import Derived.WideShapes
namespace Go.Proofs.Ytbjdhmgednhdgaa.fnExactPowerOf
open Go.ChangeShapes Go.WideShapes Go.ChangeAt Go.RowKit Go.Proofs.Ytbjdhmgednhdgaa.XFnExactPowerOf Go.Proofs.YtbjdhmgednhdgaaW.PrintWords
open Go.ChangeMaps (open_string shut_string)
set_option linter.unusedVariables false
theorem own : ownKnob Try.prog.godebug = none := by kernel_rfl
theorem laidOut : laidOutB Try.prog = true := by kernel_rfl
set_option maxRecDepth 100000 in
theorem op22 : X.Opens Try.prog 22 Kd.flt (fun z => (Lit.float .f64 z.toNat).wf = true) := X.opens_flt (by kernel_rfl) (by kernel_rfl)
set_option maxRecDepth 100000 in
theorem op30 : X.Opens Try.prog 30 k30 (fun z => ok30 z) := by
  have h_ := X.opens_struct (d := (Kd.pair Kd.flt Kd.flt)) (f := fun x : S30 => (x.f0, x.f1)) Try.underlying30 (by kernel_rfl) (fun y => ⟨⟨y.1, y.2⟩, rfl⟩) (X.opensF_cons (by rfl) op22 (X.opensF_one (by rfl) op22))
  exact h_.mono (fun z h => h)
set_option maxRecDepth 100000 in
theorem lifted (os : Os) (started : os.Started) (H : Type) (enc : TypeId × Value → H) :
    ReturnsInHanded {} Try.checked os 4 .any (Rows.fnExactPowerOfSpec.pre6 enc Try.prog Try.f4 Rows.fnExactPowerOfRow.domain false) (Rows.fnExactPowerOfSpec.post enc Try.prog Try.f4 false true false false) := by
  refine returnsInHanded_of_change_sized (C := Try.checked) own started (by kernel_rfl) Try.func4
    (ChangeSpec.witness6 (enc := enc) (C := Try.checked) false ⟨#[], #[.agg #[.float .f64 0, .float .f64 0]], []⟩ 8 (by kernel_rfl) (by kernel_rfl) (by kernel_rfl) (by kernel_rfl)) ?_
  intro W base args ds gs before hval0 hW hcnd hsz0 _
  clear hsz0
  have hval : ∀ (j : Nat) t v, Try.f4.params[j]? = some t → args[j]? = some v → Value.okWide Try.prog W .any base t v := hval0
  have hW' := hW
  obtain ⟨p, q, hA0, hV, rfl, hfz, hnd⟩ := hW
  have hA : DataW.TrodAll enc Try.prog W 0 (fun _ => true) true Try.f4.params.toList args.toList ds p := hA0
  rw [Try.params4] at hA hval
  obtain ⟨v0, vs0, d0, ds0, p0, q0, hargs, rfl, rfl, h0, r0⟩ := trodAll_cons hA
  obtain ⟨rfl, rfl, rfl⟩ := trodAll_nil r0
  obtain rfl : args = #[v0] := by cases args; simp_all
  obtain ⟨rfl, rfl⟩ := trodVars_none hV
  obtain ⟨cs0, rfl, _⟩ := okWide_struct Try.underlying30 (hval 0 30 v0 rfl rfl)
  have k0 := h0
  have lt0 : ∀ x ∈ p0, x.block < W.heap.size := by obtain ⟨m, hm⟩ := k0; exact DataW.trod_lt m _ _ _ hm
  obtain ⟨fu0, hf0⟩ := h0
  obtain ⟨z0, hK0, ho0⟩ := op30.2 hf0
  obtain hcs0 := k30_open hK0
  obtain ⟨cs0⟩ := cs0
  obtain rfl : cs0 = _ := hcs0
  clear hA0 hval0
  obtain ⟨k, h⟩ := Pure.FnExactPowerOf z0.f0 z0.f1 ho0.1 ho0.2
  refine (XFnExactPowerOf.laws_FnExactPowerOf.calls k z0.f0 z0.f1 true W h).mono fun e W' hh => ?_
  obtain ⟨rfl, bel⟩ := hh
  exact ⟨_, rfl, _, _, _, [], _, [], hW', trodAll_mk1 (shut_bool Try.underlying4 _), (trodAll_cons_mk (Below.trod laidOut (by kernel_rfl) (of_decide_eq_true (by kernel_rfl)) k0 bel lt0) trodAll_mk0), rfl, bel.frame _, fun h => by cases h⟩
theorem over : Rows.fnExactPowerOfRow.holds Try.pinned (OpenSpec.ofChange Rows.fnExactPowerOfSpec) :=
  OpenClaim.holds_of_wide 4 Try.f4 rfl rfl rfl rfl rfl rfl rfl ⟨rfl, rfl, rfl, rfl, rfl⟩ rfl rfl rfl rfl rfl (by kernel_rfl) Try.func4 (by kernel_rfl)
    (of_decide_eq_true (by kernel_rfl)) (by unfold Func.isWrapper; first | (rw [if_pos (by decide +kernel)]; kernel_rfl) | (rw [if_neg (by decide +kernel)]; exact ⟨rfl, rfl⟩))
    (fun os started H enc _ => lifted os started H enc)
theorem proved : Rows.FnExactPowerOfSaid := over
#print axioms proved
end Go.Proofs.Ytbjdhmgednhdgaa.fnExactPowerOf
namespace Go.Proofs.Ytbjdhmgednhdgaa
/-- The row, under a short name, for the claim. -/
theorem fnExactPowerOf_holds : Rows.FnExactPowerOfSaid := fnExactPowerOf.proved
end Go.Proofs.Ytbjdhmgednhdgaa
