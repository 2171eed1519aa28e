/- The law FnExactGoodBoxes of the given program, joined: its Go text, walked, answers true for every input that reads as data. -/
import Derived.Test.YteafbkfglchggaaRows
import Derived.Test.YteafbkfglchggaaXFnExactGoodBoxesx4
import Derived.Test.YteafbkfglchggaaPureFnExactGoodBoxes
import Derived.Test.YteafbkfglchggaaXOpen
import Derived.WalkKit
import Derived.ProofKit
import Derived.OpenShut
import Derived.ShutString
import Derived.ChangeOld
import Derived.Below
import Derived.SizedLaws
import Derived.Carry
import Derived.WideShapes
namespace Go.Proofs.Yteafbkfglchggaa.fnExactGoodBoxes
open Go.ChangeShapes Go.WideShapes Go.ChangeAt Go.RowKit Go.Proofs.Yteafbkfglchggaa.XFnExactGoodBoxes Go.Proofs.YteafbkfglchggaaW.PrintWords
open Go.ChangeMaps (open_string shut_string)
set_option linter.unusedVariables false
theorem own : ownKnob Try.prog.godebug = none := by kernel_rfl
theorem laidOut : laidOutB Try.prog = true := by kernel_rfl
theorem op3 : X.Opens Try.prog 3 (Kd.int .i64) (fun z => (Lit.int .i64 z).wf = true) := X.opens_int (by kernel_rfl) (by kernel_rfl)
theorem op69 : X.Opens Try.prog 69 k69 (fun z => ok69 z) := by
  have h_ := X.opens_struct (d := (Kd.pair (Kd.int .i64) (Kd.pair (Kd.int .i64) (Kd.pair (Kd.int .i64) (Kd.pair (Kd.int .i64) (Kd.int .i64)))))) (f := fun x : S69 => (x.f0, x.f1, x.f2, x.f3, x.f4)) Try.underlying69 (by kernel_rfl) (fun y => ⟨⟨y.1, y.2.1, y.2.2.1, y.2.2.2.1, y.2.2.2.2⟩, rfl⟩) (X.opensF_cons (by rfl) op3 (X.opensF_cons (by rfl) op3 (X.opensF_cons (by rfl) op3 (X.opensF_cons (by rfl) op3 (X.opensF_one (by rfl) op3)))))
  exact h_.mono (fun z h => h)
theorem op52 : X.Opens Try.prog 52 (Kd.slice 69 k69) (fun z => z.length ≤ maxLen ∧ ∀ z166 ∈ z, ok69 z166) := X.opens_slice (by kernel_rfl) (by kernel_rfl) op69
set_option maxRecDepth 100000 in
theorem lifted (os : Os) (started : os.Started) (H : Type) (enc : TypeId × Value → H) :
    ReturnsInHanded {} Try.checked os 8 .any (Rows.fnExactGoodBoxesSpec.pre6 enc Try.prog Try.f8 Rows.fnExactGoodBoxesRow.domain false) (Rows.fnExactGoodBoxesSpec.post enc Try.prog Try.f8 false true false false) := by
  refine returnsInHanded_of_change_sized (C := Try.checked) own started (by kernel_rfl) Try.func8
    (ChangeSpec.witness6 (enc := enc) (C := Try.checked) false ⟨#[], #[.slice none 0 0], []⟩ 8 (by kernel_rfl) (by kernel_rfl) (by kernel_rfl) (by kernel_rfl)) ?_
  intro W base args ds gs before hval0 hW hcnd hsz0 _
  clear hsz0
  have hval : ∀ (j : Nat) t v, Try.f8.params[j]? = some t → args[j]? = some v → Value.okWide Try.prog W .any base t v := hval0
  have hW' := hW
  obtain ⟨p, q, hA0, hV, rfl, hfz, hnd⟩ := hW
  have hA : DataW.TrodAll enc Try.prog W 0 (fun _ => true) true Try.f8.params.toList args.toList ds p := hA0
  rw [Try.params8] at hA hval
  obtain ⟨v0, vs0, d0, ds0, p0, q0, hargs, rfl, rfl, h0, r0⟩ := trodAll_cons hA
  obtain ⟨rfl, rfl, rfl⟩ := trodAll_nil r0
  obtain rfl : args = #[v0] := by cases args; simp_all
  obtain ⟨rfl, rfl⟩ := trodVars_none hV
  obtain ⟨a0, len0, cap0, rfl⟩ := okWide_slice Try.underlying52 (hval 0 52 v0 rfl rfl)
  have k0 := h0
  have lt0 : ∀ x ∈ p0, x.block < W.heap.size := by obtain ⟨m, hm⟩ := k0; exact DataW.trod_lt m _ _ _ hm
  obtain ⟨fu0, hf0⟩ := h0
  obtain ⟨l0, ⟨A0, c0, hcs0, hc0, hr0⟩, hl0, ho0⟩ := op52.2 hf0
  obtain ⟨rfl, rfl, rfl⟩ : a0 = A0 ∧ len0 = l0.length ∧ cap0 = c0 := by simpa [Value.cells] using hcs0
  clear hA0 hval0
  obtain ⟨k, h⟩ := Pure.FnExactGoodBoxes l0 ⟨hl0, ho0⟩
  refine (XFnExactGoodBoxes.laws_FnExactGoodBoxes.calls k _ _ l0 true W hr0 hc0 h).mono fun e W' hh => ?_
  obtain ⟨rfl, bel⟩ := hh
  exact ⟨_, rfl, _, _, _, [], _, [], hW', trodAll_mk1 (shut_bool Try.underlying4 _), (trodAll_cons_mk (Below.trod laidOut (by kernel_rfl) (of_decide_eq_true (by kernel_rfl)) k0 bel lt0) trodAll_mk0), rfl, bel.frame _, fun h => by cases h⟩
theorem over : Rows.fnExactGoodBoxesRow.holds Try.pinned (OpenSpec.ofChange Rows.fnExactGoodBoxesSpec) :=
  OpenClaim.holds_of_wide 8 Try.f8 rfl rfl rfl rfl rfl rfl rfl ⟨rfl, rfl, rfl, rfl, rfl⟩ rfl rfl rfl rfl rfl (by kernel_rfl) Try.func8 (by kernel_rfl)
    (of_decide_eq_true (by kernel_rfl)) (by unfold Func.isWrapper; first | (rw [if_pos (by decide +kernel)]; kernel_rfl) | (rw [if_neg (by decide +kernel)]; exact ⟨rfl, rfl⟩))
    (fun os started H enc _ => lifted os started H enc)
theorem proved : Rows.FnExactGoodBoxesSaid := over
#print axioms proved
end Go.Proofs.Yteafbkfglchggaa.fnExactGoodBoxes
namespace Go.Proofs.Yteafbkfglchggaa
/-- The row, under a short name, for the claim. -/
theorem fnExactGoodBoxes_holds : Rows.FnExactGoodBoxesSaid := fnExactGoodBoxes.proved
end Go.Proofs.Yteafbkfglchggaa
