/- The law FnExactLayOut of the given program, joined: its Go text, walked, answers true for every input that reads as data. -/
import Derived.Test.YtgfppioaggeleaaRows
import Derived.Test.YtgfppioaggeleaaXFnExactLayOutx15
import Derived.Test.YtgfppioaggeleaaPureFnExactLayOut
import Derived.Test.YtgfppioaggeleaaXOpen
import Derived.WalkKit
import Derived.ProofKit
import Derived.OpenShut
import Derived.ShutString
import Derived.ChangeOld
import Derived.Below
import Derived.SizedLaws
import Derived.Carry
import Derived.WideShapes
namespace Go.Proofs.Ytgfppioaggeleaa.fnExactLayOut
open Go.ChangeShapes Go.WideShapes Go.ChangeAt Go.RowKit Go.Proofs.Ytgfppioaggeleaa.XFnExactLayOut Go.Proofs.YtgfppioaggeleaaW.PrintWords
open Go.ChangeMaps (open_string shut_string)
set_option linter.unusedVariables false
theorem own : ownKnob Try.prog.godebug = none := by kernel_rfl
theorem laidOut : laidOutB Try.prog = true := by kernel_rfl
set_option maxRecDepth 100000 in
theorem op3 : X.Opens Try.prog 3 (Kd.int .i64) (fun z => (Lit.int .i64 z).wf = true) := X.opens_int (by kernel_rfl) (by kernel_rfl)
set_option maxRecDepth 100000 in
theorem op77 : X.Opens Try.prog 77 k77 (fun z => ok77 z) := by
  have h_ := X.opens_struct (d := (Kd.pair (Kd.int .i64) (Kd.pair (Kd.int .i64) (Kd.pair (Kd.int .i64) (Kd.pair (Kd.int .i64) (Kd.int .i64)))))) (f := fun x : S77 => (x.f0, x.f1, x.f2, x.f3, x.f4)) Try.underlying77 (by kernel_rfl) (fun y => ⟨⟨y.1, y.2.1, y.2.2.1, y.2.2.2.1, y.2.2.2.2⟩, rfl⟩) (X.opensF_cons (by rfl) op3 (X.opensF_cons (by rfl) op3 (X.opensF_cons (by rfl) op3 (X.opensF_cons (by rfl) op3 (X.opensF_one (by rfl) op3)))))
  exact h_.mono (fun z h => h)
set_option maxRecDepth 100000 in
theorem op34 : X.Opens Try.prog 34 (Kd.slice 77 k77) (fun z => z.length ≤ maxLen ∧ ∀ z355 ∈ z, ok77 z355) := X.opens_slice (by kernel_rfl) (by kernel_rfl) op77
set_option maxRecDepth 100000 in
theorem lifted (os : Os) (started : os.Started) (H : Type) (enc : TypeId × Value → H) :
    ReturnsInHanded {} Try.checked os 4 .any (Rows.fnExactLayOutSpec.pre6 enc Try.prog Try.f4 Rows.fnExactLayOutRow.domain false) (Rows.fnExactLayOutSpec.post enc Try.prog Try.f4 false true false false) := by
  refine returnsInHanded_of_change_sized (C := Try.checked) own started (by kernel_rfl) Try.func4
    (ChangeSpec.witness6 (enc := enc) (C := Try.checked) false ⟨#[], #[.slice none 0 0, .int .i64 0, .int .i64 0], []⟩ 8 (by kernel_rfl) (by kernel_rfl) (by kernel_rfl) (by kernel_rfl)) ?_
  intro W base args ds gs before hval0 hW hcnd hsz0 _
  clear hsz0
  have hval : ∀ (j : Nat) t v, Try.f4.params[j]? = some t → args[j]? = some v → Value.okWide Try.prog W .any base t v := hval0
  have hW' := hW
  obtain ⟨p, q, hA0, hV, rfl, hfz, hnd⟩ := hW
  have hA : DataW.TrodAll enc Try.prog W 0 (fun _ => true) true Try.f4.params.toList args.toList ds p := hA0
  rw [Try.params4] at hA hval
  obtain ⟨v0, vs0, d0, ds0, p0, q0, hargs, rfl, rfl, h0, r0⟩ := trodAll_cons hA
  obtain ⟨v1, vs1, d1, ds1, p1, q1, rfl, rfl, rfl, h1, r1⟩ := trodAll_cons r0
  obtain ⟨v2, vs2, d2, ds2, p2, q2, rfl, rfl, rfl, h2, r2⟩ := trodAll_cons r1
  obtain ⟨rfl, rfl, rfl⟩ := trodAll_nil r2
  obtain rfl : args = #[v0, v1, v2] := by cases args; simp_all
  obtain ⟨rfl, rfl⟩ := trodVars_none hV
  obtain ⟨a0, len0, cap0, rfl⟩ := okWide_slice Try.underlying34 (hval 0 34 v0 rfl rfl)
  have k0 := h0
  have lt0 : ∀ x ∈ p0, x.block < W.heap.size := by obtain ⟨m, hm⟩ := k0; exact DataW.trod_lt m _ _ _ hm
  obtain ⟨fu0, hf0⟩ := h0
  obtain ⟨l0, ⟨A0, c0, hcs0, hc0, hr0⟩, hl0, ho0⟩ := op34.2 hf0
  obtain ⟨rfl, rfl, rfl⟩ : a0 = A0 ∧ len0 = l0.length ∧ cap0 = c0 := by simpa [Value.cells] using hcs0
  obtain ⟨a1, rfl, rfl, rfl, w1⟩ := open_int Try.underlying3 (hval 1 3 v1 rfl rfl) h1
  obtain ⟨a2, rfl, rfl, rfl, w2⟩ := open_int Try.underlying3 (hval 2 3 v2 rfl rfl) h2
  clear hA0 hval0
  obtain ⟨k, h⟩ := Pure.FnExactLayOut l0 a1 a2 ⟨hl0, ho0⟩ w1 w2
  refine (XFnExactLayOut.laws_FnExactLayOut.calls k _ _ l0 a1 a2 true W hr0 hc0 h).mono fun e W' hh => ?_
  obtain ⟨rfl, bel⟩ := hh
  exact ⟨_, rfl, _, _, _, [], _, [], hW', trodAll_mk1 (shut_bool Try.underlying4 _), (trodAll_cons_mk (Below.trod laidOut (by kernel_rfl) (of_decide_eq_true (by kernel_rfl)) k0 bel lt0) (trodAll_cons_mk (shut_int Try.underlying3 w1) (trodAll_cons_mk (shut_int Try.underlying3 w2) trodAll_mk0))), rfl, bel.frame _, fun h => by cases h⟩
theorem over : Rows.fnExactLayOutRow.holds Try.pinned (OpenSpec.ofChange Rows.fnExactLayOutSpec) :=
  OpenClaim.holds_of_wide 4 Try.f4 rfl rfl rfl rfl rfl rfl rfl ⟨rfl, rfl, rfl, rfl, rfl⟩ rfl rfl rfl rfl rfl (by kernel_rfl) Try.func4 (by kernel_rfl)
    (of_decide_eq_true (by kernel_rfl)) (by unfold Func.isWrapper; first | (rw [if_pos (by decide +kernel)]; kernel_rfl) | (rw [if_neg (by decide +kernel)]; exact ⟨rfl, rfl⟩))
    (fun os started H enc _ => lifted os started H enc)
theorem proved : Rows.FnExactLayOutSaid := over
#print axioms proved
end Go.Proofs.Ytgfppioaggeleaa.fnExactLayOut
namespace Go.Proofs.Ytgfppioaggeleaa
/-- The row, under a short name, for the claim. -/
theorem fnExactLayOut_holds : Rows.FnExactLayOutSaid := fnExactLayOut.proved
end Go.Proofs.Ytgfppioaggeleaa
