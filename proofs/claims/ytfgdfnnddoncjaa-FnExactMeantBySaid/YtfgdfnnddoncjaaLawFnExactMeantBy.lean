/- The law FnExactMeantBy of the given program, joined: its Go text, walked, answers true for every input that reads as data. -/
import Derived.Test.YtfgdfnnddoncjaaRows
import Derived.Test.YtfgdfnnddoncjaaXFnExactMeantByx15
import Derived.Test.YtfgdfnnddoncjaaPureFnExactMeantBy
import Derived.Test.YtfgdfnnddoncjaaXOpen
import Derived.WalkKit
import Derived.ProofKit
import Derived.OpenShut
import Derived.ShutString
import Derived.ChangeOld
import Derived.Below
import Derived.SizedLaws
import Derived.Carry
import Derived.WideShapes
namespace Go.Proofs.Ytfgdfnnddoncjaa.fnExactMeantBy
open Go.ChangeShapes Go.WideShapes Go.ChangeAt Go.RowKit Go.Proofs.Ytfgdfnnddoncjaa.XFnExactMeantBy Go.Proofs.YtfgdfnnddoncjaaW.PrintWords
open Go.ChangeMaps (open_string shut_string)
set_option linter.unusedVariables false
theorem own : ownKnob Try.prog.godebug = none := by kernel_rfl
theorem laidOut : laidOutB Try.prog = true := by kernel_rfl
set_option maxRecDepth 100000 in
theorem op9 : X.Opens Try.prog 9 Kd.string (fun z => z.size ≤ maxLen) := X.opens_string (by kernel_rfl) (by kernel_rfl)
set_option maxRecDepth 100000 in
theorem op3 : X.Opens Try.prog 3 (Kd.int .i64) (fun z => (Lit.int .i64 z).wf = true) := X.opens_int (by kernel_rfl) (by kernel_rfl)
set_option maxRecDepth 100000 in
theorem op23 : X.Opens Try.prog 23 (Kd.slice 3 (Kd.int .i64)) (fun z => z.length ≤ maxLen ∧ ∀ z325 ∈ z, (Lit.int .i64 z325).wf = true) := X.opens_slice (by kernel_rfl) (by kernel_rfl) op3
set_option maxRecDepth 100000 in
theorem op49 : X.Opens Try.prog 49 k49 (fun z => ok49 z) := by
  have h_ := X.opens_struct (d := (Kd.pair Kd.string (Kd.slice 3 (Kd.int .i64)))) (f := fun x : S49 => (x.f0, x.f1)) Try.underlying49 (by kernel_rfl) (fun y => ⟨⟨y.1, y.2⟩, rfl⟩) (X.opensF_cons (by rfl) op9 (X.opensF_one (by rfl) op23))
  exact h_.mono (fun z h => h)
set_option maxRecDepth 100000 in
theorem op22 : X.Opens Try.prog 22 (Kd.slice 49 k49) (fun z => z.length ≤ maxLen ∧ ∀ z326 ∈ z, ok49 z326) := X.opens_slice (by kernel_rfl) (by kernel_rfl) op49
set_option maxRecDepth 100000 in
theorem op4 : X.Opens Try.prog 4 Kd.bool (fun z => True) := X.opens_bool (by kernel_rfl) (by kernel_rfl)
set_option maxRecDepth 100000 in
theorem op71 : X.Opens Try.prog 71 k71 (fun z => ok71 z) := by
  have h_ := X.opens_struct (d := (Kd.pair (Kd.int .i64) (Kd.pair (Kd.int .i64) Kd.bool))) (f := fun x : S71 => (x.f0, x.f1, x.f2)) Try.underlying71 (by kernel_rfl) (fun y => ⟨⟨y.1, y.2.1, y.2.2⟩, rfl⟩) (X.opensF_cons (by rfl) op3 (X.opensF_cons (by rfl) op3 (X.opensF_one (by rfl) op4)))
  exact h_.mono (fun z h => h)
set_option maxRecDepth 100000 in
theorem op35 : X.Opens Try.prog 35 (Kd.slice 71 k71) (fun z => z.length ≤ maxLen ∧ ∀ z327 ∈ z, ok71 z327) := X.opens_slice (by kernel_rfl) (by kernel_rfl) op71
set_option maxRecDepth 100000 in
theorem lifted (os : Os) (started : os.Started) (H : Type) (enc : TypeId × Value → H) :
    ReturnsInHanded {} Try.checked os 4 .any (Rows.fnExactMeantBySpec.pre6 enc Try.prog Try.f4 Rows.fnExactMeantByRow.domain false) (Rows.fnExactMeantBySpec.post enc Try.prog Try.f4 false true false false) := by
  refine returnsInHanded_of_change_sized (C := Try.checked) own started (by kernel_rfl) Try.func4
    (ChangeSpec.witness6 (enc := enc) (C := Try.checked) false ⟨#[], #[.slice none 0 0, .slice none 0 0], []⟩ 8 (by kernel_rfl) (by kernel_rfl) (by kernel_rfl) (by kernel_rfl)) ?_
  intro W base args ds gs before hval0 hW hcnd hsz0 _
  clear hsz0
  have hval : ∀ (j : Nat) t v, Try.f4.params[j]? = some t → args[j]? = some v → Value.okWide Try.prog W .any base t v := hval0
  have hW' := hW
  obtain ⟨p, q, hA0, hV, rfl, hfz, hnd⟩ := hW
  have hA : DataW.TrodAll enc Try.prog W 0 (fun _ => true) true Try.f4.params.toList args.toList ds p := hA0
  rw [Try.params4] at hA hval
  obtain ⟨v0, vs0, d0, ds0, p0, q0, hargs, rfl, rfl, h0, r0⟩ := trodAll_cons hA
  obtain ⟨v1, vs1, d1, ds1, p1, q1, rfl, rfl, rfl, h1, r1⟩ := trodAll_cons r0
  obtain ⟨rfl, rfl, rfl⟩ := trodAll_nil r1
  obtain rfl : args = #[v0, v1] := by cases args; simp_all
  obtain ⟨rfl, rfl⟩ := trodVars_none hV
  obtain ⟨a0, len0, cap0, rfl⟩ := okWide_slice Try.underlying22 (hval 0 22 v0 rfl rfl)
  have k0 := h0
  have lt0 : ∀ x ∈ p0, x.block < W.heap.size := by obtain ⟨m, hm⟩ := k0; exact DataW.trod_lt m _ _ _ hm
  obtain ⟨fu0, hf0⟩ := h0
  obtain ⟨l0, ⟨A0, c0, hcs0, hc0, hr0⟩, hl0, ho0⟩ := op22.2 hf0
  obtain ⟨rfl, rfl, rfl⟩ : a0 = A0 ∧ len0 = l0.length ∧ cap0 = c0 := by simpa [Value.cells] using hcs0
  obtain ⟨a1, len1, cap1, rfl⟩ := okWide_slice Try.underlying35 (hval 1 35 v1 rfl rfl)
  have k1 := h1
  have lt1 : ∀ x ∈ p1, x.block < W.heap.size := by obtain ⟨m, hm⟩ := k1; exact DataW.trod_lt m _ _ _ hm
  obtain ⟨fu1, hf1⟩ := h1
  obtain ⟨l1, ⟨A1, c1, hcs1, hc1, hr1⟩, hl1, ho1⟩ := op35.2 hf1
  obtain ⟨rfl, rfl, rfl⟩ : a1 = A1 ∧ len1 = l1.length ∧ cap1 = c1 := by simpa [Value.cells] using hcs1
  clear hA0 hval0
  obtain ⟨k, h⟩ := Pure.FnExactMeantBy l0 l1 ⟨hl0, ho0⟩ ⟨hl1, ho1⟩
  refine (XFnExactMeantBy.laws_FnExactMeantBy.calls k _ _ l0 _ _ l1 true W hr0 hc0 hr1 hc1 h).mono fun e W' hh => ?_
  obtain ⟨rfl, bel⟩ := hh
  exact ⟨_, rfl, _, _, _, [], _, [], hW', trodAll_mk1 (shut_bool Try.underlying4 _), (trodAll_cons_mk (Below.trod laidOut (by kernel_rfl) (of_decide_eq_true (by kernel_rfl)) k0 bel lt0) (trodAll_cons_mk (Below.trod laidOut (by kernel_rfl) (of_decide_eq_true (by kernel_rfl)) k1 bel lt1) trodAll_mk0)), rfl, bel.frame _, fun h => by cases h⟩
theorem over : Rows.fnExactMeantByRow.holds Try.pinned (OpenSpec.ofChange Rows.fnExactMeantBySpec) :=
  OpenClaim.holds_of_wide 4 Try.f4 rfl rfl rfl rfl rfl rfl rfl ⟨rfl, rfl, rfl, rfl, rfl⟩ rfl rfl rfl rfl rfl (by kernel_rfl) Try.func4 (by kernel_rfl)
    (of_decide_eq_true (by kernel_rfl)) (by unfold Func.isWrapper; first | (rw [if_pos (by decide +kernel)]; kernel_rfl) | (rw [if_neg (by decide +kernel)]; exact ⟨rfl, rfl⟩))
    (fun os started H enc _ => lifted os started H enc)
theorem proved : Rows.FnExactMeantBySaid := over
#print axioms proved
end Go.Proofs.Ytfgdfnnddoncjaa.fnExactMeantBy
namespace Go.Proofs.Ytfgdfnnddoncjaa
/-- The row, under a short name, for the claim. -/
theorem fnExactMeantBy_holds : Rows.FnExactMeantBySaid := fnExactMeantBy.proved
end Go.Proofs.Ytfgdfnnddoncjaa
