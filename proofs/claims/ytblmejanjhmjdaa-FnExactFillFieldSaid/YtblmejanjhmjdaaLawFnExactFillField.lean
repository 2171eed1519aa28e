/- The law FnExactFillField of the given program, joined: its Go text, walked, answers true for every input that reads as data. -/
import Derived.Test.YtblmejanjhmjdaaRows
import Derived.Test.YtblmejanjhmjdaaXFnExactFillFieldx14
import Derived.Test.YtblmejanjhmjdaaPureFnExactFillField
import Derived.Test.YtblmejanjhmjdaaXOpen
import Derived.WalkKit
import Derived.ProofKit
import Derived.OpenShut
import Derived.ShutString
import Derived.ChangeOld
import Derived.Below
import Derived.SizedLaws
import Derived.Carry
import Derived.WideShapes
namespace Go.Proofs.Ytblmejanjhmjdaa.fnExactFillField
open Go.ChangeShapes Go.WideShapes Go.ChangeAt Go.RowKit Go.Proofs.Ytblmejanjhmjdaa.XFnExactFillField Go.Proofs.YtblmejanjhmjdaaW.PrintWords
open Go.ChangeMaps (open_string shut_string)
set_option linter.unusedVariables false
theorem own : ownKnob Try.prog.godebug = none := by kernel_rfl
theorem laidOut : laidOutB Try.prog = true := by kernel_rfl
set_option maxRecDepth 100000 in
theorem op3 : X.Opens Try.prog 3 (Kd.int .i64) (fun z => (Lit.int .i64 z).wf = true) := X.opens_int (by kernel_rfl) (by kernel_rfl)
set_option maxRecDepth 100000 in
theorem op25 : X.Opens Try.prog 25 (Kd.slice 3 (Kd.int .i64)) (fun z => z.length ≤ maxLen ∧ ∀ z316 ∈ z, (Lit.int .i64 z316).wf = true) := X.opens_slice (by kernel_rfl) (by kernel_rfl) op3
set_option maxRecDepth 100000 in
theorem op22 : X.Opens Try.prog 22 (Kd.slice 25 (Kd.slice 3 (Kd.int .i64))) (fun z => z.length ≤ maxLen ∧ ∀ z317 ∈ z, z317.length ≤ maxLen ∧ ∀ z318 ∈ z317, (Lit.int .i64 z318).wf = true) := X.opens_slice (by kernel_rfl) (by kernel_rfl) op25
set_option maxRecDepth 100000 in
theorem op24 : X.Opens Try.prog 24 k24 (fun z => ok24 z) := by
  have h_ := X.opens_struct (d := (Kd.pair (Kd.int .i64) (Kd.pair (Kd.slice 25 (Kd.slice 3 (Kd.int .i64))) (Kd.slice 25 (Kd.slice 3 (Kd.int .i64)))))) (f := fun x : S24 => (x.f0, x.f1, x.f2)) Try.underlying24 (by kernel_rfl) (fun y => ⟨⟨y.1, y.2.1, y.2.2⟩, rfl⟩) (X.opensF_cons (by rfl) op3 (X.opensF_cons (by rfl) op22 (X.opensF_one (by rfl) op22)))
  exact h_.mono (fun z h => h)
set_option maxRecDepth 100000 in
theorem op27 : X.Opens Try.prog 27 k27 (fun z => ok27 z) := by
  have h_ := X.opens_struct (d := (Kd.pair (Kd.int .i64) (Kd.pair (Kd.int .i64) (Kd.slice 3 (Kd.int .i64))))) (f := fun x : S27 => (x.f0, x.f1, x.f2)) Try.underlying27 (by kernel_rfl) (fun y => ⟨⟨y.1, y.2.1, y.2.2⟩, rfl⟩) (X.opensF_cons (by rfl) op3 (X.opensF_cons (by rfl) op3 (X.opensF_one (by rfl) op25)))
  exact h_.mono (fun z h => h)
set_option maxRecDepth 100000 in
theorem lifted (os : Os) (started : os.Started) (H : Type) (enc : TypeId × Value → H) :
    ReturnsInHanded {} Try.checked os 4 .any (Rows.fnExactFillFieldSpec.pre6 enc Try.prog Try.f4 Rows.fnExactFillFieldRow.domain false) (Rows.fnExactFillFieldSpec.post enc Try.prog Try.f4 false true false false) := by
  refine returnsInHanded_of_change_sized (C := Try.checked) own started (by kernel_rfl) Try.func4
    (ChangeSpec.witness6 (enc := enc) (C := Try.checked) false ⟨#[], #[.agg #[.int .i64 0, .slice none 0 0, .slice none 0 0], .agg #[.int .i64 0, .int .i64 0, .slice none 0 0]], []⟩ 8 (by kernel_rfl) (by kernel_rfl) (by kernel_rfl) (by kernel_rfl)) ?_
  intro W base args ds gs before hval0 hW hcnd hsz0 _
  clear hsz0
  have hval : ∀ (j : Nat) t v, Try.f4.params[j]? = some t → args[j]? = some v → Value.okWide Try.prog W .any base t v := hval0
  have hW' := hW
  obtain ⟨p, q, hA0, hV, rfl, hfz, hnd⟩ := hW
  have hA : DataW.TrodAll enc Try.prog W 0 (fun _ => true) true Try.f4.params.toList args.toList ds p := hA0
  rw [Try.params4] at hA hval
  obtain ⟨v0, vs0, d0, ds0, p0, q0, hargs, rfl, rfl, h0, r0⟩ := trodAll_cons hA
  obtain ⟨v1, vs1, d1, ds1, p1, q1, rfl, rfl, rfl, h1, r1⟩ := trodAll_cons r0
  obtain ⟨rfl, rfl, rfl⟩ := trodAll_nil r1
  obtain rfl : args = #[v0, v1] := by cases args; simp_all
  obtain ⟨rfl, rfl⟩ := trodVars_none hV
  obtain ⟨cs0, rfl, _⟩ := okWide_struct Try.underlying24 (hval 0 24 v0 rfl rfl)
  have k0 := h0
  have lt0 : ∀ x ∈ p0, x.block < W.heap.size := by obtain ⟨m, hm⟩ := k0; exact DataW.trod_lt m _ _ _ hm
  obtain ⟨fu0, hf0⟩ := h0
  obtain ⟨z0, hK0, ho0⟩ := op24.2 hf0
  obtain ⟨A0_1, c0_1, A0_2, c0_2, hcs0, hc0_1, hr0_1, hc0_2, hr0_2⟩ := k24_open hK0
  obtain ⟨cs0⟩ := cs0
  obtain rfl : cs0 = _ := hcs0
  obtain ⟨cs1, rfl, _⟩ := okWide_struct Try.underlying27 (hval 1 27 v1 rfl rfl)
  have k1 := h1
  have lt1 : ∀ x ∈ p1, x.block < W.heap.size := by obtain ⟨m, hm⟩ := k1; exact DataW.trod_lt m _ _ _ hm
  obtain ⟨fu1, hf1⟩ := h1
  obtain ⟨z1, hK1, ho1⟩ := op27.2 hf1
  obtain ⟨A1_2, c1_2, hcs1, hc1_2, hr1_2⟩ := k27_open hK1
  obtain ⟨cs1⟩ := cs1
  obtain rfl : cs1 = _ := hcs1
  clear hA0 hval0
  obtain ⟨k, h⟩ := Pure.FnExactFillField z0.f0 z0.f1 z0.f2 z1.f0 z1.f1 z1.f2 ho0.1 ho0.2.1 ho0.2.2 ho1.1 ho1.2.1 ho1.2.2
  refine (XFnExactFillField.laws_FnExactFillField.calls k z0.f0 _ _ z0.f1 _ _ z0.f2 z1.f0 z1.f1 _ _ z1.f2 true W hr0_1 hc0_1 hr0_2 hc0_2 hr1_2 hc1_2 h).mono fun e W' hh => ?_
  obtain ⟨rfl, bel⟩ := hh
  exact ⟨_, rfl, _, _, _, [], _, [], hW', trodAll_mk1 (shut_bool Try.underlying4 _), (trodAll_cons_mk (Below.trod laidOut (by kernel_rfl) (of_decide_eq_true (by kernel_rfl)) k0 bel lt0) (trodAll_cons_mk (Below.trod laidOut (by kernel_rfl) (of_decide_eq_true (by kernel_rfl)) k1 bel lt1) trodAll_mk0)), rfl, bel.frame _, fun h => by cases h⟩
theorem over : Rows.fnExactFillFieldRow.holds Try.pinned (OpenSpec.ofChange Rows.fnExactFillFieldSpec) :=
  OpenClaim.holds_of_wide 4 Try.f4 rfl rfl rfl rfl rfl rfl rfl ⟨rfl, rfl, rfl, rfl, rfl⟩ rfl rfl rfl rfl rfl (by kernel_rfl) Try.func4 (by kernel_rfl)
    (of_decide_eq_true (by kernel_rfl)) (by unfold Func.isWrapper; first | (rw [if_pos (by decide +kernel)]; kernel_rfl) | (rw [if_neg (by decide +kernel)]; exact ⟨rfl, rfl⟩))
    (fun os started H enc _ => lifted os started H enc)
theorem proved : Rows.FnExactFillFieldSaid := over
#print axioms proved
end Go.Proofs.Ytblmejanjhmjdaa.fnExactFillField
namespace Go.Proofs.Ytblmejanjhmjdaa
/-- The row, under a short name, for the claim. -/
theorem fnExactFillField_holds : Rows.FnExactFillFieldSaid := fnExactFillField.proved
end Go.Proofs.Ytblmejanjhmjdaa
