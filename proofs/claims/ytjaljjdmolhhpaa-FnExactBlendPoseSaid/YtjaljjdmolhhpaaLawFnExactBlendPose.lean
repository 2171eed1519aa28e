/- The law FnExactBlendPose of the given program, joined: its Go text, walked, answers true for every input that reads as data. -/
import Derived.Test.YtjaljjdmolhhpaaRows
import Derived.Test.YtjaljjdmolhhpaaXFnExactBlendPosex5
import Derived.Test.YtjaljjdmolhhpaaPureFnExactBlendPose
import Derived.Test.YtjaljjdmolhhpaaXOpen
import Derived.WalkKit
import Derived.ProofKit
import Derived.OpenShut
import Derived.ShutString
import Derived.ChangeOld
import Derived.Below
import Derived.SizedLaws
import Derived.Carry
import Derived.WideShapes
namespace Go.Proofs.Ytjaljjdmolhhpaa.fnExactBlendPose
open Go.ChangeShapes Go.WideShapes Go.ChangeAt Go.RowKit Go.Proofs.Ytjaljjdmolhhpaa.XFnExactBlendPose Go.Proofs.YtjaljjdmolhhpaaW.PrintWords
open Go.ChangeMaps (open_string shut_string)
set_option linter.unusedVariables false
theorem own : ownKnob Try.prog.godebug = none := by kernel_rfl
theorem laidOut : laidOutB Try.prog = true := by kernel_rfl
set_option maxRecDepth 100000 in
theorem op3 : X.Opens Try.prog 3 (Kd.int .i64) (fun z => (Lit.int .i64 z).wf = true) := X.opens_int (by kernel_rfl) (by kernel_rfl)
set_option maxRecDepth 100000 in
theorem op22 : X.Opens Try.prog 22 (Kd.slice 3 (Kd.int .i64)) (fun z => z.length ≤ maxLen ∧ ∀ z258 ∈ z, (Lit.int .i64 z258).wf = true) := X.opens_slice (by kernel_rfl) (by kernel_rfl) op3
set_option maxRecDepth 100000 in
theorem op4 : X.Opens Try.prog 4 Kd.bool (fun z => True) := X.opens_bool (by kernel_rfl) (by kernel_rfl)
set_option maxRecDepth 100000 in
theorem op107 : X.Opens Try.prog 107 (Kd.slice 4 Kd.bool) (fun z => z.length ≤ maxLen ∧ ∀ z259 ∈ z, True) := X.opens_slice (by kernel_rfl) (by kernel_rfl) op4
set_option maxRecDepth 100000 in
theorem lifted (os : Os) (started : os.Started) (H : Type) (enc : TypeId × Value → H) :
    ReturnsInHanded {} Try.checked os 13 .any (Rows.fnExactBlendPoseSpec.pre6 enc Try.prog Try.f13 Rows.fnExactBlendPoseRow.domain false) (Rows.fnExactBlendPoseSpec.post enc Try.prog Try.f13 false true false false) := by
  refine returnsInHanded_of_change_sized (C := Try.checked) own started (by kernel_rfl) Try.func13
    (ChangeSpec.witness6 (enc := enc) (C := Try.checked) false ⟨#[], #[.slice none 0 0, .slice none 0 0, .int .i64 0, .slice none 0 0], []⟩ 8 (by kernel_rfl) (by kernel_rfl) (by kernel_rfl) (by kernel_rfl)) ?_
  intro W base args ds gs before hval0 hW hcnd hsz0 _
  clear hsz0
  have hval : ∀ (j : Nat) t v, Try.f13.params[j]? = some t → args[j]? = some v → Value.okWide Try.prog W .any base t v := hval0
  have hW' := hW
  obtain ⟨p, q, hA0, hV, rfl, hfz, hnd⟩ := hW
  have hA : DataW.TrodAll enc Try.prog W 0 (fun _ => true) true Try.f13.params.toList args.toList ds p := hA0
  rw [Try.params13] at hA hval
  obtain ⟨v0, vs0, d0, ds0, p0, q0, hargs, rfl, rfl, h0, r0⟩ := trodAll_cons hA
  obtain ⟨v1, vs1, d1, ds1, p1, q1, rfl, rfl, rfl, h1, r1⟩ := trodAll_cons r0
  obtain ⟨v2, vs2, d2, ds2, p2, q2, rfl, rfl, rfl, h2, r2⟩ := trodAll_cons r1
  obtain ⟨v3, vs3, d3, ds3, p3, q3, rfl, rfl, rfl, h3, r3⟩ := trodAll_cons r2
  obtain ⟨rfl, rfl, rfl⟩ := trodAll_nil r3
  obtain rfl : args = #[v0, v1, v2, v3] := by cases args; simp_all
  obtain ⟨rfl, rfl⟩ := trodVars_none hV
  obtain ⟨a0, len0, cap0, rfl⟩ := okWide_slice Try.underlying22 (hval 0 22 v0 rfl rfl)
  have k0 := h0
  have lt0 : ∀ x ∈ p0, x.block < W.heap.size := by obtain ⟨m, hm⟩ := k0; exact DataW.trod_lt m _ _ _ hm
  obtain ⟨fu0, hf0⟩ := h0
  obtain ⟨l0, ⟨A0, c0, hcs0, hc0, hr0⟩, hl0, ho0⟩ := op22.2 hf0
  obtain ⟨rfl, rfl, rfl⟩ : a0 = A0 ∧ len0 = l0.length ∧ cap0 = c0 := by simpa [Value.cells] using hcs0
  obtain ⟨a1, len1, cap1, rfl⟩ := okWide_slice Try.underlying22 (hval 1 22 v1 rfl rfl)
  have k1 := h1
  have lt1 : ∀ x ∈ p1, x.block < W.heap.size := by obtain ⟨m, hm⟩ := k1; exact DataW.trod_lt m _ _ _ hm
  obtain ⟨fu1, hf1⟩ := h1
  obtain ⟨l1, ⟨A1, c1, hcs1, hc1, hr1⟩, hl1, ho1⟩ := op22.2 hf1
  obtain ⟨rfl, rfl, rfl⟩ : a1 = A1 ∧ len1 = l1.length ∧ cap1 = c1 := by simpa [Value.cells] using hcs1
  obtain ⟨a2, rfl, rfl, rfl, w2⟩ := open_int Try.underlying3 (hval 2 3 v2 rfl rfl) h2
  obtain ⟨a3, len3, cap3, rfl⟩ := okWide_slice Try.underlying107 (hval 3 107 v3 rfl rfl)
  have k3 := h3
  have lt3 : ∀ x ∈ p3, x.block < W.heap.size := by obtain ⟨m, hm⟩ := k3; exact DataW.trod_lt m _ _ _ hm
  obtain ⟨fu3, hf3⟩ := h3
  obtain ⟨l3, ⟨A3, c3, hcs3, hc3, hr3⟩, hl3, ho3⟩ := op107.2 hf3
  obtain ⟨rfl, rfl, rfl⟩ : a3 = A3 ∧ len3 = l3.length ∧ cap3 = c3 := by simpa [Value.cells] using hcs3
  clear hA0 hval0
  obtain ⟨k, h⟩ := Pure.FnExactBlendPose l0 l1 a2 l3 ⟨hl0, ho0⟩ ⟨hl1, ho1⟩ w2 ⟨hl3, ho3⟩
  refine (XFnExactBlendPose.laws_FnExactBlendPose.calls k _ _ l0 _ _ l1 a2 _ _ l3 true W hr0 hc0 hr1 hc1 hr3 hc3 h).mono fun e W' hh => ?_
  obtain ⟨rfl, bel⟩ := hh
  exact ⟨_, rfl, _, _, _, [], _, [], hW', trodAll_mk1 (shut_bool Try.underlying4 _), (trodAll_cons_mk (Below.trod laidOut (by kernel_rfl) (of_decide_eq_true (by kernel_rfl)) k0 bel lt0) (trodAll_cons_mk (Below.trod laidOut (by kernel_rfl) (of_decide_eq_true (by kernel_rfl)) k1 bel lt1) (trodAll_cons_mk (shut_int Try.underlying3 w2) (trodAll_cons_mk (Below.trod laidOut (by kernel_rfl) (of_decide_eq_true (by kernel_rfl)) k3 bel lt3) trodAll_mk0)))), rfl, bel.frame _, fun h => by cases h⟩
theorem over : Rows.fnExactBlendPoseRow.holds Try.pinned (OpenSpec.ofChange Rows.fnExactBlendPoseSpec) :=
  OpenClaim.holds_of_wide 13 Try.f13 rfl rfl rfl rfl rfl rfl rfl ⟨rfl, rfl, rfl, rfl, rfl⟩ rfl rfl rfl rfl rfl (by kernel_rfl) Try.func13 (by kernel_rfl)
    (of_decide_eq_true (by kernel_rfl)) (by unfold Func.isWrapper; first | (rw [if_pos (by decide +kernel)]; kernel_rfl) | (rw [if_neg (by decide +kernel)]; exact ⟨rfl, rfl⟩))
    (fun os started H enc _ => lifted os started H enc)
theorem proved : Rows.FnExactBlendPoseSaid := over
#print axioms proved
end Go.Proofs.Ytjaljjdmolhhpaa.fnExactBlendPose
namespace Go.Proofs.Ytjaljjdmolhhpaa
/-- The row, under a short name, for the claim. -/
theorem fnExactBlendPose_holds : Rows.FnExactBlendPoseSaid := fnExactBlendPose.proved
end Go.Proofs.Ytjaljjdmolhhpaa
