/- The law FnExactPlanCost of the given program, joined: its Go text, walked, answers true for every input that reads as data. -/
import Derived.Test.YtjaljjdmolhhpaaRows
import Derived.Test.YtjaljjdmolhhpaaXFnExactPlanCostx5
import Derived.Test.YtjaljjdmolhhpaaPureFnExactPlanCost
import Derived.Test.YtjaljjdmolhhpaaXOpen
import Derived.WalkKit
import Derived.ProofKit
import Derived.OpenShut
import Derived.ShutString
import Derived.ChangeOld
import Derived.Below
import Derived.SizedLaws
import Derived.Carry
import Derived.WideShapes
namespace Go.Proofs.Ytjaljjdmolhhpaa.fnExactPlanCost
open Go.ChangeShapes Go.WideShapes Go.ChangeAt Go.RowKit Go.Proofs.Ytjaljjdmolhhpaa.XFnExactPlanCost Go.Proofs.YtjaljjdmolhhpaaW.PrintWords
open Go.ChangeMaps (open_string shut_string)
set_option linter.unusedVariables false
theorem own : ownKnob Try.prog.godebug = none := by kernel_rfl
theorem laidOut : laidOutB Try.prog = true := by kernel_rfl
set_option maxRecDepth 100000 in
theorem op3 : X.Opens Try.prog 3 (Kd.int .i64) (fun z => (Lit.int .i64 z).wf = true) := X.opens_int (by kernel_rfl) (by kernel_rfl)
set_option maxRecDepth 100000 in
theorem op22 : X.Opens Try.prog 22 (Kd.slice 3 (Kd.int .i64)) (fun z => z.length ≤ maxLen ∧ ∀ z221 ∈ z, (Lit.int .i64 z221).wf = true) := X.opens_slice (by kernel_rfl) (by kernel_rfl) op3
set_option maxRecDepth 100000 in
theorem op9 : X.Opens Try.prog 9 Kd.string (fun z => z.size ≤ maxLen) := X.opens_string (by kernel_rfl) (by kernel_rfl)
set_option maxRecDepth 100000 in
theorem op131 : X.Opens Try.prog 131 k131 (fun z => ok131 z) := by
  have h_ := X.opens_struct (d := (Kd.pair Kd.string (Kd.pair (Kd.int .i64) (Kd.pair (Kd.int .i64) (Kd.pair (Kd.int .i64) (Kd.pair (Kd.int .i64) (Kd.int .i64))))))) (f := fun x : S131 => (x.f0, x.f1, x.f2, x.f3, x.f4, x.f5)) Try.underlying131 (by kernel_rfl) (fun y => ⟨⟨y.1, y.2.1, y.2.2.1, y.2.2.2.1, y.2.2.2.2.1, y.2.2.2.2.2⟩, rfl⟩) (X.opensF_cons (by rfl) op9 (X.opensF_cons (by rfl) op3 (X.opensF_cons (by rfl) op3 (X.opensF_cons (by rfl) op3 (X.opensF_cons (by rfl) op3 (X.opensF_one (by rfl) op3))))))
  exact h_.mono (fun z h => h)
set_option maxRecDepth 100000 in
theorem op36 : X.Opens Try.prog 36 (Kd.slice 131 k131) (fun z => z.length ≤ maxLen ∧ ∀ z222 ∈ z, ok131 z222) := X.opens_slice (by kernel_rfl) (by kernel_rfl) op131
set_option maxRecDepth 100000 in
theorem lifted (os : Os) (started : os.Started) (H : Type) (enc : TypeId × Value → H) :
    ReturnsInHanded {} Try.checked os 4 .any (Rows.fnExactPlanCostSpec.pre6 enc Try.prog Try.f4 Rows.fnExactPlanCostRow.domain false) (Rows.fnExactPlanCostSpec.post enc Try.prog Try.f4 false true false false) := by
  refine returnsInHanded_of_change_sized (C := Try.checked) own started (by kernel_rfl) Try.func4
    (ChangeSpec.witness6 (enc := enc) (C := Try.checked) false ⟨#[], #[.int .i64 0, .slice none 0 0, .slice none 0 0], []⟩ 8 (by kernel_rfl) (by kernel_rfl) (by kernel_rfl) (by kernel_rfl)) ?_
  intro W base args ds gs before hval0 hW hcnd hsz0 _
  clear hsz0
  have hval : ∀ (j : Nat) t v, Try.f4.params[j]? = some t → args[j]? = some v → Value.okWide Try.prog W .any base t v := hval0
  have hW' := hW
  obtain ⟨p, q, hA0, hV, rfl, hfz, hnd⟩ := hW
  have hA : DataW.TrodAll enc Try.prog W 0 (fun _ => true) true Try.f4.params.toList args.toList ds p := hA0
  rw [Try.params4] at hA hval
  obtain ⟨v0, vs0, d0, ds0, p0, q0, hargs, rfl, rfl, h0, r0⟩ := trodAll_cons hA
  obtain ⟨v1, vs1, d1, ds1, p1, q1, rfl, rfl, rfl, h1, r1⟩ := trodAll_cons r0
  obtain ⟨v2, vs2, d2, ds2, p2, q2, rfl, rfl, rfl, h2, r2⟩ := trodAll_cons r1
  obtain ⟨rfl, rfl, rfl⟩ := trodAll_nil r2
  obtain rfl : args = #[v0, v1, v2] := by cases args; simp_all
  obtain ⟨rfl, rfl⟩ := trodVars_none hV
  obtain ⟨a0, rfl, rfl, rfl, w0⟩ := open_int Try.underlying3 (hval 0 3 v0 rfl rfl) h0
  obtain ⟨a1, len1, cap1, rfl⟩ := okWide_slice Try.underlying22 (hval 1 22 v1 rfl rfl)
  have k1 := h1
  have lt1 : ∀ x ∈ p1, x.block < W.heap.size := by obtain ⟨m, hm⟩ := k1; exact DataW.trod_lt m _ _ _ hm
  obtain ⟨fu1, hf1⟩ := h1
  obtain ⟨l1, ⟨A1, c1, hcs1, hc1, hr1⟩, hl1, ho1⟩ := op22.2 hf1
  obtain ⟨rfl, rfl, rfl⟩ : a1 = A1 ∧ len1 = l1.length ∧ cap1 = c1 := by simpa [Value.cells] using hcs1
  obtain ⟨a2, len2, cap2, rfl⟩ := okWide_slice Try.underlying36 (hval 2 36 v2 rfl rfl)
  have k2 := h2
  have lt2 : ∀ x ∈ p2, x.block < W.heap.size := by obtain ⟨m, hm⟩ := k2; exact DataW.trod_lt m _ _ _ hm
  obtain ⟨fu2, hf2⟩ := h2
  obtain ⟨l2, ⟨A2, c2, hcs2, hc2, hr2⟩, hl2, ho2⟩ := op36.2 hf2
  obtain ⟨rfl, rfl, rfl⟩ : a2 = A2 ∧ len2 = l2.length ∧ cap2 = c2 := by simpa [Value.cells] using hcs2
  clear hA0 hval0
  obtain ⟨k, h⟩ := Pure.FnExactPlanCost a0 l1 l2 w0 ⟨hl1, ho1⟩ ⟨hl2, ho2⟩
  refine (XFnExactPlanCost.laws_FnExactPlanCost.calls k a0 _ _ l1 _ _ l2 true W hr1 hc1 hr2 hc2 h).mono fun e W' hh => ?_
  obtain ⟨rfl, bel⟩ := hh
  exact ⟨_, rfl, _, _, _, [], _, [], hW', trodAll_mk1 (shut_bool Try.underlying4 _), (trodAll_cons_mk (shut_int Try.underlying3 w0) (trodAll_cons_mk (Below.trod laidOut (by kernel_rfl) (of_decide_eq_true (by kernel_rfl)) k1 bel lt1) (trodAll_cons_mk (Below.trod laidOut (by kernel_rfl) (of_decide_eq_true (by kernel_rfl)) k2 bel lt2) trodAll_mk0))), rfl, bel.frame _, fun h => by cases h⟩
theorem over : Rows.fnExactPlanCostRow.holds Try.pinned (OpenSpec.ofChange Rows.fnExactPlanCostSpec) :=
  OpenClaim.holds_of_wide 4 Try.f4 rfl rfl rfl rfl rfl rfl rfl ⟨rfl, rfl, rfl, rfl, rfl⟩ rfl rfl rfl rfl rfl (by kernel_rfl) Try.func4 (by kernel_rfl)
    (of_decide_eq_true (by kernel_rfl)) (by unfold Func.isWrapper; first | (rw [if_pos (by decide +kernel)]; kernel_rfl) | (rw [if_neg (by decide +kernel)]; exact ⟨rfl, rfl⟩))
    (fun os started H enc _ => lifted os started H enc)
theorem proved : Rows.FnExactPlanCostSaid := over
#print axioms proved
end Go.Proofs.Ytjaljjdmolhhpaa.fnExactPlanCost
namespace Go.Proofs.Ytjaljjdmolhhpaa
/-- The row, under a short name, for the claim. -/
theorem fnExactPlanCost_holds : Rows.FnExactPlanCostSaid := fnExactPlanCost.proved
end Go.Proofs.Ytjaljjdmolhhpaa
