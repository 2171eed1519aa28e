/- The law FnExactAfterDoing of the given program, joined: its Go text, walked, answers true for every input that reads as data. -/
import Derived.Test.YthcmofhlljmccaaRows
import Derived.Test.YthcmofhlljmccaaXFnExactAfterDoingx2
import Derived.Test.YthcmofhlljmccaaPureFnExactAfterDoing
import Derived.Test.YthcmofhlljmccaaXOpen
import Derived.WalkKit
import Derived.ProofKit
import Derived.OpenShut
import Derived.ShutString
import Derived.ChangeOld
import Derived.Below
import Derived.SizedLaws
import Derived.Carry
import Derived.WideShapes
namespace Go.Proofs.Ythcmofhlljmccaa.fnExactAfterDoing
open Go.ChangeShapes Go.WideShapes Go.ChangeAt Go.RowKit Go.Proofs.Ythcmofhlljmccaa.XFnExactAfterDoing Go.Proofs.YthcmofhlljmccaaW.PrintWords
open Go.ChangeMaps (open_string shut_string)
set_option linter.unusedVariables false
theorem own : ownKnob Try.prog.godebug = none := by kernel_rfl
theorem laidOut : laidOutB Try.prog = true := by kernel_rfl
set_option maxRecDepth 100000 in
theorem op3 : X.Opens Try.prog 3 (Kd.int .i64) (fun z => (Lit.int .i64 z).wf = true) := X.opens_int (by kernel_rfl) (by kernel_rfl)
set_option maxRecDepth 100000 in
theorem op9 : X.Opens Try.prog 9 Kd.string (fun z => z.size ≤ maxLen) := X.opens_string (by kernel_rfl) (by kernel_rfl)
set_option maxRecDepth 100000 in
theorem op52 : X.Opens Try.prog 52 k52 (fun z => ok52 z) := by
  have h_ := X.opens_struct (d := (Kd.pair Kd.string (Kd.pair (Kd.int .i64) (Kd.pair (Kd.int .i64) (Kd.pair (Kd.int .i64) (Kd.pair (Kd.int .i64) (Kd.int .i64))))))) (f := fun x : S52 => (x.f0, x.f1, x.f2, x.f3, x.f4, x.f5)) Try.underlying52 (by kernel_rfl) (fun y => ⟨⟨y.1, y.2.1, y.2.2.1, y.2.2.2.1, y.2.2.2.2.1, y.2.2.2.2.2⟩, rfl⟩) (X.opensF_cons (by rfl) op9 (X.opensF_cons (by rfl) op3 (X.opensF_cons (by rfl) op3 (X.opensF_cons (by rfl) op3 (X.opensF_cons (by rfl) op3 (X.opensF_one (by rfl) op3))))))
  exact h_.mono (fun z h => h)
set_option maxRecDepth 100000 in
theorem lifted (os : Os) (started : os.Started) (H : Type) (enc : TypeId × Value → H) :
    ReturnsInHanded {} Try.checked os 8 .any (Rows.fnExactAfterDoingSpec.pre6 enc Try.prog Try.f8 Rows.fnExactAfterDoingRow.domain false) (Rows.fnExactAfterDoingSpec.post enc Try.prog Try.f8 false true false false) := by
  refine returnsInHanded_of_change_sized (C := Try.checked) own started (by kernel_rfl) Try.func8
    (ChangeSpec.witness6 (enc := enc) (C := Try.checked) false ⟨#[], #[.int .i64 0, .agg #[.string ByteArray.empty, .int .i64 0, .int .i64 0, .int .i64 0, .int .i64 0, .int .i64 0]], []⟩ 8 (by kernel_rfl) (by kernel_rfl) (by kernel_rfl) (by kernel_rfl)) ?_
  intro W base args ds gs before hval0 hW hcnd hsz0 _
  clear hsz0
  have hval : ∀ (j : Nat) t v, Try.f8.params[j]? = some t → args[j]? = some v → Value.okWide Try.prog W .any base t v := hval0
  have hW' := hW
  obtain ⟨p, q, hA0, hV, rfl, hfz, hnd⟩ := hW
  have hA : DataW.TrodAll enc Try.prog W 0 (fun _ => true) true Try.f8.params.toList args.toList ds p := hA0
  rw [Try.params8] at hA hval
  obtain ⟨v0, vs0, d0, ds0, p0, q0, hargs, rfl, rfl, h0, r0⟩ := trodAll_cons hA
  obtain ⟨v1, vs1, d1, ds1, p1, q1, rfl, rfl, rfl, h1, r1⟩ := trodAll_cons r0
  obtain ⟨rfl, rfl, rfl⟩ := trodAll_nil r1
  obtain rfl : args = #[v0, v1] := by cases args; simp_all
  obtain ⟨rfl, rfl⟩ := trodVars_none hV
  obtain ⟨a0, rfl, rfl, rfl, w0⟩ := open_int Try.underlying3 (hval 0 3 v0 rfl rfl) h0
  obtain ⟨cs1, rfl, _⟩ := okWide_struct Try.underlying52 (hval 1 52 v1 rfl rfl)
  have k1 := h1
  have lt1 : ∀ x ∈ p1, x.block < W.heap.size := by obtain ⟨m, hm⟩ := k1; exact DataW.trod_lt m _ _ _ hm
  obtain ⟨fu1, hf1⟩ := h1
  obtain ⟨z1, hK1, ho1⟩ := op52.2 hf1
  obtain hcs1 := k52_open hK1
  obtain ⟨cs1⟩ := cs1
  obtain rfl : cs1 = _ := hcs1
  clear hA0 hval0
  obtain ⟨k, h⟩ := Pure.FnExactAfterDoing a0 z1.f0 z1.f1 z1.f2 z1.f3 z1.f4 z1.f5 w0 ho1.1 ho1.2.1 ho1.2.2.1 ho1.2.2.2.1 ho1.2.2.2.2.1 ho1.2.2.2.2.2
  refine (XFnExactAfterDoing.laws_FnExactAfterDoing.calls k a0 z1.f0 z1.f1 z1.f2 z1.f3 z1.f4 z1.f5 true W h).mono fun e W' hh => ?_
  obtain ⟨rfl, bel⟩ := hh
  exact ⟨_, rfl, _, _, _, [], _, [], hW', trodAll_mk1 (shut_bool Try.underlying4 _), (trodAll_cons_mk (shut_int Try.underlying3 w0) (trodAll_cons_mk (Below.trod laidOut (by kernel_rfl) (of_decide_eq_true (by kernel_rfl)) k1 bel lt1) trodAll_mk0)), rfl, bel.frame _, fun h => by cases h⟩
theorem over : Rows.fnExactAfterDoingRow.holds Try.pinned (OpenSpec.ofChange Rows.fnExactAfterDoingSpec) :=
  OpenClaim.holds_of_wide 8 Try.f8 rfl rfl rfl rfl rfl rfl rfl ⟨rfl, rfl, rfl, rfl, rfl⟩ rfl rfl rfl rfl rfl (by kernel_rfl) Try.func8 (by kernel_rfl)
    (of_decide_eq_true (by kernel_rfl)) (by unfold Func.isWrapper; first | (rw [if_pos (by decide +kernel)]; kernel_rfl) | (rw [if_neg (by decide +kernel)]; exact ⟨rfl, rfl⟩))
    (fun os started H enc _ => lifted os started H enc)
theorem proved : Rows.FnExactAfterDoingSaid := over
#print axioms proved
end Go.Proofs.Ythcmofhlljmccaa.fnExactAfterDoing
namespace Go.Proofs.Ythcmofhlljmccaa
/-- The row, under a short name, for the claim. -/
theorem fnExactAfterDoing_holds : Rows.FnExactAfterDoingSaid := fnExactAfterDoing.proved
end Go.Proofs.Ythcmofhlljmccaa
