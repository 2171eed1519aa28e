/- The law FnExactAskMusic of the given program, joined: its Go text, walked, answers true for every input that reads as data. -/
import Derived.Test.YtjaljjdmolhhpaaRows
import Derived.Test.YtjaljjdmolhhpaaXFnExactAskMusicx10
import Derived.Test.YtjaljjdmolhhpaaPureFnExactAskMusic
import Derived.Test.YtjaljjdmolhhpaaXOpen
import Derived.WalkKit
import Derived.ProofKit
import Derived.OpenShut
import Derived.ShutString
import Derived.ChangeOld
import Derived.Below
import Derived.SizedLaws
import Derived.Carry
import Derived.WideShapes
namespace Go.Proofs.Ytjaljjdmolhhpaa.fnExactAskMusic
open Go.ChangeShapes Go.WideShapes Go.ChangeAt Go.RowKit Go.Proofs.Ytjaljjdmolhhpaa.XFnExactAskMusic Go.Proofs.YtjaljjdmolhhpaaW.PrintWords
open Go.ChangeMaps (open_string shut_string)
set_option linter.unusedVariables false
theorem own : ownKnob Try.prog.godebug = none := by kernel_rfl
theorem laidOut : laidOutB Try.prog = true := by kernel_rfl
set_option maxRecDepth 100000 in
theorem op9 : X.Opens Try.prog 9 Kd.string (fun z => z.size ≤ maxLen) := X.opens_string (by kernel_rfl) (by kernel_rfl)
set_option maxRecDepth 100000 in
theorem op3 : X.Opens Try.prog 3 (Kd.int .i64) (fun z => (Lit.int .i64 z).wf = true) := X.opens_int (by kernel_rfl) (by kernel_rfl)
set_option maxRecDepth 100000 in
theorem op22 : X.Opens Try.prog 22 (Kd.slice 3 (Kd.int .i64)) (fun z => z.length ≤ maxLen ∧ ∀ z233 ∈ z, (Lit.int .i64 z233).wf = true) := X.opens_slice (by kernel_rfl) (by kernel_rfl) op3
set_option maxRecDepth 100000 in
theorem op156 : X.Opens Try.prog 156 k156 (fun z => ok156 z) := by
  have h_ := X.opens_struct (d := (Kd.pair Kd.string (Kd.pair (Kd.int .i64) (Kd.pair (Kd.slice 3 (Kd.int .i64)) Kd.string)))) (f := fun x : S156 => (x.f0, x.f1, x.f2, x.f3)) Try.underlying156 (by kernel_rfl) (fun y => ⟨⟨y.1, y.2.1, y.2.2.1, y.2.2.2⟩, rfl⟩) (X.opensF_cons (by rfl) op9 (X.opensF_cons (by rfl) op3 (X.opensF_cons (by rfl) op22 (X.opensF_one (by rfl) op9))))
  exact h_.mono (fun z h => h)
set_option maxRecDepth 100000 in
theorem op63 : X.Opens Try.prog 63 (Kd.slice 156 k156) (fun z => z.length ≤ maxLen ∧ ∀ z234 ∈ z, ok156 z234) := X.opens_slice (by kernel_rfl) (by kernel_rfl) op156
set_option maxRecDepth 100000 in
theorem op65 : X.Opens Try.prog 65 k65 (fun z => ok65 z) := by
  have h_ := X.opens_struct (d := (Kd.pair Kd.string (Kd.pair (Kd.int .i64) Kd.string))) (f := fun x : S65 => (x.f0, x.f1, x.f2)) Try.underlying65 (by kernel_rfl) (fun y => ⟨⟨y.1, y.2.1, y.2.2⟩, rfl⟩) (X.opensF_cons (by rfl) op9 (X.opensF_cons (by rfl) op3 (X.opensF_one (by rfl) op9)))
  exact h_.mono (fun z h => h)
set_option maxRecDepth 100000 in
theorem lifted (os : Os) (started : os.Started) (H : Type) (enc : TypeId × Value → H) :
    ReturnsInHanded {} Try.checked os 12 .any (Rows.fnExactAskMusicSpec.pre6 enc Try.prog Try.f12 Rows.fnExactAskMusicRow.domain false) (Rows.fnExactAskMusicSpec.post enc Try.prog Try.f12 false true false false) := by
  refine returnsInHanded_of_change_sized (C := Try.checked) own started (by kernel_rfl) Try.func12
    (ChangeSpec.witness6 (enc := enc) (C := Try.checked) false ⟨#[], #[.slice none 0 0, .agg #[.string ByteArray.empty, .int .i64 0, .string ByteArray.empty], .string ByteArray.empty], []⟩ 8 (by kernel_rfl) (by kernel_rfl) (by kernel_rfl) (by kernel_rfl)) ?_
  intro W base args ds gs before hval0 hW hcnd hsz0 _
  clear hsz0
  have hval : ∀ (j : Nat) t v, Try.f12.params[j]? = some t → args[j]? = some v → Value.okWide Try.prog W .any base t v := hval0
  have hW' := hW
  obtain ⟨p, q, hA0, hV, rfl, hfz, hnd⟩ := hW
  have hA : DataW.TrodAll enc Try.prog W 0 (fun _ => true) true Try.f12.params.toList args.toList ds p := hA0
  rw [Try.params12] at hA hval
  obtain ⟨v0, vs0, d0, ds0, p0, q0, hargs, rfl, rfl, h0, r0⟩ := trodAll_cons hA
  obtain ⟨v1, vs1, d1, ds1, p1, q1, rfl, rfl, rfl, h1, r1⟩ := trodAll_cons r0
  obtain ⟨v2, vs2, d2, ds2, p2, q2, rfl, rfl, rfl, h2, r2⟩ := trodAll_cons r1
  obtain ⟨rfl, rfl, rfl⟩ := trodAll_nil r2
  obtain rfl : args = #[v0, v1, v2] := by cases args; simp_all
  obtain ⟨rfl, rfl⟩ := trodVars_none hV
  obtain ⟨a0, len0, cap0, rfl⟩ := okWide_slice Try.underlying63 (hval 0 63 v0 rfl rfl)
  have k0 := h0
  have lt0 : ∀ x ∈ p0, x.block < W.heap.size := by obtain ⟨m, hm⟩ := k0; exact DataW.trod_lt m _ _ _ hm
  obtain ⟨fu0, hf0⟩ := h0
  obtain ⟨l0, ⟨A0, c0, hcs0, hc0, hr0⟩, hl0, ho0⟩ := op63.2 hf0
  obtain ⟨rfl, rfl, rfl⟩ : a0 = A0 ∧ len0 = l0.length ∧ cap0 = c0 := by simpa [Value.cells] using hcs0
  obtain ⟨cs1, rfl, _⟩ := okWide_struct Try.underlying65 (hval 1 65 v1 rfl rfl)
  have k1 := h1
  have lt1 : ∀ x ∈ p1, x.block < W.heap.size := by obtain ⟨m, hm⟩ := k1; exact DataW.trod_lt m _ _ _ hm
  obtain ⟨fu1, hf1⟩ := h1
  obtain ⟨z1, hK1, ho1⟩ := op65.2 hf1
  obtain hcs1 := k65_open hK1
  obtain ⟨cs1⟩ := cs1
  obtain rfl : cs1 = _ := hcs1
  obtain ⟨a2, rfl, rfl, rfl, y2⟩ := open_string Try.underlying9 (hval 2 9 v2 rfl rfl) h2
  clear hA0 hval0
  obtain ⟨k, h⟩ := Pure.FnExactAskMusic l0 z1.f0 z1.f1 z1.f2 a2 ⟨hl0, ho0⟩ ho1.1 ho1.2.1 ho1.2.2 y2
  refine (XFnExactAskMusic.laws_FnExactAskMusic.calls k _ _ l0 z1.f0 z1.f1 z1.f2 a2 true W hr0 hc0 h).mono fun e W' hh => ?_
  obtain ⟨rfl, bel⟩ := hh
  exact ⟨_, rfl, _, _, _, [], _, [], hW', trodAll_mk1 (shut_bool Try.underlying4 _), (trodAll_cons_mk (Below.trod laidOut (by kernel_rfl) (of_decide_eq_true (by kernel_rfl)) k0 bel lt0) (trodAll_cons_mk (Below.trod laidOut (by kernel_rfl) (of_decide_eq_true (by kernel_rfl)) k1 bel lt1) (trodAll_cons_mk (shut_string Try.underlying9 y2) trodAll_mk0))), rfl, bel.frame _, fun h => by cases h⟩
theorem over : Rows.fnExactAskMusicRow.holds Try.pinned (OpenSpec.ofChange Rows.fnExactAskMusicSpec) :=
  OpenClaim.holds_of_wide 12 Try.f12 rfl rfl rfl rfl rfl rfl rfl ⟨rfl, rfl, rfl, rfl, rfl⟩ rfl rfl rfl rfl rfl (by kernel_rfl) Try.func12 (by kernel_rfl)
    (of_decide_eq_true (by kernel_rfl)) (by unfold Func.isWrapper; first | (rw [if_pos (by decide +kernel)]; kernel_rfl) | (rw [if_neg (by decide +kernel)]; exact ⟨rfl, rfl⟩))
    (fun os started H enc _ => lifted os started H enc)
theorem proved : Rows.FnExactAskMusicSaid := over
#print axioms proved
end Go.Proofs.Ytjaljjdmolhhpaa.fnExactAskMusic
namespace Go.Proofs.Ytjaljjdmolhhpaa
/-- The row, under a short name, for the claim. -/
theorem fnExactAskMusic_holds : Rows.FnExactAskMusicSaid := fnExactAskMusic.proved
end Go.Proofs.Ytjaljjdmolhhpaa
