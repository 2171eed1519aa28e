/- The law FnExactRunMusic of the given program, joined: its Go text, walked, answers true for every input that reads as data. -/
import Derived.Test.YtcabbfphidjapaaDoorRows
import Derived.Test.YtcabbfphidjapaaDoorXFnExactRunMusicx13
import Derived.Test.YtcabbfphidjapaaDoorPureFnExactRunMusic
import Derived.Test.YtcabbfphidjapaaDoorXOpen
import Derived.WalkKit
import Derived.ProofKit
import Derived.OpenShut
import Derived.ShutString
import Derived.ChangeOld
import Derived.Below
import Derived.SizedLaws
import Derived.Carry
import Derived.WideShapes
import Derived.LaidMore
import Derived.Stop.Joined
import Derived.SevenTiedAt
import Derived.Test.YtcabbfphidjapaaDoorTie
import Derived.Test.YtcabbfphidjapaaDoorCards
namespace Go.Proofs.YtcabbfphidjapaaDoor.fnExactRunMusic
open Go.ChangeShapes Go.WideShapes Go.ChangeAt Go.RowKit Go.Proofs.YtcabbfphidjapaaDoor.XFnExactRunMusic Go.Proofs.YtcabbfphidjapaaDoorW.PrintWords
open Go.ChangeMaps (open_string shut_string)
set_option linter.unusedVariables false
theorem own : ownKnob Tryd.prog.godebug = none := by kernel_rfl
theorem laidOut : laidOutB Tryd.prog = true := by kernel_rfl
set_option maxRecDepth 1000000 in
/-- The door's own heap lays what the row lists. -/
theorem door_met (os : Os) (args : Array Value) : laidMetH Tryd.prog Rows.fnExactRunMusicRow.laid ((World.doorLaid Tryd.prog 400 os).forCall (fun _ _ => 0) ⟨#[], args, []⟩).memory :=
  laidMetH_of_parts3 (fuel := 8) (laidMet_of_run' 8 (by kernel_rfl) (by kernel_rfl)) (by kernel_rfl) (by kernel_rfl)
set_option maxRecDepth 100000 in
theorem op9 : X.Opens Tryd.prog 9 Kd.string (fun z => z.size ≤ maxLen) := X.opens_string (by kernel_rfl) (by kernel_rfl)
set_option maxRecDepth 100000 in
theorem op3 : X.Opens Tryd.prog 3 (Kd.int .i64) (fun z => (Lit.int .i64 z).wf = true) := X.opens_int (by kernel_rfl) (by kernel_rfl)
set_option maxRecDepth 100000 in
theorem op44 : X.Opens Tryd.prog 44 (Kd.slice 3 (Kd.int .i64)) (fun z => z.length ≤ maxLen ∧ ∀ z273 ∈ z, (Lit.int .i64 z273).wf = true) := X.opens_slice (by kernel_rfl) (by kernel_rfl) op3
set_option maxRecDepth 100000 in
theorem op46 : X.Opens Tryd.prog 46 k46 (fun z => ok46 z) := by
  have h_ := X.opens_struct (d := (Kd.pair Kd.string (Kd.pair (Kd.int .i64) (Kd.pair (Kd.slice 3 (Kd.int .i64)) Kd.string)))) (f := fun x : S46 => (x.f0, x.f1, x.f2, x.f3)) Tryd.underlying46 (by kernel_rfl) (fun y => ⟨⟨y.1, y.2.1, y.2.2.1, y.2.2.2⟩, rfl⟩) (X.opensF_cons (by rfl) op9 (X.opensF_cons (by rfl) op3 (X.opensF_cons (by rfl) op44 (X.opensF_one (by rfl) op9))))
  exact h_.mono (fun z h => h)
set_option maxRecDepth 100000 in
theorem op22 : X.Opens Tryd.prog 22 (Kd.slice 46 k46) (fun z => z.length ≤ maxLen ∧ ∀ z274 ∈ z, ok46 z274) := X.opens_slice (by kernel_rfl) (by kernel_rfl) op46
set_option maxRecDepth 100000 in
theorem op24 : X.Opens Tryd.prog 24 k24 (fun z => ok24 z) := by
  have h_ := X.opens_struct (d := (Kd.pair Kd.string (Kd.pair (Kd.int .i64) Kd.string))) (f := fun x : S24 => (x.f0, x.f1, x.f2)) Tryd.underlying24 (by kernel_rfl) (fun y => ⟨⟨y.1, y.2.1, y.2.2⟩, rfl⟩) (X.opensF_cons (by rfl) op9 (X.opensF_cons (by rfl) op3 (X.opensF_one (by rfl) op9)))
  exact h_.mono (fun z h => h)
set_option maxRecDepth 100000 in
theorem lifted (os : Os) (started : os.Started) (H : Type) (enc : TypeId × Value → H) :
    ReturnsInHanded {} Tryd.checked os 3 .any (fun w args => (Rows.fnExactRunMusicSpec.pre enc Tryd.prog Tryd.f3 [] false w args ∧ laidMetH Tryd.prog Rows.fnExactRunMusicRow.laid w) ∧ sizedMet enc Tryd.prog Tryd.f3 (OpenSpec.ofChange Rows.fnExactRunMusicSpec) false w args) (Rows.fnExactRunMusicSpec.post enc Tryd.prog Tryd.f3 false true false false) := by
  refine returnsInHanded_of_change_and (C := Tryd.checked) (X := fun w _ => laidMetH Tryd.prog Rows.fnExactRunMusicRow.laid w) (fun _ _ _ hh h => h.of_heap hh) own started (by kernel_rfl) Tryd.func3
    (ChangeSpec.witness_shaped (enc := enc) (C := Tryd.checked) (os := os) (X := fun w _ => laidMetH Tryd.prog Rows.fnExactRunMusicRow.laid w) false (World.doorLaid Tryd.prog 400 os) #[.slice none 0 0, .agg #[.string ByteArray.empty, .int .i64 0, .string ByteArray.empty], .int .i64 0] 8 rfl (World.shaped_of_RefB (by kernel_rfl) (by kernel_rfl)) (by kernel_rfl) (by kernel_rfl) (by kernel_rfl) (door_met os _)) ?_
  intro W base args ds gs before hval0 hW _ _ hL _
  have hval : ∀ (j : Nat) t v, Tryd.f3.params[j]? = some t → args[j]? = some v → Value.okWide Tryd.prog W .any base t v := hval0
  have hW' := hW
  obtain ⟨p, q, hA0, hV, rfl, hfz, hnd⟩ := hW
  have hA : DataW.TrodAll enc Tryd.prog W 0 (fun _ => true) true Tryd.f3.params.toList args.toList ds p := hA0
  rw [Tryd.params3] at hA hval
  obtain ⟨v0, vs0, d0, ds0, p0, q0, hargs, rfl, rfl, h0, r0⟩ := trodAll_cons hA
  obtain ⟨v1, vs1, d1, ds1, p1, q1, rfl, rfl, rfl, h1, r1⟩ := trodAll_cons r0
  obtain ⟨v2, vs2, d2, ds2, p2, q2, rfl, rfl, rfl, h2, r2⟩ := trodAll_cons r1
  obtain ⟨rfl, rfl, rfl⟩ := trodAll_nil r2
  obtain rfl : args = #[v0, v1, v2] := by cases args; simp_all
  obtain ⟨rfl, rfl⟩ := trodVars_none hV
  obtain ⟨a0, len0, cap0, rfl⟩ := okWide_slice Tryd.underlying22 (hval 0 22 v0 rfl rfl)
  have k0 := h0
  have lt0 : ∀ x ∈ p0, x.block < W.heap.size := by obtain ⟨m, hm⟩ := k0; exact DataW.trod_lt m _ _ _ hm
  obtain ⟨fu0, hf0⟩ := h0
  obtain ⟨l0, ⟨A0, c0, hcs0, hc0, hr0⟩, hl0, ho0⟩ := op22.2 hf0
  obtain ⟨rfl, rfl, rfl⟩ : a0 = A0 ∧ len0 = l0.length ∧ cap0 = c0 := by simpa [Value.cells] using hcs0
  obtain ⟨cs1, rfl, _⟩ := okWide_struct Tryd.underlying24 (hval 1 24 v1 rfl rfl)
  have k1 := h1
  have lt1 : ∀ x ∈ p1, x.block < W.heap.size := by obtain ⟨m, hm⟩ := k1; exact DataW.trod_lt m _ _ _ hm
  obtain ⟨fu1, hf1⟩ := h1
  obtain ⟨z1, hK1, ho1⟩ := op24.2 hf1
  obtain hcs1 := k24_open hK1
  obtain ⟨cs1⟩ := cs1
  obtain rfl : cs1 = _ := hcs1
  obtain ⟨a2, rfl, rfl, rfl, w2⟩ := open_int Tryd.underlying3 (hval 2 3 v2 rfl rfl) h2
  clear hA0 hval0
  obtain ⟨k, h⟩ := Pure.FnExactRunMusic l0 z1.f0 z1.f1 z1.f2 a2 ⟨hl0, ho0⟩ ho1.1 ho1.2.1 ho1.2.2 w2
  refine (XFnExactRunMusic.laws_FnExactRunMusic.calls k _ _ l0 z1.f0 z1.f1 z1.f2 a2 true W hr0 hc0 h).mono fun e W' hh => ?_
  obtain ⟨rfl, bel⟩ := hh
  exact ⟨_, rfl, _, _, _, [], _, [], hW', trodAll_mk1 (shut_bool Tryd.underlying4 _), (trodAll_cons_mk (Below.trod laidOut (by kernel_rfl) (of_decide_eq_true (by kernel_rfl)) k0 bel lt0) (trodAll_cons_mk (Below.trod laidOut (by kernel_rfl) (of_decide_eq_true (by kernel_rfl)) k1 bel lt1) (trodAll_cons_mk (shut_int Tryd.underlying3 w2) trodAll_mk0))), rfl, bel.frame _, fun h => by cases h⟩
theorem over : Rows.fnExactRunMusicRow.holds Tryd.pinned (OpenSpec.ofChange Rows.fnExactRunMusicSpec) :=
  OpenClaim.holds_of_wide 3 Tryd.f3 rfl rfl rfl rfl rfl rfl rfl ⟨rfl, rfl, rfl, rfl, rfl⟩ rfl rfl rfl rfl rfl (by kernel_rfl) Tryd.func3 (by kernel_rfl)
    (of_decide_eq_true (by kernel_rfl)) (by unfold Func.isWrapper; first | (rw [if_pos (by decide +kernel)]; kernel_rfl) | (rw [if_neg (by decide +kernel)]; exact ⟨rfl, rfl⟩))
    (fun os started H enc _ => lifted os started H enc)
theorem proved : Rows.FnExactRunMusicSaid := over
#print axioms proved
end Go.Proofs.YtcabbfphidjapaaDoor.fnExactRunMusic
namespace Go.Proofs.YtcabbfphidjapaaDoor
/-- The row, under a short name, for the claim. -/
theorem fnExactRunMusic_holds : Rows.FnExactRunMusicSaid := fnExactRunMusic.proved
/-- The tied card: the row, its listed variables tied to the program's text (the tie is given). -/
theorem fnExactRunMusicCard_holds : Rows.FnExactRunMusicCardSaid :=
  Claim7.holds_tied_plain_at .later [] [.data, .data, .data] true (true, "aa429f306ebeb056c29d9a5889c41fc8b6390209da48b5dff766ac27a3c8c6c8") false
    fnExactRunMusic_holds (fun _ h => by cases h) (by kernel_rfl) (fun _ h => by cases h) fnExactRunMusic_row_tie rfl ⟨rfl, rfl⟩ (by kernel_rfl) rfl
    (fun f fn hf hfn => by
      obtain rfl : f = 3 := Option.some.inj ((show Tryd.prog.funcNamed "loop.example/g00064/laws.FnExactRunMusic" = some 3 by kernel_rfl).symm.trans hf) |>.symm
      obtain rfl : fn = Tryd.f3 := (Option.some.inj (Tryd.func3.symm.trans hfn)).symm
      refine ⟨by kernel_rfl, fun j t ht => ?_⟩
      have hall : (Tryd.f3.params.toList.all fun t => !Tryd.prog.wantsStandIn t) = true := by kernel_rfl
      have hm : t ∈ Tryd.f3.params.toList := Array.mem_toList_iff.2 (Array.mem_of_getElem? ht)
      have h2 : Tryd.prog.wantsStandIn t = false := by simpa using List.all_eq_true.1 hall t hm
      exact h2)
    (by kernel_rfl)
#print axioms fnExactRunMusicCard_holds
end Go.Proofs.YtcabbfphidjapaaDoor
