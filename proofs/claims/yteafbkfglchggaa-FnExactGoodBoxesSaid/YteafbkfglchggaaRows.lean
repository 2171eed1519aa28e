/-
  No cell of these rows narrows 'for every input' (looked for: loops, veiled, ifaces, maps, wideKeys, modest, calm, conditions, laid).
  DERIVED. THE GIVEN ROWS OF THIS SEAT. 6 by the template 'for every input the law returns true; each argument reads behind the call as it read before'; 0 by the template 'total and deterministic' (their statements: YteafbkfglchggaaTotals.lean).
  GIVEN WITH THE SEED: the statements are not yours to turn. If you find one false, say at which input.
  Laid BY PROGRAM, IN A SANDBOX (cutbox-rows.mjs): the forced cells as the released guide's own fill.sh prints them over the translation 2148b5f6421debcc… (all of the seat's roots in one cut). By AI agents, Wed Nov 11 2026. No macro, syntax, notation, axiom, sorry.
-/
import Derived.Test.YteafbkfglchggaaChecked
import GoSem.Claim
import GoSem.ClaimJoined
import GoSem.ClaimMapViews
import Derived.JoinedTies
import Derived.KernelRfl
namespace Go.Proofs.Yteafbkfglchggaa
/- THE CELL 'sum', in the pinned program and in every row, IS THE sha256 OF THE DUMP (.gsa) THAT YteafbkfglchggaaProg.lean LOADS. Nothing in Lean hashes anything: it is a label: what it is worth is what the hold of that sum in a sandbox is worth. -/
noncomputable def Try.pinned : Pinned := { name := "yteafbkfglchggaa", sum := "2148b5f6421debccbb6520da230af1a0bd7d72401fb830cf2b76bce56bab6602", checked := Try.checked }
namespace Rows
def none {H : Type} : Left H := { results := [], args := [] }

/-- 'laws.FnExactGoodEmitter': WHATEVER THE INPUT: true; the input reads as it did. -/
def fnExactGoodEmitterSpec : ChangeSpec := { name := "fnExactGoodEmitter", fn := fun _ => fun
  | [d] => { results := [.lit (.bool true)], args := [d] }
  | _ => none }
def fnExactGoodEmitterRow : OpenClaim := { program := "yteafbkfglchggaa", sum := "2148b5f6421debccbb6520da230af1a0bd7d72401fb830cf2b76bce56bab6602", func := "loop.example/g00064/laws.FnExactGoodEmitter", spec := "fnExactGoodEmitter", apart := false }
def FnExactGoodEmitterSaid : Prop := fnExactGoodEmitterRow.holds Try.pinned (OpenSpec.ofChange fnExactGoodEmitterSpec)

/-- ITS FALSE NEIGHBOUR: 'it returns false'. Refute it at one input. -/
def fnExactGoodEmitterWrong : ChangeSpec := { name := "fnExactGoodEmitter", fn := fun _ => fun
  | [d] => { results := [.lit (.bool false)], args := [d] }
  | _ => none }
def FnExactGoodEmitterWrongFalsely : Prop := fnExactGoodEmitterRow.holds Try.pinned (OpenSpec.ofChange fnExactGoodEmitterWrong)

/-- 'laws.FnExactLanguages': WHATEVER THE INPUT: true; the input reads as it did. -/
def fnExactLanguagesSpec : ChangeSpec := { name := "fnExactLanguages", fn := fun _ => fun
  | [] => { results := [.lit (.bool true)], args := [] }
  | _ => none }
def fnExactLanguagesRow : OpenClaim := { program := "yteafbkfglchggaa", sum := "2148b5f6421debccbb6520da230af1a0bd7d72401fb830cf2b76bce56bab6602", func := "loop.example/g00064/laws.FnExactLanguages", spec := "fnExactLanguages", apart := false }
def FnExactLanguagesSaid : Prop := fnExactLanguagesRow.holds Try.pinned (OpenSpec.ofChange fnExactLanguagesSpec)

/-- ITS FALSE NEIGHBOUR: 'it returns false'. Refute it at one input. -/
def fnExactLanguagesWrong : ChangeSpec := { name := "fnExactLanguages", fn := fun _ => fun
  | [] => { results := [.lit (.bool false)], args := [] }
  | _ => none }
def FnExactLanguagesWrongFalsely : Prop := fnExactLanguagesRow.holds Try.pinned (OpenSpec.ofChange fnExactLanguagesWrong)

/-- 'laws.FnExactFormsOf': WHATEVER THE INPUT: true; the input reads as it did. -/
def fnExactFormsOfSpec : ChangeSpec := { name := "fnExactFormsOf", fn := fun _ => fun
  | [d] => { results := [.lit (.bool true)], args := [d] }
  | _ => none }
def fnExactFormsOfRow : OpenClaim := { program := "yteafbkfglchggaa", sum := "2148b5f6421debccbb6520da230af1a0bd7d72401fb830cf2b76bce56bab6602", func := "loop.example/g00064/laws.FnExactFormsOf", spec := "fnExactFormsOf", apart := false }
def FnExactFormsOfSaid : Prop := fnExactFormsOfRow.holds Try.pinned (OpenSpec.ofChange fnExactFormsOfSpec)

/-- ITS FALSE NEIGHBOUR: 'it returns false'. Refute it at one input. -/
def fnExactFormsOfWrong : ChangeSpec := { name := "fnExactFormsOf", fn := fun _ => fun
  | [d] => { results := [.lit (.bool false)], args := [d] }
  | _ => none }
def FnExactFormsOfWrongFalsely : Prop := fnExactFormsOfRow.holds Try.pinned (OpenSpec.ofChange fnExactFormsOfWrong)

/-- 'laws.FnExactGoodFilter': WHATEVER THE INPUT: true; the input reads as it did. -/
def fnExactGoodFilterSpec : ChangeSpec := { name := "fnExactGoodFilter", fn := fun _ => fun
  | [d] => { results := [.lit (.bool true)], args := [d] }
  | _ => none }
def fnExactGoodFilterRow : OpenClaim := { program := "yteafbkfglchggaa", sum := "2148b5f6421debccbb6520da230af1a0bd7d72401fb830cf2b76bce56bab6602", func := "loop.example/g00064/laws.FnExactGoodFilter", spec := "fnExactGoodFilter", inPlace := ["math.Float64bits", "math.Float64frombits"], unfollowed := true, recurses := true, apart := false }
def FnExactGoodFilterSaid : Prop := fnExactGoodFilterRow.holds Try.pinned (OpenSpec.ofChange fnExactGoodFilterSpec)

/-- ITS FALSE NEIGHBOUR: 'it returns false'. Refute it at one input. -/
def fnExactGoodFilterWrong : ChangeSpec := { name := "fnExactGoodFilter", fn := fun _ => fun
  | [d] => { results := [.lit (.bool false)], args := [d] }
  | _ => none }
def FnExactGoodFilterWrongFalsely : Prop := fnExactGoodFilterRow.holds Try.pinned (OpenSpec.ofChange fnExactGoodFilterWrong)

/-- 'laws.FnExactMayDo': WHATEVER THE INPUT: true; the input reads as it did. -/
def fnExactMayDoSpec : ChangeSpec := { name := "fnExactMayDo", fn := fun _ => fun
  | [d1, d2] => { results := [.lit (.bool true)], args := [d1, d2] }
  | _ => none }
def fnExactMayDoRow : OpenClaim := { program := "yteafbkfglchggaa", sum := "2148b5f6421debccbb6520da230af1a0bd7d72401fb830cf2b76bce56bab6602", func := "loop.example/g00064/laws.FnExactMayDo", spec := "fnExactMayDo", unfollowed := true, recurses := true, apart := false }
def FnExactMayDoSaid : Prop := fnExactMayDoRow.holds Try.pinned (OpenSpec.ofChange fnExactMayDoSpec)

/-- ITS FALSE NEIGHBOUR: 'it returns false'. Refute it at one input. -/
def fnExactMayDoWrong : ChangeSpec := { name := "fnExactMayDo", fn := fun _ => fun
  | [d1, d2] => { results := [.lit (.bool false)], args := [d1, d2] }
  | _ => none }
def FnExactMayDoWrongFalsely : Prop := fnExactMayDoRow.holds Try.pinned (OpenSpec.ofChange fnExactMayDoWrong)

/-- 'laws.FnExactGoodBoxes': WHATEVER THE INPUT: true; the input reads as it did. -/
def fnExactGoodBoxesSpec : ChangeSpec := { name := "fnExactGoodBoxes", fn := fun _ => fun
  | [d] => { results := [.lit (.bool true)], args := [d] }
  | _ => none }
def fnExactGoodBoxesRow : OpenClaim := { program := "yteafbkfglchggaa", sum := "2148b5f6421debccbb6520da230af1a0bd7d72401fb830cf2b76bce56bab6602", func := "loop.example/g00064/laws.FnExactGoodBoxes", spec := "fnExactGoodBoxes", apart := false }
def FnExactGoodBoxesSaid : Prop := fnExactGoodBoxesRow.holds Try.pinned (OpenSpec.ofChange fnExactGoodBoxesSpec)

/-- ITS FALSE NEIGHBOUR: 'it returns false'. Refute it at one input. -/
def fnExactGoodBoxesWrong : ChangeSpec := { name := "fnExactGoodBoxes", fn := fun _ => fun
  | [d] => { results := [.lit (.bool false)], args := [d] }
  | _ => none }
def FnExactGoodBoxesWrongFalsely : Prop := fnExactGoodBoxesRow.holds Try.pinned (OpenSpec.ofChange fnExactGoodBoxesWrong)

/- THE SECOND FORM. 'bulk': how many values and letters a reading holds, each counted each time it is reached (what is shared counts as often as it is met; a slice's spare places count too). A statement '..UptoSaid' is the law's where the arguments, and the package variables that the reading takes, are together of bulk at most 1048576: NARROWER than '..Said'. Prove '..Said' where nothing that the law and all that it calls make is longer than what came in: it says more and counts as full. Else prove '..UptoSaid'. A law counts once. -/
mutual
def uptoBulk {H : Type} : DataW H → Nat
  | .lit (.string bytes) => bytes.length + 1
  | .lit _ => 1
  | .nil => 1
  | .ptr d => uptoBulk d + 1
  | .slice elems spare => uptoBulkAll elems + uptoBulkAll spare + 1
  | .agg parts => uptoBulkAll parts + 1
  | .iface _ d => uptoBulk d + 1
  | .map entries => uptoBulkEntries entries + 1
  | .held _ => 1
def uptoBulkAll {H : Type} : List (DataW H) → Nat
  | [] => 0
  | d :: r => uptoBulk d + uptoBulkAll r
def uptoBulkEntries {H : Type} : List (Lit × DataW H) → Nat
  | [] => 0
  | x :: r => uptoBulkEntry x + uptoBulkEntries r
def uptoBulkEntry {H : Type} : Lit × DataW H → Nat
  | (.string bytes, d) => bytes.length + uptoBulk d + 1
  | (_, d) => uptoBulk d + 1
 end
def uptoSmall : (H : Type) → List (DataW H) → Bool := fun _ ds => decide (uptoBulkAll ds ≤ 1048576)
def OpenSpec.upto (s : _root_.Go.ChangeSpec) : _root_.Go.OpenSpec := { _root_.Go.OpenSpec.ofChange s with cond := some uptoSmall }

/-- 'laws.FnExactGoodEmitter', WHERE WHAT IT READS IS OF BULK AT MOST 1048576: true; the input reads as it did. -/
def fnExactGoodEmitterUptoRow : OpenClaim := { program := "yteafbkfglchggaa", sum := "2148b5f6421debccbb6520da230af1a0bd7d72401fb830cf2b76bce56bab6602", func := "loop.example/g00064/laws.FnExactGoodEmitter", spec := "fnExactGoodEmitter", apart := false, narrowed := true }
def FnExactGoodEmitterUptoSaid : Prop := fnExactGoodEmitterUptoRow.holds Try.pinned (OpenSpec.upto fnExactGoodEmitterSpec)

/-- 'laws.FnExactLanguages', WHERE WHAT IT READS IS OF BULK AT MOST 1048576: true; the input reads as it did. -/
def fnExactLanguagesUptoRow : OpenClaim := { program := "yteafbkfglchggaa", sum := "2148b5f6421debccbb6520da230af1a0bd7d72401fb830cf2b76bce56bab6602", func := "loop.example/g00064/laws.FnExactLanguages", spec := "fnExactLanguages", apart := false, narrowed := true }
def FnExactLanguagesUptoSaid : Prop := fnExactLanguagesUptoRow.holds Try.pinned (OpenSpec.upto fnExactLanguagesSpec)

/-- 'laws.FnExactFormsOf', WHERE WHAT IT READS IS OF BULK AT MOST 1048576: true; the input reads as it did. -/
def fnExactFormsOfUptoRow : OpenClaim := { program := "yteafbkfglchggaa", sum := "2148b5f6421debccbb6520da230af1a0bd7d72401fb830cf2b76bce56bab6602", func := "loop.example/g00064/laws.FnExactFormsOf", spec := "fnExactFormsOf", apart := false, narrowed := true }
def FnExactFormsOfUptoSaid : Prop := fnExactFormsOfUptoRow.holds Try.pinned (OpenSpec.upto fnExactFormsOfSpec)

/-- 'laws.FnExactGoodFilter', WHERE WHAT IT READS IS OF BULK AT MOST 1048576: true; the input reads as it did. -/
def fnExactGoodFilterUptoRow : OpenClaim := { program := "yteafbkfglchggaa", sum := "2148b5f6421debccbb6520da230af1a0bd7d72401fb830cf2b76bce56bab6602", func := "loop.example/g00064/laws.FnExactGoodFilter", spec := "fnExactGoodFilter", inPlace := ["math.Float64bits", "math.Float64frombits"], unfollowed := true, recurses := true, apart := false, narrowed := true }
def FnExactGoodFilterUptoSaid : Prop := fnExactGoodFilterUptoRow.holds Try.pinned (OpenSpec.upto fnExactGoodFilterSpec)

/-- 'laws.FnExactMayDo', WHERE WHAT IT READS IS OF BULK AT MOST 1048576: true; the input reads as it did. -/
def fnExactMayDoUptoRow : OpenClaim := { program := "yteafbkfglchggaa", sum := "2148b5f6421debccbb6520da230af1a0bd7d72401fb830cf2b76bce56bab6602", func := "loop.example/g00064/laws.FnExactMayDo", spec := "fnExactMayDo", unfollowed := true, recurses := true, apart := false, narrowed := true }
def FnExactMayDoUptoSaid : Prop := fnExactMayDoUptoRow.holds Try.pinned (OpenSpec.upto fnExactMayDoSpec)

/-- 'laws.FnExactGoodBoxes', WHERE WHAT IT READS IS OF BULK AT MOST 1048576: true; the input reads as it did. -/
def fnExactGoodBoxesUptoRow : OpenClaim := { program := "yteafbkfglchggaa", sum := "2148b5f6421debccbb6520da230af1a0bd7d72401fb830cf2b76bce56bab6602", func := "loop.example/g00064/laws.FnExactGoodBoxes", spec := "fnExactGoodBoxes", apart := false, narrowed := true }
def FnExactGoodBoxesUptoSaid : Prop := fnExactGoodBoxesUptoRow.holds Try.pinned (OpenSpec.upto fnExactGoodBoxesSpec)

end Rows
end Go.Proofs.Yteafbkfglchggaa
