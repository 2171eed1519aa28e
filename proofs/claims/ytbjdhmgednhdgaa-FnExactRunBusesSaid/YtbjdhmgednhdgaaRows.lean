/-
  No cell of these rows narrows 'for every input' (looked for: loops, veiled, ifaces, maps, wideKeys, modest, calm, conditions, laid).
  DERIVED. THE GIVEN ROWS OF THIS SEAT. 5 by the template 'for every input the law returns true; each argument reads behind the call as it read before'; 0 by the template 'total and deterministic' (their statements: YtbjdhmgednhdgaaTotals.lean).
  GIVEN WITH THE SEED: the statements are not yours to turn. If you find one false, say at which input.
  Laid BY PROGRAM, IN A SANDBOX (cutbox-rows.mjs): the forced cells as the released guide's own fill.sh prints them over the translation 25ee17ffdf21bac8… (all of the seat's roots in one cut). By AI agents, Wed Nov 11 2026. No macro, syntax, notation, axiom, sorry.
-/
import Derived.Test.YtbjdhmgednhdgaaChecked
import GoSem.Claim
import GoSem.ClaimJoined
import GoSem.ClaimMapViews
import Derived.JoinedTies
import Derived.KernelRfl
namespace Go.Proofs.Ytbjdhmgednhdgaa
/- THE CELL 'sum', in the pinned program and in every row, IS THE sha256 OF THE DUMP (.gsa) THAT YtbjdhmgednhdgaaProg.lean LOADS. Nothing in Lean hashes anything: it is a label: what it is worth is what the hold of that sum in a sandbox is worth. -/
noncomputable def Try.pinned : Pinned := { name := "ytbjdhmgednhdgaa", sum := "25ee17ffdf21bac89e73b07b2ab4caa4fe97a7dd2eb2712b50a86baf6cebcfde", checked := Try.checked }
namespace Rows
def none {H : Type} : Left H := { results := [], args := [] }

/-- 'laws.FnExactGoodFilter': WHATEVER THE INPUT: true; the input reads as it did. -/
def fnExactGoodFilterSpec : ChangeSpec := { name := "fnExactGoodFilter", fn := fun _ => fun
  | [d] => { results := [.lit (.bool true)], args := [d] }
  | _ => none }
def fnExactGoodFilterRow : OpenClaim := { program := "ytbjdhmgednhdgaa", sum := "25ee17ffdf21bac89e73b07b2ab4caa4fe97a7dd2eb2712b50a86baf6cebcfde", func := "loop.example/g00064/laws.FnExactGoodFilter", spec := "fnExactGoodFilter", inPlace := ["math.Float64bits", "math.Float64frombits"], unfollowed := true, recurses := true, apart := false }
def FnExactGoodFilterSaid : Prop := fnExactGoodFilterRow.holds Try.pinned (OpenSpec.ofChange fnExactGoodFilterSpec)

/-- ITS FALSE NEIGHBOUR: 'it returns false'. Refute it at one input. -/
def fnExactGoodFilterWrong : ChangeSpec := { name := "fnExactGoodFilter", fn := fun _ => fun
  | [d] => { results := [.lit (.bool false)], args := [d] }
  | _ => none }
def FnExactGoodFilterWrongFalsely : Prop := fnExactGoodFilterRow.holds Try.pinned (OpenSpec.ofChange fnExactGoodFilterWrong)

/-- 'laws.FnExactPowerOf': WHATEVER THE INPUT: true; the input reads as it did. -/
def fnExactPowerOfSpec : ChangeSpec := { name := "fnExactPowerOf", fn := fun _ => fun
  | [d] => { results := [.lit (.bool true)], args := [d] }
  | _ => none }
def fnExactPowerOfRow : OpenClaim := { program := "ytbjdhmgednhdgaa", sum := "25ee17ffdf21bac89e73b07b2ab4caa4fe97a7dd2eb2712b50a86baf6cebcfde", func := "loop.example/g00064/laws.FnExactPowerOf", spec := "fnExactPowerOf", inPlace := ["math.Float64bits", "math.Float64frombits"], unfollowed := true, recurses := true, apart := false }
def FnExactPowerOfSaid : Prop := fnExactPowerOfRow.holds Try.pinned (OpenSpec.ofChange fnExactPowerOfSpec)

/-- ITS FALSE NEIGHBOUR: 'it returns false'. Refute it at one input. -/
def fnExactPowerOfWrong : ChangeSpec := { name := "fnExactPowerOf", fn := fun _ => fun
  | [d] => { results := [.lit (.bool false)], args := [d] }
  | _ => none }
def FnExactPowerOfWrongFalsely : Prop := fnExactPowerOfRow.holds Try.pinned (OpenSpec.ofChange fnExactPowerOfWrong)

/-- 'laws.FnExactShortRow': WHATEVER THE INPUT: true; the input reads as it did. -/
def fnExactShortRowSpec : ChangeSpec := { name := "fnExactShortRow", fn := fun _ => fun
  | [d] => { results := [.lit (.bool true)], args := [d] }
  | _ => none }
def fnExactShortRowRow : OpenClaim := { program := "ytbjdhmgednhdgaa", sum := "25ee17ffdf21bac89e73b07b2ab4caa4fe97a7dd2eb2712b50a86baf6cebcfde", func := "loop.example/g00064/laws.FnExactShortRow", spec := "fnExactShortRow", inPlace := ["math.Float64bits", "math.Float64frombits", "math.Float32bits"], unfollowed := true, recurses := true, apart := false }
def FnExactShortRowSaid : Prop := fnExactShortRowRow.holds Try.pinned (OpenSpec.ofChange fnExactShortRowSpec)

/-- ITS FALSE NEIGHBOUR: 'it returns false'. Refute it at one input. -/
def fnExactShortRowWrong : ChangeSpec := { name := "fnExactShortRow", fn := fun _ => fun
  | [d] => { results := [.lit (.bool false)], args := [d] }
  | _ => none }
def FnExactShortRowWrongFalsely : Prop := fnExactShortRowRow.holds Try.pinned (OpenSpec.ofChange fnExactShortRowWrong)

/-- 'laws.FnExactSpectrum': WHATEVER THE INPUT: true; the input reads as it did. -/
def fnExactSpectrumSpec : ChangeSpec := { name := "fnExactSpectrum", fn := fun _ => fun
  | [d] => { results := [.lit (.bool true)], args := [d] }
  | _ => none }
def fnExactSpectrumRow : OpenClaim := { program := "ytbjdhmgednhdgaa", sum := "25ee17ffdf21bac89e73b07b2ab4caa4fe97a7dd2eb2712b50a86baf6cebcfde", func := "loop.example/g00064/laws.FnExactSpectrum", spec := "fnExactSpectrum", inPlace := ["math.Float64bits", "math.Float64frombits"], unfollowed := true, recurses := true, apart := false }
def FnExactSpectrumSaid : Prop := fnExactSpectrumRow.holds Try.pinned (OpenSpec.ofChange fnExactSpectrumSpec)

/-- ITS FALSE NEIGHBOUR: 'it returns false'. Refute it at one input. -/
def fnExactSpectrumWrong : ChangeSpec := { name := "fnExactSpectrum", fn := fun _ => fun
  | [d] => { results := [.lit (.bool false)], args := [d] }
  | _ => none }
def FnExactSpectrumWrongFalsely : Prop := fnExactSpectrumRow.holds Try.pinned (OpenSpec.ofChange fnExactSpectrumWrong)

/-- 'laws.FnExactRunBuses': WHATEVER THE INPUT: true; the input reads as it did. -/
def fnExactRunBusesSpec : ChangeSpec := { name := "fnExactRunBuses", fn := fun _ => fun
  | [d1, d2] => { results := [.lit (.bool true)], args := [d1, d2] }
  | _ => none }
def fnExactRunBusesRow : OpenClaim := { program := "ytbjdhmgednhdgaa", sum := "25ee17ffdf21bac89e73b07b2ab4caa4fe97a7dd2eb2712b50a86baf6cebcfde", func := "loop.example/g00064/laws.FnExactRunBuses", spec := "fnExactRunBuses", inPlace := ["math.Float64bits", "math.Float64frombits"], unfollowed := true, recurses := true, apart := false }
def FnExactRunBusesSaid : Prop := fnExactRunBusesRow.holds Try.pinned (OpenSpec.ofChange fnExactRunBusesSpec)

/-- ITS FALSE NEIGHBOUR: 'it returns false'. Refute it at one input. -/
def fnExactRunBusesWrong : ChangeSpec := { name := "fnExactRunBuses", fn := fun _ => fun
  | [d1, d2] => { results := [.lit (.bool false)], args := [d1, d2] }
  | _ => none }
def FnExactRunBusesWrongFalsely : Prop := fnExactRunBusesRow.holds Try.pinned (OpenSpec.ofChange fnExactRunBusesWrong)

/- THE SECOND FORM. 'bulk': how many values and letters a reading holds, each counted each time it is reached (what is shared counts as often as it is met; a slice's spare places count too). A statement '..UptoSaid' is the law's where the arguments, and the package variables that the reading takes, are together of bulk at most 1048576: NARROWER than '..Said'. Prove '..Said' where nothing that the law and all that it calls make is longer than what came in: it says more and counts as full. Else prove '..UptoSaid'. A law counts once. -/
mutual
def uptoBulk {H : Type} : DataW H → Nat
  | .lit (.string bytes) => bytes.length + 1
  | .lit _ => 1
  | .nil => 1
  | .ptr d => uptoBulk d + 1
  | .slice elems spare => uptoBulkAll elems + uptoBulkAll spare + 1
  | .agg parts => uptoBulkAll parts + 1
  | .iface _ d => uptoBulk d + 1
  | .map entries => uptoBulkEntries entries + 1
  | .held _ => 1
def uptoBulkAll {H : Type} : List (DataW H) → Nat
  | [] => 0
  | d :: r => uptoBulk d + uptoBulkAll r
def uptoBulkEntries {H : Type} : List (Lit × DataW H) → Nat
  | [] => 0
  | x :: r => uptoBulkEntry x + uptoBulkEntries r
def uptoBulkEntry {H : Type} : Lit × DataW H → Nat
  | (.string bytes, d) => bytes.length + uptoBulk d + 1
  | (_, d) => uptoBulk d + 1
 end
def uptoSmall : (H : Type) → List (DataW H) → Bool := fun _ ds => decide (uptoBulkAll ds ≤ 1048576)
def OpenSpec.upto (s : _root_.Go.ChangeSpec) : _root_.Go.OpenSpec := { _root_.Go.OpenSpec.ofChange s with cond := some uptoSmall }

/-- 'laws.FnExactGoodFilter', WHERE WHAT IT READS IS OF BULK AT MOST 1048576: true; the input reads as it did. -/
def fnExactGoodFilterUptoRow : OpenClaim := { program := "ytbjdhmgednhdgaa", sum := "25ee17ffdf21bac89e73b07b2ab4caa4fe97a7dd2eb2712b50a86baf6cebcfde", func := "loop.example/g00064/laws.FnExactGoodFilter", spec := "fnExactGoodFilter", inPlace := ["math.Float64bits", "math.Float64frombits"], unfollowed := true, recurses := true, apart := false, narrowed := true }
def FnExactGoodFilterUptoSaid : Prop := fnExactGoodFilterUptoRow.holds Try.pinned (OpenSpec.upto fnExactGoodFilterSpec)

/-- 'laws.FnExactPowerOf', WHERE WHAT IT READS IS OF BULK AT MOST 1048576: true; the input reads as it did. -/
def fnExactPowerOfUptoRow : OpenClaim := { program := "ytbjdhmgednhdgaa", sum := "25ee17ffdf21bac89e73b07b2ab4caa4fe97a7dd2eb2712b50a86baf6cebcfde", func := "loop.example/g00064/laws.FnExactPowerOf", spec := "fnExactPowerOf", inPlace := ["math.Float64bits", "math.Float64frombits"], unfollowed := true, recurses := true, apart := false, narrowed := true }
def FnExactPowerOfUptoSaid : Prop := fnExactPowerOfUptoRow.holds Try.pinned (OpenSpec.upto fnExactPowerOfSpec)

/-- 'laws.FnExactShortRow', WHERE WHAT IT READS IS OF BULK AT MOST 1048576: true; the input reads as it did. -/
def fnExactShortRowUptoRow : OpenClaim := { program := "ytbjdhmgednhdgaa", sum := "25ee17ffdf21bac89e73b07b2ab4caa4fe97a7dd2eb2712b50a86baf6cebcfde", func := "loop.example/g00064/laws.FnExactShortRow", spec := "fnExactShortRow", inPlace := ["math.Float64bits", "math.Float64frombits", "math.Float32bits"], unfollowed := true, recurses := true, apart := false, narrowed := true }
def FnExactShortRowUptoSaid : Prop := fnExactShortRowUptoRow.holds Try.pinned (OpenSpec.upto fnExactShortRowSpec)

/-- 'laws.FnExactSpectrum', WHERE WHAT IT READS IS OF BULK AT MOST 1048576: true; the input reads as it did. -/
def fnExactSpectrumUptoRow : OpenClaim := { program := "ytbjdhmgednhdgaa", sum := "25ee17ffdf21bac89e73b07b2ab4caa4fe97a7dd2eb2712b50a86baf6cebcfde", func := "loop.example/g00064/laws.FnExactSpectrum", spec := "fnExactSpectrum", inPlace := ["math.Float64bits", "math.Float64frombits"], unfollowed := true, recurses := true, apart := false, narrowed := true }
def FnExactSpectrumUptoSaid : Prop := fnExactSpectrumUptoRow.holds Try.pinned (OpenSpec.upto fnExactSpectrumSpec)

/-- 'laws.FnExactRunBuses', WHERE WHAT IT READS IS OF BULK AT MOST 1048576: true; the input reads as it did. -/
def fnExactRunBusesUptoRow : OpenClaim := { program := "ytbjdhmgednhdgaa", sum := "25ee17ffdf21bac89e73b07b2ab4caa4fe97a7dd2eb2712b50a86baf6cebcfde", func := "loop.example/g00064/laws.FnExactRunBuses", spec := "fnExactRunBuses", inPlace := ["math.Float64bits", "math.Float64frombits"], unfollowed := true, recurses := true, apart := false, narrowed := true }
def FnExactRunBusesUptoSaid : Prop := fnExactRunBusesUptoRow.holds Try.pinned (OpenSpec.upto fnExactRunBusesSpec)

end Rows
end Go.Proofs.Ytbjdhmgednhdgaa
