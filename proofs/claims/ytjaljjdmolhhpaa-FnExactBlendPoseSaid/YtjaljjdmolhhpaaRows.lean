/-
  No cell of these rows narrows 'for every input' (looked for: loops, veiled, ifaces, maps, wideKeys, modest, calm, conditions, laid).
  DERIVED. THE GIVEN ROWS OF THIS SEAT. 12 by the template 'for every input the law returns true; each argument reads behind the call as it read before'; 0 by the template 'total and deterministic' (their statements: YtjaljjdmolhhpaaTotals.lean).
  GIVEN WITH THE SEED: the statements are not yours to turn. If you find one false, say at which input.
  Laid BY PROGRAM, IN A SANDBOX (cutbox-rows.mjs): the forced cells as the released guide's own fill.sh prints them over the translation bd42e880f62433e2… (all of the seat's roots in one cut). By AI agents, Wed Nov 11 2026. No macro, syntax, notation, axiom, sorry.
-/
import Derived.Test.YtjaljjdmolhhpaaChecked
import GoSem.Claim
import GoSem.ClaimJoined
import GoSem.ClaimMapViews
import Derived.JoinedTies
import Derived.KernelRfl
namespace Go.Proofs.Ytjaljjdmolhhpaa
/- THE CELL 'sum', in the pinned program and in every row, IS THE sha256 OF THE DUMP (.gsa) THAT YtjaljjdmolhhpaaProg.lean LOADS. Nothing in Lean hashes anything: it is a label: what it is worth is what the hold of that sum in a sandbox is worth. -/
noncomputable def Try.pinned : Pinned := { name := "ytjaljjdmolhhpaa", sum := "bd42e880f62433e23fe4abc65f58e7893eec665caf9ee9c5042687ece157d316", checked := Try.checked }
namespace Rows
def none {H : Type} : Left H := { results := [], args := [] }

/-- 'laws.FnExactAutoTile': WHATEVER THE INPUT: true; the input reads as it did. -/
def fnExactAutoTileSpec : ChangeSpec := { name := "fnExactAutoTile", fn := fun _ => fun
  | [d1, d2, d3] => { results := [.lit (.bool true)], args := [d1, d2, d3] }
  | _ => none }
def fnExactAutoTileRow : OpenClaim := { program := "ytjaljjdmolhhpaa", sum := "bd42e880f62433e23fe4abc65f58e7893eec665caf9ee9c5042687ece157d316", func := "loop.example/g00064/laws.FnExactAutoTile", spec := "fnExactAutoTile", unfollowed := true, recurses := true, apart := false }
def FnExactAutoTileSaid : Prop := fnExactAutoTileRow.holds Try.pinned (OpenSpec.ofChange fnExactAutoTileSpec)

/-- ITS FALSE NEIGHBOUR: 'it returns false'. Refute it at one input. -/
def fnExactAutoTileWrong : ChangeSpec := { name := "fnExactAutoTile", fn := fun _ => fun
  | [d1, d2, d3] => { results := [.lit (.bool false)], args := [d1, d2, d3] }
  | _ => none }
def FnExactAutoTileWrongFalsely : Prop := fnExactAutoTileRow.holds Try.pinned (OpenSpec.ofChange fnExactAutoTileWrong)

/-- 'laws.FnExactPlanCost': WHATEVER THE INPUT: true; the input reads as it did. -/
def fnExactPlanCostSpec : ChangeSpec := { name := "fnExactPlanCost", fn := fun _ => fun
  | [d1, d2, d3] => { results := [.lit (.bool true)], args := [d1, d2, d3] }
  | _ => none }
def fnExactPlanCostRow : OpenClaim := { program := "ytjaljjdmolhhpaa", sum := "bd42e880f62433e23fe4abc65f58e7893eec665caf9ee9c5042687ece157d316", func := "loop.example/g00064/laws.FnExactPlanCost", spec := "fnExactPlanCost", unfollowed := true, recurses := true, apart := false }
def FnExactPlanCostSaid : Prop := fnExactPlanCostRow.holds Try.pinned (OpenSpec.ofChange fnExactPlanCostSpec)

/-- ITS FALSE NEIGHBOUR: 'it returns false'. Refute it at one input. -/
def fnExactPlanCostWrong : ChangeSpec := { name := "fnExactPlanCost", fn := fun _ => fun
  | [d1, d2, d3] => { results := [.lit (.bool false)], args := [d1, d2, d3] }
  | _ => none }
def FnExactPlanCostWrongFalsely : Prop := fnExactPlanCostRow.holds Try.pinned (OpenSpec.ofChange fnExactPlanCostWrong)

/-- 'laws.FnExactLightOf': WHATEVER THE INPUT: true; the input reads as it did. -/
def fnExactLightOfSpec : ChangeSpec := { name := "fnExactLightOf", fn := fun _ => fun
  | [d1, d2] => { results := [.lit (.bool true)], args := [d1, d2] }
  | _ => none }
def fnExactLightOfRow : OpenClaim := { program := "ytjaljjdmolhhpaa", sum := "bd42e880f62433e23fe4abc65f58e7893eec665caf9ee9c5042687ece157d316", func := "loop.example/g00064/laws.FnExactLightOf", spec := "fnExactLightOf", unfollowed := true, recurses := true, apart := false }
def FnExactLightOfSaid : Prop := fnExactLightOfRow.holds Try.pinned (OpenSpec.ofChange fnExactLightOfSpec)

/-- ITS FALSE NEIGHBOUR: 'it returns false'. Refute it at one input. -/
def fnExactLightOfWrong : ChangeSpec := { name := "fnExactLightOf", fn := fun _ => fun
  | [d1, d2] => { results := [.lit (.bool false)], args := [d1, d2] }
  | _ => none }
def FnExactLightOfWrongFalsely : Prop := fnExactLightOfRow.holds Try.pinned (OpenSpec.ofChange fnExactLightOfWrong)

/-- 'laws.FnExactGoodBinds': WHATEVER THE INPUT: true; the input reads as it did. -/
def fnExactGoodBindsSpec : ChangeSpec := { name := "fnExactGoodBinds", fn := fun _ => fun
  | [d] => { results := [.lit (.bool true)], args := [d] }
  | _ => none }
def fnExactGoodBindsRow : OpenClaim := { program := "ytjaljjdmolhhpaa", sum := "bd42e880f62433e23fe4abc65f58e7893eec665caf9ee9c5042687ece157d316", func := "loop.example/g00064/laws.FnExactGoodBinds", spec := "fnExactGoodBinds", unfollowed := true, recurses := true, apart := false }
def FnExactGoodBindsSaid : Prop := fnExactGoodBindsRow.holds Try.pinned (OpenSpec.ofChange fnExactGoodBindsSpec)

/-- ITS FALSE NEIGHBOUR: 'it returns false'. Refute it at one input. -/
def fnExactGoodBindsWrong : ChangeSpec := { name := "fnExactGoodBinds", fn := fun _ => fun
  | [d] => { results := [.lit (.bool false)], args := [d] }
  | _ => none }
def FnExactGoodBindsWrongFalsely : Prop := fnExactGoodBindsRow.holds Try.pinned (OpenSpec.ofChange fnExactGoodBindsWrong)

/-- 'laws.FnExactFloodFrom': WHATEVER THE INPUT: true; the input reads as it did. -/
def fnExactFloodFromSpec : ChangeSpec := { name := "fnExactFloodFrom", fn := fun _ => fun
  | [d1, d2, d3, d4] => { results := [.lit (.bool true)], args := [d1, d2, d3, d4] }
  | _ => none }
def fnExactFloodFromRow : OpenClaim := { program := "ytjaljjdmolhhpaa", sum := "bd42e880f62433e23fe4abc65f58e7893eec665caf9ee9c5042687ece157d316", func := "loop.example/g00064/laws.FnExactFloodFrom", spec := "fnExactFloodFrom", unfollowed := true, recurses := true, apart := false }
def FnExactFloodFromSaid : Prop := fnExactFloodFromRow.holds Try.pinned (OpenSpec.ofChange fnExactFloodFromSpec)

/-- ITS FALSE NEIGHBOUR: 'it returns false'. Refute it at one input. -/
def fnExactFloodFromWrong : ChangeSpec := { name := "fnExactFloodFrom", fn := fun _ => fun
  | [d1, d2, d3, d4] => { results := [.lit (.bool false)], args := [d1, d2, d3, d4] }
  | _ => none }
def FnExactFloodFromWrongFalsely : Prop := fnExactFloodFromRow.holds Try.pinned (OpenSpec.ofChange fnExactFloodFromWrong)

/-- 'laws.FnExactGoodMusic': WHATEVER THE INPUT: true; the input reads as it did. -/
def fnExactGoodMusicSpec : ChangeSpec := { name := "fnExactGoodMusic", fn := fun _ => fun
  | [d1, d2] => { results := [.lit (.bool true)], args := [d1, d2] }
  | _ => none }
def fnExactGoodMusicRow : OpenClaim := { program := "ytjaljjdmolhhpaa", sum := "bd42e880f62433e23fe4abc65f58e7893eec665caf9ee9c5042687ece157d316", func := "loop.example/g00064/laws.FnExactGoodMusic", spec := "fnExactGoodMusic", unfollowed := true, recurses := true, apart := false }
def FnExactGoodMusicSaid : Prop := fnExactGoodMusicRow.holds Try.pinned (OpenSpec.ofChange fnExactGoodMusicSpec)

/-- ITS FALSE NEIGHBOUR: 'it returns false'. Refute it at one input. -/
def fnExactGoodMusicWrong : ChangeSpec := { name := "fnExactGoodMusic", fn := fun _ => fun
  | [d1, d2] => { results := [.lit (.bool false)], args := [d1, d2] }
  | _ => none }
def FnExactGoodMusicWrongFalsely : Prop := fnExactGoodMusicRow.holds Try.pinned (OpenSpec.ofChange fnExactGoodMusicWrong)

/-- 'laws.FnExactFewestKeys': WHATEVER THE INPUT: true; the input reads as it did. -/
def fnExactFewestKeysSpec : ChangeSpec := { name := "fnExactFewestKeys", fn := fun _ => fun
  | [d1, d2] => { results := [.lit (.bool true)], args := [d1, d2] }
  | _ => none }
def fnExactFewestKeysRow : OpenClaim := { program := "ytjaljjdmolhhpaa", sum := "bd42e880f62433e23fe4abc65f58e7893eec665caf9ee9c5042687ece157d316", func := "loop.example/g00064/laws.FnExactFewestKeys", spec := "fnExactFewestKeys", unfollowed := true, recurses := true, apart := false }
def FnExactFewestKeysSaid : Prop := fnExactFewestKeysRow.holds Try.pinned (OpenSpec.ofChange fnExactFewestKeysSpec)

/-- ITS FALSE NEIGHBOUR: 'it returns false'. Refute it at one input. -/
def fnExactFewestKeysWrong : ChangeSpec := { name := "fnExactFewestKeys", fn := fun _ => fun
  | [d1, d2] => { results := [.lit (.bool false)], args := [d1, d2] }
  | _ => none }
def FnExactFewestKeysWrongFalsely : Prop := fnExactFewestKeysRow.holds Try.pinned (OpenSpec.ofChange fnExactFewestKeysWrong)

/-- 'laws.FnExactSpectrum': WHATEVER THE INPUT: true; the input reads as it did. -/
def fnExactSpectrumSpec : ChangeSpec := { name := "fnExactSpectrum", fn := fun _ => fun
  | [d] => { results := [.lit (.bool true)], args := [d] }
  | _ => none }
def fnExactSpectrumRow : OpenClaim := { program := "ytjaljjdmolhhpaa", sum := "bd42e880f62433e23fe4abc65f58e7893eec665caf9ee9c5042687ece157d316", func := "loop.example/g00064/laws.FnExactSpectrum", spec := "fnExactSpectrum", inPlace := ["math.Float64bits", "math.Float64frombits"], unfollowed := true, recurses := true, apart := false }
def FnExactSpectrumSaid : Prop := fnExactSpectrumRow.holds Try.pinned (OpenSpec.ofChange fnExactSpectrumSpec)

/-- ITS FALSE NEIGHBOUR: 'it returns false'. Refute it at one input. -/
def fnExactSpectrumWrong : ChangeSpec := { name := "fnExactSpectrum", fn := fun _ => fun
  | [d] => { results := [.lit (.bool false)], args := [d] }
  | _ => none }
def FnExactSpectrumWrongFalsely : Prop := fnExactSpectrumRow.holds Try.pinned (OpenSpec.ofChange fnExactSpectrumWrong)

/-- 'laws.FnExactMissingIn': WHATEVER THE INPUT: true; the input reads as it did. -/
def fnExactMissingInSpec : ChangeSpec := { name := "fnExactMissingIn", fn := fun _ => fun
  | [d1, d2] => { results := [.lit (.bool true)], args := [d1, d2] }
  | _ => none }
def fnExactMissingInRow : OpenClaim := { program := "ytjaljjdmolhhpaa", sum := "bd42e880f62433e23fe4abc65f58e7893eec665caf9ee9c5042687ece157d316", func := "loop.example/g00064/laws.FnExactMissingIn", spec := "fnExactMissingIn", unfollowed := true, recurses := true, apart := false }
def FnExactMissingInSaid : Prop := fnExactMissingInRow.holds Try.pinned (OpenSpec.ofChange fnExactMissingInSpec)

/-- ITS FALSE NEIGHBOUR: 'it returns false'. Refute it at one input. -/
def fnExactMissingInWrong : ChangeSpec := { name := "fnExactMissingIn", fn := fun _ => fun
  | [d1, d2] => { results := [.lit (.bool false)], args := [d1, d2] }
  | _ => none }
def FnExactMissingInWrongFalsely : Prop := fnExactMissingInRow.holds Try.pinned (OpenSpec.ofChange fnExactMissingInWrong)

/-- 'laws.FnExactAskMusic': WHATEVER THE INPUT: true; the input reads as it did. -/
def fnExactAskMusicSpec : ChangeSpec := { name := "fnExactAskMusic", fn := fun _ => fun
  | [d1, d2, d3] => { results := [.lit (.bool true)], args := [d1, d2, d3] }
  | _ => none }
def fnExactAskMusicRow : OpenClaim := { program := "ytjaljjdmolhhpaa", sum := "bd42e880f62433e23fe4abc65f58e7893eec665caf9ee9c5042687ece157d316", func := "loop.example/g00064/laws.FnExactAskMusic", spec := "fnExactAskMusic", unfollowed := true, recurses := true, apart := false }
def FnExactAskMusicSaid : Prop := fnExactAskMusicRow.holds Try.pinned (OpenSpec.ofChange fnExactAskMusicSpec)

/-- ITS FALSE NEIGHBOUR: 'it returns false'. Refute it at one input. -/
def fnExactAskMusicWrong : ChangeSpec := { name := "fnExactAskMusic", fn := fun _ => fun
  | [d1, d2, d3] => { results := [.lit (.bool false)], args := [d1, d2, d3] }
  | _ => none }
def FnExactAskMusicWrongFalsely : Prop := fnExactAskMusicRow.holds Try.pinned (OpenSpec.ofChange fnExactAskMusicWrong)

/-- 'laws.FnExactBlendPose': WHATEVER THE INPUT: true; the input reads as it did. -/
def fnExactBlendPoseSpec : ChangeSpec := { name := "fnExactBlendPose", fn := fun _ => fun
  | [d1, d2, d3, d4] => { results := [.lit (.bool true)], args := [d1, d2, d3, d4] }
  | _ => none }
def fnExactBlendPoseRow : OpenClaim := { program := "ytjaljjdmolhhpaa", sum := "bd42e880f62433e23fe4abc65f58e7893eec665caf9ee9c5042687ece157d316", func := "loop.example/g00064/laws.FnExactBlendPose", spec := "fnExactBlendPose", inPlace := ["math/bits.Add64"], unfollowed := true, recurses := true, apart := false }
def FnExactBlendPoseSaid : Prop := fnExactBlendPoseRow.holds Try.pinned (OpenSpec.ofChange fnExactBlendPoseSpec)

/-- ITS FALSE NEIGHBOUR: 'it returns false'. Refute it at one input. -/
def fnExactBlendPoseWrong : ChangeSpec := { name := "fnExactBlendPose", fn := fun _ => fun
  | [d1, d2, d3, d4] => { results := [.lit (.bool false)], args := [d1, d2, d3, d4] }
  | _ => none }
def FnExactBlendPoseWrongFalsely : Prop := fnExactBlendPoseRow.holds Try.pinned (OpenSpec.ofChange fnExactBlendPoseWrong)

/-- 'laws.FnExactFieldHolds': WHATEVER THE INPUT: true; the input reads as it did. -/
def fnExactFieldHoldsSpec : ChangeSpec := { name := "fnExactFieldHolds", fn := fun _ => fun
  | [d1, d2] => { results := [.lit (.bool true)], args := [d1, d2] }
  | _ => none }
def fnExactFieldHoldsRow : OpenClaim := { program := "ytjaljjdmolhhpaa", sum := "bd42e880f62433e23fe4abc65f58e7893eec665caf9ee9c5042687ece157d316", func := "loop.example/g00064/laws.FnExactFieldHolds", spec := "fnExactFieldHolds", unfollowed := true, recurses := true, apart := false }
def FnExactFieldHoldsSaid : Prop := fnExactFieldHoldsRow.holds Try.pinned (OpenSpec.ofChange fnExactFieldHoldsSpec)

/-- ITS FALSE NEIGHBOUR: 'it returns false'. Refute it at one input. -/
def fnExactFieldHoldsWrong : ChangeSpec := { name := "fnExactFieldHolds", fn := fun _ => fun
  | [d1, d2] => { results := [.lit (.bool false)], args := [d1, d2] }
  | _ => none }
def FnExactFieldHoldsWrongFalsely : Prop := fnExactFieldHoldsRow.holds Try.pinned (OpenSpec.ofChange fnExactFieldHoldsWrong)

/- THE SECOND FORM. 'bulk': how many values and letters a reading holds, each counted each time it is reached (what is shared counts as often as it is met; a slice's spare places count too). A statement '..UptoSaid' is the law's where the arguments, and the package variables that the reading takes, are together of bulk at most 1048576: NARROWER than '..Said'. Prove '..Said' where nothing that the law and all that it calls make is longer than what came in: it says more and counts as full. Else prove '..UptoSaid'. A law counts once. -/
mutual
def uptoBulk {H : Type} : DataW H → Nat
  | .lit (.string bytes) => bytes.length + 1
  | .lit _ => 1
  | .nil => 1
  | .ptr d => uptoBulk d + 1
  | .slice elems spare => uptoBulkAll elems + uptoBulkAll spare + 1
  | .agg parts => uptoBulkAll parts + 1
  | .iface _ d => uptoBulk d + 1
  | .map entries => uptoBulkEntries entries + 1
  | .held _ => 1
def uptoBulkAll {H : Type} : List (DataW H) → Nat
  | [] => 0
  | d :: r => uptoBulk d + uptoBulkAll r
def uptoBulkEntries {H : Type} : List (Lit × DataW H) → Nat
  | [] => 0
  | x :: r => uptoBulkEntry x + uptoBulkEntries r
def uptoBulkEntry {H : Type} : Lit × DataW H → Nat
  | (.string bytes, d) => bytes.length + uptoBulk d + 1
  | (_, d) => uptoBulk d + 1
 end
def uptoSmall : (H : Type) → List (DataW H) → Bool := fun _ ds => decide (uptoBulkAll ds ≤ 1048576)
def OpenSpec.upto (s : _root_.Go.ChangeSpec) : _root_.Go.OpenSpec := { _root_.Go.OpenSpec.ofChange s with cond := some uptoSmall }

/-- 'laws.FnExactAutoTile', WHERE WHAT IT READS IS OF BULK AT MOST 1048576: true; the input reads as it did. -/
def fnExactAutoTileUptoRow : OpenClaim := { program := "ytjaljjdmolhhpaa", sum := "bd42e880f62433e23fe4abc65f58e7893eec665caf9ee9c5042687ece157d316", func := "loop.example/g00064/laws.FnExactAutoTile", spec := "fnExactAutoTile", unfollowed := true, recurses := true, apart := false, narrowed := true }
def FnExactAutoTileUptoSaid : Prop := fnExactAutoTileUptoRow.holds Try.pinned (OpenSpec.upto fnExactAutoTileSpec)

/-- 'laws.FnExactPlanCost', WHERE WHAT IT READS IS OF BULK AT MOST 1048576: true; the input reads as it did. -/
def fnExactPlanCostUptoRow : OpenClaim := { program := "ytjaljjdmolhhpaa", sum := "bd42e880f62433e23fe4abc65f58e7893eec665caf9ee9c5042687ece157d316", func := "loop.example/g00064/laws.FnExactPlanCost", spec := "fnExactPlanCost", unfollowed := true, recurses := true, apart := false, narrowed := true }
def FnExactPlanCostUptoSaid : Prop := fnExactPlanCostUptoRow.holds Try.pinned (OpenSpec.upto fnExactPlanCostSpec)

/-- 'laws.FnExactLightOf', WHERE WHAT IT READS IS OF BULK AT MOST 1048576: true; the input reads as it did. -/
def fnExactLightOfUptoRow : OpenClaim := { program := "ytjaljjdmolhhpaa", sum := "bd42e880f62433e23fe4abc65f58e7893eec665caf9ee9c5042687ece157d316", func := "loop.example/g00064/laws.FnExactLightOf", spec := "fnExactLightOf", unfollowed := true, recurses := true, apart := false, narrowed := true }
def FnExactLightOfUptoSaid : Prop := fnExactLightOfUptoRow.holds Try.pinned (OpenSpec.upto fnExactLightOfSpec)

/-- 'laws.FnExactGoodBinds', WHERE WHAT IT READS IS OF BULK AT MOST 1048576: true; the input reads as it did. -/
def fnExactGoodBindsUptoRow : OpenClaim := { program := "ytjaljjdmolhhpaa", sum := "bd42e880f62433e23fe4abc65f58e7893eec665caf9ee9c5042687ece157d316", func := "loop.example/g00064/laws.FnExactGoodBinds", spec := "fnExactGoodBinds", unfollowed := true, recurses := true, apart := false, narrowed := true }
def FnExactGoodBindsUptoSaid : Prop := fnExactGoodBindsUptoRow.holds Try.pinned (OpenSpec.upto fnExactGoodBindsSpec)

/-- 'laws.FnExactFloodFrom', WHERE WHAT IT READS IS OF BULK AT MOST 1048576: true; the input reads as it did. -/
def fnExactFloodFromUptoRow : OpenClaim := { program := "ytjaljjdmolhhpaa", sum := "bd42e880f62433e23fe4abc65f58e7893eec665caf9ee9c5042687ece157d316", func := "loop.example/g00064/laws.FnExactFloodFrom", spec := "fnExactFloodFrom", unfollowed := true, recurses := true, apart := false, narrowed := true }
def FnExactFloodFromUptoSaid : Prop := fnExactFloodFromUptoRow.holds Try.pinned (OpenSpec.upto fnExactFloodFromSpec)

/-- 'laws.FnExactGoodMusic', WHERE WHAT IT READS IS OF BULK AT MOST 1048576: true; the input reads as it did. -/
def fnExactGoodMusicUptoRow : OpenClaim := { program := "ytjaljjdmolhhpaa", sum := "bd42e880f62433e23fe4abc65f58e7893eec665caf9ee9c5042687ece157d316", func := "loop.example/g00064/laws.FnExactGoodMusic", spec := "fnExactGoodMusic", unfollowed := true, recurses := true, apart := false, narrowed := true }
def FnExactGoodMusicUptoSaid : Prop := fnExactGoodMusicUptoRow.holds Try.pinned (OpenSpec.upto fnExactGoodMusicSpec)

/-- 'laws.FnExactFewestKeys', WHERE WHAT IT READS IS OF BULK AT MOST 1048576: true; the input reads as it did. -/
def fnExactFewestKeysUptoRow : OpenClaim := { program := "ytjaljjdmolhhpaa", sum := "bd42e880f62433e23fe4abc65f58e7893eec665caf9ee9c5042687ece157d316", func := "loop.example/g00064/laws.FnExactFewestKeys", spec := "fnExactFewestKeys", unfollowed := true, recurses := true, apart := false, narrowed := true }
def FnExactFewestKeysUptoSaid : Prop := fnExactFewestKeysUptoRow.holds Try.pinned (OpenSpec.upto fnExactFewestKeysSpec)

/-- 'laws.FnExactSpectrum', WHERE WHAT IT READS IS OF BULK AT MOST 1048576: true; the input reads as it did. -/
def fnExactSpectrumUptoRow : OpenClaim := { program := "ytjaljjdmolhhpaa", sum := "bd42e880f62433e23fe4abc65f58e7893eec665caf9ee9c5042687ece157d316", func := "loop.example/g00064/laws.FnExactSpectrum", spec := "fnExactSpectrum", inPlace := ["math.Float64bits", "math.Float64frombits"], unfollowed := true, recurses := true, apart := false, narrowed := true }
def FnExactSpectrumUptoSaid : Prop := fnExactSpectrumUptoRow.holds Try.pinned (OpenSpec.upto fnExactSpectrumSpec)

/-- 'laws.FnExactMissingIn', WHERE WHAT IT READS IS OF BULK AT MOST 1048576: true; the input reads as it did. -/
def fnExactMissingInUptoRow : OpenClaim := { program := "ytjaljjdmolhhpaa", sum := "bd42e880f62433e23fe4abc65f58e7893eec665caf9ee9c5042687ece157d316", func := "loop.example/g00064/laws.FnExactMissingIn", spec := "fnExactMissingIn", unfollowed := true, recurses := true, apart := false, narrowed := true }
def FnExactMissingInUptoSaid : Prop := fnExactMissingInUptoRow.holds Try.pinned (OpenSpec.upto fnExactMissingInSpec)

/-- 'laws.FnExactAskMusic', WHERE WHAT IT READS IS OF BULK AT MOST 1048576: true; the input reads as it did. -/
def fnExactAskMusicUptoRow : OpenClaim := { program := "ytjaljjdmolhhpaa", sum := "bd42e880f62433e23fe4abc65f58e7893eec665caf9ee9c5042687ece157d316", func := "loop.example/g00064/laws.FnExactAskMusic", spec := "fnExactAskMusic", unfollowed := true, recurses := true, apart := false, narrowed := true }
def FnExactAskMusicUptoSaid : Prop := fnExactAskMusicUptoRow.holds Try.pinned (OpenSpec.upto fnExactAskMusicSpec)

/-- 'laws.FnExactBlendPose', WHERE WHAT IT READS IS OF BULK AT MOST 1048576: true; the input reads as it did. -/
def fnExactBlendPoseUptoRow : OpenClaim := { program := "ytjaljjdmolhhpaa", sum := "bd42e880f62433e23fe4abc65f58e7893eec665caf9ee9c5042687ece157d316", func := "loop.example/g00064/laws.FnExactBlendPose", spec := "fnExactBlendPose", inPlace := ["math/bits.Add64"], unfollowed := true, recurses := true, apart := false, narrowed := true }
def FnExactBlendPoseUptoSaid : Prop := fnExactBlendPoseUptoRow.holds Try.pinned (OpenSpec.upto fnExactBlendPoseSpec)

/-- 'laws.FnExactFieldHolds', WHERE WHAT IT READS IS OF BULK AT MOST 1048576: true; the input reads as it did. -/
def fnExactFieldHoldsUptoRow : OpenClaim := { program := "ytjaljjdmolhhpaa", sum := "bd42e880f62433e23fe4abc65f58e7893eec665caf9ee9c5042687ece157d316", func := "loop.example/g00064/laws.FnExactFieldHolds", spec := "fnExactFieldHolds", unfollowed := true, recurses := true, apart := false, narrowed := true }
def FnExactFieldHoldsUptoSaid : Prop := fnExactFieldHoldsUptoRow.holds Try.pinned (OpenSpec.upto fnExactFieldHoldsSpec)

end Rows
end Go.Proofs.Ytjaljjdmolhhpaa
