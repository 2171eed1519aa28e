/-
  No cell of these rows narrows 'for every input' (looked for: loops, veiled, ifaces, maps, wideKeys, modest, calm, conditions, laid).
  DERIVED. THE GIVEN ROWS OF THIS SEAT. 11 by the template 'for every input the law returns true; each argument reads behind the call as it read before'; 0 by the template 'total and deterministic' (their statements: YtjckjmhlodjmgaaTotals.lean).
  GIVEN WITH THE SEED: the statements are not yours to turn. If you find one false, say at which input.
  Laid BY PROGRAM, IN A SANDBOX (cutbox-rows.mjs): the forced cells as the released guide's own fill.sh prints them over the translation b072c6bdf41ae3b3… (all of the seat's roots in one cut). By AI agents, Wed Nov 11 2026. No macro, syntax, notation, axiom, sorry.
-/
import Derived.Test.YtjckjmhlodjmgaaChecked
import GoSem.Claim
import GoSem.ClaimJoined
import GoSem.ClaimMapViews
import Derived.JoinedTies
import Derived.KernelRfl
namespace Go.Proofs.Ytjckjmhlodjmgaa
/- THE CELL 'sum', in the pinned program and in every row, IS THE sha256 OF THE DUMP (.gsa) THAT YtjckjmhlodjmgaaProg.lean LOADS. Nothing in Lean hashes anything: it is a label: what it is worth is what the hold of that sum in a sandbox is worth. -/
noncomputable def Try.pinned : Pinned := { name := "ytjckjmhlodjmgaa", sum := "b072c6bdf41ae3b3b76dfaf1d625dd6c44b3c52fb0a06257e979d0e7c0d3214b", checked := Try.checked }
namespace Rows
def none {H : Type} : Left H := { results := [], args := [] }

/-- 'laws.FnExactGoodRules': WHATEVER THE INPUT: true; the input reads as it did. -/
def fnExactGoodRulesSpec : ChangeSpec := { name := "fnExactGoodRules", fn := fun _ => fun
  | [d] => { results := [.lit (.bool true)], args := [d] }
  | _ => none }
def fnExactGoodRulesRow : OpenClaim := { program := "ytjckjmhlodjmgaa", sum := "b072c6bdf41ae3b3b76dfaf1d625dd6c44b3c52fb0a06257e979d0e7c0d3214b", func := "loop.example/g00064/laws.FnExactGoodRules", spec := "fnExactGoodRules", apart := false }
def FnExactGoodRulesSaid : Prop := fnExactGoodRulesRow.holds Try.pinned (OpenSpec.ofChange fnExactGoodRulesSpec)

/-- ITS FALSE NEIGHBOUR: 'it returns false'. Refute it at one input. -/
def fnExactGoodRulesWrong : ChangeSpec := { name := "fnExactGoodRules", fn := fun _ => fun
  | [d] => { results := [.lit (.bool false)], args := [d] }
  | _ => none }
def FnExactGoodRulesWrongFalsely : Prop := fnExactGoodRulesRow.holds Try.pinned (OpenSpec.ofChange fnExactGoodRulesWrong)

/-- 'laws.FnExactGoodCloud': WHATEVER THE INPUT: true; the input reads as it did. -/
def fnExactGoodCloudSpec : ChangeSpec := { name := "fnExactGoodCloud", fn := fun _ => fun
  | [d] => { results := [.lit (.bool true)], args := [d] }
  | _ => none }
def fnExactGoodCloudRow : OpenClaim := { program := "ytjckjmhlodjmgaa", sum := "b072c6bdf41ae3b3b76dfaf1d625dd6c44b3c52fb0a06257e979d0e7c0d3214b", func := "loop.example/g00064/laws.FnExactGoodCloud", spec := "fnExactGoodCloud", unfollowed := true, recurses := true, apart := false }
def FnExactGoodCloudSaid : Prop := fnExactGoodCloudRow.holds Try.pinned (OpenSpec.ofChange fnExactGoodCloudSpec)

/-- ITS FALSE NEIGHBOUR: 'it returns false'. Refute it at one input. -/
def fnExactGoodCloudWrong : ChangeSpec := { name := "fnExactGoodCloud", fn := fun _ => fun
  | [d] => { results := [.lit (.bool false)], args := [d] }
  | _ => none }
def FnExactGoodCloudWrongFalsely : Prop := fnExactGoodCloudRow.holds Try.pinned (OpenSpec.ofChange fnExactGoodCloudWrong)

/-- 'laws.FnExactTileMask': WHATEVER THE INPUT: true; the input reads as it did. -/
def fnExactTileMaskSpec : ChangeSpec := { name := "fnExactTileMask", fn := fun _ => fun
  | [d1, d2, d3] => { results := [.lit (.bool true)], args := [d1, d2, d3] }
  | _ => none }
def fnExactTileMaskRow : OpenClaim := { program := "ytjckjmhlodjmgaa", sum := "b072c6bdf41ae3b3b76dfaf1d625dd6c44b3c52fb0a06257e979d0e7c0d3214b", func := "loop.example/g00064/laws.FnExactTileMask", spec := "fnExactTileMask", unfollowed := true, recurses := true, apart := false }
def FnExactTileMaskSaid : Prop := fnExactTileMaskRow.holds Try.pinned (OpenSpec.ofChange fnExactTileMaskSpec)

/-- ITS FALSE NEIGHBOUR: 'it returns false'. Refute it at one input. -/
def fnExactTileMaskWrong : ChangeSpec := { name := "fnExactTileMask", fn := fun _ => fun
  | [d1, d2, d3] => { results := [.lit (.bool false)], args := [d1, d2, d3] }
  | _ => none }
def FnExactTileMaskWrongFalsely : Prop := fnExactTileMaskRow.holds Try.pinned (OpenSpec.ofChange fnExactTileMaskWrong)

/-- 'laws.FnExactFalseLetters': WHATEVER THE INPUT: true; the input reads as it did. -/
def fnExactFalseLettersSpec : ChangeSpec := { name := "fnExactFalseLetters", fn := fun _ => fun
  | [d] => { results := [.lit (.bool true)], args := [d] }
  | _ => none }
def fnExactFalseLettersRow : OpenClaim := { program := "ytjckjmhlodjmgaa", sum := "b072c6bdf41ae3b3b76dfaf1d625dd6c44b3c52fb0a06257e979d0e7c0d3214b", func := "loop.example/g00064/laws.FnExactFalseLetters", spec := "fnExactFalseLetters", inPlace := ["internal/bytealg.IndexByteString"], apart := false }
def FnExactFalseLettersSaid : Prop := fnExactFalseLettersRow.holds Try.pinned (OpenSpec.ofChange fnExactFalseLettersSpec)

/-- ITS FALSE NEIGHBOUR: 'it returns false'. Refute it at one input. -/
def fnExactFalseLettersWrong : ChangeSpec := { name := "fnExactFalseLetters", fn := fun _ => fun
  | [d] => { results := [.lit (.bool false)], args := [d] }
  | _ => none }
def FnExactFalseLettersWrongFalsely : Prop := fnExactFalseLettersRow.holds Try.pinned (OpenSpec.ofChange fnExactFalseLettersWrong)

/-- 'laws.FnExactBuffered': WHATEVER THE INPUT: true; the input reads as it did. -/
def fnExactBufferedSpec : ChangeSpec := { name := "fnExactBuffered", fn := fun _ => fun
  | [d1, d2, d3, d4] => { results := [.lit (.bool true)], args := [d1, d2, d3, d4] }
  | _ => none }
def fnExactBufferedRow : OpenClaim := { program := "ytjckjmhlodjmgaa", sum := "b072c6bdf41ae3b3b76dfaf1d625dd6c44b3c52fb0a06257e979d0e7c0d3214b", func := "loop.example/g00064/laws.FnExactBuffered", spec := "fnExactBuffered", unfollowed := true, recurses := true, apart := false }
def FnExactBufferedSaid : Prop := fnExactBufferedRow.holds Try.pinned (OpenSpec.ofChange fnExactBufferedSpec)

/-- ITS FALSE NEIGHBOUR: 'it returns false'. Refute it at one input. -/
def fnExactBufferedWrong : ChangeSpec := { name := "fnExactBuffered", fn := fun _ => fun
  | [d1, d2, d3, d4] => { results := [.lit (.bool false)], args := [d1, d2, d3, d4] }
  | _ => none }
def FnExactBufferedWrongFalsely : Prop := fnExactBufferedRow.holds Try.pinned (OpenSpec.ofChange fnExactBufferedWrong)

/-- 'laws.FnExactSetBlock': WHATEVER THE INPUT: true; the input reads as it did. -/
def fnExactSetBlockSpec : ChangeSpec := { name := "fnExactSetBlock", fn := fun _ => fun
  | [d1, d2, d3, d4, d5] => { results := [.lit (.bool true)], args := [d1, d2, d3, d4, d5] }
  | _ => none }
def fnExactSetBlockRow : OpenClaim := { program := "ytjckjmhlodjmgaa", sum := "b072c6bdf41ae3b3b76dfaf1d625dd6c44b3c52fb0a06257e979d0e7c0d3214b", func := "loop.example/g00064/laws.FnExactSetBlock", spec := "fnExactSetBlock", unfollowed := true, recurses := true, apart := false }
def FnExactSetBlockSaid : Prop := fnExactSetBlockRow.holds Try.pinned (OpenSpec.ofChange fnExactSetBlockSpec)

/-- ITS FALSE NEIGHBOUR: 'it returns false'. Refute it at one input. -/
def fnExactSetBlockWrong : ChangeSpec := { name := "fnExactSetBlock", fn := fun _ => fun
  | [d1, d2, d3, d4, d5] => { results := [.lit (.bool false)], args := [d1, d2, d3, d4, d5] }
  | _ => none }
def FnExactSetBlockWrongFalsely : Prop := fnExactSetBlockRow.holds Try.pinned (OpenSpec.ofChange fnExactSetBlockWrong)

/-- 'laws.FnExactHeldAt': WHATEVER THE INPUT: true; the input reads as it did. -/
def fnExactHeldAtSpec : ChangeSpec := { name := "fnExactHeldAt", fn := fun _ => fun
  | [d1, d2] => { results := [.lit (.bool true)], args := [d1, d2] }
  | _ => none }
def fnExactHeldAtRow : OpenClaim := { program := "ytjckjmhlodjmgaa", sum := "b072c6bdf41ae3b3b76dfaf1d625dd6c44b3c52fb0a06257e979d0e7c0d3214b", func := "loop.example/g00064/laws.FnExactHeldAt", spec := "fnExactHeldAt", apart := false }
def FnExactHeldAtSaid : Prop := fnExactHeldAtRow.holds Try.pinned (OpenSpec.ofChange fnExactHeldAtSpec)

/-- ITS FALSE NEIGHBOUR: 'it returns false'. Refute it at one input. -/
def fnExactHeldAtWrong : ChangeSpec := { name := "fnExactHeldAt", fn := fun _ => fun
  | [d1, d2] => { results := [.lit (.bool false)], args := [d1, d2] }
  | _ => none }
def FnExactHeldAtWrongFalsely : Prop := fnExactHeldAtRow.holds Try.pinned (OpenSpec.ofChange fnExactHeldAtWrong)

/-- 'laws.FnExactOpenFaces': WHATEVER THE INPUT: true; the input reads as it did. -/
def fnExactOpenFacesSpec : ChangeSpec := { name := "fnExactOpenFaces", fn := fun _ => fun
  | [d] => { results := [.lit (.bool true)], args := [d] }
  | _ => none }
def fnExactOpenFacesRow : OpenClaim := { program := "ytjckjmhlodjmgaa", sum := "b072c6bdf41ae3b3b76dfaf1d625dd6c44b3c52fb0a06257e979d0e7c0d3214b", func := "loop.example/g00064/laws.FnExactOpenFaces", spec := "fnExactOpenFaces", unfollowed := true, recurses := true, apart := false }
def FnExactOpenFacesSaid : Prop := fnExactOpenFacesRow.holds Try.pinned (OpenSpec.ofChange fnExactOpenFacesSpec)

/-- ITS FALSE NEIGHBOUR: 'it returns false'. Refute it at one input. -/
def fnExactOpenFacesWrong : ChangeSpec := { name := "fnExactOpenFaces", fn := fun _ => fun
  | [d] => { results := [.lit (.bool false)], args := [d] }
  | _ => none }
def FnExactOpenFacesWrongFalsely : Prop := fnExactOpenFacesRow.holds Try.pinned (OpenSpec.ofChange fnExactOpenFacesWrong)

/-- 'laws.FnExactGoodField': WHATEVER THE INPUT: true; the input reads as it did. -/
def fnExactGoodFieldSpec : ChangeSpec := { name := "fnExactGoodField", fn := fun _ => fun
  | [d1, d2] => { results := [.lit (.bool true)], args := [d1, d2] }
  | _ => none }
def fnExactGoodFieldRow : OpenClaim := { program := "ytjckjmhlodjmgaa", sum := "b072c6bdf41ae3b3b76dfaf1d625dd6c44b3c52fb0a06257e979d0e7c0d3214b", func := "loop.example/g00064/laws.FnExactGoodField", spec := "fnExactGoodField", unfollowed := true, recurses := true, apart := false }
def FnExactGoodFieldSaid : Prop := fnExactGoodFieldRow.holds Try.pinned (OpenSpec.ofChange fnExactGoodFieldSpec)

/-- ITS FALSE NEIGHBOUR: 'it returns false'. Refute it at one input. -/
def fnExactGoodFieldWrong : ChangeSpec := { name := "fnExactGoodField", fn := fun _ => fun
  | [d1, d2] => { results := [.lit (.bool false)], args := [d1, d2] }
  | _ => none }
def FnExactGoodFieldWrongFalsely : Prop := fnExactGoodFieldRow.holds Try.pinned (OpenSpec.ofChange fnExactGoodFieldWrong)

/-- 'laws.FnExactShortRow': WHATEVER THE INPUT: true; the input reads as it did. -/
def fnExactShortRowSpec : ChangeSpec := { name := "fnExactShortRow", fn := fun _ => fun
  | [d] => { results := [.lit (.bool true)], args := [d] }
  | _ => none }
def fnExactShortRowRow : OpenClaim := { program := "ytjckjmhlodjmgaa", sum := "b072c6bdf41ae3b3b76dfaf1d625dd6c44b3c52fb0a06257e979d0e7c0d3214b", func := "loop.example/g00064/laws.FnExactShortRow", spec := "fnExactShortRow", inPlace := ["math.Float64bits", "math.Float64frombits", "math.Float32bits"], unfollowed := true, recurses := true, apart := false }
def FnExactShortRowSaid : Prop := fnExactShortRowRow.holds Try.pinned (OpenSpec.ofChange fnExactShortRowSpec)

/-- ITS FALSE NEIGHBOUR: 'it returns false'. Refute it at one input. -/
def fnExactShortRowWrong : ChangeSpec := { name := "fnExactShortRow", fn := fun _ => fun
  | [d] => { results := [.lit (.bool false)], args := [d] }
  | _ => none }
def FnExactShortRowWrongFalsely : Prop := fnExactShortRowRow.holds Try.pinned (OpenSpec.ofChange fnExactShortRowWrong)

/-- 'laws.FnExactWorstOf': WHATEVER THE INPUT: true; the input reads as it did. -/
def fnExactWorstOfSpec : ChangeSpec := { name := "fnExactWorstOf", fn := fun _ => fun
  | [d1, d2] => { results := [.lit (.bool true)], args := [d1, d2] }
  | _ => none }
def fnExactWorstOfRow : OpenClaim := { program := "ytjckjmhlodjmgaa", sum := "b072c6bdf41ae3b3b76dfaf1d625dd6c44b3c52fb0a06257e979d0e7c0d3214b", func := "loop.example/g00064/laws.FnExactWorstOf", spec := "fnExactWorstOf", unfollowed := true, recurses := true, apart := false }
def FnExactWorstOfSaid : Prop := fnExactWorstOfRow.holds Try.pinned (OpenSpec.ofChange fnExactWorstOfSpec)

/-- ITS FALSE NEIGHBOUR: 'it returns false'. Refute it at one input. -/
def fnExactWorstOfWrong : ChangeSpec := { name := "fnExactWorstOf", fn := fun _ => fun
  | [d1, d2] => { results := [.lit (.bool false)], args := [d1, d2] }
  | _ => none }
def FnExactWorstOfWrongFalsely : Prop := fnExactWorstOfRow.holds Try.pinned (OpenSpec.ofChange fnExactWorstOfWrong)

/- THE SECOND FORM. 'bulk': how many values and letters a reading holds, each counted each time it is reached (what is shared counts as often as it is met; a slice's spare places count too). A statement '..UptoSaid' is the law's where the arguments, and the package variables that the reading takes, are together of bulk at most 1048576: NARROWER than '..Said'. Prove '..Said' where nothing that the law and all that it calls make is longer than what came in: it says more and counts as full. Else prove '..UptoSaid'. A law counts once. -/
mutual
def uptoBulk {H : Type} : DataW H → Nat
  | .lit (.string bytes) => bytes.length + 1
  | .lit _ => 1
  | .nil => 1
  | .ptr d => uptoBulk d + 1
  | .slice elems spare => uptoBulkAll elems + uptoBulkAll spare + 1
  | .agg parts => uptoBulkAll parts + 1
  | .iface _ d => uptoBulk d + 1
  | .map entries => uptoBulkEntries entries + 1
  | .held _ => 1
def uptoBulkAll {H : Type} : List (DataW H) → Nat
  | [] => 0
  | d :: r => uptoBulk d + uptoBulkAll r
def uptoBulkEntries {H : Type} : List (Lit × DataW H) → Nat
  | [] => 0
  | x :: r => uptoBulkEntry x + uptoBulkEntries r
def uptoBulkEntry {H : Type} : Lit × DataW H → Nat
  | (.string bytes, d) => bytes.length + uptoBulk d + 1
  | (_, d) => uptoBulk d + 1
 end
def uptoSmall : (H : Type) → List (DataW H) → Bool := fun _ ds => decide (uptoBulkAll ds ≤ 1048576)
def OpenSpec.upto (s : _root_.Go.ChangeSpec) : _root_.Go.OpenSpec := { _root_.Go.OpenSpec.ofChange s with cond := some uptoSmall }

/-- 'laws.FnExactGoodRules', WHERE WHAT IT READS IS OF BULK AT MOST 1048576: true; the input reads as it did. -/
def fnExactGoodRulesUptoRow : OpenClaim := { program := "ytjckjmhlodjmgaa", sum := "b072c6bdf41ae3b3b76dfaf1d625dd6c44b3c52fb0a06257e979d0e7c0d3214b", func := "loop.example/g00064/laws.FnExactGoodRules", spec := "fnExactGoodRules", apart := false, narrowed := true }
def FnExactGoodRulesUptoSaid : Prop := fnExactGoodRulesUptoRow.holds Try.pinned (OpenSpec.upto fnExactGoodRulesSpec)

/-- 'laws.FnExactGoodCloud', WHERE WHAT IT READS IS OF BULK AT MOST 1048576: true; the input reads as it did. -/
def fnExactGoodCloudUptoRow : OpenClaim := { program := "ytjckjmhlodjmgaa", sum := "b072c6bdf41ae3b3b76dfaf1d625dd6c44b3c52fb0a06257e979d0e7c0d3214b", func := "loop.example/g00064/laws.FnExactGoodCloud", spec := "fnExactGoodCloud", unfollowed := true, recurses := true, apart := false, narrowed := true }
def FnExactGoodCloudUptoSaid : Prop := fnExactGoodCloudUptoRow.holds Try.pinned (OpenSpec.upto fnExactGoodCloudSpec)

/-- 'laws.FnExactTileMask', WHERE WHAT IT READS IS OF BULK AT MOST 1048576: true; the input reads as it did. -/
def fnExactTileMaskUptoRow : OpenClaim := { program := "ytjckjmhlodjmgaa", sum := "b072c6bdf41ae3b3b76dfaf1d625dd6c44b3c52fb0a06257e979d0e7c0d3214b", func := "loop.example/g00064/laws.FnExactTileMask", spec := "fnExactTileMask", unfollowed := true, recurses := true, apart := false, narrowed := true }
def FnExactTileMaskUptoSaid : Prop := fnExactTileMaskUptoRow.holds Try.pinned (OpenSpec.upto fnExactTileMaskSpec)

/-- 'laws.FnExactFalseLetters', WHERE WHAT IT READS IS OF BULK AT MOST 1048576: true; the input reads as it did. -/
def fnExactFalseLettersUptoRow : OpenClaim := { program := "ytjckjmhlodjmgaa", sum := "b072c6bdf41ae3b3b76dfaf1d625dd6c44b3c52fb0a06257e979d0e7c0d3214b", func := "loop.example/g00064/laws.FnExactFalseLetters", spec := "fnExactFalseLetters", inPlace := ["internal/bytealg.IndexByteString"], apart := false, narrowed := true }
def FnExactFalseLettersUptoSaid : Prop := fnExactFalseLettersUptoRow.holds Try.pinned (OpenSpec.upto fnExactFalseLettersSpec)

/-- 'laws.FnExactBuffered', WHERE WHAT IT READS IS OF BULK AT MOST 1048576: true; the input reads as it did. -/
def fnExactBufferedUptoRow : OpenClaim := { program := "ytjckjmhlodjmgaa", sum := "b072c6bdf41ae3b3b76dfaf1d625dd6c44b3c52fb0a06257e979d0e7c0d3214b", func := "loop.example/g00064/laws.FnExactBuffered", spec := "fnExactBuffered", unfollowed := true, recurses := true, apart := false, narrowed := true }
def FnExactBufferedUptoSaid : Prop := fnExactBufferedUptoRow.holds Try.pinned (OpenSpec.upto fnExactBufferedSpec)

/-- 'laws.FnExactSetBlock', WHERE WHAT IT READS IS OF BULK AT MOST 1048576: true; the input reads as it did. -/
def fnExactSetBlockUptoRow : OpenClaim := { program := "ytjckjmhlodjmgaa", sum := "b072c6bdf41ae3b3b76dfaf1d625dd6c44b3c52fb0a06257e979d0e7c0d3214b", func := "loop.example/g00064/laws.FnExactSetBlock", spec := "fnExactSetBlock", unfollowed := true, recurses := true, apart := false, narrowed := true }
def FnExactSetBlockUptoSaid : Prop := fnExactSetBlockUptoRow.holds Try.pinned (OpenSpec.upto fnExactSetBlockSpec)

/-- 'laws.FnExactHeldAt', WHERE WHAT IT READS IS OF BULK AT MOST 1048576: true; the input reads as it did. -/
def fnExactHeldAtUptoRow : OpenClaim := { program := "ytjckjmhlodjmgaa", sum := "b072c6bdf41ae3b3b76dfaf1d625dd6c44b3c52fb0a06257e979d0e7c0d3214b", func := "loop.example/g00064/laws.FnExactHeldAt", spec := "fnExactHeldAt", apart := false, narrowed := true }
def FnExactHeldAtUptoSaid : Prop := fnExactHeldAtUptoRow.holds Try.pinned (OpenSpec.upto fnExactHeldAtSpec)

/-- 'laws.FnExactOpenFaces', WHERE WHAT IT READS IS OF BULK AT MOST 1048576: true; the input reads as it did. -/
def fnExactOpenFacesUptoRow : OpenClaim := { program := "ytjckjmhlodjmgaa", sum := "b072c6bdf41ae3b3b76dfaf1d625dd6c44b3c52fb0a06257e979d0e7c0d3214b", func := "loop.example/g00064/laws.FnExactOpenFaces", spec := "fnExactOpenFaces", unfollowed := true, recurses := true, apart := false, narrowed := true }
def FnExactOpenFacesUptoSaid : Prop := fnExactOpenFacesUptoRow.holds Try.pinned (OpenSpec.upto fnExactOpenFacesSpec)

/-- 'laws.FnExactGoodField', WHERE WHAT IT READS IS OF BULK AT MOST 1048576: true; the input reads as it did. -/
def fnExactGoodFieldUptoRow : OpenClaim := { program := "ytjckjmhlodjmgaa", sum := "b072c6bdf41ae3b3b76dfaf1d625dd6c44b3c52fb0a06257e979d0e7c0d3214b", func := "loop.example/g00064/laws.FnExactGoodField", spec := "fnExactGoodField", unfollowed := true, recurses := true, apart := false, narrowed := true }
def FnExactGoodFieldUptoSaid : Prop := fnExactGoodFieldUptoRow.holds Try.pinned (OpenSpec.upto fnExactGoodFieldSpec)

/-- 'laws.FnExactShortRow', WHERE WHAT IT READS IS OF BULK AT MOST 1048576: true; the input reads as it did. -/
def fnExactShortRowUptoRow : OpenClaim := { program := "ytjckjmhlodjmgaa", sum := "b072c6bdf41ae3b3b76dfaf1d625dd6c44b3c52fb0a06257e979d0e7c0d3214b", func := "loop.example/g00064/laws.FnExactShortRow", spec := "fnExactShortRow", inPlace := ["math.Float64bits", "math.Float64frombits", "math.Float32bits"], unfollowed := true, recurses := true, apart := false, narrowed := true }
def FnExactShortRowUptoSaid : Prop := fnExactShortRowUptoRow.holds Try.pinned (OpenSpec.upto fnExactShortRowSpec)

/-- 'laws.FnExactWorstOf', WHERE WHAT IT READS IS OF BULK AT MOST 1048576: true; the input reads as it did. -/
def fnExactWorstOfUptoRow : OpenClaim := { program := "ytjckjmhlodjmgaa", sum := "b072c6bdf41ae3b3b76dfaf1d625dd6c44b3c52fb0a06257e979d0e7c0d3214b", func := "loop.example/g00064/laws.FnExactWorstOf", spec := "fnExactWorstOf", unfollowed := true, recurses := true, apart := false, narrowed := true }
def FnExactWorstOfUptoSaid : Prop := fnExactWorstOfUptoRow.holds Try.pinned (OpenSpec.upto fnExactWorstOfSpec)

end Rows
end Go.Proofs.Ytjckjmhlodjmgaa
