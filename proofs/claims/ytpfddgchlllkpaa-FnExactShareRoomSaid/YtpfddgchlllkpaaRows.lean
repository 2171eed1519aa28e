/-
  No cell of these rows narrows 'for every input' (looked for: loops, veiled, ifaces, maps, wideKeys, modest, calm, conditions, laid).
  DERIVED. THE GIVEN ROWS OF THIS SEAT. 6 by the template 'for every input the law returns true; each argument reads behind the call as it read before'; 0 by the template 'total and deterministic' (their statements: YtpfddgchlllkpaaTotals.lean).
  GIVEN WITH THE SEED: the statements are not yours to turn. If you find one false, say at which input.
  Laid BY PROGRAM, IN A SANDBOX (cutbox-rows.mjs): the forced cells as the released guide's own fill.sh prints them over the translation 63b6eefcb34ff9da… (all of the seat's roots in one cut). By AI agents, Wed Nov 11 2026. No macro, syntax, notation, axiom, sorry.
-/
import Derived.Test.YtpfddgchlllkpaaChecked
import GoSem.Claim
import GoSem.ClaimJoined
import GoSem.ClaimMapViews
import Derived.JoinedTies
import Derived.KernelRfl
namespace Go.Proofs.Ytpfddgchlllkpaa
/- THE CELL 'sum', in the pinned program and in every row, IS THE sha256 OF THE DUMP (.gsa) THAT YtpfddgchlllkpaaProg.lean LOADS. Nothing in Lean hashes anything: it is a label: what it is worth is what the hold of that sum in a sandbox is worth. -/
noncomputable def Try.pinned : Pinned := { name := "ytpfddgchlllkpaa", sum := "63b6eefcb34ff9dae01c009d74067e208231b0984b53e111ea3f0a6e8d0d573a", checked := Try.checked }
namespace Rows
def none {H : Type} : Left H := { results := [], args := [] }

/-- 'laws.FnExactMissingIn': WHATEVER THE INPUT: true; the input reads as it did. -/
def fnExactMissingInSpec : ChangeSpec := { name := "fnExactMissingIn", fn := fun _ => fun
  | [d1, d2] => { results := [.lit (.bool true)], args := [d1, d2] }
  | _ => none }
def fnExactMissingInRow : OpenClaim := { program := "ytpfddgchlllkpaa", sum := "63b6eefcb34ff9dae01c009d74067e208231b0984b53e111ea3f0a6e8d0d573a", func := "loop.example/g00064/laws.FnExactMissingIn", spec := "fnExactMissingIn", unfollowed := true, recurses := true, apart := false }
def FnExactMissingInSaid : Prop := fnExactMissingInRow.holds Try.pinned (OpenSpec.ofChange fnExactMissingInSpec)

/-- ITS FALSE NEIGHBOUR: 'it returns false'. Refute it at one input. -/
def fnExactMissingInWrong : ChangeSpec := { name := "fnExactMissingIn", fn := fun _ => fun
  | [d1, d2] => { results := [.lit (.bool false)], args := [d1, d2] }
  | _ => none }
def FnExactMissingInWrongFalsely : Prop := fnExactMissingInRow.holds Try.pinned (OpenSpec.ofChange fnExactMissingInWrong)

/-- 'laws.FnExactBuffered': WHATEVER THE INPUT: true; the input reads as it did. -/
def fnExactBufferedSpec : ChangeSpec := { name := "fnExactBuffered", fn := fun _ => fun
  | [d1, d2, d3, d4] => { results := [.lit (.bool true)], args := [d1, d2, d3, d4] }
  | _ => none }
def fnExactBufferedRow : OpenClaim := { program := "ytpfddgchlllkpaa", sum := "63b6eefcb34ff9dae01c009d74067e208231b0984b53e111ea3f0a6e8d0d573a", func := "loop.example/g00064/laws.FnExactBuffered", spec := "fnExactBuffered", unfollowed := true, recurses := true, apart := false }
def FnExactBufferedSaid : Prop := fnExactBufferedRow.holds Try.pinned (OpenSpec.ofChange fnExactBufferedSpec)

/-- ITS FALSE NEIGHBOUR: 'it returns false'. Refute it at one input. -/
def fnExactBufferedWrong : ChangeSpec := { name := "fnExactBuffered", fn := fun _ => fun
  | [d1, d2, d3, d4] => { results := [.lit (.bool false)], args := [d1, d2, d3, d4] }
  | _ => none }
def FnExactBufferedWrongFalsely : Prop := fnExactBufferedRow.holds Try.pinned (OpenSpec.ofChange fnExactBufferedWrong)

/-- 'laws.FnExactRunesOf': WHATEVER THE INPUT: true; the input reads as it did. -/
def fnExactRunesOfSpec : ChangeSpec := { name := "fnExactRunesOf", fn := fun _ => fun
  | [d] => { results := [.lit (.bool true)], args := [d] }
  | _ => none }
def fnExactRunesOfRow : OpenClaim := { program := "ytpfddgchlllkpaa", sum := "63b6eefcb34ff9dae01c009d74067e208231b0984b53e111ea3f0a6e8d0d573a", func := "loop.example/g00064/laws.FnExactRunesOf", spec := "fnExactRunesOf", apart := false }
def FnExactRunesOfSaid : Prop := fnExactRunesOfRow.holds Try.pinned (OpenSpec.ofChange fnExactRunesOfSpec)

/-- ITS FALSE NEIGHBOUR: 'it returns false'. Refute it at one input. -/
def fnExactRunesOfWrong : ChangeSpec := { name := "fnExactRunesOf", fn := fun _ => fun
  | [d] => { results := [.lit (.bool false)], args := [d] }
  | _ => none }
def FnExactRunesOfWrongFalsely : Prop := fnExactRunesOfRow.holds Try.pinned (OpenSpec.ofChange fnExactRunesOfWrong)

/-- 'laws.FnExactFalseLetters': WHATEVER THE INPUT: true; the input reads as it did. -/
def fnExactFalseLettersSpec : ChangeSpec := { name := "fnExactFalseLetters", fn := fun _ => fun
  | [d] => { results := [.lit (.bool true)], args := [d] }
  | _ => none }
def fnExactFalseLettersRow : OpenClaim := { program := "ytpfddgchlllkpaa", sum := "63b6eefcb34ff9dae01c009d74067e208231b0984b53e111ea3f0a6e8d0d573a", func := "loop.example/g00064/laws.FnExactFalseLetters", spec := "fnExactFalseLetters", inPlace := ["internal/bytealg.IndexByteString"], apart := false }
def FnExactFalseLettersSaid : Prop := fnExactFalseLettersRow.holds Try.pinned (OpenSpec.ofChange fnExactFalseLettersSpec)

/-- ITS FALSE NEIGHBOUR: 'it returns false'. Refute it at one input. -/
def fnExactFalseLettersWrong : ChangeSpec := { name := "fnExactFalseLetters", fn := fun _ => fun
  | [d] => { results := [.lit (.bool false)], args := [d] }
  | _ => none }
def FnExactFalseLettersWrongFalsely : Prop := fnExactFalseLettersRow.holds Try.pinned (OpenSpec.ofChange fnExactFalseLettersWrong)

/-- 'laws.FnExactGainsAt': WHATEVER THE INPUT: true; the input reads as it did. -/
def fnExactGainsAtSpec : ChangeSpec := { name := "fnExactGainsAt", fn := fun _ => fun
  | [d1, d2, d3] => { results := [.lit (.bool true)], args := [d1, d2, d3] }
  | _ => none }
def fnExactGainsAtRow : OpenClaim := { program := "ytpfddgchlllkpaa", sum := "63b6eefcb34ff9dae01c009d74067e208231b0984b53e111ea3f0a6e8d0d573a", func := "loop.example/g00064/laws.FnExactGainsAt", spec := "fnExactGainsAt", inPlace := ["math/bits.Add64"], unfollowed := true, recurses := true, apart := false }
def FnExactGainsAtSaid : Prop := fnExactGainsAtRow.holds Try.pinned (OpenSpec.ofChange fnExactGainsAtSpec)

/-- ITS FALSE NEIGHBOUR: 'it returns false'. Refute it at one input. -/
def fnExactGainsAtWrong : ChangeSpec := { name := "fnExactGainsAt", fn := fun _ => fun
  | [d1, d2, d3] => { results := [.lit (.bool false)], args := [d1, d2, d3] }
  | _ => none }
def FnExactGainsAtWrongFalsely : Prop := fnExactGainsAtRow.holds Try.pinned (OpenSpec.ofChange fnExactGainsAtWrong)

/-- 'laws.FnExactShareRoom': WHATEVER THE INPUT: true; the input reads as it did. -/
def fnExactShareRoomSpec : ChangeSpec := { name := "fnExactShareRoom", fn := fun _ => fun
  | [d1, d2, d3] => { results := [.lit (.bool true)], args := [d1, d2, d3] }
  | _ => none }
def fnExactShareRoomRow : OpenClaim := { program := "ytpfddgchlllkpaa", sum := "63b6eefcb34ff9dae01c009d74067e208231b0984b53e111ea3f0a6e8d0d573a", func := "loop.example/g00064/laws.FnExactShareRoom", spec := "fnExactShareRoom", unfollowed := true, recurses := true, apart := false }
def FnExactShareRoomSaid : Prop := fnExactShareRoomRow.holds Try.pinned (OpenSpec.ofChange fnExactShareRoomSpec)

/-- ITS FALSE NEIGHBOUR: 'it returns false'. Refute it at one input. -/
def fnExactShareRoomWrong : ChangeSpec := { name := "fnExactShareRoom", fn := fun _ => fun
  | [d1, d2, d3] => { results := [.lit (.bool false)], args := [d1, d2, d3] }
  | _ => none }
def FnExactShareRoomWrongFalsely : Prop := fnExactShareRoomRow.holds Try.pinned (OpenSpec.ofChange fnExactShareRoomWrong)

/- THE SECOND FORM. 'bulk': how many values and letters a reading holds, each counted each time it is reached (what is shared counts as often as it is met; a slice's spare places count too). A statement '..UptoSaid' is the law's where the arguments, and the package variables that the reading takes, are together of bulk at most 1048576: NARROWER than '..Said'. Prove '..Said' where nothing that the law and all that it calls make is longer than what came in: it says more and counts as full. Else prove '..UptoSaid'. A law counts once. -/
mutual
def uptoBulk {H : Type} : DataW H → Nat
  | .lit (.string bytes) => bytes.length + 1
  | .lit _ => 1
  | .nil => 1
  | .ptr d => uptoBulk d + 1
  | .slice elems spare => uptoBulkAll elems + uptoBulkAll spare + 1
  | .agg parts => uptoBulkAll parts + 1
  | .iface _ d => uptoBulk d + 1
  | .map entries => uptoBulkEntries entries + 1
  | .held _ => 1
def uptoBulkAll {H : Type} : List (DataW H) → Nat
  | [] => 0
  | d :: r => uptoBulk d + uptoBulkAll r
def uptoBulkEntries {H : Type} : List (Lit × DataW H) → Nat
  | [] => 0
  | x :: r => uptoBulkEntry x + uptoBulkEntries r
def uptoBulkEntry {H : Type} : Lit × DataW H → Nat
  | (.string bytes, d) => bytes.length + uptoBulk d + 1
  | (_, d) => uptoBulk d + 1
 end
def uptoSmall : (H : Type) → List (DataW H) → Bool := fun _ ds => decide (uptoBulkAll ds ≤ 1048576)
def OpenSpec.upto (s : _root_.Go.ChangeSpec) : _root_.Go.OpenSpec := { _root_.Go.OpenSpec.ofChange s with cond := some uptoSmall }

/-- 'laws.FnExactMissingIn', WHERE WHAT IT READS IS OF BULK AT MOST 1048576: true; the input reads as it did. -/
def fnExactMissingInUptoRow : OpenClaim := { program := "ytpfddgchlllkpaa", sum := "63b6eefcb34ff9dae01c009d74067e208231b0984b53e111ea3f0a6e8d0d573a", func := "loop.example/g00064/laws.FnExactMissingIn", spec := "fnExactMissingIn", unfollowed := true, recurses := true, apart := false, narrowed := true }
def FnExactMissingInUptoSaid : Prop := fnExactMissingInUptoRow.holds Try.pinned (OpenSpec.upto fnExactMissingInSpec)

/-- 'laws.FnExactBuffered', WHERE WHAT IT READS IS OF BULK AT MOST 1048576: true; the input reads as it did. -/
def fnExactBufferedUptoRow : OpenClaim := { program := "ytpfddgchlllkpaa", sum := "63b6eefcb34ff9dae01c009d74067e208231b0984b53e111ea3f0a6e8d0d573a", func := "loop.example/g00064/laws.FnExactBuffered", spec := "fnExactBuffered", unfollowed := true, recurses := true, apart := false, narrowed := true }
def FnExactBufferedUptoSaid : Prop := fnExactBufferedUptoRow.holds Try.pinned (OpenSpec.upto fnExactBufferedSpec)

/-- 'laws.FnExactRunesOf', WHERE WHAT IT READS IS OF BULK AT MOST 1048576: true; the input reads as it did. -/
def fnExactRunesOfUptoRow : OpenClaim := { program := "ytpfddgchlllkpaa", sum := "63b6eefcb34ff9dae01c009d74067e208231b0984b53e111ea3f0a6e8d0d573a", func := "loop.example/g00064/laws.FnExactRunesOf", spec := "fnExactRunesOf", apart := false, narrowed := true }
def FnExactRunesOfUptoSaid : Prop := fnExactRunesOfUptoRow.holds Try.pinned (OpenSpec.upto fnExactRunesOfSpec)

/-- 'laws.FnExactFalseLetters', WHERE WHAT IT READS IS OF BULK AT MOST 1048576: true; the input reads as it did. -/
def fnExactFalseLettersUptoRow : OpenClaim := { program := "ytpfddgchlllkpaa", sum := "63b6eefcb34ff9dae01c009d74067e208231b0984b53e111ea3f0a6e8d0d573a", func := "loop.example/g00064/laws.FnExactFalseLetters", spec := "fnExactFalseLetters", inPlace := ["internal/bytealg.IndexByteString"], apart := false, narrowed := true }
def FnExactFalseLettersUptoSaid : Prop := fnExactFalseLettersUptoRow.holds Try.pinned (OpenSpec.upto fnExactFalseLettersSpec)

/-- 'laws.FnExactGainsAt', WHERE WHAT IT READS IS OF BULK AT MOST 1048576: true; the input reads as it did. -/
def fnExactGainsAtUptoRow : OpenClaim := { program := "ytpfddgchlllkpaa", sum := "63b6eefcb34ff9dae01c009d74067e208231b0984b53e111ea3f0a6e8d0d573a", func := "loop.example/g00064/laws.FnExactGainsAt", spec := "fnExactGainsAt", inPlace := ["math/bits.Add64"], unfollowed := true, recurses := true, apart := false, narrowed := true }
def FnExactGainsAtUptoSaid : Prop := fnExactGainsAtUptoRow.holds Try.pinned (OpenSpec.upto fnExactGainsAtSpec)

/-- 'laws.FnExactShareRoom', WHERE WHAT IT READS IS OF BULK AT MOST 1048576: true; the input reads as it did. -/
def fnExactShareRoomUptoRow : OpenClaim := { program := "ytpfddgchlllkpaa", sum := "63b6eefcb34ff9dae01c009d74067e208231b0984b53e111ea3f0a6e8d0d573a", func := "loop.example/g00064/laws.FnExactShareRoom", spec := "fnExactShareRoom", unfollowed := true, recurses := true, apart := false, narrowed := true }
def FnExactShareRoomUptoSaid : Prop := fnExactShareRoomUptoRow.holds Try.pinned (OpenSpec.upto fnExactShareRoomSpec)

end Rows
end Go.Proofs.Ytpfddgchlllkpaa
