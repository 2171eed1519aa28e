/-
  No cell of these rows narrows 'for every input' (looked for: loops, veiled, ifaces, maps, wideKeys, modest, calm, conditions, laid).
  DERIVED. THE GIVEN ROWS OF THIS SEAT. 10 by the template 'for every input the law returns true; each argument reads behind the call as it read before'; 0 by the template 'total and deterministic' (their statements: YthcmofhlljmccaaTotals.lean).
  GIVEN WITH THE SEED: the statements are not yours to turn. If you find one false, say at which input.
  Laid BY PROGRAM, IN A SANDBOX (cutbox-rows.mjs): the forced cells as the released guide's own fill.sh prints them over the translation 56df3f65a6e13bc6… (all of the seat's roots in one cut). By AI agents, Wed Nov 11 2026. No macro, syntax, notation, axiom, sorry.
-/
import Derived.Test.YthcmofhlljmccaaChecked
import GoSem.Claim
import GoSem.ClaimJoined
import GoSem.ClaimMapViews
import Derived.JoinedTies
import Derived.KernelRfl
namespace Go.Proofs.Ythcmofhlljmccaa
/- THE CELL 'sum', in the pinned program and in every row, IS THE sha256 OF THE DUMP (.gsa) THAT YthcmofhlljmccaaProg.lean LOADS. Nothing in Lean hashes anything: it is a label: what it is worth is what the hold of that sum in a sandbox is worth. -/
noncomputable def Try.pinned : Pinned := { name := "ythcmofhlljmccaa", sum := "56df3f65a6e13bc6aa52ac0528b3853ca55af42e7dd6d5d99d4bfe0abbe40cb2", checked := Try.checked }
namespace Rows
def none {H : Type} : Left H := { results := [], args := [] }

/-- 'laws.FnExactShuffleBy': WHATEVER THE INPUT: true; the input reads as it did. -/
def fnExactShuffleBySpec : ChangeSpec := { name := "fnExactShuffleBy", fn := fun _ => fun
  | [d1, d2] => { results := [.lit (.bool true)], args := [d1, d2] }
  | _ => none }
def fnExactShuffleByRow : OpenClaim := { program := "ythcmofhlljmccaa", sum := "56df3f65a6e13bc6aa52ac0528b3853ca55af42e7dd6d5d99d4bfe0abbe40cb2", func := "loop.example/g00064/laws.FnExactShuffleBy", spec := "fnExactShuffleBy", apart := false }
def FnExactShuffleBySaid : Prop := fnExactShuffleByRow.holds Try.pinned (OpenSpec.ofChange fnExactShuffleBySpec)

/-- ITS FALSE NEIGHBOUR: 'it returns false'. Refute it at one input. -/
def fnExactShuffleByWrong : ChangeSpec := { name := "fnExactShuffleBy", fn := fun _ => fun
  | [d1, d2] => { results := [.lit (.bool false)], args := [d1, d2] }
  | _ => none }
def FnExactShuffleByWrongFalsely : Prop := fnExactShuffleByRow.holds Try.pinned (OpenSpec.ofChange fnExactShuffleByWrong)

/-- 'laws.FnExactPickByWeight': WHATEVER THE INPUT: true; the input reads as it did. -/
def fnExactPickByWeightSpec : ChangeSpec := { name := "fnExactPickByWeight", fn := fun _ => fun
  | [d1, d2] => { results := [.lit (.bool true)], args := [d1, d2] }
  | _ => none }
def fnExactPickByWeightRow : OpenClaim := { program := "ythcmofhlljmccaa", sum := "56df3f65a6e13bc6aa52ac0528b3853ca55af42e7dd6d5d99d4bfe0abbe40cb2", func := "loop.example/g00064/laws.FnExactPickByWeight", spec := "fnExactPickByWeight", apart := false }
def FnExactPickByWeightSaid : Prop := fnExactPickByWeightRow.holds Try.pinned (OpenSpec.ofChange fnExactPickByWeightSpec)

/-- ITS FALSE NEIGHBOUR: 'it returns false'. Refute it at one input. -/
def fnExactPickByWeightWrong : ChangeSpec := { name := "fnExactPickByWeight", fn := fun _ => fun
  | [d1, d2] => { results := [.lit (.bool false)], args := [d1, d2] }
  | _ => none }
def FnExactPickByWeightWrongFalsely : Prop := fnExactPickByWeightRow.holds Try.pinned (OpenSpec.ofChange fnExactPickByWeightWrong)

/-- 'laws.FnExactGoodBlocks': WHATEVER THE INPUT: true; the input reads as it did. -/
def fnExactGoodBlocksSpec : ChangeSpec := { name := "fnExactGoodBlocks", fn := fun _ => fun
  | [d] => { results := [.lit (.bool true)], args := [d] }
  | _ => none }
def fnExactGoodBlocksRow : OpenClaim := { program := "ythcmofhlljmccaa", sum := "56df3f65a6e13bc6aa52ac0528b3853ca55af42e7dd6d5d99d4bfe0abbe40cb2", func := "loop.example/g00064/laws.FnExactGoodBlocks", spec := "fnExactGoodBlocks", unfollowed := true, recurses := true, apart := false }
def FnExactGoodBlocksSaid : Prop := fnExactGoodBlocksRow.holds Try.pinned (OpenSpec.ofChange fnExactGoodBlocksSpec)

/-- ITS FALSE NEIGHBOUR: 'it returns false'. Refute it at one input. -/
def fnExactGoodBlocksWrong : ChangeSpec := { name := "fnExactGoodBlocks", fn := fun _ => fun
  | [d] => { results := [.lit (.bool false)], args := [d] }
  | _ => none }
def FnExactGoodBlocksWrongFalsely : Prop := fnExactGoodBlocksRow.holds Try.pinned (OpenSpec.ofChange fnExactGoodBlocksWrong)

/-- 'laws.FnExactRunesOf': WHATEVER THE INPUT: true; the input reads as it did. -/
def fnExactRunesOfSpec : ChangeSpec := { name := "fnExactRunesOf", fn := fun _ => fun
  | [d] => { results := [.lit (.bool true)], args := [d] }
  | _ => none }
def fnExactRunesOfRow : OpenClaim := { program := "ythcmofhlljmccaa", sum := "56df3f65a6e13bc6aa52ac0528b3853ca55af42e7dd6d5d99d4bfe0abbe40cb2", func := "loop.example/g00064/laws.FnExactRunesOf", spec := "fnExactRunesOf", apart := false }
def FnExactRunesOfSaid : Prop := fnExactRunesOfRow.holds Try.pinned (OpenSpec.ofChange fnExactRunesOfSpec)

/-- ITS FALSE NEIGHBOUR: 'it returns false'. Refute it at one input. -/
def fnExactRunesOfWrong : ChangeSpec := { name := "fnExactRunesOf", fn := fun _ => fun
  | [d] => { results := [.lit (.bool false)], args := [d] }
  | _ => none }
def FnExactRunesOfWrongFalsely : Prop := fnExactRunesOfRow.holds Try.pinned (OpenSpec.ofChange fnExactRunesOfWrong)

/-- 'laws.FnExactGoodVoice': WHATEVER THE INPUT: true; the input reads as it did. -/
def fnExactGoodVoiceSpec : ChangeSpec := { name := "fnExactGoodVoice", fn := fun _ => fun
  | [d] => { results := [.lit (.bool true)], args := [d] }
  | _ => none }
def fnExactGoodVoiceRow : OpenClaim := { program := "ythcmofhlljmccaa", sum := "56df3f65a6e13bc6aa52ac0528b3853ca55af42e7dd6d5d99d4bfe0abbe40cb2", func := "loop.example/g00064/laws.FnExactGoodVoice", spec := "fnExactGoodVoice", unfollowed := true, recurses := true, apart := false }
def FnExactGoodVoiceSaid : Prop := fnExactGoodVoiceRow.holds Try.pinned (OpenSpec.ofChange fnExactGoodVoiceSpec)

/-- ITS FALSE NEIGHBOUR: 'it returns false'. Refute it at one input. -/
def fnExactGoodVoiceWrong : ChangeSpec := { name := "fnExactGoodVoice", fn := fun _ => fun
  | [d] => { results := [.lit (.bool false)], args := [d] }
  | _ => none }
def FnExactGoodVoiceWrongFalsely : Prop := fnExactGoodVoiceRow.holds Try.pinned (OpenSpec.ofChange fnExactGoodVoiceWrong)

/-- 'laws.FnExactAfterDoing': WHATEVER THE INPUT: true; the input reads as it did. -/
def fnExactAfterDoingSpec : ChangeSpec := { name := "fnExactAfterDoing", fn := fun _ => fun
  | [d1, d2] => { results := [.lit (.bool true)], args := [d1, d2] }
  | _ => none }
def fnExactAfterDoingRow : OpenClaim := { program := "ythcmofhlljmccaa", sum := "56df3f65a6e13bc6aa52ac0528b3853ca55af42e7dd6d5d99d4bfe0abbe40cb2", func := "loop.example/g00064/laws.FnExactAfterDoing", spec := "fnExactAfterDoing", unfollowed := true, recurses := true, apart := false }
def FnExactAfterDoingSaid : Prop := fnExactAfterDoingRow.holds Try.pinned (OpenSpec.ofChange fnExactAfterDoingSpec)

/-- ITS FALSE NEIGHBOUR: 'it returns false'. Refute it at one input. -/
def fnExactAfterDoingWrong : ChangeSpec := { name := "fnExactAfterDoing", fn := fun _ => fun
  | [d1, d2] => { results := [.lit (.bool false)], args := [d1, d2] }
  | _ => none }
def FnExactAfterDoingWrongFalsely : Prop := fnExactAfterDoingRow.holds Try.pinned (OpenSpec.ofChange fnExactAfterDoingWrong)

/-- 'laws.FnExactPowerOf': WHATEVER THE INPUT: true; the input reads as it did. -/
def fnExactPowerOfSpec : ChangeSpec := { name := "fnExactPowerOf", fn := fun _ => fun
  | [d] => { results := [.lit (.bool true)], args := [d] }
  | _ => none }
def fnExactPowerOfRow : OpenClaim := { program := "ythcmofhlljmccaa", sum := "56df3f65a6e13bc6aa52ac0528b3853ca55af42e7dd6d5d99d4bfe0abbe40cb2", func := "loop.example/g00064/laws.FnExactPowerOf", spec := "fnExactPowerOf", inPlace := ["math.Float64bits", "math.Float64frombits"], unfollowed := true, recurses := true, apart := false }
def FnExactPowerOfSaid : Prop := fnExactPowerOfRow.holds Try.pinned (OpenSpec.ofChange fnExactPowerOfSpec)

/-- ITS FALSE NEIGHBOUR: 'it returns false'. Refute it at one input. -/
def fnExactPowerOfWrong : ChangeSpec := { name := "fnExactPowerOf", fn := fun _ => fun
  | [d] => { results := [.lit (.bool false)], args := [d] }
  | _ => none }
def FnExactPowerOfWrongFalsely : Prop := fnExactPowerOfRow.holds Try.pinned (OpenSpec.ofChange fnExactPowerOfWrong)

/-- 'laws.FnExactBlockAt': WHATEVER THE INPUT: true; the input reads as it did. -/
def fnExactBlockAtSpec : ChangeSpec := { name := "fnExactBlockAt", fn := fun _ => fun
  | [d1, d2, d3, d4] => { results := [.lit (.bool true)], args := [d1, d2, d3, d4] }
  | _ => none }
def fnExactBlockAtRow : OpenClaim := { program := "ythcmofhlljmccaa", sum := "56df3f65a6e13bc6aa52ac0528b3853ca55af42e7dd6d5d99d4bfe0abbe40cb2", func := "loop.example/g00064/laws.FnExactBlockAt", spec := "fnExactBlockAt", unfollowed := true, recurses := true, apart := false }
def FnExactBlockAtSaid : Prop := fnExactBlockAtRow.holds Try.pinned (OpenSpec.ofChange fnExactBlockAtSpec)

/-- ITS FALSE NEIGHBOUR: 'it returns false'. Refute it at one input. -/
def fnExactBlockAtWrong : ChangeSpec := { name := "fnExactBlockAt", fn := fun _ => fun
  | [d1, d2, d3, d4] => { results := [.lit (.bool false)], args := [d1, d2, d3, d4] }
  | _ => none }
def FnExactBlockAtWrongFalsely : Prop := fnExactBlockAtRow.holds Try.pinned (OpenSpec.ofChange fnExactBlockAtWrong)

/-- 'laws.FnExactPluralOf': WHATEVER THE INPUT: true; the input reads as it did. -/
def fnExactPluralOfSpec : ChangeSpec := { name := "fnExactPluralOf", fn := fun _ => fun
  | [d1, d2] => { results := [.lit (.bool true)], args := [d1, d2] }
  | _ => none }
def fnExactPluralOfRow : OpenClaim := { program := "ythcmofhlljmccaa", sum := "56df3f65a6e13bc6aa52ac0528b3853ca55af42e7dd6d5d99d4bfe0abbe40cb2", func := "loop.example/g00064/laws.FnExactPluralOf", spec := "fnExactPluralOf", apart := false }
def FnExactPluralOfSaid : Prop := fnExactPluralOfRow.holds Try.pinned (OpenSpec.ofChange fnExactPluralOfSpec)

/-- ITS FALSE NEIGHBOUR: 'it returns false'. Refute it at one input. -/
def fnExactPluralOfWrong : ChangeSpec := { name := "fnExactPluralOf", fn := fun _ => fun
  | [d1, d2] => { results := [.lit (.bool false)], args := [d1, d2] }
  | _ => none }
def FnExactPluralOfWrongFalsely : Prop := fnExactPluralOfRow.holds Try.pinned (OpenSpec.ofChange fnExactPluralOfWrong)

/-- 'laws.FnExactNextFocus': WHATEVER THE INPUT: true; the input reads as it did. -/
def fnExactNextFocusSpec : ChangeSpec := { name := "fnExactNextFocus", fn := fun _ => fun
  | [d1, d2, d3] => { results := [.lit (.bool true)], args := [d1, d2, d3] }
  | _ => none }
def fnExactNextFocusRow : OpenClaim := { program := "ythcmofhlljmccaa", sum := "56df3f65a6e13bc6aa52ac0528b3853ca55af42e7dd6d5d99d4bfe0abbe40cb2", func := "loop.example/g00064/laws.FnExactNextFocus", spec := "fnExactNextFocus", apart := false }
def FnExactNextFocusSaid : Prop := fnExactNextFocusRow.holds Try.pinned (OpenSpec.ofChange fnExactNextFocusSpec)

/-- ITS FALSE NEIGHBOUR: 'it returns false'. Refute it at one input. -/
def fnExactNextFocusWrong : ChangeSpec := { name := "fnExactNextFocus", fn := fun _ => fun
  | [d1, d2, d3] => { results := [.lit (.bool false)], args := [d1, d2, d3] }
  | _ => none }
def FnExactNextFocusWrongFalsely : Prop := fnExactNextFocusRow.holds Try.pinned (OpenSpec.ofChange fnExactNextFocusWrong)

/- THE SECOND FORM. 'bulk': how many values and letters a reading holds, each counted each time it is reached (what is shared counts as often as it is met; a slice's spare places count too). A statement '..UptoSaid' is the law's where the arguments, and the package variables that the reading takes, are together of bulk at most 1048576: NARROWER than '..Said'. Prove '..Said' where nothing that the law and all that it calls make is longer than what came in: it says more and counts as full. Else prove '..UptoSaid'. A law counts once. -/
mutual
def uptoBulk {H : Type} : DataW H → Nat
  | .lit (.string bytes) => bytes.length + 1
  | .lit _ => 1
  | .nil => 1
  | .ptr d => uptoBulk d + 1
  | .slice elems spare => uptoBulkAll elems + uptoBulkAll spare + 1
  | .agg parts => uptoBulkAll parts + 1
  | .iface _ d => uptoBulk d + 1
  | .map entries => uptoBulkEntries entries + 1
  | .held _ => 1
def uptoBulkAll {H : Type} : List (DataW H) → Nat
  | [] => 0
  | d :: r => uptoBulk d + uptoBulkAll r
def uptoBulkEntries {H : Type} : List (Lit × DataW H) → Nat
  | [] => 0
  | x :: r => uptoBulkEntry x + uptoBulkEntries r
def uptoBulkEntry {H : Type} : Lit × DataW H → Nat
  | (.string bytes, d) => bytes.length + uptoBulk d + 1
  | (_, d) => uptoBulk d + 1
 end
def uptoSmall : (H : Type) → List (DataW H) → Bool := fun _ ds => decide (uptoBulkAll ds ≤ 1048576)
def OpenSpec.upto (s : _root_.Go.ChangeSpec) : _root_.Go.OpenSpec := { _root_.Go.OpenSpec.ofChange s with cond := some uptoSmall }

/-- 'laws.FnExactShuffleBy', WHERE WHAT IT READS IS OF BULK AT MOST 1048576: true; the input reads as it did. -/
def fnExactShuffleByUptoRow : OpenClaim := { program := "ythcmofhlljmccaa", sum := "56df3f65a6e13bc6aa52ac0528b3853ca55af42e7dd6d5d99d4bfe0abbe40cb2", func := "loop.example/g00064/laws.FnExactShuffleBy", spec := "fnExactShuffleBy", apart := false, narrowed := true }
def FnExactShuffleByUptoSaid : Prop := fnExactShuffleByUptoRow.holds Try.pinned (OpenSpec.upto fnExactShuffleBySpec)

/-- 'laws.FnExactPickByWeight', WHERE WHAT IT READS IS OF BULK AT MOST 1048576: true; the input reads as it did. -/
def fnExactPickByWeightUptoRow : OpenClaim := { program := "ythcmofhlljmccaa", sum := "56df3f65a6e13bc6aa52ac0528b3853ca55af42e7dd6d5d99d4bfe0abbe40cb2", func := "loop.example/g00064/laws.FnExactPickByWeight", spec := "fnExactPickByWeight", apart := false, narrowed := true }
def FnExactPickByWeightUptoSaid : Prop := fnExactPickByWeightUptoRow.holds Try.pinned (OpenSpec.upto fnExactPickByWeightSpec)

/-- 'laws.FnExactGoodBlocks', WHERE WHAT IT READS IS OF BULK AT MOST 1048576: true; the input reads as it did. -/
def fnExactGoodBlocksUptoRow : OpenClaim := { program := "ythcmofhlljmccaa", sum := "56df3f65a6e13bc6aa52ac0528b3853ca55af42e7dd6d5d99d4bfe0abbe40cb2", func := "loop.example/g00064/laws.FnExactGoodBlocks", spec := "fnExactGoodBlocks", unfollowed := true, recurses := true, apart := false, narrowed := true }
def FnExactGoodBlocksUptoSaid : Prop := fnExactGoodBlocksUptoRow.holds Try.pinned (OpenSpec.upto fnExactGoodBlocksSpec)

/-- 'laws.FnExactRunesOf', WHERE WHAT IT READS IS OF BULK AT MOST 1048576: true; the input reads as it did. -/
def fnExactRunesOfUptoRow : OpenClaim := { program := "ythcmofhlljmccaa", sum := "56df3f65a6e13bc6aa52ac0528b3853ca55af42e7dd6d5d99d4bfe0abbe40cb2", func := "loop.example/g00064/laws.FnExactRunesOf", spec := "fnExactRunesOf", apart := false, narrowed := true }
def FnExactRunesOfUptoSaid : Prop := fnExactRunesOfUptoRow.holds Try.pinned (OpenSpec.upto fnExactRunesOfSpec)

/-- 'laws.FnExactGoodVoice', WHERE WHAT IT READS IS OF BULK AT MOST 1048576: true; the input reads as it did. -/
def fnExactGoodVoiceUptoRow : OpenClaim := { program := "ythcmofhlljmccaa", sum := "56df3f65a6e13bc6aa52ac0528b3853ca55af42e7dd6d5d99d4bfe0abbe40cb2", func := "loop.example/g00064/laws.FnExactGoodVoice", spec := "fnExactGoodVoice", unfollowed := true, recurses := true, apart := false, narrowed := true }
def FnExactGoodVoiceUptoSaid : Prop := fnExactGoodVoiceUptoRow.holds Try.pinned (OpenSpec.upto fnExactGoodVoiceSpec)

/-- 'laws.FnExactAfterDoing', WHERE WHAT IT READS IS OF BULK AT MOST 1048576: true; the input reads as it did. -/
def fnExactAfterDoingUptoRow : OpenClaim := { program := "ythcmofhlljmccaa", sum := "56df3f65a6e13bc6aa52ac0528b3853ca55af42e7dd6d5d99d4bfe0abbe40cb2", func := "loop.example/g00064/laws.FnExactAfterDoing", spec := "fnExactAfterDoing", unfollowed := true, recurses := true, apart := false, narrowed := true }
def FnExactAfterDoingUptoSaid : Prop := fnExactAfterDoingUptoRow.holds Try.pinned (OpenSpec.upto fnExactAfterDoingSpec)

/-- 'laws.FnExactPowerOf', WHERE WHAT IT READS IS OF BULK AT MOST 1048576: true; the input reads as it did. -/
def fnExactPowerOfUptoRow : OpenClaim := { program := "ythcmofhlljmccaa", sum := "56df3f65a6e13bc6aa52ac0528b3853ca55af42e7dd6d5d99d4bfe0abbe40cb2", func := "loop.example/g00064/laws.FnExactPowerOf", spec := "fnExactPowerOf", inPlace := ["math.Float64bits", "math.Float64frombits"], unfollowed := true, recurses := true, apart := false, narrowed := true }
def FnExactPowerOfUptoSaid : Prop := fnExactPowerOfUptoRow.holds Try.pinned (OpenSpec.upto fnExactPowerOfSpec)

/-- 'laws.FnExactBlockAt', WHERE WHAT IT READS IS OF BULK AT MOST 1048576: true; the input reads as it did. -/
def fnExactBlockAtUptoRow : OpenClaim := { program := "ythcmofhlljmccaa", sum := "56df3f65a6e13bc6aa52ac0528b3853ca55af42e7dd6d5d99d4bfe0abbe40cb2", func := "loop.example/g00064/laws.FnExactBlockAt", spec := "fnExactBlockAt", unfollowed := true, recurses := true, apart := false, narrowed := true }
def FnExactBlockAtUptoSaid : Prop := fnExactBlockAtUptoRow.holds Try.pinned (OpenSpec.upto fnExactBlockAtSpec)

/-- 'laws.FnExactPluralOf', WHERE WHAT IT READS IS OF BULK AT MOST 1048576: true; the input reads as it did. -/
def fnExactPluralOfUptoRow : OpenClaim := { program := "ythcmofhlljmccaa", sum := "56df3f65a6e13bc6aa52ac0528b3853ca55af42e7dd6d5d99d4bfe0abbe40cb2", func := "loop.example/g00064/laws.FnExactPluralOf", spec := "fnExactPluralOf", apart := false, narrowed := true }
def FnExactPluralOfUptoSaid : Prop := fnExactPluralOfUptoRow.holds Try.pinned (OpenSpec.upto fnExactPluralOfSpec)

/-- 'laws.FnExactNextFocus', WHERE WHAT IT READS IS OF BULK AT MOST 1048576: true; the input reads as it did. -/
def fnExactNextFocusUptoRow : OpenClaim := { program := "ythcmofhlljmccaa", sum := "56df3f65a6e13bc6aa52ac0528b3853ca55af42e7dd6d5d99d4bfe0abbe40cb2", func := "loop.example/g00064/laws.FnExactNextFocus", spec := "fnExactNextFocus", apart := false, narrowed := true }
def FnExactNextFocusUptoSaid : Prop := fnExactNextFocusUptoRow.holds Try.pinned (OpenSpec.upto fnExactNextFocusSpec)

end Rows
end Go.Proofs.Ythcmofhlljmccaa
