/-
  No cell of these rows narrows 'for every input' (looked for: loops, veiled, ifaces, maps, wideKeys, modest, calm, conditions, laid).
  DERIVED. THE GIVEN ROWS OF THIS SEAT. 3 by the template 'for every input the law returns true; each argument reads behind the call as it read before'; 0 by the template 'total and deterministic' (their statements: YtikoiodbmnekfaaTotals.lean).
  GIVEN WITH THE SEED: the statements are not yours to turn. If you find one false, say at which input.
  Laid BY PROGRAM, IN A SANDBOX (cutbox-rows.mjs): the forced cells as the released guide's own fill.sh prints them over the translation 6e8d71843d1f3c99… (all of the seat's roots in one cut). By AI agents, Wed Nov 11 2026. No macro, syntax, notation, axiom, sorry.
-/
import Derived.Test.YtikoiodbmnekfaaChecked
import GoSem.Claim
import GoSem.ClaimJoined
import GoSem.ClaimMapViews
import Derived.JoinedTies
import Derived.KernelRfl
namespace Go.Proofs.Ytikoiodbmnekfaa
/- THE CELL 'sum', in the pinned program and in every row, IS THE sha256 OF THE DUMP (.gsa) THAT YtikoiodbmnekfaaProg.lean LOADS. Nothing in Lean hashes anything: it is a label: what it is worth is what the hold of that sum in a sandbox is worth. -/
noncomputable def Try.pinned : Pinned := { name := "ytikoiodbmnekfaa", sum := "6e8d71843d1f3c99fa86ba0defd60b5cc48c48fbac33ca69abb4eed44879427a", checked := Try.checked }
namespace Rows
def none {H : Type} : Left H := { results := [], args := [] }

/-- 'laws.FnExactGoodClip': WHATEVER THE INPUT: true; the input reads as it did. -/
def fnExactGoodClipSpec : ChangeSpec := { name := "fnExactGoodClip", fn := fun _ => fun
  | [d] => { results := [.lit (.bool true)], args := [d] }
  | _ => none }
def fnExactGoodClipRow : OpenClaim := { program := "ytikoiodbmnekfaa", sum := "6e8d71843d1f3c99fa86ba0defd60b5cc48c48fbac33ca69abb4eed44879427a", func := "loop.example/g00064/laws.FnExactGoodClip", spec := "fnExactGoodClip", apart := false }
def FnExactGoodClipSaid : Prop := fnExactGoodClipRow.holds Try.pinned (OpenSpec.ofChange fnExactGoodClipSpec)

/-- ITS FALSE NEIGHBOUR: 'it returns false'. Refute it at one input. -/
def fnExactGoodClipWrong : ChangeSpec := { name := "fnExactGoodClip", fn := fun _ => fun
  | [d] => { results := [.lit (.bool false)], args := [d] }
  | _ => none }
def FnExactGoodClipWrongFalsely : Prop := fnExactGoodClipRow.holds Try.pinned (OpenSpec.ofChange fnExactGoodClipWrong)

/-- 'laws.FnExactPoseAt': WHATEVER THE INPUT: true; the input reads as it did. -/
def fnExactPoseAtSpec : ChangeSpec := { name := "fnExactPoseAt", fn := fun _ => fun
  | [d1, d2] => { results := [.lit (.bool true)], args := [d1, d2] }
  | _ => none }
def fnExactPoseAtRow : OpenClaim := { program := "ytikoiodbmnekfaa", sum := "6e8d71843d1f3c99fa86ba0defd60b5cc48c48fbac33ca69abb4eed44879427a", func := "loop.example/g00064/laws.FnExactPoseAt", spec := "fnExactPoseAt", apart := false }
def FnExactPoseAtSaid : Prop := fnExactPoseAtRow.holds Try.pinned (OpenSpec.ofChange fnExactPoseAtSpec)

/-- ITS FALSE NEIGHBOUR: 'it returns false'. Refute it at one input. -/
def fnExactPoseAtWrong : ChangeSpec := { name := "fnExactPoseAt", fn := fun _ => fun
  | [d1, d2] => { results := [.lit (.bool false)], args := [d1, d2] }
  | _ => none }
def FnExactPoseAtWrongFalsely : Prop := fnExactPoseAtRow.holds Try.pinned (OpenSpec.ofChange fnExactPoseAtWrong)

/-- 'laws.FnExactMarksCrossed': WHATEVER THE INPUT: true; the input reads as it did. -/
def fnExactMarksCrossedSpec : ChangeSpec := { name := "fnExactMarksCrossed", fn := fun _ => fun
  | [d1, d2, d3] => { results := [.lit (.bool true)], args := [d1, d2, d3] }
  | _ => none }
def fnExactMarksCrossedRow : OpenClaim := { program := "ytikoiodbmnekfaa", sum := "6e8d71843d1f3c99fa86ba0defd60b5cc48c48fbac33ca69abb4eed44879427a", func := "loop.example/g00064/laws.FnExactMarksCrossed", spec := "fnExactMarksCrossed", apart := false }
def FnExactMarksCrossedSaid : Prop := fnExactMarksCrossedRow.holds Try.pinned (OpenSpec.ofChange fnExactMarksCrossedSpec)

/-- ITS FALSE NEIGHBOUR: 'it returns false'. Refute it at one input. -/
def fnExactMarksCrossedWrong : ChangeSpec := { name := "fnExactMarksCrossed", fn := fun _ => fun
  | [d1, d2, d3] => { results := [.lit (.bool false)], args := [d1, d2, d3] }
  | _ => none }
def FnExactMarksCrossedWrongFalsely : Prop := fnExactMarksCrossedRow.holds Try.pinned (OpenSpec.ofChange fnExactMarksCrossedWrong)

/- THE SECOND FORM. 'bulk': how many values and letters a reading holds, each counted each time it is reached (what is shared counts as often as it is met; a slice's spare places count too). A statement '..UptoSaid' is the law's where the arguments, and the package variables that the reading takes, are together of bulk at most 1048576: NARROWER than '..Said'. Prove '..Said' where nothing that the law and all that it calls make is longer than what came in: it says more and counts as full. Else prove '..UptoSaid'. A law counts once. -/
mutual
def uptoBulk {H : Type} : DataW H → Nat
  | .lit (.string bytes) => bytes.length + 1
  | .lit _ => 1
  | .nil => 1
  | .ptr d => uptoBulk d + 1
  | .slice elems spare => uptoBulkAll elems + uptoBulkAll spare + 1
  | .agg parts => uptoBulkAll parts + 1
  | .iface _ d => uptoBulk d + 1
  | .map entries => uptoBulkEntries entries + 1
  | .held _ => 1
def uptoBulkAll {H : Type} : List (DataW H) → Nat
  | [] => 0
  | d :: r => uptoBulk d + uptoBulkAll r
def uptoBulkEntries {H : Type} : List (Lit × DataW H) → Nat
  | [] => 0
  | x :: r => uptoBulkEntry x + uptoBulkEntries r
def uptoBulkEntry {H : Type} : Lit × DataW H → Nat
  | (.string bytes, d) => bytes.length + uptoBulk d + 1
  | (_, d) => uptoBulk d + 1
 end
def uptoSmall : (H : Type) → List (DataW H) → Bool := fun _ ds => decide (uptoBulkAll ds ≤ 1048576)
def OpenSpec.upto (s : _root_.Go.ChangeSpec) : _root_.Go.OpenSpec := { _root_.Go.OpenSpec.ofChange s with cond := some uptoSmall }

/-- 'laws.FnExactGoodClip', WHERE WHAT IT READS IS OF BULK AT MOST 1048576: true; the input reads as it did. -/
def fnExactGoodClipUptoRow : OpenClaim := { program := "ytikoiodbmnekfaa", sum := "6e8d71843d1f3c99fa86ba0defd60b5cc48c48fbac33ca69abb4eed44879427a", func := "loop.example/g00064/laws.FnExactGoodClip", spec := "fnExactGoodClip", apart := false, narrowed := true }
def FnExactGoodClipUptoSaid : Prop := fnExactGoodClipUptoRow.holds Try.pinned (OpenSpec.upto fnExactGoodClipSpec)

/-- 'laws.FnExactPoseAt', WHERE WHAT IT READS IS OF BULK AT MOST 1048576: true; the input reads as it did. -/
def fnExactPoseAtUptoRow : OpenClaim := { program := "ytikoiodbmnekfaa", sum := "6e8d71843d1f3c99fa86ba0defd60b5cc48c48fbac33ca69abb4eed44879427a", func := "loop.example/g00064/laws.FnExactPoseAt", spec := "fnExactPoseAt", apart := false, narrowed := true }
def FnExactPoseAtUptoSaid : Prop := fnExactPoseAtUptoRow.holds Try.pinned (OpenSpec.upto fnExactPoseAtSpec)

/-- 'laws.FnExactMarksCrossed', WHERE WHAT IT READS IS OF BULK AT MOST 1048576: true; the input reads as it did. -/
def fnExactMarksCrossedUptoRow : OpenClaim := { program := "ytikoiodbmnekfaa", sum := "6e8d71843d1f3c99fa86ba0defd60b5cc48c48fbac33ca69abb4eed44879427a", func := "loop.example/g00064/laws.FnExactMarksCrossed", spec := "fnExactMarksCrossed", apart := false, narrowed := true }
def FnExactMarksCrossedUptoSaid : Prop := fnExactMarksCrossedUptoRow.holds Try.pinned (OpenSpec.upto fnExactMarksCrossedSpec)

end Rows
end Go.Proofs.Ytikoiodbmnekfaa
