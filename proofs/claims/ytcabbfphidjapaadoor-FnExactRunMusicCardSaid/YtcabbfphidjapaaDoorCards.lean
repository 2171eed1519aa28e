/-
  DERIVED. GIVEN WITH THE SEED: THE CARDS: each row of YtcabbfphidjapaaDoorRows.lean that lists a variable, with what it lists TIED to the program's text (the seventh form; the later family's looks); each row that meets fmt, with fmt's text TOLD by the authors' own Lean function (tested against real Go, not proved from fmt's source: count such statements apart). THE CARD IS WHAT COUNTS. Prove the row's statement (the work); the ties are given (YtcabbfphidjapaaDoorTie.lean); close each card by the builder's one call (the guide's Derived/Test/ToyasCard.lean, 'card_holds'). Laid BY PROGRAM, IN A SANDBOX (cutbox-door.mjs). By AI agents, Wed Nov 11 2026. No macro, syntax, notation, axiom, sorry.
-/
import Derived.Test.YtcabbfphidjapaaDoorRows
import GoSem.ClaimSeven
namespace Go.Proofs.YtcabbfphidjapaaDoor
namespace Rows

/-- THE TIED CARD OF 'laws.FnExactRunMusic'. -/
def fnExactRunMusicCard : Claim7 := { stood := { row := fnExactRunMusicRow, standIns := [], harness := (true, "aa429f306ebeb056c29d9a5889c41fc8b6390209da48b5dff766ac27a3c8c6c8"), looks := false }, kinds := [], alts := [], laidByText := true, laidKinds := [.data, .data, .data], laidTests := true, laidLooks := .later }
def FnExactRunMusicCardSaid : Prop := Claim7.holds Tryd.pinned (.plain (OpenSpec.ofChange fnExactRunMusicSpec)) fnExactRunMusicCard

/-- THE TIED CARD OF 'laws.FnExactWrapText'. -/
def fnExactWrapTextCard : Claim7 := { stood := { row := fnExactWrapTextRow, standIns := [], harness := (true, "aa429f306ebeb056c29d9a5889c41fc8b6390209da48b5dff766ac27a3c8c6c8"), looks := false }, kinds := [], alts := [], laidByText := true, laidKinds := [.data, .pinned], laidTests := true, laidLooks := .later }
def FnExactWrapTextCardSaid : Prop := Claim7.holds Tryd.pinned (.plain (OpenSpec.ofChange fnExactWrapTextSpec)) fnExactWrapTextCard

/-- THE SECOND FORM's CARD OF 'laws.FnExactRunMusic'. -/
def fnExactRunMusicUptoCard : Claim7 := { stood := { row := fnExactRunMusicUptoRow, standIns := [], harness := (true, "aa429f306ebeb056c29d9a5889c41fc8b6390209da48b5dff766ac27a3c8c6c8"), looks := false }, kinds := [], alts := [], laidByText := true, laidKinds := [.data, .data, .data], laidTests := true, laidLooks := .later }
def FnExactRunMusicUptoCardSaid : Prop := Claim7.holds Tryd.pinned (.plain (OpenSpec.upto fnExactRunMusicSpec)) fnExactRunMusicUptoCard

/-- THE SECOND FORM's CARD OF 'laws.FnExactWrapText'. -/
def fnExactWrapTextUptoCard : Claim7 := { stood := { row := fnExactWrapTextUptoRow, standIns := [], harness := (true, "aa429f306ebeb056c29d9a5889c41fc8b6390209da48b5dff766ac27a3c8c6c8"), looks := false }, kinds := [], alts := [], laidByText := true, laidKinds := [.data, .pinned], laidTests := true, laidLooks := .later }
def FnExactWrapTextUptoCardSaid : Prop := Claim7.holds Tryd.pinned (.plain (OpenSpec.upto fnExactWrapTextSpec)) fnExactWrapTextUptoCard
end Rows
end Go.Proofs.YtcabbfphidjapaaDoor
