/-
  DERIVED. GIVEN WITH THE SEED: THE CARDS: each row of YtbhpjpeknooppaaDoorRows.lean that lists a variable, with what it lists TIED to the program's text (the seventh form; the later family's looks); each row that meets fmt, with fmt's text TOLD by the authors' own Lean function (tested against real Go, not proved from fmt's source: count such statements apart). THE CARD IS WHAT COUNTS. Prove the row's statement (the work); the ties are given (YtbhpjpeknooppaaDoorTie.lean); close each card by the builder's one call (the guide's Derived/Test/ToyasCard.lean, 'card_holds'). Laid BY PROGRAM, IN A SANDBOX (cutbox-door.mjs). By AI agents, Wed Nov 11 2026. No macro, syntax, notation, axiom, sorry.
-/
import Derived.Test.YtbhpjpeknooppaaDoorRows
import GoSem.ClaimSeven
namespace Go.Proofs.YtbhpjpeknooppaaDoor
namespace Rows

/-- THE TIED CARD OF 'sluicelaw7.CodeSpares'. -/
def codeSparesCard : Claim7 := { stood := { row := codeSparesRow, standIns := [], harness := (true, "1acf8d9597252eefbf2eaa9e087b6b87e2fcfb96f6683f99409e45a264a4a3cb"), looks := false }, kinds := [], alts := [], laidByText := true, laidKinds := [.data, .data, .data, .data, .data, .data, .data, .data], laidTests := true, laidLooks := .later }
def CodeSparesCardSaid : Prop := Claim7.holds Tryd.pinned (.plain (OpenSpec.ofChange codeSparesSpec)) codeSparesCard

/-- THE SECOND FORM's CARD OF 'sluicelaw7.CodeSpares'. -/
def codeSparesUptoCard : Claim7 := { stood := { row := codeSparesUptoRow, standIns := [], harness := (true, "1acf8d9597252eefbf2eaa9e087b6b87e2fcfb96f6683f99409e45a264a4a3cb"), looks := false }, kinds := [], alts := [], laidByText := true, laidKinds := [.data, .data, .data, .data, .data, .data, .data, .data], laidTests := true, laidLooks := .later }
def CodeSparesUptoCardSaid : Prop := Claim7.holds Tryd.pinned (.plain (OpenSpec.upto codeSparesSpec)) codeSparesUptoCard
end Rows
end Go.Proofs.YtbhpjpeknooppaaDoor
