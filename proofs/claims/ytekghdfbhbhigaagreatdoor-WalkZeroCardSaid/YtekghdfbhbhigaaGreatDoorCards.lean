/-
  DERIVED. GIVEN WITH THE SEED: THE CARDS: each row of YtekghdfbhbhigaaGreatDoorRows.lean that lists a variable, with what it lists TIED to the program's text (the seventh form; the later family's looks); each row that meets fmt, with fmt's text TOLD by the authors' own Lean function (tested against real Go, not proved from fmt's source: count such statements apart). THE CARD IS WHAT COUNTS. Prove the row's statement (the work); the ties are given (YtekghdfbhbhigaaGreatDoorTie.lean); close each card by the builder's one call (the guide's Derived/Test/ToyasCard.lean, 'card_holds'). Laid BY PROGRAM, IN A SANDBOX (cutbox-door.mjs). By AI agents, Wed Nov 11 2026. No macro, syntax, notation, axiom, sorry.
-/
import Derived.Test.YtekghdfbhbhigaaGreatDoorRows
import GoSem.ClaimSeven
namespace Go.Proofs.YtekghdfbhbhigaaGreatDoor
namespace Rows

/-- THE TIED CARD OF 'trammellaw12.WalkZero'. -/
def walkZeroCard : Claim7 := { stood := { row := walkZeroRow, standIns := [], harness := (true, "70e7802e5205766cca8d4c9cc62aee5c51c05f1ac6dccb6cc2fe21d5bba8ab99"), looks := false }, kinds := [], alts := [], laidByText := true, laidKinds := [.data, .data, .data], laidTests := true, laidLooks := .later }
def WalkZeroCardSaid : Prop := Claim7.holds Tryz.pinned (.plain (OpenSpec.ofChange walkZeroSpec)) walkZeroCard

/-- THE SECOND FORM's CARD OF 'trammellaw12.WalkZero'. -/
def walkZeroUptoCard : Claim7 := { stood := { row := walkZeroUptoRow, standIns := [], harness := (true, "70e7802e5205766cca8d4c9cc62aee5c51c05f1ac6dccb6cc2fe21d5bba8ab99"), looks := false }, kinds := [], alts := [], laidByText := true, laidKinds := [.data, .data, .data], laidTests := true, laidLooks := .later }
def WalkZeroUptoCardSaid : Prop := Claim7.holds Tryz.pinned (.plain (OpenSpec.upto walkZeroSpec)) walkZeroUptoCard
end Rows
end Go.Proofs.YtekghdfbhbhigaaGreatDoor
