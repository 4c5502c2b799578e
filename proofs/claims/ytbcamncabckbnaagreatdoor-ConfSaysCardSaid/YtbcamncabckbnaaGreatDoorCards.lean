/-
  DERIVED. GIVEN WITH THE SEED: THE CARDS: each row of YtbcamncabckbnaaGreatDoorRows.lean that lists a variable, with what it lists TIED to the program's text (the seventh form; the later family's looks); each row that meets fmt, with fmt's text TOLD by the authors' own Lean function (tested against real Go, not proved from fmt's source: count such statements apart). THE CARD IS WHAT COUNTS. Prove the row's statement (the work); the ties are given (YtbcamncabckbnaaGreatDoorTie.lean); close each card by the builder's one call (the guide's Derived/Test/ToyasCard.lean, 'card_holds'). Laid BY PROGRAM, IN A SANDBOX (cutbox-door.mjs). By AI agents, Wed Nov 11 2026. No macro, syntax, notation, axiom, sorry.
-/
import Derived.Test.YtbcamncabckbnaaGreatDoorRows
import GoSem.ClaimSeven
namespace Go.Proofs.YtbcamncabckbnaaGreatDoor
namespace Rows

/-- THE TIED CARD OF 'custlaw.ConfSays'. -/
def confSaysCard : Claim7 := { stood := { row := confSaysRow, standIns := [], harness := (true, "11b347162c4bc3edca4bfb6b359d4de93521d4f5799a50bacd42821b2cb7ef60"), looks := true }, kinds := [], alts := [], laidByText := true, laidKinds := [.data, .data, .data, .data, .sentinel, .sentinel, .pinned], laidTests := true, laidLooks := .later }
def ConfSaysCardSaid : Prop := Claim7.holds Tryz.pinned (.plain (OpenSpec.ofChange confSaysSpec)) confSaysCard

/-- THE SECOND FORM's CARD OF 'custlaw.ConfSays'. -/
def confSaysUptoCard : Claim7 := { stood := { row := confSaysUptoRow, standIns := [], harness := (true, "11b347162c4bc3edca4bfb6b359d4de93521d4f5799a50bacd42821b2cb7ef60"), looks := true }, kinds := [], alts := [], laidByText := true, laidKinds := [.data, .data, .data, .data, .sentinel, .sentinel, .pinned], laidTests := true, laidLooks := .later }
def ConfSaysUptoCardSaid : Prop := Claim7.holds Tryz.pinned (.plain (OpenSpec.upto confSaysSpec)) confSaysUptoCard
end Rows
end Go.Proofs.YtbcamncabckbnaaGreatDoor
