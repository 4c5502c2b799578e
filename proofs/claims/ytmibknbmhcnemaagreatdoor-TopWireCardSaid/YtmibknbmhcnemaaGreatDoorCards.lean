/-
  DERIVED. GIVEN WITH THE SEED: THE CARDS: each row of YtmibknbmhcnemaaGreatDoorRows.lean that lists a variable, with what it lists TIED to the program's text (the seventh form; the later family's looks); each row that meets fmt, with fmt's text TOLD by the authors' own Lean function (tested against real Go, not proved from fmt's source: count such statements apart). THE CARD IS WHAT COUNTS. Prove the row's statement (the work); the ties are given (YtmibknbmhcnemaaGreatDoorTie.lean); close each card by the builder's one call (the guide's Derived/Test/ToyasCard.lean, 'card_holds'). Laid BY PROGRAM, IN A SANDBOX (cutbox-door.mjs). By AI agents, Wed Nov 11 2026. No macro, syntax, notation, axiom, sorry.
-/
import Derived.Test.YtmibknbmhcnemaaGreatDoorRows
import GoSem.ClaimSeven
namespace Go.Proofs.YtmibknbmhcnemaaGreatDoor
namespace Rows

/-- THE TIED CARD OF 'custtop.TopWire'. -/
def topWireCard : Claim7 := { stood := { row := topWireRow, standIns := [], harness := (true, "2fc5d920b02e38c90cdd55921fcc0babc64b43151b2dcd7c62f3464600d725ca"), looks := false }, kinds := [], alts := [], laidByText := true, laidKinds := [.data], laidTests := true, laidLooks := .later }
def TopWireCardSaid : Prop := Claim7.holds Tryz.pinned (.plain (OpenSpec.ofChange topWireSpec)) topWireCard

/-- THE TIED CARD OF 'custlaw.HouseHears'. -/
def houseHearsCard : Claim7 := { stood := { row := houseHearsRow, standIns := [], harness := (true, "2fc5d920b02e38c90cdd55921fcc0babc64b43151b2dcd7c62f3464600d725ca"), looks := false }, kinds := [], alts := [], laidByText := true, laidKinds := [.data], laidTests := true, laidLooks := .later }
def HouseHearsCardSaid : Prop := Claim7.holds Tryz.pinned (.plain (OpenSpec.ofChange houseHearsSpec)) houseHearsCard

/-- THE TIED CARD OF 'custlaw.HouseRuns'. -/
def houseRunsCard : Claim7 := { stood := { row := houseRunsRow, standIns := [], harness := (true, "2fc5d920b02e38c90cdd55921fcc0babc64b43151b2dcd7c62f3464600d725ca"), looks := false }, kinds := [], alts := [], laidByText := true, laidKinds := [.data], laidTests := true, laidLooks := .later }
def HouseRunsCardSaid : Prop := Claim7.holds Tryz.pinned (.plain (OpenSpec.ofChange houseRunsSpec)) houseRunsCard

/-- THE SECOND FORM's CARD OF 'custtop.TopWire'. -/
def topWireUptoCard : Claim7 := { stood := { row := topWireUptoRow, standIns := [], harness := (true, "2fc5d920b02e38c90cdd55921fcc0babc64b43151b2dcd7c62f3464600d725ca"), looks := false }, kinds := [], alts := [], laidByText := true, laidKinds := [.data], laidTests := true, laidLooks := .later }
def TopWireUptoCardSaid : Prop := Claim7.holds Tryz.pinned (.plain (OpenSpec.upto topWireSpec)) topWireUptoCard

/-- THE SECOND FORM's CARD OF 'custlaw.HouseHears'. -/
def houseHearsUptoCard : Claim7 := { stood := { row := houseHearsUptoRow, standIns := [], harness := (true, "2fc5d920b02e38c90cdd55921fcc0babc64b43151b2dcd7c62f3464600d725ca"), looks := false }, kinds := [], alts := [], laidByText := true, laidKinds := [.data], laidTests := true, laidLooks := .later }
def HouseHearsUptoCardSaid : Prop := Claim7.holds Tryz.pinned (.plain (OpenSpec.upto houseHearsSpec)) houseHearsUptoCard

/-- THE SECOND FORM's CARD OF 'custlaw.HouseRuns'. -/
def houseRunsUptoCard : Claim7 := { stood := { row := houseRunsUptoRow, standIns := [], harness := (true, "2fc5d920b02e38c90cdd55921fcc0babc64b43151b2dcd7c62f3464600d725ca"), looks := false }, kinds := [], alts := [], laidByText := true, laidKinds := [.data], laidTests := true, laidLooks := .later }
def HouseRunsUptoCardSaid : Prop := Claim7.holds Tryz.pinned (.plain (OpenSpec.upto houseRunsSpec)) houseRunsUptoCard
end Rows
end Go.Proofs.YtmibknbmhcnemaaGreatDoor
