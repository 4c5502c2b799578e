/-
  DERIVED. GIVEN WITH THE SEED: THE CARDS: each row of YtecnnfhebcnkbaaDoorRows.lean that lists a variable, with what it lists TIED to the program's text (the seventh form; the later family's looks); each row that meets fmt, with fmt's text TOLD by the authors' own Lean function (tested against real Go, not proved from fmt's source: count such statements apart). THE CARD IS WHAT COUNTS. Prove the row's statement (the work); the ties are given (YtecnnfhebcnkbaaDoorTie.lean); close each card by the builder's one call (the guide's Derived/Test/ToyasCard.lean, 'card_holds'). Laid BY PROGRAM, IN A SANDBOX (cutbox-door.mjs). By AI agents, Wed Nov 11 2026. No macro, syntax, notation, axiom, sorry.
-/
import Derived.Test.YtecnnfhebcnkbaaDoorRows
import GoSem.ClaimSeven
namespace Go.Proofs.YtecnnfhebcnkbaaDoor
namespace Rows

/-- THE TIED CARD OF 'custlaw.PortsSays'. -/
def portsSaysCard : Claim7 := { stood := { row := portsSaysRow, standIns := [], harness := (true, "0284ebccf7c15b14089b5af11eb825afd7e9227fd07ce4346825cda4dea62a27"), looks := false }, kinds := [], alts := [], laidByText := true, laidKinds := [.data], laidTests := true, laidLooks := .later }
def PortsSaysCardSaid : Prop := Claim7.holds Tryd.pinned (.plain (OpenSpec.ofChange portsSaysSpec)) portsSaysCard

/-- THE SECOND FORM's CARD OF 'custlaw.PortsSays'. -/
def portsSaysUptoCard : Claim7 := { stood := { row := portsSaysUptoRow, standIns := [], harness := (true, "0284ebccf7c15b14089b5af11eb825afd7e9227fd07ce4346825cda4dea62a27"), looks := false }, kinds := [], alts := [], laidByText := true, laidKinds := [.data], laidTests := true, laidLooks := .later }
def PortsSaysUptoCardSaid : Prop := Claim7.holds Tryd.pinned (.plain (OpenSpec.upto portsSaysSpec)) portsSaysUptoCard
end Rows
end Go.Proofs.YtecnnfhebcnkbaaDoor
