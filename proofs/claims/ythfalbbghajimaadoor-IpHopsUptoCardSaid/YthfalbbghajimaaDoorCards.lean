/-
  DERIVED. GIVEN WITH THE SEED: THE CARDS: each row of YthfalbbghajimaaDoorRows.lean that lists a variable, with what it lists TIED to the program's text (the seventh form; the later family's looks); each row that meets fmt, with fmt's text TOLD by the authors' own Lean function (tested against real Go, not proved from fmt's source: count such statements apart). THE CARD IS WHAT COUNTS. Prove the row's statement (the work); the ties are given (YthfalbbghajimaaDoorTie.lean); close each card by the builder's one call (the guide's Derived/Test/ToyasCard.lean, 'card_holds'). Laid BY PROGRAM, IN A SANDBOX (cutbox-door.mjs). By AI agents, Wed Nov 11 2026. No macro, syntax, notation, axiom, sorry.
-/
import Derived.Test.YthfalbbghajimaaDoorRows
import GoSem.ClaimSeven
namespace Go.Proofs.YthfalbbghajimaaDoor
namespace Rows

/-- THE TIED CARD OF 'custlaw.IpHops'. -/
def ipHopsCard : Claim7 := { stood := { row := ipHopsRow, standIns := [], harness := (true, "02c3a908a276e231610a9cb08c3dc7b35050c6f3faf7d14209661bd66ebdbc5d"), looks := true }, kinds := [], alts := [], laidByText := true, laidKinds := [.data, .data, .data, .data, .sentinel, .sentinel, .pinned], laidTests := true, laidLooks := .later }
def IpHopsCardSaid : Prop := Claim7.holds Tryd.pinned (.plain (OpenSpec.ofChange ipHopsSpec)) ipHopsCard

/-- THE SECOND FORM's CARD OF 'custlaw.IpHops'. -/
def ipHopsUptoCard : Claim7 := { stood := { row := ipHopsUptoRow, standIns := [], harness := (true, "02c3a908a276e231610a9cb08c3dc7b35050c6f3faf7d14209661bd66ebdbc5d"), looks := true }, kinds := [], alts := [], laidByText := true, laidKinds := [.data, .data, .data, .data, .sentinel, .sentinel, .pinned], laidTests := true, laidLooks := .later }
def IpHopsUptoCardSaid : Prop := Claim7.holds Tryd.pinned (.plain (OpenSpec.upto ipHopsSpec)) ipHopsUptoCard
end Rows
end Go.Proofs.YthfalbbghajimaaDoor
