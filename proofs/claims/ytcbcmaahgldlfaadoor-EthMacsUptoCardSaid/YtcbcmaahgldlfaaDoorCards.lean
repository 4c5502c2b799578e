/-
  DERIVED. GIVEN WITH THE SEED: THE CARDS: each row of YtcbcmaahgldlfaaDoorRows.lean that lists a variable, with what it lists TIED to the program's text (the seventh form; the later family's looks); each row that meets fmt, with fmt's text TOLD by the authors' own Lean function (tested against real Go, not proved from fmt's source: count such statements apart). THE CARD IS WHAT COUNTS. Prove the row's statement (the work); the ties are given (YtcbcmaahgldlfaaDoorTie.lean); close each card by the builder's one call (the guide's Derived/Test/ToyasCard.lean, 'card_holds'). Laid BY PROGRAM, IN A SANDBOX (cutbox-door.mjs). By AI agents, Wed Nov 11 2026. No macro, syntax, notation, axiom, sorry.
-/
import Derived.Test.YtcbcmaahgldlfaaDoorRows
import GoSem.ClaimSeven
namespace Go.Proofs.YtcbcmaahgldlfaaDoor
namespace Rows

/-- THE TIED CARD OF 'custlaw.EthMacs'. -/
def ethMacsCard : Claim7 := { stood := { row := ethMacsRow, standIns := [], harness := (true, "d8e6e9740f0a3c06cc9886cd242fc26cefc30f022d33f63b2ea5ea2a95fcad5e"), looks := false }, kinds := [], alts := [], laidByText := true, laidKinds := [.data, .pinned], laidTests := true, laidLooks := .later }
def EthMacsCardSaid : Prop := Claim7.holds Tryd.pinned (.plain (OpenSpec.ofChange ethMacsSpec)) ethMacsCard

/-- THE SECOND FORM's CARD OF 'custlaw.EthMacs'. -/
def ethMacsUptoCard : Claim7 := { stood := { row := ethMacsUptoRow, standIns := [], harness := (true, "d8e6e9740f0a3c06cc9886cd242fc26cefc30f022d33f63b2ea5ea2a95fcad5e"), looks := false }, kinds := [], alts := [], laidByText := true, laidKinds := [.data, .pinned], laidTests := true, laidLooks := .later }
def EthMacsUptoCardSaid : Prop := Claim7.holds Tryd.pinned (.plain (OpenSpec.upto ethMacsSpec)) ethMacsUptoCard
end Rows
end Go.Proofs.YtcbcmaahgldlfaaDoor
