/-
  DERIVED. GIVEN WITH THE SEED: THE CARDS: each row of YtmibknbmhcnemaaDoorRows.lean that lists a variable, with what it lists TIED to the program's text (the seventh form; the later family's looks); each row that meets fmt, with fmt's text TOLD by the authors' own Lean function (tested against real Go, not proved from fmt's source: count such statements apart). THE CARD IS WHAT COUNTS. Prove the row's statement (the work); the ties are given (YtmibknbmhcnemaaDoorTie.lean); close each card by the builder's one call (the guide's Derived/Test/ToyasCard.lean, 'card_holds'). Laid BY PROGRAM, IN A SANDBOX (cutbox-door.mjs). By AI agents, Wed Nov 11 2026. No macro, syntax, notation, axiom, sorry.
-/
import Derived.Test.YtmibknbmhcnemaaDoorRows
import GoSem.ClaimSeven
namespace Go.Proofs.YtmibknbmhcnemaaDoor
namespace Rows

/-- THE TIED CARD OF 'custtop.TopMany'. -/
def topManyCard : Claim7 := { stood := { row := topManyRow, standIns := [], harness := (true, "4737ed9c6dba41dd2fc96df98e943c2872c4e1f214f46fa247b361bcf9b94c3f"), looks := false }, kinds := [], alts := [], laidByText := true, laidKinds := [.data], laidTests := true, laidLooks := .later }
def TopManyCardSaid : Prop := Claim7.holds Tryd.pinned (.plain (OpenSpec.ofChange topManySpec)) topManyCard

/-- THE SECOND FORM's CARD OF 'custtop.TopMany'. -/
def topManyUptoCard : Claim7 := { stood := { row := topManyUptoRow, standIns := [], harness := (true, "4737ed9c6dba41dd2fc96df98e943c2872c4e1f214f46fa247b361bcf9b94c3f"), looks := false }, kinds := [], alts := [], laidByText := true, laidKinds := [.data], laidTests := true, laidLooks := .later }
def TopManyUptoCardSaid : Prop := Claim7.holds Tryd.pinned (.plain (OpenSpec.upto topManySpec)) topManyUptoCard
end Rows
end Go.Proofs.YtmibknbmhcnemaaDoor
