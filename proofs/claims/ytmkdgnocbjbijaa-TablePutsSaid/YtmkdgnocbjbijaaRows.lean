/-
  No cell of these rows narrows 'for every input' (looked for: loops, veiled, ifaces, maps, wideKeys, modest, calm, conditions, laid).
  DERIVED. THE GIVEN ROWS OF THIS SEAT. 5 by the template 'for every input the law returns true; each argument reads behind the call as it read before'; 0 by the template 'total and deterministic' (their statements: YtmkdgnocbjbijaaTotals.lean).
  GIVEN WITH THE SEED: the statements are not yours to turn. If you find one false, say at which input.
  Laid BY PROGRAM, IN A SANDBOX (cutbox-rows.mjs): the forced cells as the released guide's own fill.sh prints them over the translation f99b4f4c0a00d055… (all of the seat's roots in one cut). By AI agents, Wed Nov 11 2026. No macro, syntax, notation, axiom, sorry.
-/
import Derived.Test.YtmkdgnocbjbijaaChecked
import GoSem.Claim
import GoSem.ClaimJoined
import GoSem.ClaimMapViews
import Derived.JoinedTies
import Derived.KernelRfl
namespace Go.Proofs.Ytmkdgnocbjbijaa
/- THE CELL 'sum', in the pinned program and in every row, IS THE sha256 OF THE DUMP (.gsa) THAT YtmkdgnocbjbijaaProg.lean LOADS. Nothing in Lean hashes anything: it is a label: what it is worth is what the hold of that sum in a sandbox is worth. -/
noncomputable def Try.pinned : Pinned := { name := "ytmkdgnocbjbijaa", sum := "f99b4f4c0a00d055e46b472f62ad3b713b9fc56d45d438bfce994d423cb5f988", checked := Try.checked }
namespace Rows
def none {H : Type} : Left H := { results := [], args := [] }

/-- 'custlaw.TableNews': WHATEVER THE INPUT: true; the input reads as it did. -/
def tableNewsSpec : ChangeSpec := { name := "tableNews", fn := fun _ => fun
  | [d1, d2, d3] => { results := [.lit (.bool true)], args := [d1, d2, d3] }
  | _ => none }
def tableNewsRow : OpenClaim := { program := "ytmkdgnocbjbijaa", sum := "f99b4f4c0a00d055e46b472f62ad3b713b9fc56d45d438bfce994d423cb5f988", func := "customshouse/custlaw.TableNews", spec := "tableNews", apart := false }
def TableNewsSaid : Prop := tableNewsRow.holds Try.pinned (OpenSpec.ofChange tableNewsSpec)

/-- ITS FALSE NEIGHBOUR: 'it returns false'. Refute it at one input. -/
def tableNewsWrong : ChangeSpec := { name := "tableNews", fn := fun _ => fun
  | [d1, d2, d3] => { results := [.lit (.bool false)], args := [d1, d2, d3] }
  | _ => none }
def TableNewsWrongFalsely : Prop := tableNewsRow.holds Try.pinned (OpenSpec.ofChange tableNewsWrong)

/-- 'custlaw.TablePuts': WHATEVER THE INPUT: true; the input reads as it did. -/
def tablePutsSpec : ChangeSpec := { name := "tablePuts", fn := fun _ => fun
  | [d1, d2, d3] => { results := [.lit (.bool true)], args := [d1, d2, d3] }
  | _ => none }
def tablePutsRow : OpenClaim := { program := "ytmkdgnocbjbijaa", sum := "f99b4f4c0a00d055e46b472f62ad3b713b9fc56d45d438bfce994d423cb5f988", func := "customshouse/custlaw.TablePuts", spec := "tablePuts", unfollowed := true, recurses := true, apart := false }
def TablePutsSaid : Prop := tablePutsRow.holds Try.pinned (OpenSpec.ofChange tablePutsSpec)

/-- ITS FALSE NEIGHBOUR: 'it returns false'. Refute it at one input. -/
def tablePutsWrong : ChangeSpec := { name := "tablePuts", fn := fun _ => fun
  | [d1, d2, d3] => { results := [.lit (.bool false)], args := [d1, d2, d3] }
  | _ => none }
def TablePutsWrongFalsely : Prop := tablePutsRow.holds Try.pinned (OpenSpec.ofChange tablePutsWrong)

/-- 'custlaw.AgesTakes': WHATEVER THE INPUT: true; the input reads as it did. -/
def agesTakesSpec : ChangeSpec := { name := "agesTakes", fn := fun _ => fun
  | [d1, d2, d3] => { results := [.lit (.bool true)], args := [d1, d2, d3] }
  | _ => none }
def agesTakesRow : OpenClaim := { program := "ytmkdgnocbjbijaa", sum := "f99b4f4c0a00d055e46b472f62ad3b713b9fc56d45d438bfce994d423cb5f988", func := "customshouse/custlaw.AgesTakes", spec := "agesTakes", unfollowed := true, recurses := true, apart := false }
def AgesTakesSaid : Prop := agesTakesRow.holds Try.pinned (OpenSpec.ofChange agesTakesSpec)

/-- ITS FALSE NEIGHBOUR: 'it returns false'. Refute it at one input. -/
def agesTakesWrong : ChangeSpec := { name := "agesTakes", fn := fun _ => fun
  | [d1, d2, d3] => { results := [.lit (.bool false)], args := [d1, d2, d3] }
  | _ => none }
def AgesTakesWrongFalsely : Prop := agesTakesRow.holds Try.pinned (OpenSpec.ofChange agesTakesWrong)

/-- 'custlaw.AgesGoes': WHATEVER THE INPUT: true; the input reads as it did. -/
def agesGoesSpec : ChangeSpec := { name := "agesGoes", fn := fun _ => fun
  | [d1, d2, d3] => { results := [.lit (.bool true)], args := [d1, d2, d3] }
  | _ => none }
def agesGoesRow : OpenClaim := { program := "ytmkdgnocbjbijaa", sum := "f99b4f4c0a00d055e46b472f62ad3b713b9fc56d45d438bfce994d423cb5f988", func := "customshouse/custlaw.AgesGoes", spec := "agesGoes", unfollowed := true, recurses := true, apart := false }
def AgesGoesSaid : Prop := agesGoesRow.holds Try.pinned (OpenSpec.ofChange agesGoesSpec)

/-- ITS FALSE NEIGHBOUR: 'it returns false'. Refute it at one input. -/
def agesGoesWrong : ChangeSpec := { name := "agesGoes", fn := fun _ => fun
  | [d1, d2, d3] => { results := [.lit (.bool false)], args := [d1, d2, d3] }
  | _ => none }
def AgesGoesWrongFalsely : Prop := agesGoesRow.holds Try.pinned (OpenSpec.ofChange agesGoesWrong)

/-- 'custlaw.CookieSays': WHATEVER THE INPUT: true; the input reads as it did. -/
def cookieSaysSpec : ChangeSpec := { name := "cookieSays", fn := fun _ => fun
  | [d1, d2, d3, d4, d5, d6, d7, d8] => { results := [.lit (.bool true)], args := [d1, d2, d3, d4, d5, d6, d7, d8] }
  | _ => none }
def cookieSaysRow : OpenClaim := { program := "ytmkdgnocbjbijaa", sum := "f99b4f4c0a00d055e46b472f62ad3b713b9fc56d45d438bfce994d423cb5f988", func := "customshouse/custlaw.CookieSays", spec := "cookieSays", apart := false }
def CookieSaysSaid : Prop := cookieSaysRow.holds Try.pinned (OpenSpec.ofChange cookieSaysSpec)

/-- ITS FALSE NEIGHBOUR: 'it returns false'. Refute it at one input. -/
def cookieSaysWrong : ChangeSpec := { name := "cookieSays", fn := fun _ => fun
  | [d1, d2, d3, d4, d5, d6, d7, d8] => { results := [.lit (.bool false)], args := [d1, d2, d3, d4, d5, d6, d7, d8] }
  | _ => none }
def CookieSaysWrongFalsely : Prop := cookieSaysRow.holds Try.pinned (OpenSpec.ofChange cookieSaysWrong)

/- THE SECOND FORM. 'bulk': how many values and letters a reading holds, each counted each time it is reached (what is shared counts as often as it is met; a slice's spare places count too). A statement '..UptoSaid' is the law's where the arguments, and the package variables that the reading takes, are together of bulk at most 1048576: NARROWER than '..Said'. Prove '..Said' where nothing that the law and all that it calls make is longer than what came in: it says more and counts as full. Else prove '..UptoSaid'. A law counts once. -/
mutual
def uptoBulk {H : Type} : DataW H → Nat
  | .lit (.string bytes) => bytes.length + 1
  | .lit _ => 1
  | .nil => 1
  | .ptr d => uptoBulk d + 1
  | .slice elems spare => uptoBulkAll elems + uptoBulkAll spare + 1
  | .agg parts => uptoBulkAll parts + 1
  | .iface _ d => uptoBulk d + 1
  | .map entries => uptoBulkEntries entries + 1
  | .held _ => 1
def uptoBulkAll {H : Type} : List (DataW H) → Nat
  | [] => 0
  | d :: r => uptoBulk d + uptoBulkAll r
def uptoBulkEntries {H : Type} : List (Lit × DataW H) → Nat
  | [] => 0
  | x :: r => uptoBulkEntry x + uptoBulkEntries r
def uptoBulkEntry {H : Type} : Lit × DataW H → Nat
  | (.string bytes, d) => bytes.length + uptoBulk d + 1
  | (_, d) => uptoBulk d + 1
 end
def uptoSmall : (H : Type) → List (DataW H) → Bool := fun _ ds => decide (uptoBulkAll ds ≤ 1048576)
def OpenSpec.upto (s : _root_.Go.ChangeSpec) : _root_.Go.OpenSpec := { _root_.Go.OpenSpec.ofChange s with cond := some uptoSmall }

/-- 'custlaw.TableNews', WHERE WHAT IT READS IS OF BULK AT MOST 1048576: true; the input reads as it did. -/
def tableNewsUptoRow : OpenClaim := { program := "ytmkdgnocbjbijaa", sum := "f99b4f4c0a00d055e46b472f62ad3b713b9fc56d45d438bfce994d423cb5f988", func := "customshouse/custlaw.TableNews", spec := "tableNews", apart := false, narrowed := true }
def TableNewsUptoSaid : Prop := tableNewsUptoRow.holds Try.pinned (OpenSpec.upto tableNewsSpec)

/-- 'custlaw.TablePuts', WHERE WHAT IT READS IS OF BULK AT MOST 1048576: true; the input reads as it did. -/
def tablePutsUptoRow : OpenClaim := { program := "ytmkdgnocbjbijaa", sum := "f99b4f4c0a00d055e46b472f62ad3b713b9fc56d45d438bfce994d423cb5f988", func := "customshouse/custlaw.TablePuts", spec := "tablePuts", unfollowed := true, recurses := true, apart := false, narrowed := true }
def TablePutsUptoSaid : Prop := tablePutsUptoRow.holds Try.pinned (OpenSpec.upto tablePutsSpec)

/-- 'custlaw.AgesTakes', WHERE WHAT IT READS IS OF BULK AT MOST 1048576: true; the input reads as it did. -/
def agesTakesUptoRow : OpenClaim := { program := "ytmkdgnocbjbijaa", sum := "f99b4f4c0a00d055e46b472f62ad3b713b9fc56d45d438bfce994d423cb5f988", func := "customshouse/custlaw.AgesTakes", spec := "agesTakes", unfollowed := true, recurses := true, apart := false, narrowed := true }
def AgesTakesUptoSaid : Prop := agesTakesUptoRow.holds Try.pinned (OpenSpec.upto agesTakesSpec)

/-- 'custlaw.AgesGoes', WHERE WHAT IT READS IS OF BULK AT MOST 1048576: true; the input reads as it did. -/
def agesGoesUptoRow : OpenClaim := { program := "ytmkdgnocbjbijaa", sum := "f99b4f4c0a00d055e46b472f62ad3b713b9fc56d45d438bfce994d423cb5f988", func := "customshouse/custlaw.AgesGoes", spec := "agesGoes", unfollowed := true, recurses := true, apart := false, narrowed := true }
def AgesGoesUptoSaid : Prop := agesGoesUptoRow.holds Try.pinned (OpenSpec.upto agesGoesSpec)

/-- 'custlaw.CookieSays', WHERE WHAT IT READS IS OF BULK AT MOST 1048576: true; the input reads as it did. -/
def cookieSaysUptoRow : OpenClaim := { program := "ytmkdgnocbjbijaa", sum := "f99b4f4c0a00d055e46b472f62ad3b713b9fc56d45d438bfce994d423cb5f988", func := "customshouse/custlaw.CookieSays", spec := "cookieSays", apart := false, narrowed := true }
def CookieSaysUptoSaid : Prop := cookieSaysUptoRow.holds Try.pinned (OpenSpec.upto cookieSaysSpec)

end Rows
end Go.Proofs.Ytmkdgnocbjbijaa
