/-
  No cell of these rows narrows 'for every input' (looked for: loops, veiled, ifaces, maps, wideKeys, modest, calm, conditions, laid).
  DERIVED. THE GIVEN ROWS OF THIS SEAT. 6 by the template 'for every input the law returns true; each argument reads behind the call as it read before'; 0 by the template 'total and deterministic' (their statements: YteghlnpmmmfgfaaTotals.lean).
  GIVEN WITH THE SEED: the statements are not yours to turn. If you find one false, say at which input.
  Laid BY PROGRAM, IN A SANDBOX (cutbox-rows.mjs): the forced cells as the released guide's own fill.sh prints them over the translation 04620263907f223e… (all of the seat's roots in one cut). By AI agents, Wed Nov 11 2026. No macro, syntax, notation, axiom, sorry.
-/
import Derived.Test.YteghlnpmmmfgfaaChecked
import GoSem.Claim
import GoSem.ClaimJoined
import GoSem.ClaimMapViews
import Derived.JoinedTies
import Derived.KernelRfl
namespace Go.Proofs.Yteghlnpmmmfgfaa
/- THE CELL 'sum', in the pinned program and in every row, IS THE sha256 OF THE DUMP (.gsa) THAT YteghlnpmmmfgfaaProg.lean LOADS. Nothing in Lean hashes anything: it is a label: what it is worth is what the hold of that sum in a sandbox is worth. -/
noncomputable def Try.pinned : Pinned := { name := "yteghlnpmmmfgfaa", sum := "04620263907f223ef26e388daae85a8453862fde4e111cf3fb4d50fb51f78fa6", checked := Try.checked }
namespace Rows
def none {H : Type} : Left H := { results := [], args := [] }

/-- 'custlaw.DgramNotes': WHATEVER THE INPUT: true; the input reads as it did. -/
def dgramNotesSpec : ChangeSpec := { name := "dgramNotes", fn := fun _ => fun
  | [d1, d2] => { results := [.lit (.bool true)], args := [d1, d2] }
  | _ => none }
def dgramNotesRow : OpenClaim := { program := "yteghlnpmmmfgfaa", sum := "04620263907f223ef26e388daae85a8453862fde4e111cf3fb4d50fb51f78fa6", func := "customshouse/custlaw.DgramNotes", spec := "dgramNotes", apart := false }
def DgramNotesSaid : Prop := dgramNotesRow.holds Try.pinned (OpenSpec.ofChange dgramNotesSpec)

/-- ITS FALSE NEIGHBOUR: 'it returns false'. Refute it at one input. -/
def dgramNotesWrong : ChangeSpec := { name := "dgramNotes", fn := fun _ => fun
  | [d1, d2] => { results := [.lit (.bool false)], args := [d1, d2] }
  | _ => none }
def DgramNotesWrongFalsely : Prop := dgramNotesRow.holds Try.pinned (OpenSpec.ofChange dgramNotesWrong)

/-- 'custlaw.DgramLetters': WHATEVER THE INPUT: true; the input reads as it did. -/
def dgramLettersSpec : ChangeSpec := { name := "dgramLetters", fn := fun _ => fun
  | [d1, d2, d3, d4, d5, d6] => { results := [.lit (.bool true)], args := [d1, d2, d3, d4, d5, d6] }
  | _ => none }
def dgramLettersRow : OpenClaim := { program := "yteghlnpmmmfgfaa", sum := "04620263907f223ef26e388daae85a8453862fde4e111cf3fb4d50fb51f78fa6", func := "customshouse/custlaw.DgramLetters", spec := "dgramLetters", apart := false }
def DgramLettersSaid : Prop := dgramLettersRow.holds Try.pinned (OpenSpec.ofChange dgramLettersSpec)

/-- ITS FALSE NEIGHBOUR: 'it returns false'. Refute it at one input. -/
def dgramLettersWrong : ChangeSpec := { name := "dgramLetters", fn := fun _ => fun
  | [d1, d2, d3, d4, d5, d6] => { results := [.lit (.bool false)], args := [d1, d2, d3, d4, d5, d6] }
  | _ => none }
def DgramLettersWrongFalsely : Prop := dgramLettersRow.holds Try.pinned (OpenSpec.ofChange dgramLettersWrong)

/-- 'custlaw.TcpMoves': WHATEVER THE INPUT: true; the input reads as it did. -/
def tcpMovesSpec : ChangeSpec := { name := "tcpMoves", fn := fun _ => fun
  | [d1, d2, d3] => { results := [.lit (.bool true)], args := [d1, d2, d3] }
  | _ => none }
def tcpMovesRow : OpenClaim := { program := "yteghlnpmmmfgfaa", sum := "04620263907f223ef26e388daae85a8453862fde4e111cf3fb4d50fb51f78fa6", func := "customshouse/custlaw.TcpMoves", spec := "tcpMoves", unfollowed := true, recurses := true, apart := false }
def TcpMovesSaid : Prop := tcpMovesRow.holds Try.pinned (OpenSpec.ofChange tcpMovesSpec)

/-- ITS FALSE NEIGHBOUR: 'it returns false'. Refute it at one input. -/
def tcpMovesWrong : ChangeSpec := { name := "tcpMoves", fn := fun _ => fun
  | [d1, d2, d3] => { results := [.lit (.bool false)], args := [d1, d2, d3] }
  | _ => none }
def TcpMovesWrongFalsely : Prop := tcpMovesRow.holds Try.pinned (OpenSpec.ofChange tcpMovesWrong)

/-- 'custlaw.IpPackets': WHATEVER THE INPUT: true; the input reads as it did. -/
def ipPacketsSpec : ChangeSpec := { name := "ipPackets", fn := fun _ => fun
  | [d1, d2] => { results := [.lit (.bool true)], args := [d1, d2] }
  | _ => none }
def ipPacketsRow : OpenClaim := { program := "yteghlnpmmmfgfaa", sum := "04620263907f223ef26e388daae85a8453862fde4e111cf3fb4d50fb51f78fa6", func := "customshouse/custlaw.IpPackets", spec := "ipPackets", apart := false }
def IpPacketsSaid : Prop := ipPacketsRow.holds Try.pinned (OpenSpec.ofChange ipPacketsSpec)

/-- ITS FALSE NEIGHBOUR: 'it returns false'. Refute it at one input. -/
def ipPacketsWrong : ChangeSpec := { name := "ipPackets", fn := fun _ => fun
  | [d1, d2] => { results := [.lit (.bool false)], args := [d1, d2] }
  | _ => none }
def IpPacketsWrongFalsely : Prop := ipPacketsRow.holds Try.pinned (OpenSpec.ofChange ipPacketsWrong)

/-- 'custlaw.FragSplits': WHATEVER THE INPUT: true; the input reads as it did. -/
def fragSplitsSpec : ChangeSpec := { name := "fragSplits", fn := fun _ => fun
  | [d1, d2] => { results := [.lit (.bool true)], args := [d1, d2] }
  | _ => none }
def fragSplitsRow : OpenClaim := { program := "yteghlnpmmmfgfaa", sum := "04620263907f223ef26e388daae85a8453862fde4e111cf3fb4d50fb51f78fa6", func := "customshouse/custlaw.FragSplits", spec := "fragSplits", apart := false }
def FragSplitsSaid : Prop := fragSplitsRow.holds Try.pinned (OpenSpec.ofChange fragSplitsSpec)

/-- ITS FALSE NEIGHBOUR: 'it returns false'. Refute it at one input. -/
def fragSplitsWrong : ChangeSpec := { name := "fragSplits", fn := fun _ => fun
  | [d1, d2] => { results := [.lit (.bool false)], args := [d1, d2] }
  | _ => none }
def FragSplitsWrongFalsely : Prop := fragSplitsRow.holds Try.pinned (OpenSpec.ofChange fragSplitsWrong)

/-- 'custlaw.TcpWrites': WHATEVER THE INPUT: true; the input reads as it did. -/
def tcpWritesSpec : ChangeSpec := { name := "tcpWrites", fn := fun _ => fun
  | [d1, d2, d3, d4] => { results := [.lit (.bool true)], args := [d1, d2, d3, d4] }
  | _ => none }
def tcpWritesRow : OpenClaim := { program := "yteghlnpmmmfgfaa", sum := "04620263907f223ef26e388daae85a8453862fde4e111cf3fb4d50fb51f78fa6", func := "customshouse/custlaw.TcpWrites", spec := "tcpWrites", inPlace := ["internal/bytealg.CountString", "internal/bytealg.IndexByteString", "internal/bytealg.IndexString"], unfollowed := true, recurses := true, named := ["internal/bytealg.MaxLen"], apart := false }
def TcpWritesSaid : Prop := tcpWritesRow.holds Try.pinned (OpenSpec.ofChange tcpWritesSpec)

/-- ITS FALSE NEIGHBOUR: 'it returns false'. Refute it at one input. -/
def tcpWritesWrong : ChangeSpec := { name := "tcpWrites", fn := fun _ => fun
  | [d1, d2, d3, d4] => { results := [.lit (.bool false)], args := [d1, d2, d3, d4] }
  | _ => none }
def TcpWritesWrongFalsely : Prop := tcpWritesRow.holds Try.pinned (OpenSpec.ofChange tcpWritesWrong)

/- THE SECOND FORM. 'bulk': how many values and letters a reading holds, each counted each time it is reached (what is shared counts as often as it is met; a slice's spare places count too). A statement '..UptoSaid' is the law's where the arguments, and the package variables that the reading takes, are together of bulk at most 1048576: NARROWER than '..Said'. Prove '..Said' where nothing that the law and all that it calls make is longer than what came in: it says more and counts as full. Else prove '..UptoSaid'. A law counts once. -/
mutual
def uptoBulk {H : Type} : DataW H → Nat
  | .lit (.string bytes) => bytes.length + 1
  | .lit _ => 1
  | .nil => 1
  | .ptr d => uptoBulk d + 1
  | .slice elems spare => uptoBulkAll elems + uptoBulkAll spare + 1
  | .agg parts => uptoBulkAll parts + 1
  | .iface _ d => uptoBulk d + 1
  | .map entries => uptoBulkEntries entries + 1
  | .held _ => 1
def uptoBulkAll {H : Type} : List (DataW H) → Nat
  | [] => 0
  | d :: r => uptoBulk d + uptoBulkAll r
def uptoBulkEntries {H : Type} : List (Lit × DataW H) → Nat
  | [] => 0
  | x :: r => uptoBulkEntry x + uptoBulkEntries r
def uptoBulkEntry {H : Type} : Lit × DataW H → Nat
  | (.string bytes, d) => bytes.length + uptoBulk d + 1
  | (_, d) => uptoBulk d + 1
 end
def uptoSmall : (H : Type) → List (DataW H) → Bool := fun _ ds => decide (uptoBulkAll ds ≤ 1048576)
def OpenSpec.upto (s : _root_.Go.ChangeSpec) : _root_.Go.OpenSpec := { _root_.Go.OpenSpec.ofChange s with cond := some uptoSmall }

/-- 'custlaw.DgramNotes', WHERE WHAT IT READS IS OF BULK AT MOST 1048576: true; the input reads as it did. -/
def dgramNotesUptoRow : OpenClaim := { program := "yteghlnpmmmfgfaa", sum := "04620263907f223ef26e388daae85a8453862fde4e111cf3fb4d50fb51f78fa6", func := "customshouse/custlaw.DgramNotes", spec := "dgramNotes", apart := false, narrowed := true }
def DgramNotesUptoSaid : Prop := dgramNotesUptoRow.holds Try.pinned (OpenSpec.upto dgramNotesSpec)

/-- 'custlaw.DgramLetters', WHERE WHAT IT READS IS OF BULK AT MOST 1048576: true; the input reads as it did. -/
def dgramLettersUptoRow : OpenClaim := { program := "yteghlnpmmmfgfaa", sum := "04620263907f223ef26e388daae85a8453862fde4e111cf3fb4d50fb51f78fa6", func := "customshouse/custlaw.DgramLetters", spec := "dgramLetters", apart := false, narrowed := true }
def DgramLettersUptoSaid : Prop := dgramLettersUptoRow.holds Try.pinned (OpenSpec.upto dgramLettersSpec)

/-- 'custlaw.TcpMoves', WHERE WHAT IT READS IS OF BULK AT MOST 1048576: true; the input reads as it did. -/
def tcpMovesUptoRow : OpenClaim := { program := "yteghlnpmmmfgfaa", sum := "04620263907f223ef26e388daae85a8453862fde4e111cf3fb4d50fb51f78fa6", func := "customshouse/custlaw.TcpMoves", spec := "tcpMoves", unfollowed := true, recurses := true, apart := false, narrowed := true }
def TcpMovesUptoSaid : Prop := tcpMovesUptoRow.holds Try.pinned (OpenSpec.upto tcpMovesSpec)

/-- 'custlaw.IpPackets', WHERE WHAT IT READS IS OF BULK AT MOST 1048576: true; the input reads as it did. -/
def ipPacketsUptoRow : OpenClaim := { program := "yteghlnpmmmfgfaa", sum := "04620263907f223ef26e388daae85a8453862fde4e111cf3fb4d50fb51f78fa6", func := "customshouse/custlaw.IpPackets", spec := "ipPackets", apart := false, narrowed := true }
def IpPacketsUptoSaid : Prop := ipPacketsUptoRow.holds Try.pinned (OpenSpec.upto ipPacketsSpec)

/-- 'custlaw.FragSplits', WHERE WHAT IT READS IS OF BULK AT MOST 1048576: true; the input reads as it did. -/
def fragSplitsUptoRow : OpenClaim := { program := "yteghlnpmmmfgfaa", sum := "04620263907f223ef26e388daae85a8453862fde4e111cf3fb4d50fb51f78fa6", func := "customshouse/custlaw.FragSplits", spec := "fragSplits", apart := false, narrowed := true }
def FragSplitsUptoSaid : Prop := fragSplitsUptoRow.holds Try.pinned (OpenSpec.upto fragSplitsSpec)

/-- 'custlaw.TcpWrites', WHERE WHAT IT READS IS OF BULK AT MOST 1048576: true; the input reads as it did. -/
def tcpWritesUptoRow : OpenClaim := { program := "yteghlnpmmmfgfaa", sum := "04620263907f223ef26e388daae85a8453862fde4e111cf3fb4d50fb51f78fa6", func := "customshouse/custlaw.TcpWrites", spec := "tcpWrites", inPlace := ["internal/bytealg.CountString", "internal/bytealg.IndexByteString", "internal/bytealg.IndexString"], unfollowed := true, recurses := true, named := ["internal/bytealg.MaxLen"], apart := false, narrowed := true }
def TcpWritesUptoSaid : Prop := tcpWritesUptoRow.holds Try.pinned (OpenSpec.upto tcpWritesSpec)

end Rows
end Go.Proofs.Yteghlnpmmmfgfaa
