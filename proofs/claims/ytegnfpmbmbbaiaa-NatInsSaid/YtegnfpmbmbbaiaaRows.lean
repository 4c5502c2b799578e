/-
  No cell of these rows narrows 'for every input' (looked for: loops, veiled, ifaces, maps, wideKeys, modest, calm, conditions, laid).
  DERIVED. THE GIVEN ROWS OF THIS SEAT. 4 by the template 'for every input the law returns true; each argument reads behind the call as it read before'; 0 by the template 'total and deterministic' (their statements: YtegnfpmbmbbaiaaTotals.lean).
  GIVEN WITH THE SEED: the statements are not yours to turn. If you find one false, say at which input.
  Laid BY PROGRAM, IN A SANDBOX (cutbox-rows.mjs): the forced cells as the released guide's own fill.sh prints them over the translation bb81a2219db1a0f4… (all of the seat's roots in one cut). By AI agents, Wed Nov 11 2026. No macro, syntax, notation, axiom, sorry.
-/
import Derived.Test.YtegnfpmbmbbaiaaChecked
import GoSem.Claim
import GoSem.ClaimJoined
import GoSem.ClaimMapViews
import Derived.JoinedTies
import Derived.KernelRfl
namespace Go.Proofs.Ytegnfpmbmbbaiaa
/- THE CELL 'sum', in the pinned program and in every row, IS THE sha256 OF THE DUMP (.gsa) THAT YtegnfpmbmbbaiaaProg.lean LOADS. Nothing in Lean hashes anything: it is a label: what it is worth is what the hold of that sum in a sandbox is worth. -/
noncomputable def Try.pinned : Pinned := { name := "ytegnfpmbmbbaiaa", sum := "bb81a2219db1a0f43ac637a78eff854c43afa304f0128fc69e2403d517684021", checked := Try.checked }
namespace Rows
def none {H : Type} : Left H := { results := [], args := [] }

/-- 'custlaw.NatIns': WHATEVER THE INPUT: true; the input reads as it did. -/
def natInsSpec : ChangeSpec := { name := "natIns", fn := fun _ => fun
  | [d1, d2, d3, d4] => { results := [.lit (.bool true)], args := [d1, d2, d3, d4] }
  | _ => none }
def natInsRow : OpenClaim := { program := "ytegnfpmbmbbaiaa", sum := "bb81a2219db1a0f43ac637a78eff854c43afa304f0128fc69e2403d517684021", func := "customshouse/custlaw.NatIns", spec := "natIns", unfollowed := true, recurses := true, plainKeys := false, apart := false }
def NatInsSaid : Prop := natInsRow.holds Try.pinned (OpenSpec.ofChange natInsSpec)

/-- ITS FALSE NEIGHBOUR: 'it returns false'. Refute it at one input. -/
def natInsWrong : ChangeSpec := { name := "natIns", fn := fun _ => fun
  | [d1, d2, d3, d4] => { results := [.lit (.bool false)], args := [d1, d2, d3, d4] }
  | _ => none }
def NatInsWrongFalsely : Prop := natInsRow.holds Try.pinned (OpenSpec.ofChange natInsWrong)

/-- 'custlaw.RulesDecide': WHATEVER THE INPUT: true; the input reads as it did. -/
def rulesDecideSpec : ChangeSpec := { name := "rulesDecide", fn := fun _ => fun
  | [d1, d2, d3] => { results := [.lit (.bool true)], args := [d1, d2, d3] }
  | _ => none }
def rulesDecideRow : OpenClaim := { program := "ytegnfpmbmbbaiaa", sum := "bb81a2219db1a0f43ac637a78eff854c43afa304f0128fc69e2403d517684021", func := "customshouse/custlaw.RulesDecide", spec := "rulesDecide", inPlace := ["internal/bytealg.IndexByteString", "internal/bytealg.IndexString"], unfollowed := true, recurses := true, named := ["internal/bytealg.MaxLen"], plainKeys := false, apart := false }
def RulesDecideSaid : Prop := rulesDecideRow.holds Try.pinned (OpenSpec.ofChange rulesDecideSpec)

/-- ITS FALSE NEIGHBOUR: 'it returns false'. Refute it at one input. -/
def rulesDecideWrong : ChangeSpec := { name := "rulesDecide", fn := fun _ => fun
  | [d1, d2, d3] => { results := [.lit (.bool false)], args := [d1, d2, d3] }
  | _ => none }
def RulesDecideWrongFalsely : Prop := rulesDecideRow.holds Try.pinned (OpenSpec.ofChange rulesDecideWrong)

/-- 'custlaw.RulesSlim': WHATEVER THE INPUT: true; the input reads as it did. -/
def rulesSlimSpec : ChangeSpec := { name := "rulesSlim", fn := fun _ => fun
  | [d1, d2, d3] => { results := [.lit (.bool true)], args := [d1, d2, d3] }
  | _ => none }
def rulesSlimRow : OpenClaim := { program := "ytegnfpmbmbbaiaa", sum := "bb81a2219db1a0f43ac637a78eff854c43afa304f0128fc69e2403d517684021", func := "customshouse/custlaw.RulesSlim", spec := "rulesSlim", inPlace := ["internal/bytealg.IndexByteString", "internal/bytealg.IndexString"], unfollowed := true, recurses := true, named := ["internal/bytealg.MaxLen"], plainKeys := false, apart := false }
def RulesSlimSaid : Prop := rulesSlimRow.holds Try.pinned (OpenSpec.ofChange rulesSlimSpec)

/-- ITS FALSE NEIGHBOUR: 'it returns false'. Refute it at one input. -/
def rulesSlimWrong : ChangeSpec := { name := "rulesSlim", fn := fun _ => fun
  | [d1, d2, d3] => { results := [.lit (.bool false)], args := [d1, d2, d3] }
  | _ => none }
def RulesSlimWrongFalsely : Prop := rulesSlimRow.holds Try.pinned (OpenSpec.ofChange rulesSlimWrong)

/-- 'custlaw.BridgeHears': WHATEVER THE INPUT: true; the input reads as it did. -/
def bridgeHearsSpec : ChangeSpec := { name := "bridgeHears", fn := fun _ => fun
  | [d1, d2, d3, d4] => { results := [.lit (.bool true)], args := [d1, d2, d3, d4] }
  | _ => none }
def bridgeHearsRow : OpenClaim := { program := "ytegnfpmbmbbaiaa", sum := "bb81a2219db1a0f43ac637a78eff854c43afa304f0128fc69e2403d517684021", func := "customshouse/custlaw.BridgeHears", spec := "bridgeHears", unfollowed := true, recurses := true, plainKeys := false, apart := false }
def BridgeHearsSaid : Prop := bridgeHearsRow.holds Try.pinned (OpenSpec.ofChange bridgeHearsSpec)

/-- ITS FALSE NEIGHBOUR: 'it returns false'. Refute it at one input. -/
def bridgeHearsWrong : ChangeSpec := { name := "bridgeHears", fn := fun _ => fun
  | [d1, d2, d3, d4] => { results := [.lit (.bool false)], args := [d1, d2, d3, d4] }
  | _ => none }
def BridgeHearsWrongFalsely : Prop := bridgeHearsRow.holds Try.pinned (OpenSpec.ofChange bridgeHearsWrong)

/- THE SECOND FORM. 'bulk': how many values and letters a reading holds, each counted each time it is reached (what is shared counts as often as it is met; a slice's spare places count too). A statement '..UptoSaid' is the law's where the arguments, and the package variables that the reading takes, are together of bulk at most 1048576: NARROWER than '..Said'. Prove '..Said' where nothing that the law and all that it calls make is longer than what came in: it says more and counts as full. Else prove '..UptoSaid'. A law counts once. -/
mutual
def uptoBulk {H : Type} : DataW H → Nat
  | .lit (.string bytes) => bytes.length + 1
  | .lit _ => 1
  | .nil => 1
  | .ptr d => uptoBulk d + 1
  | .slice elems spare => uptoBulkAll elems + uptoBulkAll spare + 1
  | .agg parts => uptoBulkAll parts + 1
  | .iface _ d => uptoBulk d + 1
  | .map entries => uptoBulkEntries entries + 1
  | .held _ => 1
def uptoBulkAll {H : Type} : List (DataW H) → Nat
  | [] => 0
  | d :: r => uptoBulk d + uptoBulkAll r
def uptoBulkEntries {H : Type} : List (Lit × DataW H) → Nat
  | [] => 0
  | x :: r => uptoBulkEntry x + uptoBulkEntries r
def uptoBulkEntry {H : Type} : Lit × DataW H → Nat
  | (.string bytes, d) => bytes.length + uptoBulk d + 1
  | (_, d) => uptoBulk d + 1
 end
def uptoSmall : (H : Type) → List (DataW H) → Bool := fun _ ds => decide (uptoBulkAll ds ≤ 1048576)
def OpenSpec.upto (s : _root_.Go.ChangeSpec) : _root_.Go.OpenSpec := { _root_.Go.OpenSpec.ofChange s with cond := some uptoSmall }

/-- 'custlaw.NatIns', WHERE WHAT IT READS IS OF BULK AT MOST 1048576: true; the input reads as it did. -/
def natInsUptoRow : OpenClaim := { program := "ytegnfpmbmbbaiaa", sum := "bb81a2219db1a0f43ac637a78eff854c43afa304f0128fc69e2403d517684021", func := "customshouse/custlaw.NatIns", spec := "natIns", unfollowed := true, recurses := true, plainKeys := false, apart := false, narrowed := true }
def NatInsUptoSaid : Prop := natInsUptoRow.holds Try.pinned (OpenSpec.upto natInsSpec)

/-- 'custlaw.RulesDecide', WHERE WHAT IT READS IS OF BULK AT MOST 1048576: true; the input reads as it did. -/
def rulesDecideUptoRow : OpenClaim := { program := "ytegnfpmbmbbaiaa", sum := "bb81a2219db1a0f43ac637a78eff854c43afa304f0128fc69e2403d517684021", func := "customshouse/custlaw.RulesDecide", spec := "rulesDecide", inPlace := ["internal/bytealg.IndexByteString", "internal/bytealg.IndexString"], unfollowed := true, recurses := true, named := ["internal/bytealg.MaxLen"], plainKeys := false, apart := false, narrowed := true }
def RulesDecideUptoSaid : Prop := rulesDecideUptoRow.holds Try.pinned (OpenSpec.upto rulesDecideSpec)

/-- 'custlaw.RulesSlim', WHERE WHAT IT READS IS OF BULK AT MOST 1048576: true; the input reads as it did. -/
def rulesSlimUptoRow : OpenClaim := { program := "ytegnfpmbmbbaiaa", sum := "bb81a2219db1a0f43ac637a78eff854c43afa304f0128fc69e2403d517684021", func := "customshouse/custlaw.RulesSlim", spec := "rulesSlim", inPlace := ["internal/bytealg.IndexByteString", "internal/bytealg.IndexString"], unfollowed := true, recurses := true, named := ["internal/bytealg.MaxLen"], plainKeys := false, apart := false, narrowed := true }
def RulesSlimUptoSaid : Prop := rulesSlimUptoRow.holds Try.pinned (OpenSpec.upto rulesSlimSpec)

/-- 'custlaw.BridgeHears', WHERE WHAT IT READS IS OF BULK AT MOST 1048576: true; the input reads as it did. -/
def bridgeHearsUptoRow : OpenClaim := { program := "ytegnfpmbmbbaiaa", sum := "bb81a2219db1a0f43ac637a78eff854c43afa304f0128fc69e2403d517684021", func := "customshouse/custlaw.BridgeHears", spec := "bridgeHears", unfollowed := true, recurses := true, plainKeys := false, apart := false, narrowed := true }
def BridgeHearsUptoSaid : Prop := bridgeHearsUptoRow.holds Try.pinned (OpenSpec.upto bridgeHearsSpec)

end Rows
end Go.Proofs.Ytegnfpmbmbbaiaa
