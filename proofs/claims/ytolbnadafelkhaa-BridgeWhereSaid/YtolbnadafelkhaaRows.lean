/-
  No cell of these rows narrows 'for every input' (looked for: loops, veiled, ifaces, maps, wideKeys, modest, calm, conditions, laid).
  DERIVED. THE GIVEN ROWS OF THIS SEAT. 6 by the template 'for every input the law returns true; each argument reads behind the call as it read before'; 0 by the template 'total and deterministic' (their statements: YtolbnadafelkhaaTotals.lean).
  GIVEN WITH THE SEED: the statements are not yours to turn. If you find one false, say at which input.
  Laid BY PROGRAM, IN A SANDBOX (cutbox-rows.mjs): the forced cells as the released guide's own fill.sh prints them over the translation 8e52151581310c1c… (all of the seat's roots in one cut). By AI agents, Wed Nov 11 2026. No macro, syntax, notation, axiom, sorry.
-/
import Derived.Test.YtolbnadafelkhaaChecked
import GoSem.Claim
import GoSem.ClaimJoined
import GoSem.ClaimMapViews
import Derived.JoinedTies
import Derived.KernelRfl
namespace Go.Proofs.Ytolbnadafelkhaa
/- THE CELL 'sum', in the pinned program and in every row, IS THE sha256 OF THE DUMP (.gsa) THAT YtolbnadafelkhaaProg.lean LOADS. Nothing in Lean hashes anything: it is a label: what it is worth is what the hold of that sum in a sandbox is worth. -/
noncomputable def Try.pinned : Pinned := { name := "ytolbnadafelkhaa", sum := "8e52151581310c1c93607a3a499ea9351e81b5121f4664ca0eee469c699b0864", checked := Try.checked }
namespace Rows
def none {H : Type} : Left H := { results := [], args := [] }

/-- 'custlaw.SerialSays': WHATEVER THE INPUT: true; the input reads as it did. -/
def serialSaysSpec : ChangeSpec := { name := "serialSays", fn := fun _ => fun
  | [d1, d2, d3, d4] => { results := [.lit (.bool true)], args := [d1, d2, d3, d4] }
  | _ => none }
def serialSaysRow : OpenClaim := { program := "ytolbnadafelkhaa", sum := "8e52151581310c1c93607a3a499ea9351e81b5121f4664ca0eee469c699b0864", func := "customshouse/custlaw.SerialSays", spec := "serialSays", plainKeys := false, apart := false }
def SerialSaysSaid : Prop := serialSaysRow.holds Try.pinned (OpenSpec.ofChange serialSaysSpec)

/-- ITS FALSE NEIGHBOUR: 'it returns false'. Refute it at one input. -/
def serialSaysWrong : ChangeSpec := { name := "serialSays", fn := fun _ => fun
  | [d1, d2, d3, d4] => { results := [.lit (.bool false)], args := [d1, d2, d3, d4] }
  | _ => none }
def SerialSaysWrongFalsely : Prop := serialSaysRow.holds Try.pinned (OpenSpec.ofChange serialSaysWrong)

/-- 'custlaw.Names': WHATEVER THE INPUT: true; the input reads as it did. -/
def namesSpec : ChangeSpec := { name := "names", fn := fun _ => fun
  | [] => { results := [.lit (.bool true)], args := [] }
  | _ => none }
def namesRow : OpenClaim := { program := "ytolbnadafelkhaa", sum := "8e52151581310c1c93607a3a499ea9351e81b5121f4664ca0eee469c699b0864", func := "customshouse/custlaw.Names", spec := "names", plainKeys := false, apart := false }
def NamesSaid : Prop := namesRow.holds Try.pinned (OpenSpec.ofChange namesSpec)

/-- ITS FALSE NEIGHBOUR: 'it returns false'. Refute it at one input. -/
def namesWrong : ChangeSpec := { name := "names", fn := fun _ => fun
  | [] => { results := [.lit (.bool false)], args := [] }
  | _ => none }
def NamesWrongFalsely : Prop := namesRow.holds Try.pinned (OpenSpec.ofChange namesWrong)

/-- 'custlaw.SerialTrims': WHATEVER THE INPUT: true; the input reads as it did. -/
def serialTrimsSpec : ChangeSpec := { name := "serialTrims", fn := fun _ => fun
  | [d1, d2, d3, d4] => { results := [.lit (.bool true)], args := [d1, d2, d3, d4] }
  | _ => none }
def serialTrimsRow : OpenClaim := { program := "ytolbnadafelkhaa", sum := "8e52151581310c1c93607a3a499ea9351e81b5121f4664ca0eee469c699b0864", func := "customshouse/custlaw.SerialTrims", spec := "serialTrims", plainKeys := false, apart := false }
def SerialTrimsSaid : Prop := serialTrimsRow.holds Try.pinned (OpenSpec.ofChange serialTrimsSpec)

/-- ITS FALSE NEIGHBOUR: 'it returns false'. Refute it at one input. -/
def serialTrimsWrong : ChangeSpec := { name := "serialTrims", fn := fun _ => fun
  | [d1, d2, d3, d4] => { results := [.lit (.bool false)], args := [d1, d2, d3, d4] }
  | _ => none }
def SerialTrimsWrongFalsely : Prop := serialTrimsRow.holds Try.pinned (OpenSpec.ofChange serialTrimsWrong)

/-- 'custlaw.SumSays': WHATEVER THE INPUT: true; the input reads as it did. -/
def sumSaysSpec : ChangeSpec := { name := "sumSays", fn := fun _ => fun
  | [d1, d2, d3, d4] => { results := [.lit (.bool true)], args := [d1, d2, d3, d4] }
  | _ => none }
def sumSaysRow : OpenClaim := { program := "ytolbnadafelkhaa", sum := "8e52151581310c1c93607a3a499ea9351e81b5121f4664ca0eee469c699b0864", func := "customshouse/custlaw.SumSays", spec := "sumSays", plainKeys := false, apart := false }
def SumSaysSaid : Prop := sumSaysRow.holds Try.pinned (OpenSpec.ofChange sumSaysSpec)

/-- ITS FALSE NEIGHBOUR: 'it returns false'. Refute it at one input. -/
def sumSaysWrong : ChangeSpec := { name := "sumSays", fn := fun _ => fun
  | [d1, d2, d3, d4] => { results := [.lit (.bool false)], args := [d1, d2, d3, d4] }
  | _ => none }
def SumSaysWrongFalsely : Prop := sumSaysRow.holds Try.pinned (OpenSpec.ofChange sumSaysWrong)

/-- 'custlaw.EthFrames': WHATEVER THE INPUT: true; the input reads as it did. -/
def ethFramesSpec : ChangeSpec := { name := "ethFrames", fn := fun _ => fun
  | [d1, d2] => { results := [.lit (.bool true)], args := [d1, d2] }
  | _ => none }
def ethFramesRow : OpenClaim := { program := "ytolbnadafelkhaa", sum := "8e52151581310c1c93607a3a499ea9351e81b5121f4664ca0eee469c699b0864", func := "customshouse/custlaw.EthFrames", spec := "ethFrames", plainKeys := false, apart := false }
def EthFramesSaid : Prop := ethFramesRow.holds Try.pinned (OpenSpec.ofChange ethFramesSpec)

/-- ITS FALSE NEIGHBOUR: 'it returns false'. Refute it at one input. -/
def ethFramesWrong : ChangeSpec := { name := "ethFrames", fn := fun _ => fun
  | [d1, d2] => { results := [.lit (.bool false)], args := [d1, d2] }
  | _ => none }
def EthFramesWrongFalsely : Prop := ethFramesRow.holds Try.pinned (OpenSpec.ofChange ethFramesWrong)

/-- 'custlaw.BridgeWhere': WHATEVER THE INPUT: true; the input reads as it did. -/
def bridgeWhereSpec : ChangeSpec := { name := "bridgeWhere", fn := fun _ => fun
  | [d1, d2, d3] => { results := [.lit (.bool true)], args := [d1, d2, d3] }
  | _ => none }
def bridgeWhereRow : OpenClaim := { program := "ytolbnadafelkhaa", sum := "8e52151581310c1c93607a3a499ea9351e81b5121f4664ca0eee469c699b0864", func := "customshouse/custlaw.BridgeWhere", spec := "bridgeWhere", plainKeys := false, apart := false }
def BridgeWhereSaid : Prop := bridgeWhereRow.holds Try.pinned (OpenSpec.ofChange bridgeWhereSpec)

/-- ITS FALSE NEIGHBOUR: 'it returns false'. Refute it at one input. -/
def bridgeWhereWrong : ChangeSpec := { name := "bridgeWhere", fn := fun _ => fun
  | [d1, d2, d3] => { results := [.lit (.bool false)], args := [d1, d2, d3] }
  | _ => none }
def BridgeWhereWrongFalsely : Prop := bridgeWhereRow.holds Try.pinned (OpenSpec.ofChange bridgeWhereWrong)

/- THE SECOND FORM. 'bulk': how many values and letters a reading holds, each counted each time it is reached (what is shared counts as often as it is met; a slice's spare places count too). A statement '..UptoSaid' is the law's where the arguments, and the package variables that the reading takes, are together of bulk at most 1048576: NARROWER than '..Said'. Prove '..Said' where nothing that the law and all that it calls make is longer than what came in: it says more and counts as full. Else prove '..UptoSaid'. A law counts once. -/
mutual
def uptoBulk {H : Type} : DataW H → Nat
  | .lit (.string bytes) => bytes.length + 1
  | .lit _ => 1
  | .nil => 1
  | .ptr d => uptoBulk d + 1
  | .slice elems spare => uptoBulkAll elems + uptoBulkAll spare + 1
  | .agg parts => uptoBulkAll parts + 1
  | .iface _ d => uptoBulk d + 1
  | .map entries => uptoBulkEntries entries + 1
  | .held _ => 1
def uptoBulkAll {H : Type} : List (DataW H) → Nat
  | [] => 0
  | d :: r => uptoBulk d + uptoBulkAll r
def uptoBulkEntries {H : Type} : List (Lit × DataW H) → Nat
  | [] => 0
  | x :: r => uptoBulkEntry x + uptoBulkEntries r
def uptoBulkEntry {H : Type} : Lit × DataW H → Nat
  | (.string bytes, d) => bytes.length + uptoBulk d + 1
  | (_, d) => uptoBulk d + 1
 end
def uptoSmall : (H : Type) → List (DataW H) → Bool := fun _ ds => decide (uptoBulkAll ds ≤ 1048576)
def OpenSpec.upto (s : _root_.Go.ChangeSpec) : _root_.Go.OpenSpec := { _root_.Go.OpenSpec.ofChange s with cond := some uptoSmall }

/-- 'custlaw.SerialSays', WHERE WHAT IT READS IS OF BULK AT MOST 1048576: true; the input reads as it did. -/
def serialSaysUptoRow : OpenClaim := { program := "ytolbnadafelkhaa", sum := "8e52151581310c1c93607a3a499ea9351e81b5121f4664ca0eee469c699b0864", func := "customshouse/custlaw.SerialSays", spec := "serialSays", plainKeys := false, apart := false, narrowed := true }
def SerialSaysUptoSaid : Prop := serialSaysUptoRow.holds Try.pinned (OpenSpec.upto serialSaysSpec)

/-- 'custlaw.Names', WHERE WHAT IT READS IS OF BULK AT MOST 1048576: true; the input reads as it did. -/
def namesUptoRow : OpenClaim := { program := "ytolbnadafelkhaa", sum := "8e52151581310c1c93607a3a499ea9351e81b5121f4664ca0eee469c699b0864", func := "customshouse/custlaw.Names", spec := "names", plainKeys := false, apart := false, narrowed := true }
def NamesUptoSaid : Prop := namesUptoRow.holds Try.pinned (OpenSpec.upto namesSpec)

/-- 'custlaw.SerialTrims', WHERE WHAT IT READS IS OF BULK AT MOST 1048576: true; the input reads as it did. -/
def serialTrimsUptoRow : OpenClaim := { program := "ytolbnadafelkhaa", sum := "8e52151581310c1c93607a3a499ea9351e81b5121f4664ca0eee469c699b0864", func := "customshouse/custlaw.SerialTrims", spec := "serialTrims", plainKeys := false, apart := false, narrowed := true }
def SerialTrimsUptoSaid : Prop := serialTrimsUptoRow.holds Try.pinned (OpenSpec.upto serialTrimsSpec)

/-- 'custlaw.SumSays', WHERE WHAT IT READS IS OF BULK AT MOST 1048576: true; the input reads as it did. -/
def sumSaysUptoRow : OpenClaim := { program := "ytolbnadafelkhaa", sum := "8e52151581310c1c93607a3a499ea9351e81b5121f4664ca0eee469c699b0864", func := "customshouse/custlaw.SumSays", spec := "sumSays", plainKeys := false, apart := false, narrowed := true }
def SumSaysUptoSaid : Prop := sumSaysUptoRow.holds Try.pinned (OpenSpec.upto sumSaysSpec)

/-- 'custlaw.EthFrames', WHERE WHAT IT READS IS OF BULK AT MOST 1048576: true; the input reads as it did. -/
def ethFramesUptoRow : OpenClaim := { program := "ytolbnadafelkhaa", sum := "8e52151581310c1c93607a3a499ea9351e81b5121f4664ca0eee469c699b0864", func := "customshouse/custlaw.EthFrames", spec := "ethFrames", plainKeys := false, apart := false, narrowed := true }
def EthFramesUptoSaid : Prop := ethFramesUptoRow.holds Try.pinned (OpenSpec.upto ethFramesSpec)

/-- 'custlaw.BridgeWhere', WHERE WHAT IT READS IS OF BULK AT MOST 1048576: true; the input reads as it did. -/
def bridgeWhereUptoRow : OpenClaim := { program := "ytolbnadafelkhaa", sum := "8e52151581310c1c93607a3a499ea9351e81b5121f4664ca0eee469c699b0864", func := "customshouse/custlaw.BridgeWhere", spec := "bridgeWhere", plainKeys := false, apart := false, narrowed := true }
def BridgeWhereUptoSaid : Prop := bridgeWhereUptoRow.holds Try.pinned (OpenSpec.upto bridgeWhereSpec)

end Rows
end Go.Proofs.Ytolbnadafelkhaa
