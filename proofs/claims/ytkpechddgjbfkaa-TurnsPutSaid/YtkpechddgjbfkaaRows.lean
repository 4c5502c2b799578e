/-
  No cell of these rows narrows 'for every input' (looked for: loops, veiled, ifaces, maps, wideKeys, modest, calm, conditions, laid).
  DERIVED. THE GIVEN ROWS OF THIS SEAT. 6 by the template 'for every input the law returns true; each argument reads behind the call as it read before'; 0 by the template 'total and deterministic' (their statements: YtkpechddgjbfkaaTotals.lean).
  GIVEN WITH THE SEED: the statements are not yours to turn. If you find one false, say at which input.
  Laid BY PROGRAM, IN A SANDBOX (cutbox-rows.mjs): the forced cells as the released guide's own fill.sh prints them over the translation cf6cb575fbd6e281… (all of the seat's roots in one cut). By AI agents, Wed Nov 11 2026. No macro, syntax, notation, axiom, sorry.
-/
import Derived.Test.YtkpechddgjbfkaaChecked
import GoSem.Claim
import GoSem.ClaimJoined
import GoSem.ClaimMapViews
import Derived.JoinedTies
import Derived.KernelRfl
namespace Go.Proofs.Ytkpechddgjbfkaa
/- THE CELL 'sum', in the pinned program and in every row, IS THE sha256 OF THE DUMP (.gsa) THAT YtkpechddgjbfkaaProg.lean LOADS. Nothing in Lean hashes anything: it is a label: what it is worth is what the hold of that sum in a sandbox is worth. -/
noncomputable def Try.pinned : Pinned := { name := "ytkpechddgjbfkaa", sum := "cf6cb575fbd6e281417762f4f2fed2a0b22e88fb9e54f5b8d3457562f54ece30", checked := Try.checked }
namespace Rows
def none {H : Type} : Left H := { results := [], args := [] }

/-- 'custlaw.BucketSays': WHATEVER THE INPUT: true; the input reads as it did. -/
def bucketSaysSpec : ChangeSpec := { name := "bucketSays", fn := fun _ => fun
  | [d1, d2, d3, d4] => { results := [.lit (.bool true)], args := [d1, d2, d3, d4] }
  | _ => none }
def bucketSaysRow : OpenClaim := { program := "ytkpechddgjbfkaa", sum := "cf6cb575fbd6e281417762f4f2fed2a0b22e88fb9e54f5b8d3457562f54ece30", func := "customshouse/custlaw.BucketSays", spec := "bucketSays", apart := false }
def BucketSaysSaid : Prop := bucketSaysRow.holds Try.pinned (OpenSpec.ofChange bucketSaysSpec)

/-- ITS FALSE NEIGHBOUR: 'it returns false'. Refute it at one input. -/
def bucketSaysWrong : ChangeSpec := { name := "bucketSays", fn := fun _ => fun
  | [d1, d2, d3, d4] => { results := [.lit (.bool false)], args := [d1, d2, d3, d4] }
  | _ => none }
def BucketSaysWrongFalsely : Prop := bucketSaysRow.holds Try.pinned (OpenSpec.ofChange bucketSaysWrong)

/-- 'custlaw.TrackFinds': WHATEVER THE INPUT: true; the input reads as it did. -/
def trackFindsSpec : ChangeSpec := { name := "trackFinds", fn := fun _ => fun
  | [d1, d2, d3] => { results := [.lit (.bool true)], args := [d1, d2, d3] }
  | _ => none }
def trackFindsRow : OpenClaim := { program := "ytkpechddgjbfkaa", sum := "cf6cb575fbd6e281417762f4f2fed2a0b22e88fb9e54f5b8d3457562f54ece30", func := "customshouse/custlaw.TrackFinds", spec := "trackFinds", unfollowed := true, recurses := true, apart := false }
def TrackFindsSaid : Prop := trackFindsRow.holds Try.pinned (OpenSpec.ofChange trackFindsSpec)

/-- ITS FALSE NEIGHBOUR: 'it returns false'. Refute it at one input. -/
def trackFindsWrong : ChangeSpec := { name := "trackFinds", fn := fun _ => fun
  | [d1, d2, d3] => { results := [.lit (.bool false)], args := [d1, d2, d3] }
  | _ => none }
def TrackFindsWrongFalsely : Prop := trackFindsRow.holds Try.pinned (OpenSpec.ofChange trackFindsWrong)

/-- 'custlaw.TrackHears': WHATEVER THE INPUT: true; the input reads as it did. -/
def trackHearsSpec : ChangeSpec := { name := "trackHears", fn := fun _ => fun
  | [d1, d2, d3, d4] => { results := [.lit (.bool true)], args := [d1, d2, d3, d4] }
  | _ => none }
def trackHearsRow : OpenClaim := { program := "ytkpechddgjbfkaa", sum := "cf6cb575fbd6e281417762f4f2fed2a0b22e88fb9e54f5b8d3457562f54ece30", func := "customshouse/custlaw.TrackHears", spec := "trackHears", unfollowed := true, recurses := true, apart := false }
def TrackHearsSaid : Prop := trackHearsRow.holds Try.pinned (OpenSpec.ofChange trackHearsSpec)

/-- ITS FALSE NEIGHBOUR: 'it returns false'. Refute it at one input. -/
def trackHearsWrong : ChangeSpec := { name := "trackHears", fn := fun _ => fun
  | [d1, d2, d3, d4] => { results := [.lit (.bool false)], args := [d1, d2, d3, d4] }
  | _ => none }
def TrackHearsWrongFalsely : Prop := trackHearsRow.holds Try.pinned (OpenSpec.ofChange trackHearsWrong)

/-- 'custlaw.TurnsPut': WHATEVER THE INPUT: true; the input reads as it did. -/
def turnsPutSpec : ChangeSpec := { name := "turnsPut", fn := fun _ => fun
  | [d1, d2, d3] => { results := [.lit (.bool true)], args := [d1, d2, d3] }
  | _ => none }
def turnsPutRow : OpenClaim := { program := "ytkpechddgjbfkaa", sum := "cf6cb575fbd6e281417762f4f2fed2a0b22e88fb9e54f5b8d3457562f54ece30", func := "customshouse/custlaw.TurnsPut", spec := "turnsPut", unfollowed := true, recurses := true, apart := false }
def TurnsPutSaid : Prop := turnsPutRow.holds Try.pinned (OpenSpec.ofChange turnsPutSpec)

/-- ITS FALSE NEIGHBOUR: 'it returns false'. Refute it at one input. -/
def turnsPutWrong : ChangeSpec := { name := "turnsPut", fn := fun _ => fun
  | [d1, d2, d3] => { results := [.lit (.bool false)], args := [d1, d2, d3] }
  | _ => none }
def TurnsPutWrongFalsely : Prop := turnsPutRow.holds Try.pinned (OpenSpec.ofChange turnsPutWrong)

/-- 'custlaw.TurnsRound': WHATEVER THE INPUT: true; the input reads as it did. -/
def turnsRoundSpec : ChangeSpec := { name := "turnsRound", fn := fun _ => fun
  | [d] => { results := [.lit (.bool true)], args := [d] }
  | _ => none }
def turnsRoundRow : OpenClaim := { program := "ytkpechddgjbfkaa", sum := "cf6cb575fbd6e281417762f4f2fed2a0b22e88fb9e54f5b8d3457562f54ece30", func := "customshouse/custlaw.TurnsRound", spec := "turnsRound", unfollowed := true, recurses := true, apart := false }
def TurnsRoundSaid : Prop := turnsRoundRow.holds Try.pinned (OpenSpec.ofChange turnsRoundSpec)

/-- ITS FALSE NEIGHBOUR: 'it returns false'. Refute it at one input. -/
def turnsRoundWrong : ChangeSpec := { name := "turnsRound", fn := fun _ => fun
  | [d] => { results := [.lit (.bool false)], args := [d] }
  | _ => none }
def TurnsRoundWrongFalsely : Prop := turnsRoundRow.holds Try.pinned (OpenSpec.ofChange turnsRoundWrong)

/-- 'custlaw.SipSays': WHATEVER THE INPUT: true; the input reads as it did. -/
def sipSaysSpec : ChangeSpec := { name := "sipSays", fn := fun _ => fun
  | [d1, d2, d3] => { results := [.lit (.bool true)], args := [d1, d2, d3] }
  | _ => none }
def sipSaysRow : OpenClaim := { program := "ytkpechddgjbfkaa", sum := "cf6cb575fbd6e281417762f4f2fed2a0b22e88fb9e54f5b8d3457562f54ece30", func := "customshouse/custlaw.SipSays", spec := "sipSays", apart := false }
def SipSaysSaid : Prop := sipSaysRow.holds Try.pinned (OpenSpec.ofChange sipSaysSpec)

/-- ITS FALSE NEIGHBOUR: 'it returns false'. Refute it at one input. -/
def sipSaysWrong : ChangeSpec := { name := "sipSays", fn := fun _ => fun
  | [d1, d2, d3] => { results := [.lit (.bool false)], args := [d1, d2, d3] }
  | _ => none }
def SipSaysWrongFalsely : Prop := sipSaysRow.holds Try.pinned (OpenSpec.ofChange sipSaysWrong)

/- THE SECOND FORM. 'bulk': how many values and letters a reading holds, each counted each time it is reached (what is shared counts as often as it is met; a slice's spare places count too). A statement '..UptoSaid' is the law's where the arguments, and the package variables that the reading takes, are together of bulk at most 1048576: NARROWER than '..Said'. Prove '..Said' where nothing that the law and all that it calls make is longer than what came in: it says more and counts as full. Else prove '..UptoSaid'. A law counts once. -/
mutual
def uptoBulk {H : Type} : DataW H → Nat
  | .lit (.string bytes) => bytes.length + 1
  | .lit _ => 1
  | .nil => 1
  | .ptr d => uptoBulk d + 1
  | .slice elems spare => uptoBulkAll elems + uptoBulkAll spare + 1
  | .agg parts => uptoBulkAll parts + 1
  | .iface _ d => uptoBulk d + 1
  | .map entries => uptoBulkEntries entries + 1
  | .held _ => 1
def uptoBulkAll {H : Type} : List (DataW H) → Nat
  | [] => 0
  | d :: r => uptoBulk d + uptoBulkAll r
def uptoBulkEntries {H : Type} : List (Lit × DataW H) → Nat
  | [] => 0
  | x :: r => uptoBulkEntry x + uptoBulkEntries r
def uptoBulkEntry {H : Type} : Lit × DataW H → Nat
  | (.string bytes, d) => bytes.length + uptoBulk d + 1
  | (_, d) => uptoBulk d + 1
 end
def uptoSmall : (H : Type) → List (DataW H) → Bool := fun _ ds => decide (uptoBulkAll ds ≤ 1048576)
def OpenSpec.upto (s : _root_.Go.ChangeSpec) : _root_.Go.OpenSpec := { _root_.Go.OpenSpec.ofChange s with cond := some uptoSmall }

/-- 'custlaw.BucketSays', WHERE WHAT IT READS IS OF BULK AT MOST 1048576: true; the input reads as it did. -/
def bucketSaysUptoRow : OpenClaim := { program := "ytkpechddgjbfkaa", sum := "cf6cb575fbd6e281417762f4f2fed2a0b22e88fb9e54f5b8d3457562f54ece30", func := "customshouse/custlaw.BucketSays", spec := "bucketSays", apart := false, narrowed := true }
def BucketSaysUptoSaid : Prop := bucketSaysUptoRow.holds Try.pinned (OpenSpec.upto bucketSaysSpec)

/-- 'custlaw.TrackFinds', WHERE WHAT IT READS IS OF BULK AT MOST 1048576: true; the input reads as it did. -/
def trackFindsUptoRow : OpenClaim := { program := "ytkpechddgjbfkaa", sum := "cf6cb575fbd6e281417762f4f2fed2a0b22e88fb9e54f5b8d3457562f54ece30", func := "customshouse/custlaw.TrackFinds", spec := "trackFinds", unfollowed := true, recurses := true, apart := false, narrowed := true }
def TrackFindsUptoSaid : Prop := trackFindsUptoRow.holds Try.pinned (OpenSpec.upto trackFindsSpec)

/-- 'custlaw.TrackHears', WHERE WHAT IT READS IS OF BULK AT MOST 1048576: true; the input reads as it did. -/
def trackHearsUptoRow : OpenClaim := { program := "ytkpechddgjbfkaa", sum := "cf6cb575fbd6e281417762f4f2fed2a0b22e88fb9e54f5b8d3457562f54ece30", func := "customshouse/custlaw.TrackHears", spec := "trackHears", unfollowed := true, recurses := true, apart := false, narrowed := true }
def TrackHearsUptoSaid : Prop := trackHearsUptoRow.holds Try.pinned (OpenSpec.upto trackHearsSpec)

/-- 'custlaw.TurnsPut', WHERE WHAT IT READS IS OF BULK AT MOST 1048576: true; the input reads as it did. -/
def turnsPutUptoRow : OpenClaim := { program := "ytkpechddgjbfkaa", sum := "cf6cb575fbd6e281417762f4f2fed2a0b22e88fb9e54f5b8d3457562f54ece30", func := "customshouse/custlaw.TurnsPut", spec := "turnsPut", unfollowed := true, recurses := true, apart := false, narrowed := true }
def TurnsPutUptoSaid : Prop := turnsPutUptoRow.holds Try.pinned (OpenSpec.upto turnsPutSpec)

/-- 'custlaw.TurnsRound', WHERE WHAT IT READS IS OF BULK AT MOST 1048576: true; the input reads as it did. -/
def turnsRoundUptoRow : OpenClaim := { program := "ytkpechddgjbfkaa", sum := "cf6cb575fbd6e281417762f4f2fed2a0b22e88fb9e54f5b8d3457562f54ece30", func := "customshouse/custlaw.TurnsRound", spec := "turnsRound", unfollowed := true, recurses := true, apart := false, narrowed := true }
def TurnsRoundUptoSaid : Prop := turnsRoundUptoRow.holds Try.pinned (OpenSpec.upto turnsRoundSpec)

/-- 'custlaw.SipSays', WHERE WHAT IT READS IS OF BULK AT MOST 1048576: true; the input reads as it did. -/
def sipSaysUptoRow : OpenClaim := { program := "ytkpechddgjbfkaa", sum := "cf6cb575fbd6e281417762f4f2fed2a0b22e88fb9e54f5b8d3457562f54ece30", func := "customshouse/custlaw.SipSays", spec := "sipSays", apart := false, narrowed := true }
def SipSaysUptoSaid : Prop := sipSaysUptoRow.holds Try.pinned (OpenSpec.upto sipSaysSpec)

end Rows
end Go.Proofs.Ytkpechddgjbfkaa
