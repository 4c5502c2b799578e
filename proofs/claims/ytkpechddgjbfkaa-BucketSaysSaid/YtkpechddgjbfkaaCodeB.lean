/-
  The functions of the program in short form, and that the model's code is what they stand for. Printed by xgen.py.
-/
import Derived.Test.YtkpechddgjbfkaaFw
import Derived.Test.YtkpechddgjbfkaaProg
import Derived.KernelRfl
namespace Go.Proofs.Ytkpechddgjbfkaa
set_option linter.unusedVariables false
set_option maxRecDepth 100000

/-- custlaw.BucketSays -/
def x_custlaw_BucketSays : XC :=
  .seq (.region [⟨some ⟨.d0, .d0, .d4⟩, .box 0 4 (.t ⟨.d0, .d0, .d0⟩), none⟩,
    ⟨some ⟨.d0, .d1, .d0⟩, .move (.c (.bool false)), none⟩])
  (.seq (.region [⟨some ⟨.d0, .d3, .d2⟩, .load true 4 (.t ⟨.d0, .d0, .d4⟩), none⟩,
    ⟨some ⟨.d0, .d3, .d3⟩, .move (.t ⟨.d0, .d0, .d1⟩), none⟩,
    ⟨some ⟨.d0, .d3, .d4⟩, .move (.t ⟨.d0, .d0, .d2⟩), none⟩,
    ⟨some ⟨.d0, .d3, .d5⟩, .call 9 [(.t ⟨.d0, .d3, .d2⟩), (.t ⟨.d0, .d3, .d3⟩), (.t ⟨.d0, .d3, .d4⟩)], none⟩,
    ⟨some ⟨.d0, .d3, .d1⟩, .move (.t ⟨.d0, .d3, .d5⟩), none⟩,
    ⟨some ⟨.d0, .d3, .d6⟩, .extract 0 (.t ⟨.d0, .d3, .d1⟩), none⟩,
    ⟨some ⟨.d0, .d3, .d7⟩, .extract 1 (.t ⟨.d0, .d3, .d1⟩), none⟩,
    ⟨some ⟨.d0, .d4, .d0⟩, .extract 2 (.t ⟨.d0, .d3, .d1⟩), none⟩,
    ⟨some ⟨.d0, .d1, .d1⟩, .alloc 1 [.int .i64 0, .int .i64 0, .int .i64 0, .int .i64 0], none⟩,
    ⟨none, .store 4 (.t ⟨.d0, .d1, .d1⟩) (.t ⟨.d0, .d3, .d6⟩), none⟩,
    ⟨some ⟨.d0, .d1, .d2⟩, .move (.t ⟨.d0, .d3, .d7⟩), none⟩,
    ⟨some ⟨.d0, .d1, .d3⟩, .move (.t ⟨.d0, .d4, .d0⟩), none⟩])
  (.seq (.region [⟨some ⟨.d0, .d4, .d2⟩, .load true 4 (.t ⟨.d0, .d0, .d4⟩), none⟩,
    ⟨some ⟨.d0, .d4, .d3⟩, .move (.t ⟨.d0, .d0, .d1⟩), none⟩,
    ⟨some ⟨.d0, .d4, .d4⟩, .move (.t ⟨.d0, .d0, .d2⟩), none⟩,
    ⟨some ⟨.d0, .d4, .d5⟩, .call 10 [(.t ⟨.d0, .d4, .d2⟩), (.t ⟨.d0, .d4, .d3⟩), (.t ⟨.d0, .d4, .d4⟩)], none⟩,
    ⟨some ⟨.d0, .d4, .d1⟩, .move (.t ⟨.d0, .d4, .d5⟩), none⟩,
    ⟨some ⟨.d0, .d4, .d6⟩, .extract 0 (.t ⟨.d0, .d4, .d1⟩), none⟩,
    ⟨some ⟨.d0, .d4, .d7⟩, .extract 1 (.t ⟨.d0, .d4, .d1⟩), none⟩,
    ⟨some ⟨.d0, .d5, .d0⟩, .extract 2 (.t ⟨.d0, .d4, .d1⟩), none⟩,
    ⟨some ⟨.d0, .d1, .d4⟩, .alloc 2 [.int .i64 0, .int .i64 0, .int .i64 0, .int .i64 0], none⟩,
    ⟨none, .store 4 (.t ⟨.d0, .d1, .d4⟩) (.t ⟨.d0, .d4, .d6⟩), none⟩,
    ⟨some ⟨.d0, .d1, .d5⟩, .move (.t ⟨.d0, .d4, .d7⟩), none⟩,
    ⟨some ⟨.d0, .d1, .d6⟩, .move (.t ⟨.d0, .d5, .d0⟩), none⟩])
  (.seq (.region [⟨some ⟨.d0, .d5, .d2⟩, .load true 4 (.t ⟨.d0, .d0, .d4⟩), none⟩,
    ⟨some ⟨.d0, .d5, .d3⟩, .move (.t ⟨.d0, .d0, .d3⟩), none⟩,
    ⟨some ⟨.d0, .d5, .d4⟩, .call 11 [(.t ⟨.d0, .d5, .d2⟩), (.t ⟨.d0, .d5, .d3⟩)], none⟩,
    ⟨some ⟨.d0, .d5, .d1⟩, .move (.t ⟨.d0, .d5, .d4⟩), none⟩,
    ⟨some ⟨.d0, .d5, .d5⟩, .extract 0 (.t ⟨.d0, .d5, .d1⟩), none⟩,
    ⟨some ⟨.d0, .d5, .d6⟩, .extract 1 (.t ⟨.d0, .d5, .d1⟩), none⟩,
    ⟨some ⟨.d0, .d5, .d7⟩, .extract 2 (.t ⟨.d0, .d5, .d1⟩), none⟩,
    ⟨some ⟨.d0, .d1, .d7⟩, .alloc 3 [.int .i64 0, .int .i64 0, .int .i64 0, .int .i64 0], none⟩,
    ⟨none, .store 4 (.t ⟨.d0, .d1, .d7⟩) (.t ⟨.d0, .d5, .d5⟩), none⟩,
    ⟨some ⟨.d0, .d2, .d0⟩, .move (.t ⟨.d0, .d5, .d6⟩), none⟩,
    ⟨some ⟨.d0, .d2, .d1⟩, .move (.t ⟨.d0, .d5, .d7⟩), none⟩])
  (.seq (.region [⟨some ⟨.d0, .d6, .d1⟩, .load true 4 (.t ⟨.d0, .d0, .d4⟩), none⟩,
    ⟨some ⟨.d0, .d6, .d2⟩, .move (.t ⟨.d0, .d0, .d3⟩), none⟩,
    ⟨some ⟨.d0, .d6, .d3⟩, .call 12 [(.t ⟨.d0, .d6, .d1⟩), (.t ⟨.d0, .d6, .d2⟩)], none⟩,
    ⟨some ⟨.d0, .d6, .d0⟩, .move (.t ⟨.d0, .d6, .d3⟩), none⟩,
    ⟨some ⟨.d0, .d6, .d4⟩, .extract 0 (.t ⟨.d0, .d6, .d0⟩), none⟩,
    ⟨some ⟨.d0, .d6, .d5⟩, .extract 1 (.t ⟨.d0, .d6, .d0⟩), none⟩,
    ⟨some ⟨.d0, .d6, .d6⟩, .extract 2 (.t ⟨.d0, .d6, .d0⟩), none⟩,
    ⟨some ⟨.d0, .d2, .d2⟩, .alloc 4 [.int .i64 0, .int .i64 0, .int .i64 0, .int .i64 0], none⟩,
    ⟨none, .store 4 (.t ⟨.d0, .d2, .d2⟩) (.t ⟨.d0, .d6, .d4⟩), none⟩,
    ⟨some ⟨.d0, .d2, .d3⟩, .move (.t ⟨.d0, .d6, .d5⟩), none⟩,
    ⟨some ⟨.d0, .d2, .d4⟩, .move (.t ⟨.d0, .d6, .d6⟩), none⟩])
  (.seq (.region [⟨some ⟨.d0, .d7, .d0⟩, .load true 4 (.t ⟨.d0, .d0, .d4⟩), none⟩,
    ⟨some ⟨.d0, .d7, .d1⟩, .move (.t ⟨.d0, .d0, .d1⟩), none⟩,
    ⟨some ⟨.d0, .d7, .d2⟩, .call 13 [(.t ⟨.d0, .d7, .d0⟩), (.t ⟨.d0, .d7, .d1⟩)], none⟩,
    ⟨some ⟨.d0, .d6, .d7⟩, .move (.t ⟨.d0, .d7, .d2⟩), none⟩,
    ⟨some ⟨.d0, .d7, .d3⟩, .extract 0 (.t ⟨.d0, .d6, .d7⟩), none⟩,
    ⟨some ⟨.d0, .d7, .d4⟩, .extract 1 (.t ⟨.d0, .d6, .d7⟩), none⟩,
    ⟨some ⟨.d0, .d2, .d5⟩, .move (.t ⟨.d0, .d7, .d3⟩), none⟩,
    ⟨some ⟨.d0, .d2, .d6⟩, .move (.t ⟨.d0, .d7, .d4⟩), none⟩])
  (.seq (.region [⟨some ⟨.d0, .d7, .d5⟩, .load true 4 (.t ⟨.d0, .d0, .d4⟩), none⟩,
    ⟨some ⟨.d0, .d7, .d6⟩, .call 14 [(.t ⟨.d0, .d7, .d5⟩)], none⟩,
    ⟨some ⟨.d0, .d2, .d7⟩, .move (.c (.int .i64 0)), none⟩,
    ⟨some ⟨.d0, .d3, .d0⟩, .move (.t ⟨.d0, .d7, .d6⟩), none⟩])
  (.seq (.seq (.region [⟨some ⟨.d0, .d7, .d7⟩, .move (.t ⟨.d0, .d3, .d0⟩), none⟩,
    ⟨some ⟨.d1, .d0, .d0⟩, .bin .eql (.t ⟨.d0, .d7, .d7⟩) (.c (.int .i64 0)), none⟩,
    ⟨some ⟨.d1, .d0, .d1⟩, .move (.t ⟨.d1, .d0, .d0⟩), none⟩,
    ⟨some ⟨.d1, .d0, .d2⟩, .move (.t ⟨.d0, .d0, .d1⟩), some (⟨.d1, .d0, .d1⟩, true)⟩,
    ⟨some ⟨.d1, .d0, .d3⟩, .fieldAddr 3 (.t ⟨.d0, .d0, .d4⟩), some (⟨.d1, .d0, .d1⟩, true)⟩,
    ⟨some ⟨.d1, .d0, .d4⟩, .load false 1 (.t ⟨.d1, .d0, .d3⟩), some (⟨.d1, .d0, .d1⟩, true)⟩,
    ⟨some ⟨.d1, .d0, .d5⟩, .call 15 [(.t ⟨.d1, .d0, .d2⟩), (.t ⟨.d1, .d0, .d4⟩), (.c (.int .i64 1099511627776))], some (⟨.d1, .d0, .d1⟩, true)⟩,
    ⟨some ⟨.d1, .d0, .d6⟩, .un .not (.t ⟨.d1, .d0, .d5⟩), some (⟨.d1, .d0, .d1⟩, true)⟩,
    ⟨some ⟨.d1, .d0, .d7⟩, .pick (.t ⟨.d1, .d0, .d1⟩) (.t ⟨.d1, .d0, .d6⟩) (.c (.bool false)), none⟩])
  (.cond (.t ⟨.d1, .d0, .d7⟩)
    (.region [⟨some ⟨.d0, .d3, .d0⟩, .move (.c (.int .i64 1)), none⟩])
    (.skip)))
  (.seq (.seq (.region [⟨some ⟨.d1, .d1, .d0⟩, .move (.t ⟨.d0, .d3, .d0⟩), none⟩,
    ⟨some ⟨.d1, .d1, .d1⟩, .bin .eql (.t ⟨.d1, .d1, .d0⟩) (.c (.int .i64 0)), none⟩])
  (.cond (.t ⟨.d1, .d1, .d1⟩)
    (.region [⟨some ⟨.d1, .d1, .d2⟩, .load true 4 (.t ⟨.d0, .d0, .d4⟩), none⟩,
      ⟨some ⟨.d1, .d1, .d3⟩, .move (.t ⟨.d0, .d0, .d1⟩), none⟩,
      ⟨some ⟨.d1, .d1, .d4⟩, .call 16 [(.t ⟨.d1, .d1, .d2⟩), (.t ⟨.d1, .d1, .d3⟩)], none⟩,
      ⟨some ⟨.d0, .d2, .d7⟩, .move (.t ⟨.d1, .d1, .d4⟩), none⟩])
    (.skip)))
  (.seq (.regionD [0, 1, 0, 7, 15, 31, 63, 63, 255, 511, 1023, 2047, 2047, 8191, 16383, 32767, 65535, 65535, 262143, 524287, 1048575, 2097151, 2097151, 8388607, 16777215, 33554431, 67108863, 67108863, 268435455, 536870911, 1073741823, 2147483647, 2147483647, 8589934591, 17179869183, 34359738367, 68719476735, 68719476735, 274877906943, 549755813887, 1099511627775, 2199023255551, 2199023255551, 8796093022207, 17592186044415, 35184372088831] [⟨some ⟨.d1, .d1, .d5⟩, .load true 4 (.t ⟨.d0, .d0, .d4⟩), none⟩,
    ⟨some ⟨.d1, .d1, .d6⟩, .call 17 [(.t ⟨.d1, .d1, .d5⟩)], none⟩,
    ⟨some ⟨.d1, .d1, .d7⟩, .load true 4 (.t ⟨.d0, .d0, .d4⟩), none⟩,
    ⟨some ⟨.d1, .d2, .d0⟩, .call 14 [(.t ⟨.d1, .d1, .d7⟩)], none⟩,
    ⟨some ⟨.d1, .d2, .d1⟩, .bin .eql (.t ⟨.d1, .d1, .d6⟩) (.t ⟨.d1, .d2, .d0⟩), none⟩,
    ⟨some ⟨.d1, .d2, .d2⟩, .move (.t ⟨.d1, .d2, .d1⟩), none⟩,
    ⟨some ⟨.d1, .d2, .d3⟩, .load true 4 (.t ⟨.d0, .d1, .d1⟩), some (⟨.d1, .d2, .d2⟩, true)⟩,
    ⟨some ⟨.d1, .d2, .d4⟩, .load true 4 (.t ⟨.d0, .d1, .d4⟩), some (⟨.d1, .d2, .d2⟩, true)⟩,
    ⟨some ⟨.d1, .d2, .d5⟩, .eqs false [0, 0, 0, 0] (.t ⟨.d1, .d2, .d3⟩) (.t ⟨.d1, .d2, .d4⟩), some (⟨.d1, .d2, .d2⟩, true)⟩,
    ⟨some ⟨.d1, .d2, .d6⟩, .pick (.t ⟨.d1, .d2, .d2⟩) (.t ⟨.d1, .d2, .d5⟩) (.c (.bool false)), none⟩,
    ⟨some ⟨.d1, .d2, .d7⟩, .move (.t ⟨.d1, .d2, .d6⟩), none⟩,
    ⟨some ⟨.d1, .d3, .d0⟩, .move (.t ⟨.d0, .d1, .d2⟩), some (⟨.d1, .d2, .d7⟩, true)⟩,
    ⟨some ⟨.d1, .d3, .d1⟩, .move (.t ⟨.d0, .d1, .d5⟩), some (⟨.d1, .d2, .d7⟩, true)⟩,
    ⟨some ⟨.d1, .d3, .d2⟩, .eqb false (.t ⟨.d1, .d3, .d0⟩) (.t ⟨.d1, .d3, .d1⟩), some (⟨.d1, .d2, .d7⟩, true)⟩,
    ⟨some ⟨.d1, .d3, .d3⟩, .pick (.t ⟨.d1, .d2, .d7⟩) (.t ⟨.d1, .d3, .d2⟩) (.c (.bool false)), none⟩,
    ⟨some ⟨.d1, .d3, .d4⟩, .move (.t ⟨.d1, .d3, .d3⟩), none⟩,
    ⟨some ⟨.d1, .d3, .d5⟩, .move (.t ⟨.d0, .d1, .d3⟩), some (⟨.d1, .d3, .d4⟩, true)⟩,
    ⟨some ⟨.d1, .d3, .d6⟩, .move (.t ⟨.d0, .d1, .d6⟩), some (⟨.d1, .d3, .d4⟩, true)⟩,
    ⟨some ⟨.d1, .d3, .d7⟩, .bin .eql (.t ⟨.d1, .d3, .d5⟩) (.t ⟨.d1, .d3, .d6⟩), some (⟨.d1, .d3, .d4⟩, true)⟩,
    ⟨some ⟨.d1, .d4, .d0⟩, .pick (.t ⟨.d1, .d3, .d4⟩) (.t ⟨.d1, .d3, .d7⟩) (.c (.bool false)), none⟩,
    ⟨some ⟨.d1, .d4, .d1⟩, .move (.t ⟨.d1, .d4, .d0⟩), none⟩,
    ⟨some ⟨.d1, .d4, .d2⟩, .load true 4 (.t ⟨.d0, .d1, .d7⟩), some (⟨.d1, .d4, .d1⟩, true)⟩,
    ⟨some ⟨.d1, .d4, .d3⟩, .load true 4 (.t ⟨.d0, .d2, .d2⟩), some (⟨.d1, .d4, .d1⟩, true)⟩,
    ⟨some ⟨.d1, .d4, .d4⟩, .eqs false [0, 0, 0, 0] (.t ⟨.d1, .d4, .d2⟩) (.t ⟨.d1, .d4, .d3⟩), some (⟨.d1, .d4, .d1⟩, true)⟩,
    ⟨some ⟨.d1, .d4, .d5⟩, .pick (.t ⟨.d1, .d4, .d1⟩) (.t ⟨.d1, .d4, .d4⟩) (.c (.bool false)), none⟩,
    ⟨some ⟨.d1, .d4, .d6⟩, .move (.t ⟨.d1, .d4, .d5⟩), none⟩,
    ⟨some ⟨.d1, .d4, .d7⟩, .move (.t ⟨.d0, .d2, .d0⟩), some (⟨.d1, .d4, .d6⟩, true)⟩,
    ⟨some ⟨.d1, .d5, .d0⟩, .move (.t ⟨.d0, .d2, .d3⟩), some (⟨.d1, .d4, .d6⟩, true)⟩,
    ⟨some ⟨.d1, .d5, .d1⟩, .call 18 [(.t ⟨.d1, .d4, .d7⟩), (.t ⟨.d1, .d5, .d0⟩)], some (⟨.d1, .d4, .d6⟩, true)⟩,
    ⟨some ⟨.d1, .d5, .d2⟩, .pick (.t ⟨.d1, .d4, .d6⟩) (.t ⟨.d1, .d5, .d1⟩) (.c (.bool false)), none⟩,
    ⟨some ⟨.d1, .d5, .d3⟩, .move (.t ⟨.d1, .d5, .d2⟩), none⟩,
    ⟨some ⟨.d1, .d5, .d4⟩, .move (.t ⟨.d0, .d2, .d1⟩), some (⟨.d1, .d5, .d3⟩, true)⟩,
    ⟨some ⟨.d1, .d5, .d5⟩, .move (.t ⟨.d0, .d2, .d4⟩), some (⟨.d1, .d5, .d3⟩, true)⟩,
    ⟨some ⟨.d1, .d5, .d6⟩, .bin .eql (.t ⟨.d1, .d5, .d4⟩) (.t ⟨.d1, .d5, .d5⟩), some (⟨.d1, .d5, .d3⟩, true)⟩,
    ⟨some ⟨.d1, .d5, .d7⟩, .pick (.t ⟨.d1, .d5, .d3⟩) (.t ⟨.d1, .d5, .d6⟩) (.c (.bool false)), none⟩,
    ⟨some ⟨.d1, .d6, .d0⟩, .move (.t ⟨.d1, .d5, .d7⟩), none⟩,
    ⟨some ⟨.d1, .d6, .d1⟩, .move (.t ⟨.d0, .d2, .d5⟩), some (⟨.d1, .d6, .d0⟩, true)⟩,
    ⟨some ⟨.d1, .d6, .d2⟩, .move (.t ⟨.d0, .d2, .d7⟩), some (⟨.d1, .d6, .d0⟩, true)⟩,
    ⟨some ⟨.d1, .d6, .d3⟩, .bin .eql (.t ⟨.d1, .d6, .d1⟩) (.t ⟨.d1, .d6, .d2⟩), some (⟨.d1, .d6, .d0⟩, true)⟩,
    ⟨some ⟨.d1, .d6, .d4⟩, .pick (.t ⟨.d1, .d6, .d0⟩) (.t ⟨.d1, .d6, .d3⟩) (.c (.bool false)), none⟩,
    ⟨some ⟨.d1, .d6, .d5⟩, .move (.t ⟨.d1, .d6, .d4⟩), none⟩,
    ⟨some ⟨.d1, .d6, .d6⟩, .move (.t ⟨.d0, .d2, .d6⟩), some (⟨.d1, .d6, .d5⟩, true)⟩,
    ⟨some ⟨.d1, .d6, .d7⟩, .move (.t ⟨.d0, .d3, .d0⟩), some (⟨.d1, .d6, .d5⟩, true)⟩,
    ⟨some ⟨.d1, .d7, .d0⟩, .bin .eql (.t ⟨.d1, .d6, .d6⟩) (.t ⟨.d1, .d6, .d7⟩), some (⟨.d1, .d6, .d5⟩, true)⟩,
    ⟨some ⟨.d1, .d7, .d1⟩, .pick (.t ⟨.d1, .d6, .d5⟩) (.t ⟨.d1, .d7, .d0⟩) (.c (.bool false)), none⟩,
    ⟨some ⟨.d0, .d1, .d0⟩, .move (.t ⟨.d1, .d7, .d1⟩), none⟩])
  (.ret))))))))))
def r_custlaw_BucketSays : List XR := [.tmp ⟨.d0, .d1, .d0⟩]
theorem ok_custlaw_BucketSays : okC Try.prog Try.f3.ntmps (bodyOf Try.f3) x_custlaw_BucketSays = true := by kernel_rfl
theorem okr_custlaw_BucketSays : okRs Try.prog Try.f3.results.toList r_custlaw_BucketSays = true := by kernel_rfl

/-- bucket.Take -/
def x_bucket_Take : XC :=
  .seq (.region [⟨some ⟨.d0, .d0, .d3⟩, .box 0 4 (.t ⟨.d0, .d0, .d0⟩), none⟩,
    ⟨some ⟨.d0, .d0, .d6⟩, .alloc 1 [.int .i64 0, .int .i64 0, .int .i64 0, .int .i64 0], none⟩,
    ⟨some ⟨.d0, .d0, .d7⟩, .move (.c (.bool false)), none⟩,
    ⟨some ⟨.d0, .d1, .d0⟩, .move (.c (.int .i64 0)), none⟩])
  (.seq (.seq (.region [⟨some ⟨.d0, .d1, .d2⟩, .load true 4 (.t ⟨.d0, .d0, .d3⟩), none⟩,
    ⟨some ⟨.d0, .d1, .d3⟩, .call 17 [(.t ⟨.d0, .d1, .d2⟩)], none⟩,
    ⟨some ⟨.d0, .d1, .d1⟩, .move (.t ⟨.d0, .d1, .d3⟩), none⟩])
  (.seq (.region [⟨some ⟨.d0, .d1, .d4⟩, .move (.t ⟨.d0, .d1, .d1⟩), none⟩,
    ⟨some ⟨.d0, .d1, .d5⟩, .bin .neq (.t ⟨.d0, .d1, .d4⟩) (.c (.int .i64 0)), none⟩])
  (.cond (.t ⟨.d0, .d1, .d5⟩)
    (.seq (.region [⟨some ⟨.d0, .d1, .d6⟩, .build [.int .i64 0, .int .i64 0, .int .i64 0, .int .i64 0] [], none⟩,
      ⟨some ⟨.d0, .d1, .d7⟩, .move (.t ⟨.d0, .d1, .d1⟩), none⟩,
      ⟨none, .store 4 (.t ⟨.d0, .d0, .d6⟩) (.t ⟨.d0, .d1, .d6⟩), none⟩,
      ⟨some ⟨.d0, .d0, .d7⟩, .move (.c (.bool false)), none⟩,
      ⟨some ⟨.d0, .d1, .d0⟩, .move (.t ⟨.d0, .d1, .d7⟩), none⟩])
    (.ret))
    (.skip))))
  (.seq (.seq (.region [⟨some ⟨.d0, .d2, .d0⟩, .move (.t ⟨.d0, .d0, .d1⟩), none⟩,
    ⟨some ⟨.d0, .d2, .d1⟩, .fieldAddr 3 (.t ⟨.d0, .d0, .d3⟩), none⟩,
    ⟨some ⟨.d0, .d2, .d2⟩, .load false 1 (.t ⟨.d0, .d2, .d1⟩), none⟩,
    ⟨some ⟨.d0, .d2, .d3⟩, .bin .lss (.t ⟨.d0, .d2, .d0⟩) (.t ⟨.d0, .d2, .d2⟩), none⟩,
    ⟨some ⟨.d0, .d2, .d4⟩, .move (.t ⟨.d0, .d2, .d3⟩), none⟩,
    ⟨some ⟨.d0, .d2, .d5⟩, .move (.t ⟨.d0, .d0, .d1⟩), some (⟨.d0, .d2, .d4⟩, false)⟩,
    ⟨some ⟨.d0, .d2, .d6⟩, .bin .gtr (.t ⟨.d0, .d2, .d5⟩) (.c (.int .i64 1099511627776)), some (⟨.d0, .d2, .d4⟩, false)⟩,
    ⟨some ⟨.d0, .d2, .d7⟩, .pick (.t ⟨.d0, .d2, .d4⟩) (.c (.bool true)) (.t ⟨.d0, .d2, .d6⟩), none⟩,
    ⟨some ⟨.d0, .d3, .d0⟩, .move (.t ⟨.d0, .d2, .d7⟩), none⟩,
    ⟨some ⟨.d0, .d3, .d1⟩, .move (.t ⟨.d0, .d0, .d2⟩), some (⟨.d0, .d3, .d0⟩, false)⟩,
    ⟨some ⟨.d0, .d3, .d2⟩, .bin .lss (.t ⟨.d0, .d3, .d1⟩) (.c (.int .i64 0)), some (⟨.d0, .d3, .d0⟩, false)⟩,
    ⟨some ⟨.d0, .d3, .d3⟩, .pick (.t ⟨.d0, .d3, .d0⟩) (.c (.bool true)) (.t ⟨.d0, .d3, .d2⟩), none⟩,
    ⟨some ⟨.d0, .d3, .d4⟩, .move (.t ⟨.d0, .d3, .d3⟩), none⟩,
    ⟨some ⟨.d0, .d3, .d5⟩, .move (.t ⟨.d0, .d0, .d2⟩), some (⟨.d0, .d3, .d4⟩, false)⟩,
    ⟨some ⟨.d0, .d3, .d6⟩, .bin .gtr (.t ⟨.d0, .d3, .d5⟩) (.c (.int .i64 1000000000)), some (⟨.d0, .d3, .d4⟩, false)⟩,
    ⟨some ⟨.d0, .d3, .d7⟩, .pick (.t ⟨.d0, .d3, .d4⟩) (.c (.bool true)) (.t ⟨.d0, .d3, .d6⟩), none⟩])
  (.cond (.t ⟨.d0, .d3, .d7⟩)
    (.seq (.region [⟨some ⟨.d0, .d4, .d0⟩, .build [.int .i64 0, .int .i64 0, .int .i64 0, .int .i64 0] [], none⟩,
      ⟨none, .store 4 (.t ⟨.d0, .d0, .d6⟩) (.t ⟨.d0, .d4, .d0⟩), none⟩,
      ⟨some ⟨.d0, .d0, .d7⟩, .move (.c (.bool false)), none⟩,
      ⟨some ⟨.d0, .d1, .d0⟩, .move (.c (.int .i64 1)), none⟩])
    (.ret))
    (.skip)))
  (.seq (.region [⟨some ⟨.d0, .d4, .d1⟩, .load true 4 (.t ⟨.d0, .d0, .d3⟩), none⟩,
    ⟨some ⟨.d0, .d4, .d2⟩, .move (.t ⟨.d0, .d0, .d1⟩), none⟩,
    ⟨some ⟨.d0, .d4, .d3⟩, .call 44 [(.t ⟨.d0, .d4, .d1⟩), (.t ⟨.d0, .d4, .d2⟩)], none⟩,
    ⟨some ⟨.d0, .d4, .d4⟩, .move (.t ⟨.d0, .d0, .d1⟩), none⟩,
    ⟨some ⟨.d0, .d4, .d5⟩, .fieldAddr 2 (.t ⟨.d0, .d0, .d3⟩), none⟩,
    ⟨none, .store 1 (.t ⟨.d0, .d4, .d5⟩) (.t ⟨.d0, .d4, .d3⟩), none⟩,
    ⟨some ⟨.d0, .d4, .d6⟩, .fieldAddr 3 (.t ⟨.d0, .d0, .d3⟩), none⟩,
    ⟨none, .store 1 (.t ⟨.d0, .d4, .d6⟩) (.t ⟨.d0, .d4, .d4⟩), none⟩])
  (.seq (.seq (.region [⟨some ⟨.d0, .d4, .d7⟩, .move (.t ⟨.d0, .d0, .d2⟩), none⟩,
    ⟨some ⟨.d0, .d5, .d0⟩, .fieldAddr 2 (.t ⟨.d0, .d0, .d3⟩), none⟩,
    ⟨some ⟨.d0, .d5, .d1⟩, .load false 1 (.t ⟨.d0, .d5, .d0⟩), none⟩,
    ⟨some ⟨.d0, .d5, .d2⟩, .bin .gtr (.t ⟨.d0, .d4, .d7⟩) (.t ⟨.d0, .d5, .d1⟩), none⟩])
  (.cond (.t ⟨.d0, .d5, .d2⟩)
    (.seq (.region [⟨some ⟨.d0, .d5, .d3⟩, .load true 4 (.t ⟨.d0, .d0, .d3⟩), none⟩,
      ⟨none, .store 4 (.t ⟨.d0, .d0, .d6⟩) (.t ⟨.d0, .d5, .d3⟩), none⟩,
      ⟨some ⟨.d0, .d0, .d7⟩, .move (.c (.bool false)), none⟩,
      ⟨some ⟨.d0, .d1, .d0⟩, .move (.c (.int .i64 0)), none⟩])
    (.ret))
    (.skip)))
  (.seq (.region [⟨some ⟨.d0, .d5, .d4⟩, .fieldAddr 2 (.t ⟨.d0, .d0, .d3⟩), none⟩,
    ⟨some ⟨.d0, .d5, .d5⟩, .load false 1 (.t ⟨.d0, .d5, .d4⟩), none⟩,
    ⟨some ⟨.d0, .d5, .d6⟩, .move (.t ⟨.d0, .d0, .d2⟩), none⟩,
    ⟨some ⟨.d0, .d5, .d7⟩, .bin .sub (.t ⟨.d0, .d5, .d5⟩) (.t ⟨.d0, .d5, .d6⟩), none⟩,
    ⟨some ⟨.d0, .d6, .d0⟩, .fieldAddr 2 (.t ⟨.d0, .d0, .d3⟩), none⟩,
    ⟨none, .store 1 (.t ⟨.d0, .d6, .d0⟩) (.t ⟨.d0, .d5, .d7⟩), none⟩])
  (.seq (.region [⟨some ⟨.d0, .d6, .d1⟩, .load true 4 (.t ⟨.d0, .d0, .d3⟩), none⟩,
    ⟨none, .store 4 (.t ⟨.d0, .d0, .d6⟩) (.t ⟨.d0, .d6, .d1⟩), none⟩,
    ⟨some ⟨.d0, .d0, .d7⟩, .move (.c (.bool true)), none⟩,
    ⟨some ⟨.d0, .d1, .d0⟩, .move (.c (.int .i64 0)), none⟩])
  (.ret)))))))
def r_bucket_Take : List XR := [.cell ⟨.d0, .d0, .d6⟩ true 4, .tmp ⟨.d0, .d0, .d7⟩, .tmp ⟨.d0, .d1, .d0⟩]
theorem ok_bucket_Take : okC Try.prog Try.f9.ntmps (bodyOf Try.f9) x_bucket_Take = true := by kernel_rfl
theorem okr_bucket_Take : okRs Try.prog Try.f9.results.toList r_bucket_Take = true := by kernel_rfl

/-- custref.BucketTake -/
def x_custref_BucketTake : XC :=
  .seq (.region [⟨some ⟨.d0, .d0, .d3⟩, .box 0 4 (.t ⟨.d0, .d0, .d0⟩), none⟩,
    ⟨some ⟨.d0, .d0, .d6⟩, .alloc 1 [.int .i64 0, .int .i64 0, .int .i64 0, .int .i64 0], none⟩,
    ⟨some ⟨.d0, .d0, .d7⟩, .move (.c (.bool false)), none⟩,
    ⟨some ⟨.d0, .d1, .d0⟩, .move (.c (.int .i64 0)), none⟩])
  (.seq (.seq (.region [⟨some ⟨.d0, .d1, .d3⟩, .load true 4 (.t ⟨.d0, .d0, .d3⟩), none⟩,
    ⟨some ⟨.d0, .d1, .d4⟩, .call 14 [(.t ⟨.d0, .d1, .d3⟩)], none⟩,
    ⟨some ⟨.d0, .d1, .d1⟩, .move (.t ⟨.d0, .d1, .d4⟩), none⟩])
  (.seq (.region [⟨some ⟨.d0, .d1, .d5⟩, .move (.t ⟨.d0, .d1, .d1⟩), none⟩,
    ⟨some ⟨.d0, .d1, .d6⟩, .bin .neq (.t ⟨.d0, .d1, .d5⟩) (.c (.int .i64 0)), none⟩])
  (.cond (.t ⟨.d0, .d1, .d6⟩)
    (.seq (.region [⟨some ⟨.d0, .d1, .d7⟩, .build [.int .i64 0, .int .i64 0, .int .i64 0, .int .i64 0] [], none⟩,
      ⟨some ⟨.d0, .d2, .d0⟩, .move (.t ⟨.d0, .d1, .d1⟩), none⟩,
      ⟨none, .store 4 (.t ⟨.d0, .d0, .d6⟩) (.t ⟨.d0, .d1, .d7⟩), none⟩,
      ⟨some ⟨.d0, .d0, .d7⟩, .move (.c (.bool false)), none⟩,
      ⟨some ⟨.d0, .d1, .d0⟩, .move (.t ⟨.d0, .d2, .d0⟩), none⟩])
    (.ret))
    (.skip))))
  (.seq (.seq (.region [⟨some ⟨.d0, .d2, .d1⟩, .move (.t ⟨.d0, .d0, .d1⟩), none⟩,
    ⟨some ⟨.d0, .d2, .d2⟩, .fieldAddr 3 (.t ⟨.d0, .d0, .d3⟩), none⟩,
    ⟨some ⟨.d0, .d2, .d3⟩, .load false 1 (.t ⟨.d0, .d2, .d2⟩), none⟩,
    ⟨some ⟨.d0, .d2, .d4⟩, .call 15 [(.t ⟨.d0, .d2, .d1⟩), (.t ⟨.d0, .d2, .d3⟩), (.c (.int .i64 1099511627776))], none⟩,
    ⟨some ⟨.d0, .d2, .d5⟩, .un .not (.t ⟨.d0, .d2, .d4⟩), none⟩,
    ⟨some ⟨.d0, .d2, .d6⟩, .move (.t ⟨.d0, .d2, .d5⟩), none⟩,
    ⟨some ⟨.d0, .d2, .d7⟩, .move (.t ⟨.d0, .d0, .d2⟩), some (⟨.d0, .d2, .d6⟩, false)⟩,
    ⟨some ⟨.d0, .d3, .d0⟩, .call 15 [(.t ⟨.d0, .d2, .d7⟩), (.c (.int .i64 0)), (.c (.int .i64 1000000000))], some (⟨.d0, .d2, .d6⟩, false)⟩,
    ⟨some ⟨.d0, .d3, .d1⟩, .un .not (.t ⟨.d0, .d3, .d0⟩), some (⟨.d0, .d2, .d6⟩, false)⟩,
    ⟨some ⟨.d0, .d3, .d2⟩, .pick (.t ⟨.d0, .d2, .d6⟩) (.c (.bool true)) (.t ⟨.d0, .d3, .d1⟩), none⟩])
  (.cond (.t ⟨.d0, .d3, .d2⟩)
    (.seq (.region [⟨some ⟨.d0, .d3, .d3⟩, .build [.int .i64 0, .int .i64 0, .int .i64 0, .int .i64 0] [], none⟩,
      ⟨none, .store 4 (.t ⟨.d0, .d0, .d6⟩) (.t ⟨.d0, .d3, .d3⟩), none⟩,
      ⟨some ⟨.d0, .d0, .d7⟩, .move (.c (.bool false)), none⟩,
      ⟨some ⟨.d0, .d1, .d0⟩, .move (.c (.int .i64 1)), none⟩])
    (.ret))
    (.skip)))
  (.seq (.region [⟨some ⟨.d0, .d3, .d4⟩, .load true 4 (.t ⟨.d0, .d0, .d3⟩), none⟩,
    ⟨some ⟨.d0, .d3, .d5⟩, .move (.t ⟨.d0, .d0, .d1⟩), none⟩,
    ⟨some ⟨.d0, .d3, .d6⟩, .call 16 [(.t ⟨.d0, .d3, .d4⟩), (.t ⟨.d0, .d3, .d5⟩)], none⟩,
    ⟨some ⟨.d0, .d1, .d2⟩, .move (.t ⟨.d0, .d3, .d6⟩), none⟩])
  (.seq (.seq (.region [⟨some ⟨.d0, .d3, .d7⟩, .move (.t ⟨.d0, .d0, .d2⟩), none⟩,
    ⟨some ⟨.d0, .d4, .d0⟩, .move (.t ⟨.d0, .d1, .d2⟩), none⟩,
    ⟨some ⟨.d0, .d4, .d1⟩, .bin .leq (.t ⟨.d0, .d3, .d7⟩) (.t ⟨.d0, .d4, .d0⟩), none⟩])
  (.cond (.t ⟨.d0, .d4, .d1⟩)
    (.seq (.region [⟨some ⟨.d0, .d4, .d2⟩, .fieldAddr 0 (.t ⟨.d0, .d0, .d3⟩), none⟩,
      ⟨some ⟨.d0, .d4, .d3⟩, .load false 1 (.t ⟨.d0, .d4, .d2⟩), none⟩,
      ⟨some ⟨.d0, .d4, .d4⟩, .fieldAddr 1 (.t ⟨.d0, .d0, .d3⟩), none⟩,
      ⟨some ⟨.d0, .d4, .d5⟩, .load false 1 (.t ⟨.d0, .d4, .d4⟩), none⟩,
      ⟨some ⟨.d0, .d4, .d6⟩, .move (.t ⟨.d0, .d1, .d2⟩), none⟩,
      ⟨some ⟨.d0, .d4, .d7⟩, .move (.t ⟨.d0, .d0, .d2⟩), none⟩,
      ⟨some ⟨.d0, .d5, .d0⟩, .bin .sub (.t ⟨.d0, .d4, .d6⟩) (.t ⟨.d0, .d4, .d7⟩), none⟩,
      ⟨some ⟨.d0, .d5, .d1⟩, .move (.t ⟨.d0, .d0, .d1⟩), none⟩,
      ⟨some ⟨.d0, .d5, .d2⟩, .build [.int .i64 0, .int .i64 0, .int .i64 0, .int .i64 0] [(0, 1, (.t ⟨.d0, .d4, .d3⟩)), (1, 1, (.t ⟨.d0, .d4, .d5⟩)), (2, 1, (.t ⟨.d0, .d5, .d0⟩)), (3, 1, (.t ⟨.d0, .d5, .d1⟩))], none⟩,
      ⟨none, .store 4 (.t ⟨.d0, .d0, .d6⟩) (.t ⟨.d0, .d5, .d2⟩), none⟩,
      ⟨some ⟨.d0, .d0, .d7⟩, .move (.c (.bool true)), none⟩,
      ⟨some ⟨.d0, .d1, .d0⟩, .move (.c (.int .i64 0)), none⟩])
    (.ret))
    (.skip)))
  (.seq (.region [⟨some ⟨.d0, .d5, .d3⟩, .fieldAddr 0 (.t ⟨.d0, .d0, .d3⟩), none⟩,
    ⟨some ⟨.d0, .d5, .d4⟩, .load false 1 (.t ⟨.d0, .d5, .d3⟩), none⟩,
    ⟨some ⟨.d0, .d5, .d5⟩, .fieldAddr 1 (.t ⟨.d0, .d0, .d3⟩), none⟩,
    ⟨some ⟨.d0, .d5, .d6⟩, .load false 1 (.t ⟨.d0, .d5, .d5⟩), none⟩,
    ⟨some ⟨.d0, .d5, .d7⟩, .move (.t ⟨.d0, .d1, .d2⟩), none⟩,
    ⟨some ⟨.d0, .d6, .d0⟩, .move (.t ⟨.d0, .d0, .d1⟩), none⟩,
    ⟨some ⟨.d0, .d6, .d1⟩, .build [.int .i64 0, .int .i64 0, .int .i64 0, .int .i64 0] [(0, 1, (.t ⟨.d0, .d5, .d4⟩)), (1, 1, (.t ⟨.d0, .d5, .d6⟩)), (2, 1, (.t ⟨.d0, .d5, .d7⟩)), (3, 1, (.t ⟨.d0, .d6, .d0⟩))], none⟩,
    ⟨none, .store 4 (.t ⟨.d0, .d0, .d6⟩) (.t ⟨.d0, .d6, .d1⟩), none⟩,
    ⟨some ⟨.d0, .d0, .d7⟩, .move (.c (.bool false)), none⟩,
    ⟨some ⟨.d0, .d1, .d0⟩, .move (.c (.int .i64 0)), none⟩])
  (.ret))))))
def r_custref_BucketTake : List XR := [.cell ⟨.d0, .d0, .d6⟩ true 4, .tmp ⟨.d0, .d0, .d7⟩, .tmp ⟨.d0, .d1, .d0⟩]
theorem ok_custref_BucketTake : okC Try.prog Try.f10.ntmps (bodyOf Try.f10) x_custref_BucketTake = true := by kernel_rfl
theorem okr_custref_BucketTake : okRs Try.prog Try.f10.results.toList r_custref_BucketTake = true := by kernel_rfl

/-- bucket.Run -/
def x_bucket_Run : XC :=
  .seq (.region [⟨some ⟨.d0, .d0, .d2⟩, .box 0 4 (.t ⟨.d0, .d0, .d0⟩), none⟩,
    ⟨some ⟨.d0, .d0, .d4⟩, .alloc 1 [.int .i64 0, .int .i64 0, .int .i64 0, .int .i64 0], none⟩,
    ⟨some ⟨.d0, .d0, .d5⟩, .move (.c (.slice none 0 0)), none⟩,
    ⟨some ⟨.d0, .d0, .d6⟩, .move (.c (.int .i64 0)), none⟩])
  (.seq (.seq (.region [⟨some ⟨.d0, .d1, .d6⟩, .load true 4 (.t ⟨.d0, .d0, .d2⟩), none⟩,
    ⟨some ⟨.d0, .d1, .d7⟩, .call 17 [(.t ⟨.d0, .d1, .d6⟩)], none⟩,
    ⟨some ⟨.d0, .d0, .d7⟩, .move (.t ⟨.d0, .d1, .d7⟩), none⟩])
  (.seq (.region [⟨some ⟨.d0, .d2, .d0⟩, .move (.t ⟨.d0, .d0, .d7⟩), none⟩,
    ⟨some ⟨.d0, .d2, .d1⟩, .bin .neq (.t ⟨.d0, .d2, .d0⟩) (.c (.int .i64 0)), none⟩])
  (.cond (.t ⟨.d0, .d2, .d1⟩)
    (.seq (.region [⟨some ⟨.d0, .d2, .d2⟩, .build [.int .i64 0, .int .i64 0, .int .i64 0, .int .i64 0] [], none⟩,
      ⟨some ⟨.d0, .d2, .d3⟩, .move (.t ⟨.d0, .d0, .d7⟩), none⟩,
      ⟨none, .store 4 (.t ⟨.d0, .d0, .d4⟩) (.t ⟨.d0, .d2, .d2⟩), none⟩,
      ⟨some ⟨.d0, .d0, .d5⟩, .move (.c (.slice none 0 0)), none⟩,
      ⟨some ⟨.d0, .d0, .d6⟩, .move (.t ⟨.d0, .d2, .d3⟩), none⟩])
    (.ret))
    (.skip))))
  (.seq (.seq (.region [⟨some ⟨.d0, .d2, .d4⟩, .move (.t ⟨.d0, .d0, .d1⟩), none⟩,
    ⟨some ⟨.d0, .d2, .d5⟩, .len (.t ⟨.d0, .d2, .d4⟩), none⟩,
    ⟨some ⟨.d0, .d2, .d6⟩, .bin .gtr (.t ⟨.d0, .d2, .d5⟩) (.c (.int .i64 500)), none⟩])
  (.cond (.t ⟨.d0, .d2, .d6⟩)
    (.seq (.region [⟨some ⟨.d0, .d2, .d7⟩, .build [.int .i64 0, .int .i64 0, .int .i64 0, .int .i64 0] [], none⟩,
      ⟨none, .store 4 (.t ⟨.d0, .d0, .d4⟩) (.t ⟨.d0, .d2, .d7⟩), none⟩,
      ⟨some ⟨.d0, .d0, .d5⟩, .move (.c (.slice none 0 0)), none⟩,
      ⟨some ⟨.d0, .d0, .d6⟩, .move (.c (.int .i64 2)), none⟩])
    (.ret))
    (.skip)))
  (.seq (.region [⟨some ⟨.d0, .d1, .d0⟩, .move (.c (.slice none 0 0)), none⟩])
  (.seq (.seq (.region [⟨some ⟨.d0, .d3, .d0⟩, .move (.t ⟨.d0, .d0, .d1⟩), none⟩,
    ⟨some ⟨.d0, .d3, .d1⟩, .len (.t ⟨.d0, .d3, .d0⟩), none⟩,
    ⟨some ⟨.d0, .d3, .d2⟩, .move (.c (.int .i64 0)), none⟩])
  (.block 0
    (.loop
      (.seq (.region [⟨some ⟨.d0, .d3, .d3⟩, .bin .lss (.t ⟨.d0, .d3, .d2⟩) (.t ⟨.d0, .d3, .d1⟩), none⟩])
      (.seq (.cond (.t ⟨.d0, .d3, .d3⟩)
        (.skip)
        (.exit 0))
      (.seq (.block 1
        (.seq (.region [⟨some ⟨.d0, .d3, .d4⟩, .indexSl 2 (.t ⟨.d0, .d3, .d0⟩) (.t ⟨.d0, .d3, .d2⟩), none⟩,
          ⟨some ⟨.d0, .d3, .d5⟩, .load true 2 (.t ⟨.d0, .d3, .d4⟩), none⟩,
          ⟨some ⟨.d0, .d1, .d2⟩, .alloc 2 [.int .i64 0, .int .i64 0], none⟩,
          ⟨none, .store 2 (.t ⟨.d0, .d1, .d2⟩) (.t ⟨.d0, .d3, .d5⟩), none⟩])
        (.seq (.region [⟨some ⟨.d0, .d3, .d7⟩, .load true 4 (.t ⟨.d0, .d0, .d2⟩), none⟩,
          ⟨some ⟨.d0, .d4, .d0⟩, .fieldAddr 0 (.t ⟨.d0, .d1, .d2⟩), none⟩,
          ⟨some ⟨.d0, .d4, .d1⟩, .load false 1 (.t ⟨.d0, .d4, .d0⟩), none⟩,
          ⟨some ⟨.d0, .d4, .d2⟩, .fieldAddr 1 (.t ⟨.d0, .d1, .d2⟩), none⟩,
          ⟨some ⟨.d0, .d4, .d3⟩, .load false 1 (.t ⟨.d0, .d4, .d2⟩), none⟩,
          ⟨some ⟨.d0, .d4, .d4⟩, .call 9 [(.t ⟨.d0, .d3, .d7⟩), (.t ⟨.d0, .d4, .d1⟩), (.t ⟨.d0, .d4, .d3⟩)], none⟩,
          ⟨some ⟨.d0, .d3, .d6⟩, .move (.t ⟨.d0, .d4, .d4⟩), none⟩,
          ⟨some ⟨.d0, .d4, .d5⟩, .extract 0 (.t ⟨.d0, .d3, .d6⟩), none⟩,
          ⟨some ⟨.d0, .d4, .d6⟩, .extract 1 (.t ⟨.d0, .d3, .d6⟩), none⟩,
          ⟨some ⟨.d0, .d4, .d7⟩, .extract 2 (.t ⟨.d0, .d3, .d6⟩), none⟩,
          ⟨some ⟨.d0, .d1, .d3⟩, .alloc 3 [.int .i64 0, .int .i64 0, .int .i64 0, .int .i64 0], none⟩,
          ⟨none, .store 4 (.t ⟨.d0, .d1, .d3⟩) (.t ⟨.d0, .d4, .d5⟩), none⟩,
          ⟨some ⟨.d0, .d1, .d4⟩, .move (.t ⟨.d0, .d4, .d6⟩), none⟩,
          ⟨some ⟨.d0, .d1, .d5⟩, .move (.t ⟨.d0, .d4, .d7⟩), none⟩])
        (.seq (.seq (.region [⟨some ⟨.d0, .d5, .d0⟩, .move (.t ⟨.d0, .d1, .d5⟩), none⟩,
          ⟨some ⟨.d0, .d5, .d1⟩, .bin .neq (.t ⟨.d0, .d5, .d0⟩) (.c (.int .i64 0)), none⟩])
        (.cond (.t ⟨.d0, .d5, .d1⟩)
          (.seq (.region [⟨some ⟨.d0, .d5, .d2⟩, .build [.int .i64 0, .int .i64 0, .int .i64 0, .int .i64 0] [], none⟩,
            ⟨some ⟨.d0, .d5, .d3⟩, .move (.t ⟨.d0, .d1, .d5⟩), none⟩,
            ⟨none, .store 4 (.t ⟨.d0, .d0, .d4⟩) (.t ⟨.d0, .d5, .d2⟩), none⟩,
            ⟨some ⟨.d0, .d0, .d5⟩, .move (.c (.slice none 0 0)), none⟩,
            ⟨some ⟨.d0, .d0, .d6⟩, .move (.t ⟨.d0, .d5, .d3⟩), none⟩])
          (.ret))
          (.skip)))
        (.regionD [0, 0, 0, 4, 14, 31, 63] [⟨some ⟨.d0, .d5, .d4⟩, .load true 4 (.t ⟨.d0, .d1, .d3⟩), none⟩,
          ⟨some ⟨.d0, .d5, .d5⟩, .move (.t ⟨.d0, .d1, .d0⟩), none⟩,
          ⟨some ⟨.d0, .d5, .d6⟩, .move (.t ⟨.d0, .d1, .d4⟩), none⟩,
          ⟨some ⟨.d0, .d5, .d7⟩, .buildSlice 4 1 [.bool false] [(0, (.t ⟨.d0, .d5, .d6⟩))], none⟩,
          ⟨some ⟨.d0, .d6, .d0⟩, .append 5 1 1 (.t ⟨.d0, .d5, .d5⟩) (.t ⟨.d0, .d5, .d7⟩), none⟩,
          ⟨none, .store 4 (.t ⟨.d0, .d0, .d2⟩) (.t ⟨.d0, .d5, .d4⟩), none⟩,
          ⟨some ⟨.d0, .d1, .d0⟩, .move (.t ⟨.d0, .d6, .d0⟩), none⟩])))))
      (.region [⟨some ⟨.d0, .d6, .d1⟩, .bin .add (.t ⟨.d0, .d3, .d2⟩) (.c (.int .i64 1)), none⟩,
        ⟨some ⟨.d0, .d3, .d2⟩, .move (.t ⟨.d0, .d6, .d1⟩), none⟩])))))))
  (.seq (.region [⟨some ⟨.d0, .d6, .d2⟩, .load true 4 (.t ⟨.d0, .d0, .d2⟩), none⟩,
    ⟨some ⟨.d0, .d6, .d3⟩, .move (.t ⟨.d0, .d1, .d0⟩), none⟩,
    ⟨none, .store 4 (.t ⟨.d0, .d0, .d4⟩) (.t ⟨.d0, .d6, .d2⟩), none⟩,
    ⟨some ⟨.d0, .d0, .d5⟩, .move (.t ⟨.d0, .d6, .d3⟩), none⟩,
    ⟨some ⟨.d0, .d0, .d6⟩, .move (.c (.int .i64 0)), none⟩])
  (.ret))))))
def r_bucket_Run : List XR := [.cell ⟨.d0, .d0, .d4⟩ true 4, .tmp ⟨.d0, .d0, .d5⟩, .tmp ⟨.d0, .d0, .d6⟩]
theorem ok_bucket_Run : okC Try.prog Try.f11.ntmps (bodyOf Try.f11) x_bucket_Run = true := by kernel_rfl
theorem okr_bucket_Run : okRs Try.prog Try.f11.results.toList r_bucket_Run = true := by kernel_rfl

/-- custref.BucketRun -/
def x_custref_BucketRun : XC :=
  .seq (.region [⟨some ⟨.d0, .d0, .d2⟩, .box 0 4 (.t ⟨.d0, .d0, .d0⟩), none⟩,
    ⟨some ⟨.d0, .d0, .d4⟩, .alloc 1 [.int .i64 0, .int .i64 0, .int .i64 0, .int .i64 0], none⟩,
    ⟨some ⟨.d0, .d0, .d5⟩, .move (.c (.slice none 0 0)), none⟩,
    ⟨some ⟨.d0, .d0, .d6⟩, .move (.c (.int .i64 0)), none⟩])
  (.seq (.seq (.region [⟨some ⟨.d0, .d1, .d5⟩, .load true 4 (.t ⟨.d0, .d0, .d2⟩), none⟩,
    ⟨some ⟨.d0, .d1, .d6⟩, .call 14 [(.t ⟨.d0, .d1, .d5⟩)], none⟩,
    ⟨some ⟨.d0, .d0, .d7⟩, .move (.t ⟨.d0, .d1, .d6⟩), none⟩])
  (.seq (.region [⟨some ⟨.d0, .d1, .d7⟩, .move (.t ⟨.d0, .d0, .d7⟩), none⟩,
    ⟨some ⟨.d0, .d2, .d0⟩, .bin .neq (.t ⟨.d0, .d1, .d7⟩) (.c (.int .i64 0)), none⟩])
  (.cond (.t ⟨.d0, .d2, .d0⟩)
    (.seq (.region [⟨some ⟨.d0, .d2, .d1⟩, .build [.int .i64 0, .int .i64 0, .int .i64 0, .int .i64 0] [], none⟩,
      ⟨some ⟨.d0, .d2, .d2⟩, .move (.t ⟨.d0, .d0, .d7⟩), none⟩,
      ⟨none, .store 4 (.t ⟨.d0, .d0, .d4⟩) (.t ⟨.d0, .d2, .d1⟩), none⟩,
      ⟨some ⟨.d0, .d0, .d5⟩, .move (.c (.slice none 0 0)), none⟩,
      ⟨some ⟨.d0, .d0, .d6⟩, .move (.t ⟨.d0, .d2, .d2⟩), none⟩])
    (.ret))
    (.skip))))
  (.seq (.seq (.region [⟨some ⟨.d0, .d2, .d3⟩, .move (.t ⟨.d0, .d0, .d1⟩), none⟩,
    ⟨some ⟨.d0, .d2, .d4⟩, .len (.t ⟨.d0, .d2, .d3⟩), none⟩,
    ⟨some ⟨.d0, .d2, .d5⟩, .bin .gtr (.t ⟨.d0, .d2, .d4⟩) (.c (.int .i64 500)), none⟩])
  (.cond (.t ⟨.d0, .d2, .d5⟩)
    (.seq (.region [⟨some ⟨.d0, .d2, .d6⟩, .build [.int .i64 0, .int .i64 0, .int .i64 0, .int .i64 0] [], none⟩,
      ⟨none, .store 4 (.t ⟨.d0, .d0, .d4⟩) (.t ⟨.d0, .d2, .d6⟩), none⟩,
      ⟨some ⟨.d0, .d0, .d5⟩, .move (.c (.slice none 0 0)), none⟩,
      ⟨some ⟨.d0, .d0, .d6⟩, .move (.c (.int .i64 2)), none⟩])
    (.ret))
    (.skip)))
  (.seq (.region [⟨some ⟨.d0, .d1, .d0⟩, .move (.c (.slice none 0 0)), none⟩])
  (.seq (.seq (.region [⟨some ⟨.d0, .d2, .d7⟩, .move (.t ⟨.d0, .d0, .d1⟩), none⟩,
    ⟨some ⟨.d0, .d3, .d0⟩, .len (.t ⟨.d0, .d2, .d7⟩), none⟩,
    ⟨some ⟨.d0, .d3, .d1⟩, .move (.c (.int .i64 0)), none⟩])
  (.block 0
    (.loop
      (.seq (.region [⟨some ⟨.d0, .d3, .d2⟩, .bin .lss (.t ⟨.d0, .d3, .d1⟩) (.t ⟨.d0, .d3, .d0⟩), none⟩])
      (.seq (.cond (.t ⟨.d0, .d3, .d2⟩)
        (.skip)
        (.exit 0))
      (.seq (.block 1
        (.seq (.region [⟨some ⟨.d0, .d3, .d3⟩, .indexSl 2 (.t ⟨.d0, .d2, .d7⟩) (.t ⟨.d0, .d3, .d1⟩), none⟩,
          ⟨some ⟨.d0, .d3, .d4⟩, .load true 2 (.t ⟨.d0, .d3, .d3⟩), none⟩,
          ⟨some ⟨.d0, .d1, .d2⟩, .alloc 2 [.int .i64 0, .int .i64 0], none⟩,
          ⟨none, .store 2 (.t ⟨.d0, .d1, .d2⟩) (.t ⟨.d0, .d3, .d4⟩), none⟩])
        (.seq (.region [⟨some ⟨.d0, .d1, .d3⟩, .move (.c (.bool false)), none⟩])
        (.seq (.region [⟨some ⟨.d0, .d1, .d4⟩, .move (.c (.int .i64 0)), none⟩])
        (.seq (.seq (.region [⟨some ⟨.d0, .d3, .d6⟩, .load true 4 (.t ⟨.d0, .d0, .d2⟩), none⟩,
          ⟨some ⟨.d0, .d3, .d7⟩, .fieldAddr 0 (.t ⟨.d0, .d1, .d2⟩), none⟩,
          ⟨some ⟨.d0, .d4, .d0⟩, .load false 1 (.t ⟨.d0, .d3, .d7⟩), none⟩,
          ⟨some ⟨.d0, .d4, .d1⟩, .fieldAddr 1 (.t ⟨.d0, .d1, .d2⟩), none⟩,
          ⟨some ⟨.d0, .d4, .d2⟩, .load false 1 (.t ⟨.d0, .d4, .d1⟩), none⟩,
          ⟨some ⟨.d0, .d4, .d3⟩, .call 10 [(.t ⟨.d0, .d3, .d6⟩), (.t ⟨.d0, .d4, .d0⟩), (.t ⟨.d0, .d4, .d2⟩)], none⟩,
          ⟨some ⟨.d0, .d3, .d5⟩, .move (.t ⟨.d0, .d4, .d3⟩), none⟩,
          ⟨some ⟨.d0, .d4, .d4⟩, .extract 0 (.t ⟨.d0, .d3, .d5⟩), none⟩,
          ⟨some ⟨.d0, .d4, .d5⟩, .extract 1 (.t ⟨.d0, .d3, .d5⟩), none⟩,
          ⟨some ⟨.d0, .d4, .d6⟩, .extract 2 (.t ⟨.d0, .d3, .d5⟩), none⟩,
          ⟨none, .store 4 (.t ⟨.d0, .d0, .d2⟩) (.t ⟨.d0, .d4, .d4⟩), none⟩,
          ⟨some ⟨.d0, .d1, .d3⟩, .move (.t ⟨.d0, .d4, .d5⟩), none⟩,
          ⟨some ⟨.d0, .d1, .d4⟩, .move (.t ⟨.d0, .d4, .d6⟩), none⟩])
        (.seq (.region [⟨some ⟨.d0, .d4, .d7⟩, .move (.t ⟨.d0, .d1, .d4⟩), none⟩,
          ⟨some ⟨.d0, .d5, .d0⟩, .bin .neq (.t ⟨.d0, .d4, .d7⟩) (.c (.int .i64 0)), none⟩])
        (.cond (.t ⟨.d0, .d5, .d0⟩)
          (.seq (.region [⟨some ⟨.d0, .d5, .d1⟩, .build [.int .i64 0, .int .i64 0, .int .i64 0, .int .i64 0] [], none⟩,
            ⟨some ⟨.d0, .d5, .d2⟩, .move (.t ⟨.d0, .d1, .d4⟩), none⟩,
            ⟨none, .store 4 (.t ⟨.d0, .d0, .d4⟩) (.t ⟨.d0, .d5, .d1⟩), none⟩,
            ⟨some ⟨.d0, .d0, .d5⟩, .move (.c (.slice none 0 0)), none⟩,
            ⟨some ⟨.d0, .d0, .d6⟩, .move (.t ⟨.d0, .d5, .d2⟩), none⟩])
          (.ret))
          (.skip))))
        (.region [⟨some ⟨.d0, .d5, .d3⟩, .move (.t ⟨.d0, .d1, .d0⟩), none⟩,
          ⟨some ⟨.d0, .d5, .d4⟩, .move (.t ⟨.d0, .d1, .d3⟩), none⟩,
          ⟨some ⟨.d0, .d5, .d5⟩, .buildSlice 3 1 [.bool false] [(0, (.t ⟨.d0, .d5, .d4⟩))], none⟩,
          ⟨some ⟨.d0, .d5, .d6⟩, .append 4 1 1 (.t ⟨.d0, .d5, .d3⟩) (.t ⟨.d0, .d5, .d5⟩), none⟩,
          ⟨some ⟨.d0, .d1, .d0⟩, .move (.t ⟨.d0, .d5, .d6⟩), none⟩]))))))
      (.region [⟨some ⟨.d0, .d5, .d7⟩, .bin .add (.t ⟨.d0, .d3, .d1⟩) (.c (.int .i64 1)), none⟩,
        ⟨some ⟨.d0, .d3, .d1⟩, .move (.t ⟨.d0, .d5, .d7⟩), none⟩])))))))
  (.seq (.region [⟨some ⟨.d0, .d6, .d0⟩, .load true 4 (.t ⟨.d0, .d0, .d2⟩), none⟩,
    ⟨some ⟨.d0, .d6, .d1⟩, .move (.t ⟨.d0, .d1, .d0⟩), none⟩,
    ⟨none, .store 4 (.t ⟨.d0, .d0, .d4⟩) (.t ⟨.d0, .d6, .d0⟩), none⟩,
    ⟨some ⟨.d0, .d0, .d5⟩, .move (.t ⟨.d0, .d6, .d1⟩), none⟩,
    ⟨some ⟨.d0, .d0, .d6⟩, .move (.c (.int .i64 0)), none⟩])
  (.ret))))))
def r_custref_BucketRun : List XR := [.cell ⟨.d0, .d0, .d4⟩ true 4, .tmp ⟨.d0, .d0, .d5⟩, .tmp ⟨.d0, .d0, .d6⟩]
theorem ok_custref_BucketRun : okC Try.prog Try.f12.ntmps (bodyOf Try.f12) x_custref_BucketRun = true := by kernel_rfl
theorem okr_custref_BucketRun : okRs Try.prog Try.f12.results.toList r_custref_BucketRun = true := by kernel_rfl

/-- bucket.Level -/
def x_bucket_Level : XC :=
  .seq (.region [⟨some ⟨.d0, .d0, .d2⟩, .box 0 4 (.t ⟨.d0, .d0, .d0⟩), none⟩,
    ⟨some ⟨.d0, .d0, .d4⟩, .move (.c (.int .i64 0)), none⟩,
    ⟨some ⟨.d0, .d0, .d5⟩, .move (.c (.int .i64 0)), none⟩])
  (.seq (.seq (.region [⟨some ⟨.d0, .d0, .d7⟩, .load true 4 (.t ⟨.d0, .d0, .d2⟩), none⟩,
    ⟨some ⟨.d0, .d1, .d0⟩, .call 17 [(.t ⟨.d0, .d0, .d7⟩)], none⟩,
    ⟨some ⟨.d0, .d0, .d6⟩, .move (.t ⟨.d0, .d1, .d0⟩), none⟩])
  (.seq (.region [⟨some ⟨.d0, .d1, .d1⟩, .move (.t ⟨.d0, .d0, .d6⟩), none⟩,
    ⟨some ⟨.d0, .d1, .d2⟩, .bin .neq (.t ⟨.d0, .d1, .d1⟩) (.c (.int .i64 0)), none⟩])
  (.cond (.t ⟨.d0, .d1, .d2⟩)
    (.seq (.region [⟨some ⟨.d0, .d1, .d3⟩, .move (.t ⟨.d0, .d0, .d6⟩), none⟩,
      ⟨some ⟨.d0, .d0, .d4⟩, .move (.c (.int .i64 0)), none⟩,
      ⟨some ⟨.d0, .d0, .d5⟩, .move (.t ⟨.d0, .d1, .d3⟩), none⟩])
    (.ret))
    (.skip))))
  (.seq (.seq (.region [⟨some ⟨.d0, .d1, .d4⟩, .move (.t ⟨.d0, .d0, .d1⟩), none⟩,
    ⟨some ⟨.d0, .d1, .d5⟩, .fieldAddr 3 (.t ⟨.d0, .d0, .d2⟩), none⟩,
    ⟨some ⟨.d0, .d1, .d6⟩, .load false 1 (.t ⟨.d0, .d1, .d5⟩), none⟩,
    ⟨some ⟨.d0, .d1, .d7⟩, .bin .lss (.t ⟨.d0, .d1, .d4⟩) (.t ⟨.d0, .d1, .d6⟩), none⟩,
    ⟨some ⟨.d0, .d2, .d0⟩, .move (.t ⟨.d0, .d1, .d7⟩), none⟩,
    ⟨some ⟨.d0, .d2, .d1⟩, .move (.t ⟨.d0, .d0, .d1⟩), some (⟨.d0, .d2, .d0⟩, false)⟩,
    ⟨some ⟨.d0, .d2, .d2⟩, .bin .gtr (.t ⟨.d0, .d2, .d1⟩) (.c (.int .i64 1099511627776)), some (⟨.d0, .d2, .d0⟩, false)⟩,
    ⟨some ⟨.d0, .d2, .d3⟩, .pick (.t ⟨.d0, .d2, .d0⟩) (.c (.bool true)) (.t ⟨.d0, .d2, .d2⟩), none⟩])
  (.cond (.t ⟨.d0, .d2, .d3⟩)
    (.seq (.region [⟨some ⟨.d0, .d0, .d4⟩, .move (.c (.int .i64 0)), none⟩,
      ⟨some ⟨.d0, .d0, .d5⟩, .move (.c (.int .i64 1)), none⟩])
    (.ret))
    (.skip)))
  (.seq (.region [⟨some ⟨.d0, .d2, .d4⟩, .load true 4 (.t ⟨.d0, .d0, .d2⟩), none⟩,
    ⟨some ⟨.d0, .d2, .d5⟩, .move (.t ⟨.d0, .d0, .d1⟩), none⟩,
    ⟨some ⟨.d0, .d2, .d6⟩, .call 44 [(.t ⟨.d0, .d2, .d4⟩), (.t ⟨.d0, .d2, .d5⟩)], none⟩,
    ⟨some ⟨.d0, .d0, .d4⟩, .move (.t ⟨.d0, .d2, .d6⟩), none⟩,
    ⟨some ⟨.d0, .d0, .d5⟩, .move (.c (.int .i64 0)), none⟩])
  (.ret))))
def r_bucket_Level : List XR := [.tmp ⟨.d0, .d0, .d4⟩, .tmp ⟨.d0, .d0, .d5⟩]
theorem ok_bucket_Level : okC Try.prog Try.f13.ntmps (bodyOf Try.f13) x_bucket_Level = true := by kernel_rfl
theorem okr_bucket_Level : okRs Try.prog Try.f13.results.toList r_bucket_Level = true := by kernel_rfl

/-- custref.BucketRight -/
def x_custref_BucketRight : XC :=
  .seq (.region [⟨some ⟨.d0, .d0, .d1⟩, .box 0 4 (.t ⟨.d0, .d0, .d0⟩), none⟩,
    ⟨some ⟨.d0, .d0, .d2⟩, .move (.c (.int .i64 0)), none⟩])
  (.seq (.seq (.region [⟨some ⟨.d0, .d0, .d3⟩, .fieldAddr 0 (.t ⟨.d0, .d0, .d1⟩), none⟩,
    ⟨some ⟨.d0, .d0, .d4⟩, .load false 1 (.t ⟨.d0, .d0, .d3⟩), none⟩,
    ⟨some ⟨.d0, .d0, .d5⟩, .call 15 [(.t ⟨.d0, .d0, .d4⟩), (.c (.int .i64 0)), (.c (.int .i64 1000000))], none⟩,
    ⟨some ⟨.d0, .d0, .d6⟩, .un .not (.t ⟨.d0, .d0, .d5⟩), none⟩,
    ⟨some ⟨.d0, .d0, .d7⟩, .move (.t ⟨.d0, .d0, .d6⟩), none⟩,
    ⟨some ⟨.d0, .d1, .d0⟩, .fieldAddr 1 (.t ⟨.d0, .d0, .d1⟩), some (⟨.d0, .d0, .d7⟩, false)⟩,
    ⟨some ⟨.d0, .d1, .d1⟩, .load false 1 (.t ⟨.d0, .d1, .d0⟩), some (⟨.d0, .d0, .d7⟩, false)⟩,
    ⟨some ⟨.d0, .d1, .d2⟩, .call 15 [(.t ⟨.d0, .d1, .d1⟩), (.c (.int .i64 1)), (.c (.int .i64 1000000000))], some (⟨.d0, .d0, .d7⟩, false)⟩,
    ⟨some ⟨.d0, .d1, .d3⟩, .un .not (.t ⟨.d0, .d1, .d2⟩), some (⟨.d0, .d0, .d7⟩, false)⟩,
    ⟨some ⟨.d0, .d1, .d4⟩, .pick (.t ⟨.d0, .d0, .d7⟩) (.c (.bool true)) (.t ⟨.d0, .d1, .d3⟩), none⟩])
  (.cond (.t ⟨.d0, .d1, .d4⟩)
    (.seq (.region [⟨some ⟨.d0, .d0, .d2⟩, .move (.c (.int .i64 1)), none⟩])
    (.ret))
    (.skip)))
  (.seq (.seq (.region [⟨some ⟨.d0, .d1, .d5⟩, .fieldAddr 2 (.t ⟨.d0, .d0, .d1⟩), none⟩,
    ⟨some ⟨.d0, .d1, .d6⟩, .load false 1 (.t ⟨.d0, .d1, .d5⟩), none⟩,
    ⟨some ⟨.d0, .d1, .d7⟩, .fieldAddr 1 (.t ⟨.d0, .d0, .d1⟩), none⟩,
    ⟨some ⟨.d0, .d2, .d0⟩, .load false 1 (.t ⟨.d0, .d1, .d7⟩), none⟩,
    ⟨some ⟨.d0, .d2, .d1⟩, .call 15 [(.t ⟨.d0, .d1, .d6⟩), (.c (.int .i64 0)), (.t ⟨.d0, .d2, .d0⟩)], none⟩,
    ⟨some ⟨.d0, .d2, .d2⟩, .un .not (.t ⟨.d0, .d2, .d1⟩), none⟩,
    ⟨some ⟨.d0, .d2, .d3⟩, .move (.t ⟨.d0, .d2, .d2⟩), none⟩,
    ⟨some ⟨.d0, .d2, .d4⟩, .fieldAddr 3 (.t ⟨.d0, .d0, .d1⟩), some (⟨.d0, .d2, .d3⟩, false)⟩,
    ⟨some ⟨.d0, .d2, .d5⟩, .load false 1 (.t ⟨.d0, .d2, .d4⟩), some (⟨.d0, .d2, .d3⟩, false)⟩,
    ⟨some ⟨.d0, .d2, .d6⟩, .call 15 [(.t ⟨.d0, .d2, .d5⟩), (.c (.int .i64 0)), (.c (.int .i64 1099511627776))], some (⟨.d0, .d2, .d3⟩, false)⟩,
    ⟨some ⟨.d0, .d2, .d7⟩, .un .not (.t ⟨.d0, .d2, .d6⟩), some (⟨.d0, .d2, .d3⟩, false)⟩,
    ⟨some ⟨.d0, .d3, .d0⟩, .pick (.t ⟨.d0, .d2, .d3⟩) (.c (.bool true)) (.t ⟨.d0, .d2, .d7⟩), none⟩])
  (.cond (.t ⟨.d0, .d3, .d0⟩)
    (.seq (.region [⟨some ⟨.d0, .d0, .d2⟩, .move (.c (.int .i64 4)), none⟩])
    (.ret))
    (.skip)))
  (.seq (.region [⟨some ⟨.d0, .d0, .d2⟩, .move (.c (.int .i64 0)), none⟩])
  (.ret))))
def r_custref_BucketRight : List XR := [.tmp ⟨.d0, .d0, .d2⟩]
theorem ok_custref_BucketRight : okC Try.prog Try.f14.ntmps (bodyOf Try.f14) x_custref_BucketRight = true := by kernel_rfl
theorem okr_custref_BucketRight : okRs Try.prog Try.f14.results.toList r_custref_BucketRight = true := by kernel_rfl

/-- custref.Between -/
def x_custref_Between : XC :=
  .seq (.region [⟨some ⟨.d0, .d0, .d6⟩, .move (.c (.bool false)), none⟩])
  (.seq (.region [⟨some ⟨.d0, .d0, .d7⟩, .move (.t ⟨.d0, .d0, .d1⟩), none⟩,
    ⟨some ⟨.d0, .d1, .d0⟩, .move (.t ⟨.d0, .d0, .d0⟩), none⟩,
    ⟨some ⟨.d0, .d1, .d1⟩, .bin .leq (.t ⟨.d0, .d0, .d7⟩) (.t ⟨.d0, .d1, .d0⟩), none⟩,
    ⟨some ⟨.d0, .d1, .d2⟩, .move (.t ⟨.d0, .d1, .d1⟩), none⟩,
    ⟨some ⟨.d0, .d1, .d3⟩, .move (.t ⟨.d0, .d0, .d0⟩), some (⟨.d0, .d1, .d2⟩, true)⟩,
    ⟨some ⟨.d0, .d1, .d4⟩, .move (.t ⟨.d0, .d0, .d2⟩), some (⟨.d0, .d1, .d2⟩, true)⟩,
    ⟨some ⟨.d0, .d1, .d5⟩, .bin .leq (.t ⟨.d0, .d1, .d3⟩) (.t ⟨.d0, .d1, .d4⟩), some (⟨.d0, .d1, .d2⟩, true)⟩,
    ⟨some ⟨.d0, .d1, .d6⟩, .pick (.t ⟨.d0, .d1, .d2⟩) (.t ⟨.d0, .d1, .d5⟩) (.c (.bool false)), none⟩,
    ⟨some ⟨.d0, .d0, .d6⟩, .move (.t ⟨.d0, .d1, .d6⟩), none⟩])
  (.ret))
def r_custref_Between : List XR := [.tmp ⟨.d0, .d0, .d6⟩]
theorem ok_custref_Between : okC Try.prog Try.f15.ntmps (bodyOf Try.f15) x_custref_Between = true := by kernel_rfl
theorem okr_custref_Between : okRs Try.prog Try.f15.results.toList r_custref_Between = true := by kernel_rfl

/-- custref.Filled -/
def x_custref_Filled : XC :=
  .seq (.region [⟨some ⟨.d0, .d0, .d2⟩, .box 0 4 (.t ⟨.d0, .d0, .d0⟩), none⟩,
    ⟨some ⟨.d0, .d0, .d4⟩, .move (.c (.int .i64 0)), none⟩])
  (.seq (.region [⟨some ⟨.d0, .d0, .d6⟩, .fieldAddr 1 (.t ⟨.d0, .d0, .d2⟩), none⟩,
    ⟨some ⟨.d0, .d0, .d7⟩, .load false 1 (.t ⟨.d0, .d0, .d6⟩), none⟩,
    ⟨some ⟨.d0, .d1, .d0⟩, .fieldAddr 2 (.t ⟨.d0, .d0, .d2⟩), none⟩,
    ⟨some ⟨.d0, .d1, .d1⟩, .load false 1 (.t ⟨.d0, .d1, .d0⟩), none⟩,
    ⟨some ⟨.d0, .d1, .d2⟩, .bin .sub (.t ⟨.d0, .d0, .d7⟩) (.t ⟨.d0, .d1, .d1⟩), none⟩,
    ⟨some ⟨.d0, .d0, .d5⟩, .move (.t ⟨.d0, .d1, .d2⟩), none⟩])
  (.seq (.seq (.regionD [0, 1, 3, 7, 15, 15, 47, 127, 15, 15, 527, 1807, 3855, 15, 8207, 32527, 65535, 131071] [⟨some ⟨.d0, .d1, .d3⟩, .fieldAddr 0 (.t ⟨.d0, .d0, .d2⟩), none⟩,
    ⟨some ⟨.d0, .d1, .d4⟩, .load false 1 (.t ⟨.d0, .d1, .d3⟩), none⟩,
    ⟨some ⟨.d0, .d1, .d5⟩, .bin .gtr (.t ⟨.d0, .d1, .d4⟩) (.c (.int .i64 0)), none⟩,
    ⟨some ⟨.d0, .d1, .d6⟩, .move (.t ⟨.d0, .d1, .d5⟩), none⟩,
    ⟨some ⟨.d0, .d1, .d7⟩, .move (.t ⟨.d0, .d0, .d1⟩), some (⟨.d0, .d1, .d6⟩, true)⟩,
    ⟨some ⟨.d0, .d2, .d0⟩, .fieldAddr 3 (.t ⟨.d0, .d0, .d2⟩), some (⟨.d0, .d1, .d6⟩, true)⟩,
    ⟨some ⟨.d0, .d2, .d1⟩, .load false 1 (.t ⟨.d0, .d2, .d0⟩), some (⟨.d0, .d1, .d6⟩, true)⟩,
    ⟨some ⟨.d0, .d2, .d2⟩, .bin .sub (.t ⟨.d0, .d1, .d7⟩) (.t ⟨.d0, .d2, .d1⟩), some (⟨.d0, .d1, .d6⟩, true)⟩,
    ⟨some ⟨.d0, .d2, .d3⟩, .move (.t ⟨.d0, .d0, .d5⟩), some (⟨.d0, .d1, .d6⟩, true)⟩,
    ⟨some ⟨.d0, .d2, .d4⟩, .fieldAddr 0 (.t ⟨.d0, .d0, .d2⟩), some (⟨.d0, .d1, .d6⟩, true)⟩,
    ⟨some ⟨.d0, .d2, .d5⟩, .load false 1 (.t ⟨.d0, .d2, .d4⟩), some (⟨.d0, .d1, .d6⟩, true)⟩,
    ⟨some ⟨.d0, .d2, .d6⟩, .bin .add (.t ⟨.d0, .d2, .d3⟩) (.t ⟨.d0, .d2, .d5⟩), some (⟨.d0, .d1, .d6⟩, true)⟩,
    ⟨some ⟨.d0, .d2, .d7⟩, .bin .sub (.t ⟨.d0, .d2, .d6⟩) (.c (.int .i64 1)), some (⟨.d0, .d1, .d6⟩, true)⟩,
    ⟨some ⟨.d0, .d3, .d0⟩, .fieldAddr 0 (.t ⟨.d0, .d0, .d2⟩), some (⟨.d0, .d1, .d6⟩, true)⟩,
    ⟨some ⟨.d0, .d3, .d1⟩, .load false 1 (.t ⟨.d0, .d3, .d0⟩), some (⟨.d0, .d1, .d6⟩, true)⟩,
    ⟨some ⟨.d0, .d3, .d2⟩, .bin .quo (.t ⟨.d0, .d2, .d7⟩) (.t ⟨.d0, .d3, .d1⟩), some (⟨.d0, .d1, .d6⟩, true)⟩,
    ⟨some ⟨.d0, .d3, .d3⟩, .bin .geq (.t ⟨.d0, .d2, .d2⟩) (.t ⟨.d0, .d3, .d2⟩), some (⟨.d0, .d1, .d6⟩, true)⟩,
    ⟨some ⟨.d0, .d3, .d4⟩, .pick (.t ⟨.d0, .d1, .d6⟩) (.t ⟨.d0, .d3, .d3⟩) (.c (.bool false)), none⟩])
  (.cond (.t ⟨.d0, .d3, .d4⟩)
    (.seq (.region [⟨some ⟨.d0, .d3, .d5⟩, .fieldAddr 1 (.t ⟨.d0, .d0, .d2⟩), none⟩,
      ⟨some ⟨.d0, .d3, .d6⟩, .load false 1 (.t ⟨.d0, .d3, .d5⟩), none⟩,
      ⟨some ⟨.d0, .d0, .d4⟩, .move (.t ⟨.d0, .d3, .d6⟩), none⟩])
    (.ret))
    (.skip)))
  (.seq (.region [⟨some ⟨.d0, .d3, .d7⟩, .fieldAddr 2 (.t ⟨.d0, .d0, .d2⟩), none⟩,
    ⟨some ⟨.d0, .d4, .d0⟩, .load false 1 (.t ⟨.d0, .d3, .d7⟩), none⟩,
    ⟨some ⟨.d0, .d4, .d1⟩, .fieldAddr 0 (.t ⟨.d0, .d0, .d2⟩), none⟩,
    ⟨some ⟨.d0, .d4, .d2⟩, .load false 1 (.t ⟨.d0, .d4, .d1⟩), none⟩,
    ⟨some ⟨.d0, .d4, .d3⟩, .move (.t ⟨.d0, .d0, .d1⟩), none⟩,
    ⟨some ⟨.d0, .d4, .d4⟩, .fieldAddr 3 (.t ⟨.d0, .d0, .d2⟩), none⟩,
    ⟨some ⟨.d0, .d4, .d5⟩, .load false 1 (.t ⟨.d0, .d4, .d4⟩), none⟩,
    ⟨some ⟨.d0, .d4, .d6⟩, .bin .sub (.t ⟨.d0, .d4, .d3⟩) (.t ⟨.d0, .d4, .d5⟩), none⟩,
    ⟨some ⟨.d0, .d4, .d7⟩, .bin .mul (.t ⟨.d0, .d4, .d2⟩) (.t ⟨.d0, .d4, .d6⟩), none⟩,
    ⟨some ⟨.d0, .d5, .d0⟩, .bin .add (.t ⟨.d0, .d4, .d0⟩) (.t ⟨.d0, .d4, .d7⟩), none⟩,
    ⟨some ⟨.d0, .d0, .d4⟩, .move (.t ⟨.d0, .d5, .d0⟩), none⟩])
  (.ret))))
def r_custref_Filled : List XR := [.tmp ⟨.d0, .d0, .d4⟩]
theorem ok_custref_Filled : okC Try.prog Try.f16.ntmps (bodyOf Try.f16) x_custref_Filled = true := by kernel_rfl
theorem okr_custref_Filled : okRs Try.prog Try.f16.results.toList r_custref_Filled = true := by kernel_rfl

/-- bucket.Check -/
def x_bucket_Check : XC :=
  .seq (.region [⟨some ⟨.d0, .d0, .d1⟩, .box 0 4 (.t ⟨.d0, .d0, .d0⟩), none⟩,
    ⟨some ⟨.d0, .d0, .d2⟩, .move (.c (.int .i64 0)), none⟩])
  (.seq (.seq (.region [⟨some ⟨.d0, .d0, .d3⟩, .fieldAddr 0 (.t ⟨.d0, .d0, .d1⟩), none⟩,
    ⟨some ⟨.d0, .d0, .d4⟩, .load false 1 (.t ⟨.d0, .d0, .d3⟩), none⟩,
    ⟨some ⟨.d0, .d0, .d5⟩, .bin .lss (.t ⟨.d0, .d0, .d4⟩) (.c (.int .i64 0)), none⟩,
    ⟨some ⟨.d0, .d0, .d6⟩, .move (.t ⟨.d0, .d0, .d5⟩), none⟩,
    ⟨some ⟨.d0, .d0, .d7⟩, .fieldAddr 0 (.t ⟨.d0, .d0, .d1⟩), some (⟨.d0, .d0, .d6⟩, false)⟩,
    ⟨some ⟨.d0, .d1, .d0⟩, .load false 1 (.t ⟨.d0, .d0, .d7⟩), some (⟨.d0, .d0, .d6⟩, false)⟩,
    ⟨some ⟨.d0, .d1, .d1⟩, .bin .gtr (.t ⟨.d0, .d1, .d0⟩) (.c (.int .i64 1000000)), some (⟨.d0, .d0, .d6⟩, false)⟩,
    ⟨some ⟨.d0, .d1, .d2⟩, .pick (.t ⟨.d0, .d0, .d6⟩) (.c (.bool true)) (.t ⟨.d0, .d1, .d1⟩), none⟩,
    ⟨some ⟨.d0, .d1, .d3⟩, .move (.t ⟨.d0, .d1, .d2⟩), none⟩,
    ⟨some ⟨.d0, .d1, .d4⟩, .fieldAddr 1 (.t ⟨.d0, .d0, .d1⟩), some (⟨.d0, .d1, .d3⟩, false)⟩,
    ⟨some ⟨.d0, .d1, .d5⟩, .load false 1 (.t ⟨.d0, .d1, .d4⟩), some (⟨.d0, .d1, .d3⟩, false)⟩,
    ⟨some ⟨.d0, .d1, .d6⟩, .bin .lss (.t ⟨.d0, .d1, .d5⟩) (.c (.int .i64 1)), some (⟨.d0, .d1, .d3⟩, false)⟩,
    ⟨some ⟨.d0, .d1, .d7⟩, .pick (.t ⟨.d0, .d1, .d3⟩) (.c (.bool true)) (.t ⟨.d0, .d1, .d6⟩), none⟩,
    ⟨some ⟨.d0, .d2, .d0⟩, .move (.t ⟨.d0, .d1, .d7⟩), none⟩,
    ⟨some ⟨.d0, .d2, .d1⟩, .fieldAddr 1 (.t ⟨.d0, .d0, .d1⟩), some (⟨.d0, .d2, .d0⟩, false)⟩,
    ⟨some ⟨.d0, .d2, .d2⟩, .load false 1 (.t ⟨.d0, .d2, .d1⟩), some (⟨.d0, .d2, .d0⟩, false)⟩,
    ⟨some ⟨.d0, .d2, .d3⟩, .bin .gtr (.t ⟨.d0, .d2, .d2⟩) (.c (.int .i64 1000000000)), some (⟨.d0, .d2, .d0⟩, false)⟩,
    ⟨some ⟨.d0, .d2, .d4⟩, .pick (.t ⟨.d0, .d2, .d0⟩) (.c (.bool true)) (.t ⟨.d0, .d2, .d3⟩), none⟩])
  (.cond (.t ⟨.d0, .d2, .d4⟩)
    (.seq (.region [⟨some ⟨.d0, .d0, .d2⟩, .move (.c (.int .i64 1)), none⟩])
    (.ret))
    (.skip)))
  (.seq (.seq (.region [⟨some ⟨.d0, .d2, .d5⟩, .fieldAddr 2 (.t ⟨.d0, .d0, .d1⟩), none⟩,
    ⟨some ⟨.d0, .d2, .d6⟩, .load false 1 (.t ⟨.d0, .d2, .d5⟩), none⟩,
    ⟨some ⟨.d0, .d2, .d7⟩, .bin .lss (.t ⟨.d0, .d2, .d6⟩) (.c (.int .i64 0)), none⟩,
    ⟨some ⟨.d0, .d3, .d0⟩, .move (.t ⟨.d0, .d2, .d7⟩), none⟩,
    ⟨some ⟨.d0, .d3, .d1⟩, .fieldAddr 2 (.t ⟨.d0, .d0, .d1⟩), some (⟨.d0, .d3, .d0⟩, false)⟩,
    ⟨some ⟨.d0, .d3, .d2⟩, .load false 1 (.t ⟨.d0, .d3, .d1⟩), some (⟨.d0, .d3, .d0⟩, false)⟩,
    ⟨some ⟨.d0, .d3, .d3⟩, .fieldAddr 1 (.t ⟨.d0, .d0, .d1⟩), some (⟨.d0, .d3, .d0⟩, false)⟩,
    ⟨some ⟨.d0, .d3, .d4⟩, .load false 1 (.t ⟨.d0, .d3, .d3⟩), some (⟨.d0, .d3, .d0⟩, false)⟩,
    ⟨some ⟨.d0, .d3, .d5⟩, .bin .gtr (.t ⟨.d0, .d3, .d2⟩) (.t ⟨.d0, .d3, .d4⟩), some (⟨.d0, .d3, .d0⟩, false)⟩,
    ⟨some ⟨.d0, .d3, .d6⟩, .pick (.t ⟨.d0, .d3, .d0⟩) (.c (.bool true)) (.t ⟨.d0, .d3, .d5⟩), none⟩,
    ⟨some ⟨.d0, .d3, .d7⟩, .move (.t ⟨.d0, .d3, .d6⟩), none⟩,
    ⟨some ⟨.d0, .d4, .d0⟩, .fieldAddr 3 (.t ⟨.d0, .d0, .d1⟩), some (⟨.d0, .d3, .d7⟩, false)⟩,
    ⟨some ⟨.d0, .d4, .d1⟩, .load false 1 (.t ⟨.d0, .d4, .d0⟩), some (⟨.d0, .d3, .d7⟩, false)⟩,
    ⟨some ⟨.d0, .d4, .d2⟩, .bin .lss (.t ⟨.d0, .d4, .d1⟩) (.c (.int .i64 0)), some (⟨.d0, .d3, .d7⟩, false)⟩,
    ⟨some ⟨.d0, .d4, .d3⟩, .pick (.t ⟨.d0, .d3, .d7⟩) (.c (.bool true)) (.t ⟨.d0, .d4, .d2⟩), none⟩,
    ⟨some ⟨.d0, .d4, .d4⟩, .move (.t ⟨.d0, .d4, .d3⟩), none⟩,
    ⟨some ⟨.d0, .d4, .d5⟩, .fieldAddr 3 (.t ⟨.d0, .d0, .d1⟩), some (⟨.d0, .d4, .d4⟩, false)⟩,
    ⟨some ⟨.d0, .d4, .d6⟩, .load false 1 (.t ⟨.d0, .d4, .d5⟩), some (⟨.d0, .d4, .d4⟩, false)⟩,
    ⟨some ⟨.d0, .d4, .d7⟩, .bin .gtr (.t ⟨.d0, .d4, .d6⟩) (.c (.int .i64 1099511627776)), some (⟨.d0, .d4, .d4⟩, false)⟩,
    ⟨some ⟨.d0, .d5, .d0⟩, .pick (.t ⟨.d0, .d4, .d4⟩) (.c (.bool true)) (.t ⟨.d0, .d4, .d7⟩), none⟩])
  (.cond (.t ⟨.d0, .d5, .d0⟩)
    (.seq (.region [⟨some ⟨.d0, .d0, .d2⟩, .move (.c (.int .i64 4)), none⟩])
    (.ret))
    (.skip)))
  (.seq (.region [⟨some ⟨.d0, .d0, .d2⟩, .move (.c (.int .i64 0)), none⟩])
  (.ret))))
def r_bucket_Check : List XR := [.tmp ⟨.d0, .d0, .d2⟩]
theorem ok_bucket_Check : okC Try.prog Try.f17.ntmps (bodyOf Try.f17) x_bucket_Check = true := by kernel_rfl
theorem okr_bucket_Check : okRs Try.prog Try.f17.results.toList r_bucket_Check = true := by kernel_rfl

/-- slices.Equal -/
def x_slices_Equal : XC :=
  .seq (.region [⟨some ⟨.d0, .d0, .d4⟩, .move (.c (.bool false)), none⟩])
  (.seq (.seq (.region [⟨some ⟨.d0, .d0, .d6⟩, .move (.t ⟨.d0, .d0, .d0⟩), none⟩,
    ⟨some ⟨.d0, .d0, .d7⟩, .len (.t ⟨.d0, .d0, .d6⟩), none⟩,
    ⟨some ⟨.d0, .d1, .d0⟩, .move (.t ⟨.d0, .d0, .d1⟩), none⟩,
    ⟨some ⟨.d0, .d1, .d1⟩, .len (.t ⟨.d0, .d1, .d0⟩), none⟩,
    ⟨some ⟨.d0, .d1, .d2⟩, .bin .neq (.t ⟨.d0, .d0, .d7⟩) (.t ⟨.d0, .d1, .d1⟩), none⟩])
  (.cond (.t ⟨.d0, .d1, .d2⟩)
    (.seq (.region [⟨some ⟨.d0, .d0, .d4⟩, .move (.c (.bool false)), none⟩])
    (.ret))
    (.skip)))
  (.seq (.seq (.region [⟨some ⟨.d0, .d1, .d3⟩, .move (.t ⟨.d0, .d0, .d0⟩), none⟩,
    ⟨some ⟨.d0, .d1, .d4⟩, .len (.t ⟨.d0, .d1, .d3⟩), none⟩,
    ⟨some ⟨.d0, .d1, .d5⟩, .move (.c (.int .i64 0)), none⟩])
  (.block 0
    (.loop
      (.seq (.region [⟨some ⟨.d0, .d1, .d6⟩, .bin .lss (.t ⟨.d0, .d1, .d5⟩) (.t ⟨.d0, .d1, .d4⟩), none⟩])
      (.seq (.cond (.t ⟨.d0, .d1, .d6⟩)
        (.skip)
        (.exit 0))
      (.seq (.block 1
        (.seq (.region [⟨some ⟨.d0, .d1, .d7⟩, .move (.t ⟨.d0, .d1, .d5⟩), none⟩,
          ⟨some ⟨.d0, .d0, .d5⟩, .move (.t ⟨.d0, .d1, .d7⟩), none⟩])
        (.seq (.regionD [0, 0, 3, 7, 0, 0, 48, 112, 255] [⟨some ⟨.d0, .d2, .d0⟩, .move (.t ⟨.d0, .d0, .d0⟩), none⟩,
          ⟨some ⟨.d0, .d2, .d1⟩, .move (.t ⟨.d0, .d0, .d5⟩), none⟩,
          ⟨some ⟨.d0, .d2, .d2⟩, .indexSl 1 (.t ⟨.d0, .d2, .d0⟩) (.t ⟨.d0, .d2, .d1⟩), none⟩,
          ⟨some ⟨.d0, .d2, .d3⟩, .load false 1 (.t ⟨.d0, .d2, .d2⟩), none⟩,
          ⟨some ⟨.d0, .d2, .d4⟩, .move (.t ⟨.d0, .d0, .d1⟩), none⟩,
          ⟨some ⟨.d0, .d2, .d5⟩, .move (.t ⟨.d0, .d0, .d5⟩), none⟩,
          ⟨some ⟨.d0, .d2, .d6⟩, .indexSl 1 (.t ⟨.d0, .d2, .d4⟩) (.t ⟨.d0, .d2, .d5⟩), none⟩,
          ⟨some ⟨.d0, .d2, .d7⟩, .load false 1 (.t ⟨.d0, .d2, .d6⟩), none⟩,
          ⟨some ⟨.d0, .d3, .d0⟩, .eqb true (.t ⟨.d0, .d2, .d3⟩) (.t ⟨.d0, .d2, .d7⟩), none⟩])
        (.cond (.t ⟨.d0, .d3, .d0⟩)
          (.seq (.region [⟨some ⟨.d0, .d0, .d4⟩, .move (.c (.bool false)), none⟩])
          (.ret))
          (.skip)))))
      (.region [⟨some ⟨.d0, .d3, .d1⟩, .bin .add (.t ⟨.d0, .d1, .d5⟩) (.c (.int .i64 1)), none⟩,
        ⟨some ⟨.d0, .d1, .d5⟩, .move (.t ⟨.d0, .d3, .d1⟩), none⟩])))))))
  (.seq (.region [⟨some ⟨.d0, .d0, .d4⟩, .move (.c (.bool true)), none⟩])
  (.ret))))
def r_slices_Equal : List XR := [.tmp ⟨.d0, .d0, .d4⟩]
theorem ok_slices_Equal : okC Try.prog Try.f18.ntmps (bodyOf Try.f18) x_slices_Equal = true := by kernel_rfl
theorem okr_slices_Equal : okRs Try.prog Try.f18.results.toList r_slices_Equal = true := by kernel_rfl

/-- bucket.level -/
def x_bucket_level : XC :=
  .seq (.region [⟨some ⟨.d0, .d0, .d2⟩, .box 0 4 (.t ⟨.d0, .d0, .d0⟩), none⟩,
    ⟨some ⟨.d0, .d0, .d4⟩, .move (.c (.int .i64 0)), none⟩])
  (.seq (.region [⟨some ⟨.d0, .d0, .d6⟩, .move (.t ⟨.d0, .d0, .d1⟩), none⟩,
    ⟨some ⟨.d0, .d0, .d7⟩, .fieldAddr 3 (.t ⟨.d0, .d0, .d2⟩), none⟩,
    ⟨some ⟨.d0, .d1, .d0⟩, .load false 1 (.t ⟨.d0, .d0, .d7⟩), none⟩,
    ⟨some ⟨.d0, .d1, .d1⟩, .bin .sub (.t ⟨.d0, .d0, .d6⟩) (.t ⟨.d0, .d1, .d0⟩), none⟩,
    ⟨some ⟨.d0, .d1, .d2⟩, .minI (.t ⟨.d0, .d1, .d1⟩) (.c (.int .i64 1000000000)), none⟩,
    ⟨some ⟨.d0, .d0, .d5⟩, .move (.t ⟨.d0, .d1, .d2⟩), none⟩])
  (.seq (.region [⟨some ⟨.d0, .d1, .d3⟩, .fieldAddr 1 (.t ⟨.d0, .d0, .d2⟩), none⟩,
    ⟨some ⟨.d0, .d1, .d4⟩, .load false 1 (.t ⟨.d0, .d1, .d3⟩), none⟩,
    ⟨some ⟨.d0, .d1, .d5⟩, .fieldAddr 2 (.t ⟨.d0, .d0, .d2⟩), none⟩,
    ⟨some ⟨.d0, .d1, .d6⟩, .load false 1 (.t ⟨.d0, .d1, .d5⟩), none⟩,
    ⟨some ⟨.d0, .d1, .d7⟩, .fieldAddr 0 (.t ⟨.d0, .d0, .d2⟩), none⟩,
    ⟨some ⟨.d0, .d2, .d0⟩, .load false 1 (.t ⟨.d0, .d1, .d7⟩), none⟩,
    ⟨some ⟨.d0, .d2, .d1⟩, .move (.t ⟨.d0, .d0, .d5⟩), none⟩,
    ⟨some ⟨.d0, .d2, .d2⟩, .bin .mul (.t ⟨.d0, .d2, .d0⟩) (.t ⟨.d0, .d2, .d1⟩), none⟩,
    ⟨some ⟨.d0, .d2, .d3⟩, .bin .add (.t ⟨.d0, .d1, .d6⟩) (.t ⟨.d0, .d2, .d2⟩), none⟩,
    ⟨some ⟨.d0, .d2, .d4⟩, .minI (.t ⟨.d0, .d1, .d4⟩) (.t ⟨.d0, .d2, .d3⟩), none⟩,
    ⟨some ⟨.d0, .d0, .d4⟩, .move (.t ⟨.d0, .d2, .d4⟩), none⟩])
  (.ret)))
def r_bucket_level : List XR := [.tmp ⟨.d0, .d0, .d4⟩]
theorem ok_bucket_level : okC Try.prog Try.f44.ntmps (bodyOf Try.f44) x_bucket_level = true := by kernel_rfl
theorem okr_bucket_level : okRs Try.prog Try.f44.results.toList r_bucket_level = true := by kernel_rfl
end Go.Proofs.Ytkpechddgjbfkaa
