/-
  The functions of the program in short form, and that the model's code is what they stand for. Printed by xgen.py.
-/
import Derived.Test.YtkpechddgjbfkaaFw
import Derived.Test.YtkpechddgjbfkaaProg
import Derived.KernelRfl
namespace Go.Proofs.Ytkpechddgjbfkaa
set_option linter.unusedVariables false
set_option maxRecDepth 100000

/-- custlaw.TurnsPut -/
def x_custlaw_TurnsPut : XC :=
  .seq (.region [⟨some ⟨.d0, .d0, .d6⟩, .move (.c (.bool false)), none⟩])
  (.seq (.region [⟨some ⟨.d0, .d1, .d6⟩, .move (.t ⟨.d0, .d0, .d0⟩), none⟩,
    ⟨some ⟨.d0, .d1, .d7⟩, .move (.t ⟨.d0, .d0, .d1⟩), none⟩,
    ⟨some ⟨.d0, .d2, .d0⟩, .move (.t ⟨.d0, .d0, .d2⟩), none⟩,
    ⟨some ⟨.d0, .d2, .d1⟩, .call 27 [(.t ⟨.d0, .d1, .d6⟩), (.t ⟨.d0, .d1, .d7⟩), (.t ⟨.d0, .d2, .d0⟩)], none⟩,
    ⟨some ⟨.d0, .d1, .d5⟩, .move (.t ⟨.d0, .d2, .d1⟩), none⟩,
    ⟨some ⟨.d0, .d2, .d2⟩, .extract 0 (.t ⟨.d0, .d1, .d5⟩), none⟩,
    ⟨some ⟨.d0, .d2, .d3⟩, .extract 1 (.t ⟨.d0, .d1, .d5⟩), none⟩,
    ⟨some ⟨.d0, .d0, .d7⟩, .move (.t ⟨.d0, .d2, .d2⟩), none⟩,
    ⟨some ⟨.d0, .d1, .d0⟩, .move (.t ⟨.d0, .d2, .d3⟩), none⟩])
  (.seq (.region [⟨some ⟨.d0, .d2, .d4⟩, .move (.t ⟨.d0, .d0, .d0⟩), none⟩,
    ⟨some ⟨.d0, .d2, .d5⟩, .call 28 [(.t ⟨.d0, .d2, .d4⟩)], none⟩,
    ⟨some ⟨.d0, .d1, .d1⟩, .move (.t ⟨.d0, .d2, .d5⟩), none⟩])
  (.seq (.seq (.region [⟨some ⟨.d0, .d2, .d6⟩, .move (.t ⟨.d0, .d1, .d1⟩), none⟩,
    ⟨some ⟨.d0, .d2, .d7⟩, .bin .eql (.t ⟨.d0, .d2, .d6⟩) (.c (.int .i64 0)), none⟩,
    ⟨some ⟨.d0, .d3, .d0⟩, .move (.t ⟨.d0, .d2, .d7⟩), none⟩,
    ⟨some ⟨.d0, .d3, .d1⟩, .move (.t ⟨.d0, .d0, .d1⟩), some (⟨.d0, .d3, .d0⟩, true)⟩,
    ⟨some ⟨.d0, .d3, .d2⟩, .move (.t ⟨.d0, .d0, .d0⟩), some (⟨.d0, .d3, .d0⟩, true)⟩,
    ⟨some ⟨.d0, .d3, .d3⟩, .len (.t ⟨.d0, .d3, .d2⟩), some (⟨.d0, .d3, .d0⟩, true)⟩,
    ⟨some ⟨.d0, .d3, .d4⟩, .bin .sub (.t ⟨.d0, .d3, .d3⟩) (.c (.int .i64 1)), some (⟨.d0, .d3, .d0⟩, true)⟩,
    ⟨some ⟨.d0, .d3, .d5⟩, .call 15 [(.t ⟨.d0, .d3, .d1⟩), (.c (.int .i64 0)), (.t ⟨.d0, .d3, .d4⟩)], some (⟨.d0, .d3, .d0⟩, true)⟩,
    ⟨some ⟨.d0, .d3, .d6⟩, .un .not (.t ⟨.d0, .d3, .d5⟩), some (⟨.d0, .d3, .d0⟩, true)⟩,
    ⟨some ⟨.d0, .d3, .d7⟩, .pick (.t ⟨.d0, .d3, .d0⟩) (.t ⟨.d0, .d3, .d6⟩) (.c (.bool false)), none⟩])
  (.cond (.t ⟨.d0, .d3, .d7⟩)
    (.region [⟨some ⟨.d0, .d1, .d1⟩, .move (.c (.int .i64 7)), none⟩])
    (.skip)))
  (.seq (.seq (.region [⟨some ⟨.d0, .d4, .d0⟩, .move (.t ⟨.d0, .d1, .d1⟩), none⟩,
    ⟨some ⟨.d0, .d4, .d1⟩, .bin .eql (.t ⟨.d0, .d4, .d0⟩) (.c (.int .i64 0)), none⟩,
    ⟨some ⟨.d0, .d4, .d2⟩, .move (.t ⟨.d0, .d4, .d1⟩), none⟩,
    ⟨some ⟨.d0, .d4, .d3⟩, .move (.t ⟨.d0, .d0, .d2⟩), some (⟨.d0, .d4, .d2⟩, true)⟩,
    ⟨some ⟨.d0, .d4, .d4⟩, .call 15 [(.t ⟨.d0, .d4, .d3⟩), (.c (.int .i64 1)), (.c (.int .i64 1000000))], some (⟨.d0, .d4, .d2⟩, true)⟩,
    ⟨some ⟨.d0, .d4, .d5⟩, .un .not (.t ⟨.d0, .d4, .d4⟩), some (⟨.d0, .d4, .d2⟩, true)⟩,
    ⟨some ⟨.d0, .d4, .d6⟩, .pick (.t ⟨.d0, .d4, .d2⟩) (.t ⟨.d0, .d4, .d5⟩) (.c (.bool false)), none⟩])
  (.cond (.t ⟨.d0, .d4, .d6⟩)
    (.region [⟨some ⟨.d0, .d1, .d1⟩, .move (.c (.int .i64 1)), none⟩])
    (.skip)))
  (.seq (.seq (.region [⟨some ⟨.d0, .d4, .d7⟩, .move (.t ⟨.d0, .d1, .d1⟩), none⟩,
    ⟨some ⟨.d0, .d5, .d0⟩, .bin .eql (.t ⟨.d0, .d4, .d7⟩) (.c (.int .i64 0)), none⟩,
    ⟨some ⟨.d0, .d5, .d1⟩, .move (.t ⟨.d0, .d5, .d0⟩), none⟩,
    ⟨some ⟨.d0, .d5, .d2⟩, .move (.t ⟨.d0, .d0, .d0⟩), some (⟨.d0, .d5, .d1⟩, true)⟩,
    ⟨some ⟨.d0, .d5, .d3⟩, .move (.t ⟨.d0, .d0, .d1⟩), some (⟨.d0, .d5, .d1⟩, true)⟩,
    ⟨some ⟨.d0, .d5, .d4⟩, .indexSl 3 (.t ⟨.d0, .d5, .d2⟩) (.t ⟨.d0, .d5, .d3⟩), some (⟨.d0, .d5, .d1⟩, true)⟩,
    ⟨some ⟨.d0, .d5, .d5⟩, .fieldAddr 2 (.t ⟨.d0, .d5, .d4⟩), some (⟨.d0, .d5, .d1⟩, true)⟩,
    ⟨some ⟨.d0, .d5, .d6⟩, .load false 1 (.t ⟨.d0, .d5, .d5⟩), some (⟨.d0, .d5, .d1⟩, true)⟩,
    ⟨some ⟨.d0, .d5, .d7⟩, .len (.t ⟨.d0, .d5, .d6⟩), some (⟨.d0, .d5, .d1⟩, true)⟩,
    ⟨some ⟨.d0, .d6, .d0⟩, .bin .geq (.t ⟨.d0, .d5, .d7⟩) (.c (.int .i64 200)), some (⟨.d0, .d5, .d1⟩, true)⟩,
    ⟨some ⟨.d0, .d6, .d1⟩, .pick (.t ⟨.d0, .d5, .d1⟩) (.t ⟨.d0, .d6, .d0⟩) (.c (.bool false)), none⟩])
  (.cond (.t ⟨.d0, .d6, .d1⟩)
    (.region [⟨some ⟨.d0, .d1, .d1⟩, .move (.c (.int .i64 6)), none⟩])
    (.skip)))
  (.seq (.seq (.region [⟨some ⟨.d0, .d6, .d2⟩, .move (.t ⟨.d0, .d1, .d1⟩), none⟩,
    ⟨some ⟨.d0, .d6, .d3⟩, .bin .neq (.t ⟨.d0, .d6, .d2⟩) (.c (.int .i64 0)), none⟩,
    ⟨some ⟨.d0, .d6, .d4⟩, .move (.t ⟨.d0, .d6, .d3⟩), none⟩,
    ⟨some ⟨.d0, .d6, .d5⟩, .move (.t ⟨.d0, .d1, .d0⟩), some (⟨.d0, .d6, .d4⟩, false)⟩,
    ⟨some ⟨.d0, .d6, .d6⟩, .move (.t ⟨.d0, .d1, .d1⟩), some (⟨.d0, .d6, .d4⟩, false)⟩,
    ⟨some ⟨.d0, .d6, .d7⟩, .bin .neq (.t ⟨.d0, .d6, .d5⟩) (.t ⟨.d0, .d6, .d6⟩), some (⟨.d0, .d6, .d4⟩, false)⟩,
    ⟨some ⟨.d0, .d7, .d0⟩, .pick (.t ⟨.d0, .d6, .d4⟩) (.c (.bool true)) (.t ⟨.d0, .d6, .d7⟩), none⟩,
    ⟨some ⟨.d0, .d7, .d1⟩, .move (.t ⟨.d0, .d7, .d0⟩), none⟩,
    ⟨some ⟨.d0, .d7, .d2⟩, .move (.t ⟨.d0, .d0, .d7⟩), some (⟨.d0, .d7, .d1⟩, false)⟩,
    ⟨some ⟨.d0, .d7, .d3⟩, .len (.t ⟨.d0, .d7, .d2⟩), some (⟨.d0, .d7, .d1⟩, false)⟩,
    ⟨some ⟨.d0, .d7, .d4⟩, .move (.t ⟨.d0, .d0, .d0⟩), some (⟨.d0, .d7, .d1⟩, false)⟩,
    ⟨some ⟨.d0, .d7, .d5⟩, .len (.t ⟨.d0, .d7, .d4⟩), some (⟨.d0, .d7, .d1⟩, false)⟩,
    ⟨some ⟨.d0, .d7, .d6⟩, .bin .neq (.t ⟨.d0, .d7, .d3⟩) (.t ⟨.d0, .d7, .d5⟩), some (⟨.d0, .d7, .d1⟩, false)⟩,
    ⟨some ⟨.d0, .d7, .d7⟩, .pick (.t ⟨.d0, .d7, .d1⟩) (.c (.bool true)) (.t ⟨.d0, .d7, .d6⟩), none⟩])
  (.cond (.t ⟨.d0, .d7, .d7⟩)
    (.seq (.region [⟨some ⟨.d1, .d0, .d0⟩, .move (.t ⟨.d0, .d1, .d1⟩), none⟩,
      ⟨some ⟨.d1, .d0, .d1⟩, .bin .neq (.t ⟨.d1, .d0, .d0⟩) (.c (.int .i64 0)), none⟩,
      ⟨some ⟨.d1, .d0, .d2⟩, .move (.t ⟨.d1, .d0, .d1⟩), none⟩,
      ⟨some ⟨.d1, .d0, .d3⟩, .move (.t ⟨.d0, .d1, .d0⟩), some (⟨.d1, .d0, .d2⟩, true)⟩,
      ⟨some ⟨.d1, .d0, .d4⟩, .move (.t ⟨.d0, .d1, .d1⟩), some (⟨.d1, .d0, .d2⟩, true)⟩,
      ⟨some ⟨.d1, .d0, .d5⟩, .bin .eql (.t ⟨.d1, .d0, .d3⟩) (.t ⟨.d1, .d0, .d4⟩), some (⟨.d1, .d0, .d2⟩, true)⟩,
      ⟨some ⟨.d1, .d0, .d6⟩, .pick (.t ⟨.d1, .d0, .d2⟩) (.t ⟨.d1, .d0, .d5⟩) (.c (.bool false)), none⟩,
      ⟨some ⟨.d1, .d0, .d7⟩, .move (.t ⟨.d1, .d0, .d6⟩), none⟩,
      ⟨some ⟨.d1, .d1, .d0⟩, .move (.t ⟨.d0, .d0, .d7⟩), some (⟨.d1, .d0, .d7⟩, true)⟩,
      ⟨some ⟨.d1, .d1, .d1⟩, .len (.t ⟨.d1, .d1, .d0⟩), some (⟨.d1, .d0, .d7⟩, true)⟩,
      ⟨some ⟨.d1, .d1, .d2⟩, .bin .eql (.t ⟨.d1, .d1, .d1⟩) (.c (.int .i64 0)), some (⟨.d1, .d0, .d7⟩, true)⟩,
      ⟨some ⟨.d1, .d1, .d3⟩, .pick (.t ⟨.d1, .d0, .d7⟩) (.t ⟨.d1, .d1, .d2⟩) (.c (.bool false)), none⟩,
      ⟨some ⟨.d0, .d0, .d6⟩, .move (.t ⟨.d1, .d1, .d3⟩), none⟩])
    (.ret))
    (.skip)))
  (.seq (.seq (.region [⟨some ⟨.d1, .d1, .d4⟩, .move (.t ⟨.d0, .d0, .d0⟩), none⟩,
    ⟨some ⟨.d1, .d1, .d5⟩, .len (.t ⟨.d1, .d1, .d4⟩), none⟩,
    ⟨some ⟨.d1, .d1, .d6⟩, .move (.c (.int .i64 0)), none⟩])
  (.block 0
    (.loop
      (.seq (.region [⟨some ⟨.d1, .d1, .d7⟩, .bin .lss (.t ⟨.d1, .d1, .d6⟩) (.t ⟨.d1, .d1, .d5⟩), none⟩])
      (.seq (.cond (.t ⟨.d1, .d1, .d7⟩)
        (.skip)
        (.exit 0))
      (.seq (.block 1
        (.seq (.region [⟨some ⟨.d1, .d2, .d0⟩, .move (.t ⟨.d1, .d1, .d6⟩), none⟩,
          ⟨some ⟨.d1, .d2, .d1⟩, .indexSl 3 (.t ⟨.d1, .d1, .d4⟩) (.t ⟨.d1, .d1, .d6⟩), none⟩,
          ⟨some ⟨.d1, .d2, .d2⟩, .load true 3 (.t ⟨.d1, .d2, .d1⟩), none⟩,
          ⟨some ⟨.d0, .d1, .d3⟩, .alloc 0 [.int .i64 0, .int .i64 0, .slice none 0 0], none⟩,
          ⟨some ⟨.d0, .d1, .d2⟩, .move (.t ⟨.d1, .d2, .d0⟩), none⟩,
          ⟨none, .store 3 (.t ⟨.d0, .d1, .d3⟩) (.t ⟨.d1, .d2, .d2⟩), none⟩])
        (.seq (.region [⟨some ⟨.d1, .d2, .d3⟩, .fieldAddr 2 (.t ⟨.d0, .d1, .d3⟩), none⟩,
          ⟨some ⟨.d1, .d2, .d4⟩, .load false 1 (.t ⟨.d1, .d2, .d3⟩), none⟩,
          ⟨some ⟨.d1, .d2, .d5⟩, .call 29 [(.t ⟨.d1, .d2, .d4⟩)], none⟩,
          ⟨some ⟨.d0, .d1, .d4⟩, .move (.t ⟨.d1, .d2, .d5⟩), none⟩])
        (.seq (.seq (.region [⟨some ⟨.d1, .d2, .d6⟩, .move (.t ⟨.d0, .d1, .d2⟩), none⟩,
          ⟨some ⟨.d1, .d2, .d7⟩, .move (.t ⟨.d0, .d0, .d1⟩), none⟩,
          ⟨some ⟨.d1, .d3, .d0⟩, .bin .eql (.t ⟨.d1, .d2, .d6⟩) (.t ⟨.d1, .d2, .d7⟩), none⟩])
        (.cond (.t ⟨.d1, .d3, .d0⟩)
          (.region [⟨some ⟨.d1, .d3, .d1⟩, .move (.t ⟨.d0, .d1, .d4⟩), none⟩,
            ⟨some ⟨.d1, .d3, .d2⟩, .move (.t ⟨.d0, .d0, .d2⟩), none⟩,
            ⟨some ⟨.d1, .d3, .d3⟩, .buildSlice 1 1 [.int .i64 0] [(0, (.t ⟨.d1, .d3, .d2⟩))], none⟩,
            ⟨some ⟨.d1, .d3, .d4⟩, .append 2 1 8 (.t ⟨.d1, .d3, .d1⟩) (.t ⟨.d1, .d3, .d3⟩), none⟩,
            ⟨some ⟨.d0, .d1, .d4⟩, .move (.t ⟨.d1, .d3, .d4⟩), none⟩])
          (.skip)))
        (.seq (.regionD [0, 0, 3, 7, 15, 0, 63, 127, 255, 511, 511, 2047, 4095, 8191, 511, 16895, 65535, 131071, 262143, 524287, 524287, 2097151, 4194303, 8388607, 524287, 17301503, 67108863, 134217727] [⟨some ⟨.d1, .d3, .d5⟩, .move (.t ⟨.d0, .d0, .d7⟩), none⟩,
          ⟨some ⟨.d1, .d3, .d6⟩, .move (.t ⟨.d0, .d1, .d2⟩), none⟩,
          ⟨some ⟨.d1, .d3, .d7⟩, .indexSl 3 (.t ⟨.d1, .d3, .d5⟩) (.t ⟨.d1, .d3, .d6⟩), none⟩,
          ⟨some ⟨.d1, .d4, .d0⟩, .fieldAddr 2 (.t ⟨.d1, .d3, .d7⟩), none⟩,
          ⟨some ⟨.d1, .d4, .d1⟩, .load false 1 (.t ⟨.d1, .d4, .d0⟩), none⟩,
          ⟨some ⟨.d1, .d4, .d2⟩, .move (.t ⟨.d0, .d1, .d4⟩), none⟩,
          ⟨some ⟨.d1, .d4, .d3⟩, .call 30 [(.t ⟨.d1, .d4, .d1⟩), (.t ⟨.d1, .d4, .d2⟩)], none⟩,
          ⟨some ⟨.d1, .d4, .d4⟩, .un .not (.t ⟨.d1, .d4, .d3⟩), none⟩,
          ⟨some ⟨.d1, .d4, .d5⟩, .move (.t ⟨.d1, .d4, .d4⟩), none⟩,
          ⟨some ⟨.d1, .d4, .d6⟩, .move (.t ⟨.d0, .d0, .d7⟩), some (⟨.d1, .d4, .d5⟩, false)⟩,
          ⟨some ⟨.d1, .d4, .d7⟩, .move (.t ⟨.d0, .d1, .d2⟩), some (⟨.d1, .d4, .d5⟩, false)⟩,
          ⟨some ⟨.d1, .d5, .d0⟩, .indexSl 3 (.t ⟨.d1, .d4, .d6⟩) (.t ⟨.d1, .d4, .d7⟩), some (⟨.d1, .d4, .d5⟩, false)⟩,
          ⟨some ⟨.d1, .d5, .d1⟩, .fieldAddr 0 (.t ⟨.d1, .d5, .d0⟩), some (⟨.d1, .d4, .d5⟩, false)⟩,
          ⟨some ⟨.d1, .d5, .d2⟩, .load false 1 (.t ⟨.d1, .d5, .d1⟩), some (⟨.d1, .d4, .d5⟩, false)⟩,
          ⟨some ⟨.d1, .d5, .d3⟩, .fieldAddr 0 (.t ⟨.d0, .d1, .d3⟩), some (⟨.d1, .d4, .d5⟩, false)⟩,
          ⟨some ⟨.d1, .d5, .d4⟩, .load false 1 (.t ⟨.d1, .d5, .d3⟩), some (⟨.d1, .d4, .d5⟩, false)⟩,
          ⟨some ⟨.d1, .d5, .d5⟩, .bin .neq (.t ⟨.d1, .d5, .d2⟩) (.t ⟨.d1, .d5, .d4⟩), some (⟨.d1, .d4, .d5⟩, false)⟩,
          ⟨some ⟨.d1, .d5, .d6⟩, .pick (.t ⟨.d1, .d4, .d5⟩) (.c (.bool true)) (.t ⟨.d1, .d5, .d5⟩), none⟩,
          ⟨some ⟨.d1, .d5, .d7⟩, .move (.t ⟨.d1, .d5, .d6⟩), none⟩,
          ⟨some ⟨.d1, .d6, .d0⟩, .move (.t ⟨.d0, .d0, .d7⟩), some (⟨.d1, .d5, .d7⟩, false)⟩,
          ⟨some ⟨.d1, .d6, .d1⟩, .move (.t ⟨.d0, .d1, .d2⟩), some (⟨.d1, .d5, .d7⟩, false)⟩,
          ⟨some ⟨.d1, .d6, .d2⟩, .indexSl 3 (.t ⟨.d1, .d6, .d0⟩) (.t ⟨.d1, .d6, .d1⟩), some (⟨.d1, .d5, .d7⟩, false)⟩,
          ⟨some ⟨.d1, .d6, .d3⟩, .fieldAddr 1 (.t ⟨.d1, .d6, .d2⟩), some (⟨.d1, .d5, .d7⟩, false)⟩,
          ⟨some ⟨.d1, .d6, .d4⟩, .load false 1 (.t ⟨.d1, .d6, .d3⟩), some (⟨.d1, .d5, .d7⟩, false)⟩,
          ⟨some ⟨.d1, .d6, .d5⟩, .fieldAddr 1 (.t ⟨.d0, .d1, .d3⟩), some (⟨.d1, .d5, .d7⟩, false)⟩,
          ⟨some ⟨.d1, .d6, .d6⟩, .load false 1 (.t ⟨.d1, .d6, .d5⟩), some (⟨.d1, .d5, .d7⟩, false)⟩,
          ⟨some ⟨.d1, .d6, .d7⟩, .bin .neq (.t ⟨.d1, .d6, .d4⟩) (.t ⟨.d1, .d6, .d6⟩), some (⟨.d1, .d5, .d7⟩, false)⟩,
          ⟨some ⟨.d1, .d7, .d0⟩, .pick (.t ⟨.d1, .d5, .d7⟩) (.c (.bool true)) (.t ⟨.d1, .d6, .d7⟩), none⟩])
        (.cond (.t ⟨.d1, .d7, .d0⟩)
          (.seq (.region [⟨some ⟨.d0, .d0, .d6⟩, .move (.c (.bool false)), none⟩])
          (.ret))
          (.skip)))))))
      (.region [⟨some ⟨.d1, .d7, .d1⟩, .bin .add (.t ⟨.d1, .d1, .d6⟩) (.c (.int .i64 1)), none⟩,
        ⟨some ⟨.d1, .d1, .d6⟩, .move (.t ⟨.d1, .d7, .d1⟩), none⟩])))))))
  (.seq (.region [⟨some ⟨.d0, .d0, .d6⟩, .move (.c (.bool true)), none⟩])
  (.ret)))))))))
def r_custlaw_TurnsPut : List XR := [.tmp ⟨.d0, .d0, .d6⟩]
theorem ok_custlaw_TurnsPut : okC Try.prog Try.f6.ntmps (bodyOf Try.f6) x_custlaw_TurnsPut = true := by kernel_rfl
theorem okr_custlaw_TurnsPut : okRs Try.prog Try.f6.results.toList r_custlaw_TurnsPut = true := by kernel_rfl

/-- custlaw.TurnsRound -/
def x_custlaw_TurnsRound : XC :=
  .seq (.region [⟨some ⟨.d0, .d0, .d2⟩, .move (.c (.bool false)), none⟩])
  (.seq (.region [⟨some ⟨.d0, .d1, .d2⟩, .move (.t ⟨.d0, .d0, .d0⟩), none⟩,
    ⟨some ⟨.d0, .d1, .d3⟩, .call 31 [(.t ⟨.d0, .d1, .d2⟩)], none⟩,
    ⟨some ⟨.d0, .d1, .d1⟩, .move (.t ⟨.d0, .d1, .d3⟩), none⟩,
    ⟨some ⟨.d0, .d1, .d4⟩, .extract 0 (.t ⟨.d0, .d1, .d1⟩), none⟩,
    ⟨some ⟨.d0, .d1, .d5⟩, .extract 1 (.t ⟨.d0, .d1, .d1⟩), none⟩,
    ⟨some ⟨.d0, .d1, .d6⟩, .extract 2 (.t ⟨.d0, .d1, .d1⟩), none⟩,
    ⟨some ⟨.d0, .d0, .d3⟩, .move (.t ⟨.d0, .d1, .d4⟩), none⟩,
    ⟨some ⟨.d0, .d0, .d4⟩, .move (.t ⟨.d0, .d1, .d5⟩), none⟩,
    ⟨some ⟨.d0, .d0, .d5⟩, .move (.t ⟨.d0, .d1, .d6⟩), none⟩])
  (.seq (.region [⟨some ⟨.d0, .d1, .d7⟩, .move (.t ⟨.d0, .d0, .d0⟩), none⟩,
    ⟨some ⟨.d0, .d2, .d0⟩, .call 28 [(.t ⟨.d0, .d1, .d7⟩)], none⟩,
    ⟨some ⟨.d0, .d0, .d6⟩, .move (.t ⟨.d0, .d2, .d0⟩), none⟩])
  (.seq (.seq (.region [⟨some ⟨.d0, .d2, .d1⟩, .move (.t ⟨.d0, .d0, .d0⟩), none⟩,
    ⟨some ⟨.d0, .d2, .d2⟩, .call 32 [(.t ⟨.d0, .d2, .d1⟩)], none⟩,
    ⟨some ⟨.d0, .d2, .d3⟩, .move (.t ⟨.d0, .d0, .d6⟩), none⟩,
    ⟨some ⟨.d0, .d2, .d4⟩, .bin .neq (.t ⟨.d0, .d2, .d2⟩) (.t ⟨.d0, .d2, .d3⟩), none⟩,
    ⟨some ⟨.d0, .d2, .d5⟩, .move (.t ⟨.d0, .d2, .d4⟩), none⟩,
    ⟨some ⟨.d0, .d2, .d6⟩, .move (.t ⟨.d0, .d0, .d5⟩), some (⟨.d0, .d2, .d5⟩, false)⟩,
    ⟨some ⟨.d0, .d2, .d7⟩, .move (.t ⟨.d0, .d0, .d6⟩), some (⟨.d0, .d2, .d5⟩, false)⟩,
    ⟨some ⟨.d0, .d3, .d0⟩, .bin .neq (.t ⟨.d0, .d2, .d6⟩) (.t ⟨.d0, .d2, .d7⟩), some (⟨.d0, .d2, .d5⟩, false)⟩,
    ⟨some ⟨.d0, .d3, .d1⟩, .pick (.t ⟨.d0, .d2, .d5⟩) (.c (.bool true)) (.t ⟨.d0, .d3, .d0⟩), none⟩])
  (.cond (.t ⟨.d0, .d3, .d1⟩)
    (.seq (.region [⟨some ⟨.d0, .d0, .d2⟩, .move (.c (.bool false)), none⟩])
    (.ret))
    (.skip)))
  (.seq (.seq (.region [⟨some ⟨.d0, .d3, .d2⟩, .move (.t ⟨.d0, .d0, .d6⟩), none⟩,
    ⟨some ⟨.d0, .d3, .d3⟩, .bin .neq (.t ⟨.d0, .d3, .d2⟩) (.c (.int .i64 0)), none⟩])
  (.cond (.t ⟨.d0, .d3, .d3⟩)
    (.seq (.region [⟨some ⟨.d0, .d3, .d4⟩, .move (.t ⟨.d0, .d0, .d3⟩), none⟩,
      ⟨some ⟨.d0, .d3, .d5⟩, .len (.t ⟨.d0, .d3, .d4⟩), none⟩,
      ⟨some ⟨.d0, .d3, .d6⟩, .bin .eql (.t ⟨.d0, .d3, .d5⟩) (.c (.int .i64 0)), none⟩,
      ⟨some ⟨.d0, .d3, .d7⟩, .move (.t ⟨.d0, .d3, .d6⟩), none⟩,
      ⟨some ⟨.d0, .d4, .d0⟩, .move (.t ⟨.d0, .d0, .d4⟩), some (⟨.d0, .d3, .d7⟩, true)⟩,
      ⟨some ⟨.d0, .d4, .d1⟩, .len (.t ⟨.d0, .d4, .d0⟩), some (⟨.d0, .d3, .d7⟩, true)⟩,
      ⟨some ⟨.d0, .d4, .d2⟩, .bin .eql (.t ⟨.d0, .d4, .d1⟩) (.c (.int .i64 0)), some (⟨.d0, .d3, .d7⟩, true)⟩,
      ⟨some ⟨.d0, .d4, .d3⟩, .pick (.t ⟨.d0, .d3, .d7⟩) (.t ⟨.d0, .d4, .d2⟩) (.c (.bool false)), none⟩,
      ⟨some ⟨.d0, .d0, .d2⟩, .move (.t ⟨.d0, .d4, .d3⟩), none⟩])
    (.ret))
    (.skip)))
  (.seq (.region [⟨some ⟨.d0, .d4, .d5⟩, .move (.t ⟨.d0, .d0, .d0⟩), none⟩,
    ⟨some ⟨.d0, .d4, .d6⟩, .call 33 [(.t ⟨.d0, .d4, .d5⟩)], none⟩,
    ⟨some ⟨.d0, .d4, .d4⟩, .move (.t ⟨.d0, .d4, .d6⟩), none⟩,
    ⟨some ⟨.d0, .d4, .d7⟩, .extract 0 (.t ⟨.d0, .d4, .d4⟩), none⟩,
    ⟨some ⟨.d0, .d5, .d0⟩, .extract 1 (.t ⟨.d0, .d4, .d4⟩), none⟩,
    ⟨some ⟨.d0, .d0, .d7⟩, .move (.t ⟨.d0, .d4, .d7⟩), none⟩,
    ⟨some ⟨.d0, .d1, .d0⟩, .move (.t ⟨.d0, .d5, .d0⟩), none⟩])
  (.seq (.region [⟨some ⟨.d0, .d5, .d1⟩, .move (.t ⟨.d0, .d0, .d3⟩), none⟩,
    ⟨some ⟨.d0, .d5, .d2⟩, .move (.t ⟨.d0, .d0, .d7⟩), none⟩,
    ⟨some ⟨.d0, .d5, .d3⟩, .call 34 [(.t ⟨.d0, .d5, .d1⟩), (.t ⟨.d0, .d5, .d2⟩)], none⟩,
    ⟨some ⟨.d0, .d5, .d4⟩, .move (.t ⟨.d0, .d5, .d3⟩), none⟩,
    ⟨some ⟨.d0, .d5, .d5⟩, .move (.t ⟨.d0, .d0, .d4⟩), some (⟨.d0, .d5, .d4⟩, true)⟩,
    ⟨some ⟨.d0, .d5, .d6⟩, .move (.t ⟨.d0, .d1, .d0⟩), some (⟨.d0, .d5, .d4⟩, true)⟩,
    ⟨some ⟨.d0, .d5, .d7⟩, .call 35 [(.t ⟨.d0, .d5, .d5⟩), (.t ⟨.d0, .d5, .d6⟩)], some (⟨.d0, .d5, .d4⟩, true)⟩,
    ⟨some ⟨.d0, .d6, .d0⟩, .pick (.t ⟨.d0, .d5, .d4⟩) (.t ⟨.d0, .d5, .d7⟩) (.c (.bool false)), none⟩,
    ⟨some ⟨.d0, .d0, .d2⟩, .move (.t ⟨.d0, .d6, .d0⟩), none⟩])
  (.ret)))))))
def r_custlaw_TurnsRound : List XR := [.tmp ⟨.d0, .d0, .d2⟩]
theorem ok_custlaw_TurnsRound : okC Try.prog Try.f7.ntmps (bodyOf Try.f7) x_custlaw_TurnsRound = true := by kernel_rfl
theorem okr_custlaw_TurnsRound : okRs Try.prog Try.f7.results.toList r_custlaw_TurnsRound = true := by kernel_rfl

/-- custref.Between -/
def x_custref_Between : XC :=
  .seq (.region [⟨some ⟨.d0, .d0, .d6⟩, .move (.c (.bool false)), none⟩])
  (.seq (.region [⟨some ⟨.d0, .d0, .d7⟩, .move (.t ⟨.d0, .d0, .d1⟩), none⟩,
    ⟨some ⟨.d0, .d1, .d0⟩, .move (.t ⟨.d0, .d0, .d0⟩), none⟩,
    ⟨some ⟨.d0, .d1, .d1⟩, .bin .leq (.t ⟨.d0, .d0, .d7⟩) (.t ⟨.d0, .d1, .d0⟩), none⟩,
    ⟨some ⟨.d0, .d1, .d2⟩, .move (.t ⟨.d0, .d1, .d1⟩), none⟩,
    ⟨some ⟨.d0, .d1, .d3⟩, .move (.t ⟨.d0, .d0, .d0⟩), some (⟨.d0, .d1, .d2⟩, true)⟩,
    ⟨some ⟨.d0, .d1, .d4⟩, .move (.t ⟨.d0, .d0, .d2⟩), some (⟨.d0, .d1, .d2⟩, true)⟩,
    ⟨some ⟨.d0, .d1, .d5⟩, .bin .leq (.t ⟨.d0, .d1, .d3⟩) (.t ⟨.d0, .d1, .d4⟩), some (⟨.d0, .d1, .d2⟩, true)⟩,
    ⟨some ⟨.d0, .d1, .d6⟩, .pick (.t ⟨.d0, .d1, .d2⟩) (.t ⟨.d0, .d1, .d5⟩) (.c (.bool false)), none⟩,
    ⟨some ⟨.d0, .d0, .d6⟩, .move (.t ⟨.d0, .d1, .d6⟩), none⟩])
  (.ret))
def r_custref_Between : List XR := [.tmp ⟨.d0, .d0, .d6⟩]
theorem ok_custref_Between : okC Try.prog Try.f15.ntmps (bodyOf Try.f15) x_custref_Between = true := by kernel_rfl
theorem okr_custref_Between : okRs Try.prog Try.f15.results.toList r_custref_Between = true := by kernel_rfl

/-- turns.Put -/
def x_turns_Put : XC :=
  .seq (.region [⟨some ⟨.d0, .d0, .d6⟩, .move (.c (.slice none 0 0)), none⟩,
    ⟨some ⟨.d0, .d0, .d7⟩, .move (.c (.int .i64 0)), none⟩])
  (.seq (.region [⟨some ⟨.d0, .d1, .d1⟩, .move (.t ⟨.d0, .d0, .d0⟩), none⟩,
    ⟨some ⟨.d0, .d1, .d2⟩, .call 32 [(.t ⟨.d0, .d1, .d1⟩)], none⟩,
    ⟨some ⟨.d0, .d1, .d0⟩, .move (.t ⟨.d0, .d1, .d2⟩), none⟩])
  (.seq (.block 0
    (.seq (.region [⟨some ⟨.d0, .d1, .d4⟩, .move (.t ⟨.d0, .d1, .d0⟩), none⟩,
      ⟨some ⟨.d0, .d1, .d5⟩, .bin .neq (.t ⟨.d0, .d1, .d4⟩) (.c (.int .i64 0)), none⟩,
      ⟨some ⟨.d0, .d1, .d3⟩, .move (.t ⟨.d0, .d1, .d5⟩), none⟩])
    (.cond (.t ⟨.d0, .d1, .d3⟩)
      (.skip)
      (.seq (.region [⟨some ⟨.d0, .d1, .d7⟩, .move (.t ⟨.d0, .d0, .d1⟩), none⟩,
        ⟨some ⟨.d0, .d2, .d0⟩, .bin .lss (.t ⟨.d0, .d1, .d7⟩) (.c (.int .i64 0)), none⟩,
        ⟨some ⟨.d0, .d2, .d1⟩, .move (.t ⟨.d0, .d2, .d0⟩), none⟩,
        ⟨some ⟨.d0, .d2, .d2⟩, .move (.t ⟨.d0, .d0, .d1⟩), some (⟨.d0, .d2, .d1⟩, false)⟩,
        ⟨some ⟨.d0, .d2, .d3⟩, .move (.t ⟨.d0, .d0, .d0⟩), some (⟨.d0, .d2, .d1⟩, false)⟩,
        ⟨some ⟨.d0, .d2, .d4⟩, .len (.t ⟨.d0, .d2, .d3⟩), some (⟨.d0, .d2, .d1⟩, false)⟩,
        ⟨some ⟨.d0, .d2, .d5⟩, .bin .geq (.t ⟨.d0, .d2, .d2⟩) (.t ⟨.d0, .d2, .d4⟩), some (⟨.d0, .d2, .d1⟩, false)⟩,
        ⟨some ⟨.d0, .d2, .d6⟩, .pick (.t ⟨.d0, .d2, .d1⟩) (.c (.bool true)) (.t ⟨.d0, .d2, .d5⟩), none⟩,
        ⟨some ⟨.d0, .d1, .d6⟩, .move (.t ⟨.d0, .d2, .d6⟩), none⟩])
      (.cond (.t ⟨.d0, .d1, .d6⟩)
        (.region [⟨some ⟨.d0, .d1, .d0⟩, .move (.c (.int .i64 7)), none⟩])
        (.seq (.region [⟨some ⟨.d0, .d3, .d0⟩, .move (.t ⟨.d0, .d0, .d2⟩), none⟩,
          ⟨some ⟨.d0, .d3, .d1⟩, .call 60 [(.t ⟨.d0, .d3, .d0⟩)], none⟩,
          ⟨some ⟨.d0, .d3, .d2⟩, .un .not (.t ⟨.d0, .d3, .d1⟩), none⟩,
          ⟨some ⟨.d0, .d2, .d7⟩, .move (.t ⟨.d0, .d3, .d2⟩), none⟩])
        (.cond (.t ⟨.d0, .d2, .d7⟩)
          (.region [⟨some ⟨.d0, .d1, .d0⟩, .move (.c (.int .i64 1)), none⟩])
          (.seq (.region [⟨some ⟨.d0, .d3, .d4⟩, .move (.t ⟨.d0, .d0, .d0⟩), none⟩,
            ⟨some ⟨.d0, .d3, .d5⟩, .move (.t ⟨.d0, .d0, .d1⟩), none⟩,
            ⟨some ⟨.d0, .d3, .d6⟩, .indexSl 3 (.t ⟨.d0, .d3, .d4⟩) (.t ⟨.d0, .d3, .d5⟩), none⟩,
            ⟨some ⟨.d0, .d3, .d7⟩, .fieldAddr 2 (.t ⟨.d0, .d3, .d6⟩), none⟩,
            ⟨some ⟨.d0, .d4, .d0⟩, .load false 1 (.t ⟨.d0, .d3, .d7⟩), none⟩,
            ⟨some ⟨.d0, .d4, .d1⟩, .len (.t ⟨.d0, .d4, .d0⟩), none⟩,
            ⟨some ⟨.d0, .d4, .d2⟩, .bin .eql (.t ⟨.d0, .d4, .d1⟩) (.c (.int .i64 200)), none⟩,
            ⟨some ⟨.d0, .d3, .d3⟩, .move (.t ⟨.d0, .d4, .d2⟩), none⟩])
          (.cond (.t ⟨.d0, .d3, .d3⟩)
            (.region [⟨some ⟨.d0, .d1, .d0⟩, .move (.c (.int .i64 6)), none⟩])
            (.skip))))))))))
  (.seq (.seq (.region [⟨some ⟨.d0, .d4, .d3⟩, .move (.t ⟨.d0, .d1, .d0⟩), none⟩,
    ⟨some ⟨.d0, .d4, .d4⟩, .bin .neq (.t ⟨.d0, .d4, .d3⟩) (.c (.int .i64 0)), none⟩])
  (.cond (.t ⟨.d0, .d4, .d4⟩)
    (.seq (.region [⟨some ⟨.d0, .d4, .d5⟩, .move (.t ⟨.d0, .d1, .d0⟩), none⟩,
      ⟨some ⟨.d0, .d0, .d6⟩, .move (.c (.slice none 0 0)), none⟩,
      ⟨some ⟨.d0, .d0, .d7⟩, .move (.t ⟨.d0, .d4, .d5⟩), none⟩])
    (.ret))
    (.skip)))
  (.seq (.region [⟨some ⟨.d0, .d4, .d6⟩, .move (.t ⟨.d0, .d0, .d0⟩), none⟩,
    ⟨some ⟨.d0, .d4, .d7⟩, .call 61 [(.t ⟨.d0, .d4, .d6⟩)], none⟩,
    ⟨some ⟨.d0, .d0, .d0⟩, .move (.t ⟨.d0, .d4, .d7⟩), none⟩])
  (.seq (.region [⟨some ⟨.d0, .d5, .d0⟩, .move (.t ⟨.d0, .d0, .d0⟩), none⟩,
    ⟨some ⟨.d0, .d5, .d1⟩, .move (.t ⟨.d0, .d0, .d1⟩), none⟩,
    ⟨some ⟨.d0, .d5, .d2⟩, .move (.t ⟨.d0, .d0, .d0⟩), none⟩,
    ⟨some ⟨.d0, .d5, .d3⟩, .move (.t ⟨.d0, .d0, .d1⟩), none⟩,
    ⟨some ⟨.d0, .d5, .d4⟩, .indexSl 3 (.t ⟨.d0, .d5, .d2⟩) (.t ⟨.d0, .d5, .d3⟩), none⟩,
    ⟨some ⟨.d0, .d5, .d5⟩, .fieldAddr 2 (.t ⟨.d0, .d5, .d4⟩), none⟩,
    ⟨some ⟨.d0, .d5, .d6⟩, .load false 1 (.t ⟨.d0, .d5, .d5⟩), none⟩,
    ⟨some ⟨.d0, .d5, .d7⟩, .move (.t ⟨.d0, .d0, .d2⟩), none⟩,
    ⟨some ⟨.d0, .d6, .d0⟩, .buildSlice 0 1 [.int .i64 0] [(0, (.t ⟨.d0, .d5, .d7⟩))], none⟩,
    ⟨some ⟨.d0, .d6, .d1⟩, .append 1 1 8 (.t ⟨.d0, .d5, .d6⟩) (.t ⟨.d0, .d6, .d0⟩), none⟩,
    ⟨some ⟨.d0, .d6, .d2⟩, .indexSl 3 (.t ⟨.d0, .d5, .d0⟩) (.t ⟨.d0, .d5, .d1⟩), none⟩,
    ⟨some ⟨.d0, .d6, .d3⟩, .fieldAddr 2 (.t ⟨.d0, .d6, .d2⟩), none⟩,
    ⟨none, .store 1 (.t ⟨.d0, .d6, .d3⟩) (.t ⟨.d0, .d6, .d1⟩), none⟩])
  (.seq (.region [⟨some ⟨.d0, .d6, .d4⟩, .move (.t ⟨.d0, .d0, .d0⟩), none⟩,
    ⟨some ⟨.d0, .d0, .d6⟩, .move (.t ⟨.d0, .d6, .d4⟩), none⟩,
    ⟨some ⟨.d0, .d0, .d7⟩, .move (.c (.int .i64 0)), none⟩])
  (.ret)))))))
def r_turns_Put : List XR := [.tmp ⟨.d0, .d0, .d6⟩, .tmp ⟨.d0, .d0, .d7⟩]
theorem ok_turns_Put : okC Try.prog Try.f27.ntmps (bodyOf Try.f27) x_turns_Put = true := by kernel_rfl
theorem okr_turns_Put : okRs Try.prog Try.f27.results.toList r_turns_Put = true := by kernel_rfl

/-- custref.TurnsRight -/
def x_custref_TurnsRight : XC :=
  .seq (.region [⟨some ⟨.d0, .d0, .d2⟩, .move (.c (.int .i64 0)), none⟩])
  (.seq (.region [⟨some ⟨.d0, .d1, .d3⟩, .move (.t ⟨.d0, .d0, .d0⟩), none⟩,
    ⟨some ⟨.d0, .d1, .d4⟩, .len (.t ⟨.d0, .d1, .d3⟩), none⟩,
    ⟨some ⟨.d0, .d1, .d5⟩, .bin .gtr (.t ⟨.d0, .d1, .d4⟩) (.c (.int .i64 16)), none⟩,
    ⟨some ⟨.d0, .d0, .d3⟩, .move (.t ⟨.d0, .d1, .d5⟩), none⟩,
    ⟨some ⟨.d0, .d0, .d4⟩, .move (.c (.bool false)), none⟩,
    ⟨some ⟨.d0, .d0, .d5⟩, .move (.c (.bool false)), none⟩])
  (.seq (.seq (.region [⟨some ⟨.d0, .d1, .d6⟩, .move (.t ⟨.d0, .d0, .d0⟩), none⟩,
    ⟨some ⟨.d0, .d1, .d7⟩, .len (.t ⟨.d0, .d1, .d6⟩), none⟩,
    ⟨some ⟨.d0, .d2, .d0⟩, .move (.c (.int .i64 0)), none⟩])
  (.block 0
    (.loop
      (.seq (.region [⟨some ⟨.d0, .d2, .d1⟩, .bin .lss (.t ⟨.d0, .d2, .d0⟩) (.t ⟨.d0, .d1, .d7⟩), none⟩])
      (.seq (.cond (.t ⟨.d0, .d2, .d1⟩)
        (.skip)
        (.exit 0))
      (.seq (.block 1
        (.seq (.region [⟨some ⟨.d0, .d2, .d2⟩, .indexSl 3 (.t ⟨.d0, .d1, .d6⟩) (.t ⟨.d0, .d2, .d0⟩), none⟩,
          ⟨some ⟨.d0, .d2, .d3⟩, .load true 3 (.t ⟨.d0, .d2, .d2⟩), none⟩,
          ⟨some ⟨.d0, .d0, .d7⟩, .alloc 0 [.int .i64 0, .int .i64 0, .slice none 0 0], none⟩,
          ⟨none, .store 3 (.t ⟨.d0, .d0, .d7⟩) (.t ⟨.d0, .d2, .d3⟩), none⟩])
        (.seq (.region [⟨some ⟨.d0, .d2, .d4⟩, .move (.t ⟨.d0, .d0, .d3⟩), none⟩,
          ⟨some ⟨.d0, .d2, .d5⟩, .move (.t ⟨.d0, .d2, .d4⟩), none⟩,
          ⟨some ⟨.d0, .d2, .d6⟩, .fieldAddr 2 (.t ⟨.d0, .d0, .d7⟩), some (⟨.d0, .d2, .d5⟩, false)⟩,
          ⟨some ⟨.d0, .d2, .d7⟩, .load false 1 (.t ⟨.d0, .d2, .d6⟩), some (⟨.d0, .d2, .d5⟩, false)⟩,
          ⟨some ⟨.d0, .d3, .d0⟩, .len (.t ⟨.d0, .d2, .d7⟩), some (⟨.d0, .d2, .d5⟩, false)⟩,
          ⟨some ⟨.d0, .d3, .d1⟩, .bin .gtr (.t ⟨.d0, .d3, .d0⟩) (.c (.int .i64 200)), some (⟨.d0, .d2, .d5⟩, false)⟩,
          ⟨some ⟨.d0, .d3, .d2⟩, .pick (.t ⟨.d0, .d2, .d5⟩) (.c (.bool true)) (.t ⟨.d0, .d3, .d1⟩), none⟩,
          ⟨some ⟨.d0, .d0, .d3⟩, .move (.t ⟨.d0, .d3, .d2⟩), none⟩])
        (.seq (.region [⟨some ⟨.d0, .d3, .d3⟩, .move (.t ⟨.d0, .d0, .d4⟩), none⟩,
          ⟨some ⟨.d0, .d3, .d4⟩, .move (.t ⟨.d0, .d3, .d3⟩), none⟩,
          ⟨some ⟨.d0, .d3, .d5⟩, .fieldAddr 0 (.t ⟨.d0, .d0, .d7⟩), some (⟨.d0, .d3, .d4⟩, false)⟩,
          ⟨some ⟨.d0, .d3, .d6⟩, .load false 1 (.t ⟨.d0, .d3, .d5⟩), some (⟨.d0, .d3, .d4⟩, false)⟩,
          ⟨some ⟨.d0, .d3, .d7⟩, .call 15 [(.t ⟨.d0, .d3, .d6⟩), (.c (.int .i64 1)), (.c (.int .i64 1000000))], some (⟨.d0, .d3, .d4⟩, false)⟩,
          ⟨some ⟨.d0, .d4, .d0⟩, .un .not (.t ⟨.d0, .d3, .d7⟩), some (⟨.d0, .d3, .d4⟩, false)⟩,
          ⟨some ⟨.d0, .d4, .d1⟩, .pick (.t ⟨.d0, .d3, .d4⟩) (.c (.bool true)) (.t ⟨.d0, .d4, .d0⟩), none⟩,
          ⟨some ⟨.d0, .d0, .d4⟩, .move (.t ⟨.d0, .d4, .d1⟩), none⟩])
        (.seq (.seq (.region [⟨some ⟨.d0, .d4, .d2⟩, .fieldAddr 2 (.t ⟨.d0, .d0, .d7⟩), none⟩,
          ⟨some ⟨.d0, .d4, .d3⟩, .load false 1 (.t ⟨.d0, .d4, .d2⟩), none⟩,
          ⟨some ⟨.d0, .d4, .d4⟩, .len (.t ⟨.d0, .d4, .d3⟩), none⟩,
          ⟨some ⟨.d0, .d4, .d5⟩, .move (.c (.int .i64 0)), none⟩])
        (.block 2
          (.loop
            (.seq (.region [⟨some ⟨.d0, .d4, .d6⟩, .bin .lss (.t ⟨.d0, .d4, .d5⟩) (.t ⟨.d0, .d4, .d4⟩), none⟩])
            (.seq (.cond (.t ⟨.d0, .d4, .d6⟩)
              (.skip)
              (.exit 2))
            (.seq (.block 3
              (.seq (.region [⟨some ⟨.d0, .d4, .d7⟩, .indexSl 1 (.t ⟨.d0, .d4, .d3⟩) (.t ⟨.d0, .d4, .d5⟩), none⟩,
                ⟨some ⟨.d0, .d5, .d0⟩, .load false 1 (.t ⟨.d0, .d4, .d7⟩), none⟩,
                ⟨some ⟨.d0, .d1, .d1⟩, .move (.t ⟨.d0, .d5, .d0⟩), none⟩])
              (.region [⟨some ⟨.d0, .d5, .d1⟩, .move (.t ⟨.d0, .d0, .d4⟩), none⟩,
                ⟨some ⟨.d0, .d5, .d2⟩, .move (.t ⟨.d0, .d5, .d1⟩), none⟩,
                ⟨some ⟨.d0, .d5, .d3⟩, .move (.t ⟨.d0, .d1, .d1⟩), some (⟨.d0, .d5, .d2⟩, false)⟩,
                ⟨some ⟨.d0, .d5, .d4⟩, .call 15 [(.t ⟨.d0, .d5, .d3⟩), (.c (.int .i64 1)), (.c (.int .i64 1000000))], some (⟨.d0, .d5, .d2⟩, false)⟩,
                ⟨some ⟨.d0, .d5, .d5⟩, .un .not (.t ⟨.d0, .d5, .d4⟩), some (⟨.d0, .d5, .d2⟩, false)⟩,
                ⟨some ⟨.d0, .d5, .d6⟩, .pick (.t ⟨.d0, .d5, .d2⟩) (.c (.bool true)) (.t ⟨.d0, .d5, .d5⟩), none⟩,
                ⟨some ⟨.d0, .d0, .d4⟩, .move (.t ⟨.d0, .d5, .d6⟩), none⟩])))
            (.region [⟨some ⟨.d0, .d5, .d7⟩, .bin .add (.t ⟨.d0, .d4, .d5⟩) (.c (.int .i64 1)), none⟩,
              ⟨some ⟨.d0, .d4, .d5⟩, .move (.t ⟨.d0, .d5, .d7⟩), none⟩])))))))
        (.seq (.region [⟨some ⟨.d0, .d1, .d2⟩, .move (.c (.int .i64 1)), none⟩])
        (.seq (.seq (.region [⟨some ⟨.d0, .d6, .d0⟩, .fieldAddr 2 (.t ⟨.d0, .d0, .d7⟩), none⟩,
          ⟨some ⟨.d0, .d6, .d1⟩, .load false 1 (.t ⟨.d0, .d6, .d0⟩), none⟩,
          ⟨some ⟨.d0, .d6, .d2⟩, .len (.t ⟨.d0, .d6, .d1⟩), none⟩,
          ⟨some ⟨.d0, .d6, .d3⟩, .bin .gtr (.t ⟨.d0, .d6, .d2⟩) (.c (.int .i64 0)), none⟩])
        (.cond (.t ⟨.d0, .d6, .d3⟩)
          (.region [⟨some ⟨.d0, .d6, .d4⟩, .fieldAddr 2 (.t ⟨.d0, .d0, .d7⟩), none⟩,
            ⟨some ⟨.d0, .d6, .d5⟩, .load false 1 (.t ⟨.d0, .d6, .d4⟩), none⟩,
            ⟨some ⟨.d0, .d6, .d6⟩, .indexSl 1 (.t ⟨.d0, .d6, .d5⟩) (.c (.int .i64 0)), none⟩,
            ⟨some ⟨.d0, .d6, .d7⟩, .load false 1 (.t ⟨.d0, .d6, .d6⟩), none⟩,
            ⟨some ⟨.d0, .d1, .d2⟩, .move (.t ⟨.d0, .d6, .d7⟩), none⟩])
          (.skip)))
        (.region [⟨some ⟨.d0, .d7, .d0⟩, .move (.t ⟨.d0, .d0, .d5⟩), none⟩,
          ⟨some ⟨.d0, .d7, .d1⟩, .move (.t ⟨.d0, .d7, .d0⟩), none⟩,
          ⟨some ⟨.d0, .d7, .d2⟩, .fieldAddr 1 (.t ⟨.d0, .d0, .d7⟩), some (⟨.d0, .d7, .d1⟩, false)⟩,
          ⟨some ⟨.d0, .d7, .d3⟩, .load false 1 (.t ⟨.d0, .d7, .d2⟩), some (⟨.d0, .d7, .d1⟩, false)⟩,
          ⟨some ⟨.d0, .d7, .d4⟩, .bin .lss (.t ⟨.d0, .d7, .d3⟩) (.c (.int .i64 0)), some (⟨.d0, .d7, .d1⟩, false)⟩,
          ⟨some ⟨.d0, .d7, .d5⟩, .pick (.t ⟨.d0, .d7, .d1⟩) (.c (.bool true)) (.t ⟨.d0, .d7, .d4⟩), none⟩,
          ⟨some ⟨.d0, .d7, .d6⟩, .move (.t ⟨.d0, .d7, .d5⟩), none⟩,
          ⟨some ⟨.d0, .d7, .d7⟩, .fieldAddr 1 (.t ⟨.d0, .d0, .d7⟩), some (⟨.d0, .d7, .d6⟩, false)⟩,
          ⟨some ⟨.d1, .d0, .d0⟩, .load false 1 (.t ⟨.d0, .d7, .d7⟩), some (⟨.d0, .d7, .d6⟩, false)⟩,
          ⟨some ⟨.d1, .d0, .d1⟩, .move (.t ⟨.d0, .d1, .d2⟩), some (⟨.d0, .d7, .d6⟩, false)⟩,
          ⟨some ⟨.d1, .d0, .d2⟩, .bin .geq (.t ⟨.d1, .d0, .d0⟩) (.t ⟨.d1, .d0, .d1⟩), some (⟨.d0, .d7, .d6⟩, false)⟩,
          ⟨some ⟨.d1, .d0, .d3⟩, .pick (.t ⟨.d0, .d7, .d6⟩) (.c (.bool true)) (.t ⟨.d1, .d0, .d2⟩), none⟩,
          ⟨some ⟨.d0, .d0, .d5⟩, .move (.t ⟨.d1, .d0, .d3⟩), none⟩]))))))))
      (.region [⟨some ⟨.d1, .d0, .d4⟩, .bin .add (.t ⟨.d0, .d2, .d0⟩) (.c (.int .i64 1)), none⟩,
        ⟨some ⟨.d0, .d2, .d0⟩, .move (.t ⟨.d1, .d0, .d4⟩), none⟩])))))))
  (.seq (.block 4
    (.seq (.region [⟨some ⟨.d1, .d0, .d6⟩, .move (.t ⟨.d0, .d0, .d3⟩), none⟩,
      ⟨some ⟨.d1, .d0, .d5⟩, .move (.t ⟨.d1, .d0, .d6⟩), none⟩])
    (.cond (.t ⟨.d1, .d0, .d5⟩)
      (.seq (.region [⟨some ⟨.d0, .d0, .d2⟩, .move (.c (.int .i64 2)), none⟩])
      (.ret))
      (.seq (.region [⟨some ⟨.d1, .d1, .d0⟩, .move (.t ⟨.d0, .d0, .d4⟩), none⟩,
        ⟨some ⟨.d1, .d0, .d7⟩, .move (.t ⟨.d1, .d1, .d0⟩), none⟩])
      (.cond (.t ⟨.d1, .d0, .d7⟩)
        (.seq (.region [⟨some ⟨.d0, .d0, .d2⟩, .move (.c (.int .i64 1)), none⟩])
        (.ret))
        (.seq (.region [⟨some ⟨.d1, .d1, .d2⟩, .move (.t ⟨.d0, .d0, .d5⟩), none⟩,
          ⟨some ⟨.d1, .d1, .d1⟩, .move (.t ⟨.d1, .d1, .d2⟩), none⟩])
        (.cond (.t ⟨.d1, .d1, .d1⟩)
          (.seq (.region [⟨some ⟨.d0, .d0, .d2⟩, .move (.c (.int .i64 4)), none⟩])
          (.ret))
          (.skip))))))))
  (.seq (.region [⟨some ⟨.d0, .d0, .d2⟩, .move (.c (.int .i64 0)), none⟩])
  (.ret)))))
def r_custref_TurnsRight : List XR := [.tmp ⟨.d0, .d0, .d2⟩]
theorem ok_custref_TurnsRight : okC Try.prog Try.f28.ntmps (bodyOf Try.f28) x_custref_TurnsRight = true := by kernel_rfl
theorem okr_custref_TurnsRight : okRs Try.prog Try.f28.results.toList r_custref_TurnsRight = true := by kernel_rfl

/-- slices.Clone -/
def x_slices_Clone_int : XC :=
  .seq (.region [⟨some ⟨.d0, .d0, .d2⟩, .move (.c (.slice none 0 0)), none⟩])
  (.seq (.seq (.region [⟨some ⟨.d0, .d0, .d3⟩, .move (.t ⟨.d0, .d0, .d0⟩), none⟩,
    ⟨some ⟨.d0, .d0, .d4⟩, .isnil false (.t ⟨.d0, .d0, .d3⟩), none⟩])
  (.cond (.t ⟨.d0, .d0, .d4⟩)
    (.seq (.region [⟨some ⟨.d0, .d0, .d2⟩, .move (.c (.slice none 0 0)), none⟩])
    (.ret))
    (.skip)))
  (.seq (.region [⟨some ⟨.d0, .d0, .d5⟩, .buildSlice 0 0 [.int .i64 0] [], none⟩,
    ⟨some ⟨.d0, .d0, .d6⟩, .move (.t ⟨.d0, .d0, .d0⟩), none⟩,
    ⟨some ⟨.d0, .d0, .d7⟩, .append 1 1 8 (.t ⟨.d0, .d0, .d5⟩) (.t ⟨.d0, .d0, .d6⟩), none⟩,
    ⟨some ⟨.d0, .d0, .d2⟩, .move (.t ⟨.d0, .d0, .d7⟩), none⟩])
  (.ret)))
def r_slices_Clone_int : List XR := [.tmp ⟨.d0, .d0, .d2⟩]
theorem ok_slices_Clone_int : okC Try.prog Try.f29.ntmps (bodyOf Try.f29) x_slices_Clone_int = true := by kernel_rfl
theorem okr_slices_Clone_int : okRs Try.prog Try.f29.results.toList r_slices_Clone_int = true := by kernel_rfl

/-- slices.Equal -/
def x_slices_Equal_int : XC :=
  .seq (.region [⟨some ⟨.d0, .d0, .d4⟩, .move (.c (.bool false)), none⟩])
  (.seq (.seq (.region [⟨some ⟨.d0, .d0, .d6⟩, .move (.t ⟨.d0, .d0, .d0⟩), none⟩,
    ⟨some ⟨.d0, .d0, .d7⟩, .len (.t ⟨.d0, .d0, .d6⟩), none⟩,
    ⟨some ⟨.d0, .d1, .d0⟩, .move (.t ⟨.d0, .d0, .d1⟩), none⟩,
    ⟨some ⟨.d0, .d1, .d1⟩, .len (.t ⟨.d0, .d1, .d0⟩), none⟩,
    ⟨some ⟨.d0, .d1, .d2⟩, .bin .neq (.t ⟨.d0, .d0, .d7⟩) (.t ⟨.d0, .d1, .d1⟩), none⟩])
  (.cond (.t ⟨.d0, .d1, .d2⟩)
    (.seq (.region [⟨some ⟨.d0, .d0, .d4⟩, .move (.c (.bool false)), none⟩])
    (.ret))
    (.skip)))
  (.seq (.seq (.region [⟨some ⟨.d0, .d1, .d3⟩, .move (.t ⟨.d0, .d0, .d0⟩), none⟩,
    ⟨some ⟨.d0, .d1, .d4⟩, .len (.t ⟨.d0, .d1, .d3⟩), none⟩,
    ⟨some ⟨.d0, .d1, .d5⟩, .move (.c (.int .i64 0)), none⟩])
  (.block 0
    (.loop
      (.seq (.region [⟨some ⟨.d0, .d1, .d6⟩, .bin .lss (.t ⟨.d0, .d1, .d5⟩) (.t ⟨.d0, .d1, .d4⟩), none⟩])
      (.seq (.cond (.t ⟨.d0, .d1, .d6⟩)
        (.skip)
        (.exit 0))
      (.seq (.block 1
        (.seq (.region [⟨some ⟨.d0, .d1, .d7⟩, .move (.t ⟨.d0, .d1, .d5⟩), none⟩,
          ⟨some ⟨.d0, .d0, .d5⟩, .move (.t ⟨.d0, .d1, .d7⟩), none⟩])
        (.seq (.regionD [0, 0, 3, 7, 0, 0, 48, 112, 255] [⟨some ⟨.d0, .d2, .d0⟩, .move (.t ⟨.d0, .d0, .d0⟩), none⟩,
          ⟨some ⟨.d0, .d2, .d1⟩, .move (.t ⟨.d0, .d0, .d5⟩), none⟩,
          ⟨some ⟨.d0, .d2, .d2⟩, .indexSl 1 (.t ⟨.d0, .d2, .d0⟩) (.t ⟨.d0, .d2, .d1⟩), none⟩,
          ⟨some ⟨.d0, .d2, .d3⟩, .load false 1 (.t ⟨.d0, .d2, .d2⟩), none⟩,
          ⟨some ⟨.d0, .d2, .d4⟩, .move (.t ⟨.d0, .d0, .d1⟩), none⟩,
          ⟨some ⟨.d0, .d2, .d5⟩, .move (.t ⟨.d0, .d0, .d5⟩), none⟩,
          ⟨some ⟨.d0, .d2, .d6⟩, .indexSl 1 (.t ⟨.d0, .d2, .d4⟩) (.t ⟨.d0, .d2, .d5⟩), none⟩,
          ⟨some ⟨.d0, .d2, .d7⟩, .load false 1 (.t ⟨.d0, .d2, .d6⟩), none⟩,
          ⟨some ⟨.d0, .d3, .d0⟩, .bin .neq (.t ⟨.d0, .d2, .d3⟩) (.t ⟨.d0, .d2, .d7⟩), none⟩])
        (.cond (.t ⟨.d0, .d3, .d0⟩)
          (.seq (.region [⟨some ⟨.d0, .d0, .d4⟩, .move (.c (.bool false)), none⟩])
          (.ret))
          (.skip)))))
      (.region [⟨some ⟨.d0, .d3, .d1⟩, .bin .add (.t ⟨.d0, .d1, .d5⟩) (.c (.int .i64 1)), none⟩,
        ⟨some ⟨.d0, .d1, .d5⟩, .move (.t ⟨.d0, .d3, .d1⟩), none⟩])))))))
  (.seq (.region [⟨some ⟨.d0, .d0, .d4⟩, .move (.c (.bool true)), none⟩])
  (.ret))))
def r_slices_Equal_int : List XR := [.tmp ⟨.d0, .d0, .d4⟩]
theorem ok_slices_Equal_int : okC Try.prog Try.f30.ntmps (bodyOf Try.f30) x_slices_Equal_int = true := by kernel_rfl
theorem okr_slices_Equal_int : okRs Try.prog Try.f30.results.toList r_slices_Equal_int = true := by kernel_rfl

/-- turns.Round -/
def x_turns_Round : XC :=
  .seq (.region [⟨some ⟨.d0, .d0, .d2⟩, .move (.c (.slice none 0 0)), none⟩,
    ⟨some ⟨.d0, .d0, .d3⟩, .move (.c (.slice none 0 0)), none⟩,
    ⟨some ⟨.d0, .d0, .d4⟩, .move (.c (.int .i64 0)), none⟩])
  (.seq (.seq (.region [⟨some ⟨.d0, .d1, .d2⟩, .move (.t ⟨.d0, .d0, .d0⟩), none⟩,
    ⟨some ⟨.d0, .d1, .d3⟩, .call 32 [(.t ⟨.d0, .d1, .d2⟩)], none⟩,
    ⟨some ⟨.d0, .d0, .d5⟩, .move (.t ⟨.d0, .d1, .d3⟩), none⟩])
  (.seq (.region [⟨some ⟨.d0, .d1, .d4⟩, .move (.t ⟨.d0, .d0, .d5⟩), none⟩,
    ⟨some ⟨.d0, .d1, .d5⟩, .bin .neq (.t ⟨.d0, .d1, .d4⟩) (.c (.int .i64 0)), none⟩])
  (.cond (.t ⟨.d0, .d1, .d5⟩)
    (.seq (.region [⟨some ⟨.d0, .d1, .d6⟩, .move (.t ⟨.d0, .d0, .d5⟩), none⟩,
      ⟨some ⟨.d0, .d0, .d2⟩, .move (.c (.slice none 0 0)), none⟩,
      ⟨some ⟨.d0, .d0, .d3⟩, .move (.c (.slice none 0 0)), none⟩,
      ⟨some ⟨.d0, .d0, .d4⟩, .move (.t ⟨.d0, .d1, .d6⟩), none⟩])
    (.ret))
    (.skip))))
  (.seq (.region [⟨some ⟨.d0, .d1, .d7⟩, .move (.t ⟨.d0, .d0, .d0⟩), none⟩,
    ⟨some ⟨.d0, .d2, .d0⟩, .call 61 [(.t ⟨.d0, .d1, .d7⟩)], none⟩,
    ⟨some ⟨.d0, .d0, .d0⟩, .move (.t ⟨.d0, .d2, .d0⟩), none⟩])
  (.seq (.region [⟨some ⟨.d0, .d0, .d6⟩, .move (.c (.slice none 0 0)), none⟩])
  (.seq (.seq (.region [⟨some ⟨.d0, .d2, .d1⟩, .move (.t ⟨.d0, .d0, .d0⟩), none⟩,
    ⟨some ⟨.d0, .d2, .d2⟩, .len (.t ⟨.d0, .d2, .d1⟩), none⟩,
    ⟨some ⟨.d0, .d2, .d3⟩, .move (.c (.int .i64 0)), none⟩])
  (.block 0
    (.loop
      (.seq (.region [⟨some ⟨.d0, .d2, .d4⟩, .bin .lss (.t ⟨.d0, .d2, .d3⟩) (.t ⟨.d0, .d2, .d2⟩), none⟩])
      (.seq (.cond (.t ⟨.d0, .d2, .d4⟩)
        (.skip)
        (.exit 0))
      (.seq (.block 1
        (.seq (.region [⟨some ⟨.d0, .d2, .d5⟩, .move (.t ⟨.d0, .d2, .d3⟩), none⟩,
          ⟨some ⟨.d0, .d0, .d7⟩, .move (.t ⟨.d0, .d2, .d5⟩), none⟩])
        (.seq (.region [⟨some ⟨.d0, .d2, .d6⟩, .move (.t ⟨.d0, .d0, .d0⟩), none⟩,
          ⟨some ⟨.d0, .d2, .d7⟩, .move (.t ⟨.d0, .d0, .d7⟩), none⟩,
          ⟨some ⟨.d0, .d3, .d0⟩, .indexSl 3 (.t ⟨.d0, .d2, .d6⟩) (.t ⟨.d0, .d2, .d7⟩), none⟩,
          ⟨some ⟨.d0, .d1, .d0⟩, .move (.t ⟨.d0, .d3, .d0⟩), none⟩])
        (.seq (.seq (.region [⟨some ⟨.d0, .d3, .d1⟩, .move (.t ⟨.d0, .d1, .d0⟩), none⟩,
          ⟨some ⟨.d0, .d3, .d2⟩, .nilCheck (.t ⟨.d0, .d3, .d1⟩), none⟩,
          ⟨some ⟨.d0, .d3, .d3⟩, .fieldAddr 2 (.t ⟨.d0, .d3, .d2⟩), none⟩,
          ⟨some ⟨.d0, .d3, .d4⟩, .load false 1 (.t ⟨.d0, .d3, .d3⟩), none⟩,
          ⟨some ⟨.d0, .d3, .d5⟩, .len (.t ⟨.d0, .d3, .d4⟩), none⟩,
          ⟨some ⟨.d0, .d3, .d6⟩, .bin .eql (.t ⟨.d0, .d3, .d5⟩) (.c (.int .i64 0)), none⟩])
        (.cond (.t ⟨.d0, .d3, .d6⟩)
          (.exit 1)
          (.skip)))
        (.seq (.regionD [0, 1, 3, 7, 0, 16, 48, 112, 255, 511, 1023, 2047] [⟨some ⟨.d0, .d3, .d7⟩, .move (.t ⟨.d0, .d1, .d0⟩), none⟩,
          ⟨some ⟨.d0, .d4, .d0⟩, .nilCheck (.t ⟨.d0, .d3, .d7⟩), none⟩,
          ⟨some ⟨.d0, .d4, .d1⟩, .fieldAddr 1 (.t ⟨.d0, .d4, .d0⟩), none⟩,
          ⟨some ⟨.d0, .d4, .d2⟩, .load false 1 (.t ⟨.d0, .d4, .d1⟩), none⟩,
          ⟨some ⟨.d0, .d4, .d3⟩, .move (.t ⟨.d0, .d1, .d0⟩), none⟩,
          ⟨some ⟨.d0, .d4, .d4⟩, .nilCheck (.t ⟨.d0, .d4, .d3⟩), none⟩,
          ⟨some ⟨.d0, .d4, .d5⟩, .fieldAddr 0 (.t ⟨.d0, .d4, .d4⟩), none⟩,
          ⟨some ⟨.d0, .d4, .d6⟩, .load false 1 (.t ⟨.d0, .d4, .d5⟩), none⟩,
          ⟨some ⟨.d0, .d4, .d7⟩, .bin .add (.t ⟨.d0, .d4, .d2⟩) (.t ⟨.d0, .d4, .d6⟩), none⟩,
          ⟨some ⟨.d0, .d5, .d0⟩, .nilCheck (.t ⟨.d0, .d3, .d7⟩), none⟩,
          ⟨some ⟨.d0, .d5, .d1⟩, .fieldAddr 1 (.t ⟨.d0, .d5, .d0⟩), none⟩,
          ⟨none, .store 1 (.t ⟨.d0, .d5, .d1⟩) (.t ⟨.d0, .d4, .d7⟩), none⟩])
        (.seq (.region [⟨some ⟨.d0, .d1, .d1⟩, .move (.c (.int .i64 0)), none⟩])
        (.seq (.block 2
          (.loop
            (.seq (.seq (.regionD [0, 0, 2, 6, 14, 30, 63, 127, 255, 511, 1023, 2047, 255, 8191, 16383, 255, 33023, 98559, 229631, 524287, 1048575] [⟨some ⟨.d0, .d5, .d2⟩, .move (.t ⟨.d0, .d1, .d1⟩), none⟩,
              ⟨some ⟨.d0, .d5, .d3⟩, .move (.t ⟨.d0, .d1, .d0⟩), none⟩,
              ⟨some ⟨.d0, .d5, .d4⟩, .nilCheck (.t ⟨.d0, .d5, .d3⟩), none⟩,
              ⟨some ⟨.d0, .d5, .d5⟩, .fieldAddr 2 (.t ⟨.d0, .d5, .d4⟩), none⟩,
              ⟨some ⟨.d0, .d5, .d6⟩, .load false 1 (.t ⟨.d0, .d5, .d5⟩), none⟩,
              ⟨some ⟨.d0, .d5, .d7⟩, .len (.t ⟨.d0, .d5, .d6⟩), none⟩,
              ⟨some ⟨.d0, .d6, .d0⟩, .bin .lss (.t ⟨.d0, .d5, .d2⟩) (.t ⟨.d0, .d5, .d7⟩), none⟩,
              ⟨some ⟨.d0, .d6, .d1⟩, .move (.t ⟨.d0, .d6, .d0⟩), none⟩,
              ⟨some ⟨.d0, .d6, .d2⟩, .move (.t ⟨.d0, .d1, .d0⟩), some (⟨.d0, .d6, .d1⟩, true)⟩,
              ⟨some ⟨.d0, .d6, .d3⟩, .nilCheck (.t ⟨.d0, .d6, .d2⟩), some (⟨.d0, .d6, .d1⟩, true)⟩,
              ⟨some ⟨.d0, .d6, .d4⟩, .fieldAddr 2 (.t ⟨.d0, .d6, .d3⟩), some (⟨.d0, .d6, .d1⟩, true)⟩,
              ⟨some ⟨.d0, .d6, .d5⟩, .load false 1 (.t ⟨.d0, .d6, .d4⟩), some (⟨.d0, .d6, .d1⟩, true)⟩,
              ⟨some ⟨.d0, .d6, .d6⟩, .move (.t ⟨.d0, .d1, .d1⟩), some (⟨.d0, .d6, .d1⟩, true)⟩,
              ⟨some ⟨.d0, .d6, .d7⟩, .indexSl 1 (.t ⟨.d0, .d6, .d5⟩) (.t ⟨.d0, .d6, .d6⟩), some (⟨.d0, .d6, .d1⟩, true)⟩,
              ⟨some ⟨.d0, .d7, .d0⟩, .load false 1 (.t ⟨.d0, .d6, .d7⟩), some (⟨.d0, .d6, .d1⟩, true)⟩,
              ⟨some ⟨.d0, .d7, .d1⟩, .move (.t ⟨.d0, .d1, .d0⟩), some (⟨.d0, .d6, .d1⟩, true)⟩,
              ⟨some ⟨.d0, .d7, .d2⟩, .nilCheck (.t ⟨.d0, .d7, .d1⟩), some (⟨.d0, .d6, .d1⟩, true)⟩,
              ⟨some ⟨.d0, .d7, .d3⟩, .fieldAddr 1 (.t ⟨.d0, .d7, .d2⟩), some (⟨.d0, .d6, .d1⟩, true)⟩,
              ⟨some ⟨.d0, .d7, .d4⟩, .load false 1 (.t ⟨.d0, .d7, .d3⟩), some (⟨.d0, .d6, .d1⟩, true)⟩,
              ⟨some ⟨.d0, .d7, .d5⟩, .bin .leq (.t ⟨.d0, .d7, .d0⟩) (.t ⟨.d0, .d7, .d4⟩), some (⟨.d0, .d6, .d1⟩, true)⟩,
              ⟨some ⟨.d0, .d7, .d6⟩, .pick (.t ⟨.d0, .d6, .d1⟩) (.t ⟨.d0, .d7, .d5⟩) (.c (.bool false)), none⟩])
            (.cond (.t ⟨.d0, .d7, .d6⟩)
              (.skip)
              (.exit 2)))
            (.block 3
              (.seq (.region [⟨some ⟨.d0, .d7, .d7⟩, .move (.t ⟨.d0, .d0, .d6⟩), none⟩,
                ⟨some ⟨.d1, .d0, .d0⟩, .move (.t ⟨.d0, .d0, .d7⟩), none⟩,
                ⟨some ⟨.d1, .d0, .d1⟩, .move (.t ⟨.d0, .d1, .d0⟩), none⟩,
                ⟨some ⟨.d1, .d0, .d2⟩, .nilCheck (.t ⟨.d1, .d0, .d1⟩), none⟩,
                ⟨some ⟨.d1, .d0, .d3⟩, .fieldAddr 2 (.t ⟨.d1, .d0, .d2⟩), none⟩,
                ⟨some ⟨.d1, .d0, .d4⟩, .load false 1 (.t ⟨.d1, .d0, .d3⟩), none⟩,
                ⟨some ⟨.d1, .d0, .d5⟩, .move (.t ⟨.d0, .d1, .d1⟩), none⟩,
                ⟨some ⟨.d1, .d0, .d6⟩, .indexSl 1 (.t ⟨.d1, .d0, .d4⟩) (.t ⟨.d1, .d0, .d5⟩), none⟩,
                ⟨some ⟨.d1, .d0, .d7⟩, .load false 1 (.t ⟨.d1, .d0, .d6⟩), none⟩,
                ⟨some ⟨.d1, .d1, .d0⟩, .build [.int .i64 0, .int .i64 0] [(0, 1, (.t ⟨.d1, .d0, .d0⟩)), (1, 1, (.t ⟨.d1, .d0, .d7⟩))], none⟩,
                ⟨some ⟨.d1, .d1, .d1⟩, .buildSlice 0 1 [.int .i64 0, .int .i64 0] [(0, (.t ⟨.d1, .d1, .d0⟩))], none⟩,
                ⟨some ⟨.d1, .d1, .d2⟩, .append 1 2 16 (.t ⟨.d0, .d7, .d7⟩) (.t ⟨.d1, .d1, .d1⟩), none⟩,
                ⟨some ⟨.d0, .d0, .d6⟩, .move (.t ⟨.d1, .d1, .d2⟩), none⟩])
              (.seq (.regionD [0, 1, 3, 7, 0, 16, 48, 112, 0, 496, 1008, 2047, 4095, 8191, 16383] [⟨some ⟨.d1, .d1, .d3⟩, .move (.t ⟨.d0, .d1, .d0⟩), none⟩,
                ⟨some ⟨.d1, .d1, .d4⟩, .nilCheck (.t ⟨.d1, .d1, .d3⟩), none⟩,
                ⟨some ⟨.d1, .d1, .d5⟩, .fieldAddr 1 (.t ⟨.d1, .d1, .d4⟩), none⟩,
                ⟨some ⟨.d1, .d1, .d6⟩, .load false 1 (.t ⟨.d1, .d1, .d5⟩), none⟩,
                ⟨some ⟨.d1, .d1, .d7⟩, .move (.t ⟨.d0, .d1, .d0⟩), none⟩,
                ⟨some ⟨.d1, .d2, .d0⟩, .nilCheck (.t ⟨.d1, .d1, .d7⟩), none⟩,
                ⟨some ⟨.d1, .d2, .d1⟩, .fieldAddr 2 (.t ⟨.d1, .d2, .d0⟩), none⟩,
                ⟨some ⟨.d1, .d2, .d2⟩, .load false 1 (.t ⟨.d1, .d2, .d1⟩), none⟩,
                ⟨some ⟨.d1, .d2, .d3⟩, .move (.t ⟨.d0, .d1, .d1⟩), none⟩,
                ⟨some ⟨.d1, .d2, .d4⟩, .indexSl 1 (.t ⟨.d1, .d2, .d2⟩) (.t ⟨.d1, .d2, .d3⟩), none⟩,
                ⟨some ⟨.d1, .d2, .d5⟩, .load false 1 (.t ⟨.d1, .d2, .d4⟩), none⟩,
                ⟨some ⟨.d1, .d2, .d6⟩, .bin .sub (.t ⟨.d1, .d1, .d6⟩) (.t ⟨.d1, .d2, .d5⟩), none⟩,
                ⟨some ⟨.d1, .d2, .d7⟩, .nilCheck (.t ⟨.d1, .d1, .d3⟩), none⟩,
                ⟨some ⟨.d1, .d3, .d0⟩, .fieldAddr 1 (.t ⟨.d1, .d2, .d7⟩), none⟩,
                ⟨none, .store 1 (.t ⟨.d1, .d3, .d0⟩) (.t ⟨.d1, .d2, .d6⟩), none⟩])
              (.region [⟨some ⟨.d1, .d3, .d1⟩, .move (.t ⟨.d0, .d1, .d1⟩), none⟩,
                ⟨some ⟨.d1, .d3, .d2⟩, .bin .add (.t ⟨.d1, .d3, .d1⟩) (.c (.int .i64 1)), none⟩,
                ⟨some ⟨.d0, .d1, .d1⟩, .move (.t ⟨.d1, .d3, .d2⟩), none⟩])))))))
        (.seq (.region [⟨some ⟨.d1, .d3, .d3⟩, .move (.t ⟨.d0, .d1, .d0⟩), none⟩,
          ⟨some ⟨.d1, .d3, .d4⟩, .move (.t ⟨.d0, .d1, .d0⟩), none⟩,
          ⟨some ⟨.d1, .d3, .d5⟩, .nilCheck (.t ⟨.d1, .d3, .d4⟩), none⟩,
          ⟨some ⟨.d1, .d3, .d6⟩, .fieldAddr 2 (.t ⟨.d1, .d3, .d5⟩), none⟩,
          ⟨some ⟨.d1, .d3, .d7⟩, .load false 1 (.t ⟨.d1, .d3, .d6⟩), none⟩,
          ⟨some ⟨.d1, .d4, .d0⟩, .move (.t ⟨.d0, .d1, .d1⟩), none⟩,
          ⟨some ⟨.d1, .d4, .d1⟩, .slice 1 (.t ⟨.d1, .d3, .d7⟩) (some (.t ⟨.d1, .d4, .d0⟩)) none none, none⟩,
          ⟨some ⟨.d1, .d4, .d2⟩, .nilCheck (.t ⟨.d1, .d3, .d3⟩), none⟩,
          ⟨some ⟨.d1, .d4, .d3⟩, .fieldAddr 2 (.t ⟨.d1, .d4, .d2⟩), none⟩,
          ⟨none, .store 1 (.t ⟨.d1, .d4, .d3⟩) (.t ⟨.d1, .d4, .d1⟩), none⟩])
        (.seq (.region [⟨some ⟨.d1, .d4, .d4⟩, .move (.t ⟨.d0, .d1, .d0⟩), none⟩,
          ⟨some ⟨.d1, .d4, .d5⟩, .nilCheck (.t ⟨.d1, .d4, .d4⟩), none⟩,
          ⟨some ⟨.d1, .d4, .d6⟩, .fieldAddr 2 (.t ⟨.d1, .d4, .d5⟩), none⟩,
          ⟨some ⟨.d1, .d4, .d7⟩, .load false 1 (.t ⟨.d1, .d4, .d6⟩), none⟩,
          ⟨some ⟨.d1, .d5, .d0⟩, .len (.t ⟨.d1, .d4, .d7⟩), none⟩,
          ⟨some ⟨.d1, .d5, .d1⟩, .bin .eql (.t ⟨.d1, .d5, .d0⟩) (.c (.int .i64 0)), none⟩])
        (.cond (.t ⟨.d1, .d5, .d1⟩)
          (.region [⟨some ⟨.d1, .d5, .d2⟩, .move (.t ⟨.d0, .d1, .d0⟩), none⟩,
            ⟨some ⟨.d1, .d5, .d3⟩, .nilCheck (.t ⟨.d1, .d5, .d2⟩), none⟩,
            ⟨some ⟨.d1, .d5, .d4⟩, .fieldAddr 1 (.t ⟨.d1, .d5, .d3⟩), none⟩,
            ⟨none, .store 1 (.t ⟨.d1, .d5, .d4⟩) (.c (.int .i64 0)), none⟩])
          (.skip)))))))))))
      (.region [⟨some ⟨.d1, .d5, .d5⟩, .bin .add (.t ⟨.d0, .d2, .d3⟩) (.c (.int .i64 1)), none⟩,
        ⟨some ⟨.d0, .d2, .d3⟩, .move (.t ⟨.d1, .d5, .d5⟩), none⟩])))))))
  (.seq (.region [⟨some ⟨.d1, .d5, .d6⟩, .move (.t ⟨.d0, .d0, .d0⟩), none⟩,
    ⟨some ⟨.d1, .d5, .d7⟩, .move (.t ⟨.d0, .d0, .d6⟩), none⟩,
    ⟨some ⟨.d0, .d0, .d2⟩, .move (.t ⟨.d1, .d5, .d6⟩), none⟩,
    ⟨some ⟨.d0, .d0, .d3⟩, .move (.t ⟨.d1, .d5, .d7⟩), none⟩,
    ⟨some ⟨.d0, .d0, .d4⟩, .move (.c (.int .i64 0)), none⟩])
  (.ret))))))
def r_turns_Round : List XR := [.tmp ⟨.d0, .d0, .d2⟩, .tmp ⟨.d0, .d0, .d3⟩, .tmp ⟨.d0, .d0, .d4⟩]
theorem ok_turns_Round : okC Try.prog Try.f31.ntmps (bodyOf Try.f31) x_turns_Round = true := by kernel_rfl
theorem okr_turns_Round : okRs Try.prog Try.f31.results.toList r_turns_Round = true := by kernel_rfl

/-- turns.Check -/
def x_turns_Check : XC :=
  .seq (.region [⟨some ⟨.d0, .d0, .d2⟩, .move (.c (.int .i64 0)), none⟩])
  (.seq (.seq (.region [⟨some ⟨.d0, .d0, .d7⟩, .move (.t ⟨.d0, .d0, .d0⟩), none⟩,
    ⟨some ⟨.d0, .d1, .d0⟩, .len (.t ⟨.d0, .d0, .d7⟩), none⟩,
    ⟨some ⟨.d0, .d1, .d1⟩, .bin .gtr (.t ⟨.d0, .d1, .d0⟩) (.c (.int .i64 16)), none⟩,
    ⟨some ⟨.d0, .d1, .d2⟩, .move (.t ⟨.d0, .d1, .d1⟩), none⟩,
    ⟨some ⟨.d0, .d1, .d3⟩, .move (.t ⟨.d0, .d0, .d0⟩), some (⟨.d0, .d1, .d2⟩, false)⟩,
    ⟨some ⟨.d0, .d1, .d4⟩, .call 62 [(.t ⟨.d0, .d1, .d3⟩), (.f 63)], some (⟨.d0, .d1, .d2⟩, false)⟩,
    ⟨some ⟨.d0, .d1, .d5⟩, .pick (.t ⟨.d0, .d1, .d2⟩) (.c (.bool true)) (.t ⟨.d0, .d1, .d4⟩), none⟩])
  (.cond (.t ⟨.d0, .d1, .d5⟩)
    (.seq (.region [⟨some ⟨.d0, .d0, .d2⟩, .move (.c (.int .i64 2)), none⟩])
    (.ret))
    (.skip)))
  (.seq (.seq (.region [⟨some ⟨.d0, .d1, .d6⟩, .move (.t ⟨.d0, .d0, .d0⟩), none⟩,
    ⟨some ⟨.d0, .d1, .d7⟩, .len (.t ⟨.d0, .d1, .d6⟩), none⟩,
    ⟨some ⟨.d0, .d2, .d0⟩, .move (.c (.int .i64 0)), none⟩])
  (.block 0
    (.loop
      (.seq (.region [⟨some ⟨.d0, .d2, .d1⟩, .bin .lss (.t ⟨.d0, .d2, .d0⟩) (.t ⟨.d0, .d1, .d7⟩), none⟩])
      (.seq (.cond (.t ⟨.d0, .d2, .d1⟩)
        (.skip)
        (.exit 0))
      (.seq (.block 1
        (.seq (.region [⟨some ⟨.d0, .d2, .d2⟩, .indexSl 3 (.t ⟨.d0, .d1, .d6⟩) (.t ⟨.d0, .d2, .d0⟩), none⟩,
          ⟨some ⟨.d0, .d2, .d3⟩, .load true 3 (.t ⟨.d0, .d2, .d2⟩), none⟩,
          ⟨some ⟨.d0, .d0, .d4⟩, .alloc 0 [.int .i64 0, .int .i64 0, .slice none 0 0], none⟩,
          ⟨none, .store 3 (.t ⟨.d0, .d0, .d4⟩) (.t ⟨.d0, .d2, .d3⟩), none⟩])
        (.seq (.region [⟨some ⟨.d0, .d2, .d4⟩, .fieldAddr 0 (.t ⟨.d0, .d0, .d4⟩), none⟩,
          ⟨some ⟨.d0, .d2, .d5⟩, .load false 1 (.t ⟨.d0, .d2, .d4⟩), none⟩,
          ⟨some ⟨.d0, .d2, .d6⟩, .call 60 [(.t ⟨.d0, .d2, .d5⟩)], none⟩,
          ⟨some ⟨.d0, .d2, .d7⟩, .un .not (.t ⟨.d0, .d2, .d6⟩), none⟩,
          ⟨some ⟨.d0, .d3, .d0⟩, .move (.t ⟨.d0, .d2, .d7⟩), none⟩,
          ⟨some ⟨.d0, .d3, .d1⟩, .fieldAddr 2 (.t ⟨.d0, .d0, .d4⟩), some (⟨.d0, .d3, .d0⟩, false)⟩,
          ⟨some ⟨.d0, .d3, .d2⟩, .load false 1 (.t ⟨.d0, .d3, .d1⟩), some (⟨.d0, .d3, .d0⟩, false)⟩,
          ⟨some ⟨.d0, .d3, .d3⟩, .call 64 [(.t ⟨.d0, .d3, .d2⟩), (.f 65)], some (⟨.d0, .d3, .d0⟩, false)⟩,
          ⟨some ⟨.d0, .d3, .d4⟩, .pick (.t ⟨.d0, .d3, .d0⟩) (.c (.bool true)) (.t ⟨.d0, .d3, .d3⟩), none⟩])
        (.cond (.t ⟨.d0, .d3, .d4⟩)
          (.seq (.region [⟨some ⟨.d0, .d0, .d2⟩, .move (.c (.int .i64 1)), none⟩])
          (.ret))
          (.skip)))))
      (.region [⟨some ⟨.d0, .d3, .d5⟩, .bin .add (.t ⟨.d0, .d2, .d0⟩) (.c (.int .i64 1)), none⟩,
        ⟨some ⟨.d0, .d2, .d0⟩, .move (.t ⟨.d0, .d3, .d5⟩), none⟩])))))))
  (.seq (.seq (.region [⟨some ⟨.d0, .d3, .d6⟩, .move (.t ⟨.d0, .d0, .d0⟩), none⟩,
    ⟨some ⟨.d0, .d3, .d7⟩, .len (.t ⟨.d0, .d3, .d6⟩), none⟩,
    ⟨some ⟨.d0, .d4, .d0⟩, .move (.c (.int .i64 0)), none⟩])
  (.block 2
    (.loop
      (.seq (.region [⟨some ⟨.d0, .d4, .d1⟩, .bin .lss (.t ⟨.d0, .d4, .d0⟩) (.t ⟨.d0, .d3, .d7⟩), none⟩])
      (.seq (.cond (.t ⟨.d0, .d4, .d1⟩)
        (.skip)
        (.exit 2))
      (.seq (.block 3
        (.seq (.region [⟨some ⟨.d0, .d4, .d2⟩, .indexSl 3 (.t ⟨.d0, .d3, .d6⟩) (.t ⟨.d0, .d4, .d0⟩), none⟩,
          ⟨some ⟨.d0, .d4, .d3⟩, .load true 3 (.t ⟨.d0, .d4, .d2⟩), none⟩,
          ⟨some ⟨.d0, .d0, .d6⟩, .alloc 1 [.int .i64 0, .int .i64 0, .slice none 0 0], none⟩,
          ⟨none, .store 3 (.t ⟨.d0, .d0, .d6⟩) (.t ⟨.d0, .d4, .d3⟩), none⟩])
        (.block 4
          (.seq (.seq (.region [⟨some ⟨.d0, .d4, .d5⟩, .fieldAddr 1 (.t ⟨.d0, .d0, .d6⟩), none⟩,
            ⟨some ⟨.d0, .d4, .d6⟩, .load false 1 (.t ⟨.d0, .d4, .d5⟩), none⟩,
            ⟨some ⟨.d0, .d4, .d7⟩, .bin .lss (.t ⟨.d0, .d4, .d6⟩) (.c (.int .i64 0)), none⟩,
            ⟨some ⟨.d0, .d4, .d4⟩, .move (.t ⟨.d0, .d4, .d7⟩), none⟩])
          (.cond (.t ⟨.d0, .d4, .d4⟩)
            (.skip)
            (.seq (.region [⟨some ⟨.d0, .d5, .d0⟩, .fieldAddr 2 (.t ⟨.d0, .d0, .d6⟩), none⟩,
              ⟨some ⟨.d0, .d5, .d1⟩, .load false 1 (.t ⟨.d0, .d5, .d0⟩), none⟩,
              ⟨some ⟨.d0, .d5, .d2⟩, .len (.t ⟨.d0, .d5, .d1⟩), none⟩,
              ⟨some ⟨.d0, .d5, .d3⟩, .bin .eql (.t ⟨.d0, .d5, .d2⟩) (.c (.int .i64 0)), none⟩,
              ⟨some ⟨.d0, .d5, .d4⟩, .move (.t ⟨.d0, .d5, .d3⟩), none⟩,
              ⟨some ⟨.d0, .d5, .d5⟩, .fieldAddr 1 (.t ⟨.d0, .d0, .d6⟩), some (⟨.d0, .d5, .d4⟩, true)⟩,
              ⟨some ⟨.d0, .d5, .d6⟩, .load false 1 (.t ⟨.d0, .d5, .d5⟩), some (⟨.d0, .d5, .d4⟩, true)⟩,
              ⟨some ⟨.d0, .d5, .d7⟩, .bin .gtr (.t ⟨.d0, .d5, .d6⟩) (.c (.int .i64 0)), some (⟨.d0, .d5, .d4⟩, true)⟩,
              ⟨some ⟨.d0, .d6, .d0⟩, .pick (.t ⟨.d0, .d5, .d4⟩) (.t ⟨.d0, .d5, .d7⟩) (.c (.bool false)), none⟩,
              ⟨some ⟨.d0, .d4, .d4⟩, .move (.t ⟨.d0, .d6, .d0⟩), none⟩])
            (.cond (.t ⟨.d0, .d4, .d4⟩)
              (.skip)
              (.regionD [0, 1, 3, 7, 15, 31, 63, 31, 159, 415, 927, 2047, 4095, 8191] [⟨some ⟨.d0, .d6, .d1⟩, .fieldAddr 2 (.t ⟨.d0, .d0, .d6⟩), none⟩,
                ⟨some ⟨.d0, .d6, .d2⟩, .load false 1 (.t ⟨.d0, .d6, .d1⟩), none⟩,
                ⟨some ⟨.d0, .d6, .d3⟩, .len (.t ⟨.d0, .d6, .d2⟩), none⟩,
                ⟨some ⟨.d0, .d6, .d4⟩, .bin .gtr (.t ⟨.d0, .d6, .d3⟩) (.c (.int .i64 0)), none⟩,
                ⟨some ⟨.d0, .d6, .d5⟩, .move (.t ⟨.d0, .d6, .d4⟩), none⟩,
                ⟨some ⟨.d0, .d6, .d6⟩, .fieldAddr 1 (.t ⟨.d0, .d0, .d6⟩), some (⟨.d0, .d6, .d5⟩, true)⟩,
                ⟨some ⟨.d0, .d6, .d7⟩, .load false 1 (.t ⟨.d0, .d6, .d6⟩), some (⟨.d0, .d6, .d5⟩, true)⟩,
                ⟨some ⟨.d0, .d7, .d0⟩, .fieldAddr 2 (.t ⟨.d0, .d0, .d6⟩), some (⟨.d0, .d6, .d5⟩, true)⟩,
                ⟨some ⟨.d0, .d7, .d1⟩, .load false 1 (.t ⟨.d0, .d7, .d0⟩), some (⟨.d0, .d6, .d5⟩, true)⟩,
                ⟨some ⟨.d0, .d7, .d2⟩, .indexSl 1 (.t ⟨.d0, .d7, .d1⟩) (.c (.int .i64 0)), some (⟨.d0, .d6, .d5⟩, true)⟩,
                ⟨some ⟨.d0, .d7, .d3⟩, .load false 1 (.t ⟨.d0, .d7, .d2⟩), some (⟨.d0, .d6, .d5⟩, true)⟩,
                ⟨some ⟨.d0, .d7, .d4⟩, .bin .geq (.t ⟨.d0, .d6, .d7⟩) (.t ⟨.d0, .d7, .d3⟩), some (⟨.d0, .d6, .d5⟩, true)⟩,
                ⟨some ⟨.d0, .d7, .d5⟩, .pick (.t ⟨.d0, .d6, .d5⟩) (.t ⟨.d0, .d7, .d4⟩) (.c (.bool false)), none⟩,
                ⟨some ⟨.d0, .d4, .d4⟩, .move (.t ⟨.d0, .d7, .d5⟩), none⟩])))))
          (.cond (.t ⟨.d0, .d4, .d4⟩)
            (.seq (.region [⟨some ⟨.d0, .d0, .d2⟩, .move (.c (.int .i64 4)), none⟩])
            (.ret))
            (.skip))))))
      (.region [⟨some ⟨.d0, .d7, .d6⟩, .bin .add (.t ⟨.d0, .d4, .d0⟩) (.c (.int .i64 1)), none⟩,
        ⟨some ⟨.d0, .d4, .d0⟩, .move (.t ⟨.d0, .d7, .d6⟩), none⟩])))))))
  (.seq (.region [⟨some ⟨.d0, .d0, .d2⟩, .move (.c (.int .i64 0)), none⟩])
  (.ret)))))
def r_turns_Check : List XR := [.tmp ⟨.d0, .d0, .d2⟩]
theorem ok_turns_Check : okC Try.prog Try.f32.ntmps (bodyOf Try.f32) x_turns_Check = true := by kernel_rfl
theorem okr_turns_Check : okRs Try.prog Try.f32.results.toList r_turns_Check = true := by kernel_rfl

/-- custref.Rounded -/
def x_custref_Rounded : XC :=
  .seq (.region [⟨some ⟨.d0, .d0, .d2⟩, .move (.c (.slice none 0 0)), none⟩,
    ⟨some ⟨.d0, .d0, .d3⟩, .move (.c (.slice none 0 0)), none⟩])
  (.seq (.region [⟨some ⟨.d0, .d0, .d4⟩, .move (.c (.slice none 0 0)), none⟩])
  (.seq (.region [⟨some ⟨.d0, .d0, .d5⟩, .move (.c (.slice none 0 0)), none⟩])
  (.seq (.seq (.region [⟨some ⟨.d0, .d1, .d4⟩, .move (.t ⟨.d0, .d0, .d0⟩), none⟩,
    ⟨some ⟨.d0, .d1, .d5⟩, .len (.t ⟨.d0, .d1, .d4⟩), none⟩,
    ⟨some ⟨.d0, .d1, .d6⟩, .move (.c (.int .i64 0)), none⟩])
  (.block 0
    (.loop
      (.seq (.region [⟨some ⟨.d0, .d1, .d7⟩, .bin .lss (.t ⟨.d0, .d1, .d6⟩) (.t ⟨.d0, .d1, .d5⟩), none⟩])
      (.seq (.cond (.t ⟨.d0, .d1, .d7⟩)
        (.skip)
        (.exit 0))
      (.seq (.block 1
        (.seq (.region [⟨some ⟨.d0, .d2, .d0⟩, .move (.t ⟨.d0, .d1, .d6⟩), none⟩,
          ⟨some ⟨.d0, .d2, .d1⟩, .indexSl 3 (.t ⟨.d0, .d1, .d4⟩) (.t ⟨.d0, .d1, .d6⟩), none⟩,
          ⟨some ⟨.d0, .d2, .d2⟩, .load true 3 (.t ⟨.d0, .d2, .d1⟩), none⟩,
          ⟨some ⟨.d0, .d0, .d7⟩, .alloc 0 [.int .i64 0, .int .i64 0, .slice none 0 0], none⟩,
          ⟨some ⟨.d0, .d0, .d6⟩, .move (.t ⟨.d0, .d2, .d0⟩), none⟩,
          ⟨none, .store 3 (.t ⟨.d0, .d0, .d7⟩) (.t ⟨.d0, .d2, .d2⟩), none⟩])
        (.seq (.region [⟨some ⟨.d0, .d2, .d3⟩, .fieldAddr 1 (.t ⟨.d0, .d0, .d7⟩), none⟩,
          ⟨some ⟨.d0, .d2, .d4⟩, .load false 1 (.t ⟨.d0, .d2, .d3⟩), none⟩,
          ⟨some ⟨.d0, .d2, .d5⟩, .fieldAddr 0 (.t ⟨.d0, .d0, .d7⟩), none⟩,
          ⟨some ⟨.d0, .d2, .d6⟩, .load false 1 (.t ⟨.d0, .d2, .d5⟩), none⟩,
          ⟨some ⟨.d0, .d2, .d7⟩, .bin .add (.t ⟨.d0, .d2, .d4⟩) (.t ⟨.d0, .d2, .d6⟩), none⟩,
          ⟨some ⟨.d0, .d1, .d0⟩, .move (.t ⟨.d0, .d2, .d7⟩), none⟩,
          ⟨some ⟨.d0, .d1, .d1⟩, .move (.c (.int .i64 0)), none⟩,
          ⟨some ⟨.d0, .d1, .d2⟩, .move (.c (.int .i64 0)), none⟩])
        (.seq (.block 2
          (.loop
            (.seq (.seq (.region [⟨some ⟨.d0, .d3, .d0⟩, .move (.t ⟨.d0, .d1, .d2⟩), none⟩,
              ⟨some ⟨.d0, .d3, .d1⟩, .fieldAddr 2 (.t ⟨.d0, .d0, .d7⟩), none⟩,
              ⟨some ⟨.d0, .d3, .d2⟩, .load false 1 (.t ⟨.d0, .d3, .d1⟩), none⟩,
              ⟨some ⟨.d0, .d3, .d3⟩, .len (.t ⟨.d0, .d3, .d2⟩), none⟩,
              ⟨some ⟨.d0, .d3, .d4⟩, .bin .lss (.t ⟨.d0, .d3, .d0⟩) (.t ⟨.d0, .d3, .d3⟩), none⟩,
              ⟨some ⟨.d0, .d3, .d5⟩, .move (.t ⟨.d0, .d3, .d4⟩), none⟩,
              ⟨some ⟨.d0, .d3, .d6⟩, .move (.t ⟨.d0, .d1, .d1⟩), some (⟨.d0, .d3, .d5⟩, true)⟩,
              ⟨some ⟨.d0, .d3, .d7⟩, .fieldAddr 2 (.t ⟨.d0, .d0, .d7⟩), some (⟨.d0, .d3, .d5⟩, true)⟩,
              ⟨some ⟨.d0, .d4, .d0⟩, .load false 1 (.t ⟨.d0, .d3, .d7⟩), some (⟨.d0, .d3, .d5⟩, true)⟩,
              ⟨some ⟨.d0, .d4, .d1⟩, .move (.t ⟨.d0, .d1, .d2⟩), some (⟨.d0, .d3, .d5⟩, true)⟩,
              ⟨some ⟨.d0, .d4, .d2⟩, .indexSl 1 (.t ⟨.d0, .d4, .d0⟩) (.t ⟨.d0, .d4, .d1⟩), some (⟨.d0, .d3, .d5⟩, true)⟩,
              ⟨some ⟨.d0, .d4, .d3⟩, .load false 1 (.t ⟨.d0, .d4, .d2⟩), some (⟨.d0, .d3, .d5⟩, true)⟩,
              ⟨some ⟨.d0, .d4, .d4⟩, .bin .add (.t ⟨.d0, .d3, .d6⟩) (.t ⟨.d0, .d4, .d3⟩), some (⟨.d0, .d3, .d5⟩, true)⟩,
              ⟨some ⟨.d0, .d4, .d5⟩, .move (.t ⟨.d0, .d1, .d0⟩), some (⟨.d0, .d3, .d5⟩, true)⟩,
              ⟨some ⟨.d0, .d4, .d6⟩, .bin .leq (.t ⟨.d0, .d4, .d4⟩) (.t ⟨.d0, .d4, .d5⟩), some (⟨.d0, .d3, .d5⟩, true)⟩,
              ⟨some ⟨.d0, .d4, .d7⟩, .pick (.t ⟨.d0, .d3, .d5⟩) (.t ⟨.d0, .d4, .d6⟩) (.c (.bool false)), none⟩])
            (.cond (.t ⟨.d0, .d4, .d7⟩)
              (.skip)
              (.exit 2)))
            (.block 3
              (.seq (.region [⟨some ⟨.d0, .d5, .d0⟩, .move (.t ⟨.d0, .d1, .d1⟩), none⟩,
                ⟨some ⟨.d0, .d5, .d1⟩, .fieldAddr 2 (.t ⟨.d0, .d0, .d7⟩), none⟩,
                ⟨some ⟨.d0, .d5, .d2⟩, .load false 1 (.t ⟨.d0, .d5, .d1⟩), none⟩,
                ⟨some ⟨.d0, .d5, .d3⟩, .move (.t ⟨.d0, .d1, .d2⟩), none⟩,
                ⟨some ⟨.d0, .d5, .d4⟩, .indexSl 1 (.t ⟨.d0, .d5, .d2⟩) (.t ⟨.d0, .d5, .d3⟩), none⟩,
                ⟨some ⟨.d0, .d5, .d5⟩, .load false 1 (.t ⟨.d0, .d5, .d4⟩), none⟩,
                ⟨some ⟨.d0, .d5, .d6⟩, .bin .add (.t ⟨.d0, .d5, .d0⟩) (.t ⟨.d0, .d5, .d5⟩), none⟩,
                ⟨some ⟨.d0, .d1, .d1⟩, .move (.t ⟨.d0, .d5, .d6⟩), none⟩])
              (.seq (.region [⟨some ⟨.d0, .d5, .d7⟩, .move (.t ⟨.d0, .d0, .d5⟩), none⟩,
                ⟨some ⟨.d0, .d6, .d0⟩, .move (.t ⟨.d0, .d0, .d6⟩), none⟩,
                ⟨some ⟨.d0, .d6, .d1⟩, .fieldAddr 2 (.t ⟨.d0, .d0, .d7⟩), none⟩,
                ⟨some ⟨.d0, .d6, .d2⟩, .load false 1 (.t ⟨.d0, .d6, .d1⟩), none⟩,
                ⟨some ⟨.d0, .d6, .d3⟩, .move (.t ⟨.d0, .d1, .d2⟩), none⟩,
                ⟨some ⟨.d0, .d6, .d4⟩, .indexSl 1 (.t ⟨.d0, .d6, .d2⟩) (.t ⟨.d0, .d6, .d3⟩), none⟩,
                ⟨some ⟨.d0, .d6, .d5⟩, .load false 1 (.t ⟨.d0, .d6, .d4⟩), none⟩,
                ⟨some ⟨.d0, .d6, .d6⟩, .build [.int .i64 0, .int .i64 0] [(0, 1, (.t ⟨.d0, .d6, .d0⟩)), (1, 1, (.t ⟨.d0, .d6, .d5⟩))], none⟩,
                ⟨some ⟨.d0, .d6, .d7⟩, .buildSlice 1 1 [.int .i64 0, .int .i64 0] [(0, (.t ⟨.d0, .d6, .d6⟩))], none⟩,
                ⟨some ⟨.d0, .d7, .d0⟩, .append 2 2 16 (.t ⟨.d0, .d5, .d7⟩) (.t ⟨.d0, .d6, .d7⟩), none⟩,
                ⟨some ⟨.d0, .d0, .d5⟩, .move (.t ⟨.d0, .d7, .d0⟩), none⟩])
              (.region [⟨some ⟨.d0, .d7, .d1⟩, .move (.t ⟨.d0, .d1, .d2⟩), none⟩,
                ⟨some ⟨.d0, .d7, .d2⟩, .bin .add (.t ⟨.d0, .d7, .d1⟩) (.c (.int .i64 1)), none⟩,
                ⟨some ⟨.d0, .d1, .d2⟩, .move (.t ⟨.d0, .d7, .d2⟩), none⟩])))))))
        (.seq (.regionD [0, 1, 0, 4, 0, 28, 60, 127, 0, 511] [⟨some ⟨.d0, .d7, .d3⟩, .fieldAddr 0 (.t ⟨.d0, .d0, .d7⟩), none⟩,
          ⟨some ⟨.d0, .d7, .d4⟩, .load false 1 (.t ⟨.d0, .d7, .d3⟩), none⟩,
          ⟨some ⟨.d0, .d7, .d5⟩, .fieldAddr 2 (.t ⟨.d0, .d0, .d7⟩), none⟩,
          ⟨some ⟨.d0, .d7, .d6⟩, .load false 1 (.t ⟨.d0, .d7, .d5⟩), none⟩,
          ⟨some ⟨.d0, .d7, .d7⟩, .move (.t ⟨.d0, .d1, .d2⟩), none⟩,
          ⟨some ⟨.d1, .d0, .d0⟩, .slice 1 (.t ⟨.d0, .d7, .d6⟩) (some (.t ⟨.d0, .d7, .d7⟩)) none none, none⟩,
          ⟨some ⟨.d1, .d0, .d1⟩, .call 29 [(.t ⟨.d1, .d0, .d0⟩)], none⟩,
          ⟨some ⟨.d1, .d0, .d2⟩, .build [.int .i64 0, .int .i64 0, .slice none 0 0] [(0, 1, (.t ⟨.d0, .d7, .d4⟩)), (2, 1, (.t ⟨.d1, .d0, .d1⟩))], none⟩,
          ⟨some ⟨.d0, .d1, .d3⟩, .alloc 3 [.int .i64 0, .int .i64 0, .slice none 0 0], none⟩,
          ⟨none, .store 3 (.t ⟨.d0, .d1, .d3⟩) (.t ⟨.d1, .d0, .d2⟩), none⟩])
        (.seq (.seq (.region [⟨some ⟨.d1, .d0, .d3⟩, .move (.t ⟨.d0, .d1, .d2⟩), none⟩,
          ⟨some ⟨.d1, .d0, .d4⟩, .fieldAddr 2 (.t ⟨.d0, .d0, .d7⟩), none⟩,
          ⟨some ⟨.d1, .d0, .d5⟩, .load false 1 (.t ⟨.d1, .d0, .d4⟩), none⟩,
          ⟨some ⟨.d1, .d0, .d6⟩, .len (.t ⟨.d1, .d0, .d5⟩), none⟩,
          ⟨some ⟨.d1, .d0, .d7⟩, .bin .lss (.t ⟨.d1, .d0, .d3⟩) (.t ⟨.d1, .d0, .d6⟩), none⟩])
        (.cond (.t ⟨.d1, .d0, .d7⟩)
          (.region [⟨some ⟨.d1, .d1, .d0⟩, .move (.t ⟨.d0, .d1, .d0⟩), none⟩,
            ⟨some ⟨.d1, .d1, .d1⟩, .move (.t ⟨.d0, .d1, .d1⟩), none⟩,
            ⟨some ⟨.d1, .d1, .d2⟩, .bin .sub (.t ⟨.d1, .d1, .d0⟩) (.t ⟨.d1, .d1, .d1⟩), none⟩,
            ⟨some ⟨.d1, .d1, .d3⟩, .fieldAddr 1 (.t ⟨.d0, .d1, .d3⟩), none⟩,
            ⟨none, .store 1 (.t ⟨.d1, .d1, .d3⟩) (.t ⟨.d1, .d1, .d2⟩), none⟩])
          (.skip)))
        (.region [⟨some ⟨.d1, .d1, .d4⟩, .move (.t ⟨.d0, .d0, .d4⟩), none⟩,
          ⟨some ⟨.d1, .d1, .d5⟩, .load true 3 (.t ⟨.d0, .d1, .d3⟩), none⟩,
          ⟨some ⟨.d1, .d1, .d6⟩, .buildSlice 4 1 [.int .i64 0, .int .i64 0, .slice none 0 0] [(0, (.t ⟨.d1, .d1, .d5⟩))], none⟩,
          ⟨some ⟨.d1, .d1, .d7⟩, .append 5 3 40 (.t ⟨.d1, .d1, .d4⟩) (.t ⟨.d1, .d1, .d6⟩), none⟩,
          ⟨some ⟨.d0, .d0, .d4⟩, .move (.t ⟨.d1, .d1, .d7⟩), none⟩])))))))
      (.region [⟨some ⟨.d1, .d2, .d0⟩, .bin .add (.t ⟨.d0, .d1, .d6⟩) (.c (.int .i64 1)), none⟩,
        ⟨some ⟨.d0, .d1, .d6⟩, .move (.t ⟨.d1, .d2, .d0⟩), none⟩])))))))
  (.seq (.region [⟨some ⟨.d1, .d2, .d1⟩, .move (.t ⟨.d0, .d0, .d4⟩), none⟩,
    ⟨some ⟨.d1, .d2, .d2⟩, .move (.t ⟨.d0, .d0, .d5⟩), none⟩,
    ⟨some ⟨.d0, .d0, .d2⟩, .move (.t ⟨.d1, .d2, .d1⟩), none⟩,
    ⟨some ⟨.d0, .d0, .d3⟩, .move (.t ⟨.d1, .d2, .d2⟩), none⟩])
  (.ret)))))
def r_custref_Rounded : List XR := [.tmp ⟨.d0, .d0, .d2⟩, .tmp ⟨.d0, .d0, .d3⟩]
theorem ok_custref_Rounded : okC Try.prog Try.f33.ntmps (bodyOf Try.f33) x_custref_Rounded = true := by kernel_rfl
theorem okr_custref_Rounded : okRs Try.prog Try.f33.results.toList r_custref_Rounded = true := by kernel_rfl

/-- custref.SameTurns -/
def x_custref_SameTurns : XC :=
  .seq (.region [⟨some ⟨.d0, .d0, .d4⟩, .move (.c (.bool false)), none⟩])
  (.seq (.region [⟨some ⟨.d0, .d0, .d5⟩, .move (.t ⟨.d0, .d0, .d0⟩), none⟩,
    ⟨some ⟨.d0, .d0, .d6⟩, .move (.t ⟨.d0, .d0, .d1⟩), none⟩,
    ⟨some ⟨.d0, .d0, .d7⟩, .call 66 [(.t ⟨.d0, .d0, .d5⟩), (.t ⟨.d0, .d0, .d6⟩), (.f 67)], none⟩,
    ⟨some ⟨.d0, .d0, .d4⟩, .move (.t ⟨.d0, .d0, .d7⟩), none⟩])
  (.ret))
def r_custref_SameTurns : List XR := [.tmp ⟨.d0, .d0, .d4⟩]
theorem ok_custref_SameTurns : okC Try.prog Try.f34.ntmps (bodyOf Try.f34) x_custref_SameTurns = true := by kernel_rfl
theorem okr_custref_SameTurns : okRs Try.prog Try.f34.results.toList r_custref_SameTurns = true := by kernel_rfl

/-- slices.Equal -/
def x_slices_Equal_api_Sent : XC :=
  .seq (.region [⟨some ⟨.d0, .d0, .d4⟩, .move (.c (.bool false)), none⟩])
  (.seq (.seq (.region [⟨some ⟨.d0, .d0, .d6⟩, .move (.t ⟨.d0, .d0, .d0⟩), none⟩,
    ⟨some ⟨.d0, .d0, .d7⟩, .len (.t ⟨.d0, .d0, .d6⟩), none⟩,
    ⟨some ⟨.d0, .d1, .d0⟩, .move (.t ⟨.d0, .d0, .d1⟩), none⟩,
    ⟨some ⟨.d0, .d1, .d1⟩, .len (.t ⟨.d0, .d1, .d0⟩), none⟩,
    ⟨some ⟨.d0, .d1, .d2⟩, .bin .neq (.t ⟨.d0, .d0, .d7⟩) (.t ⟨.d0, .d1, .d1⟩), none⟩])
  (.cond (.t ⟨.d0, .d1, .d2⟩)
    (.seq (.region [⟨some ⟨.d0, .d0, .d4⟩, .move (.c (.bool false)), none⟩])
    (.ret))
    (.skip)))
  (.seq (.seq (.region [⟨some ⟨.d0, .d1, .d3⟩, .move (.t ⟨.d0, .d0, .d0⟩), none⟩,
    ⟨some ⟨.d0, .d1, .d4⟩, .len (.t ⟨.d0, .d1, .d3⟩), none⟩,
    ⟨some ⟨.d0, .d1, .d5⟩, .move (.c (.int .i64 0)), none⟩])
  (.block 0
    (.loop
      (.seq (.region [⟨some ⟨.d0, .d1, .d6⟩, .bin .lss (.t ⟨.d0, .d1, .d5⟩) (.t ⟨.d0, .d1, .d4⟩), none⟩])
      (.seq (.cond (.t ⟨.d0, .d1, .d6⟩)
        (.skip)
        (.exit 0))
      (.seq (.block 1
        (.seq (.region [⟨some ⟨.d0, .d1, .d7⟩, .move (.t ⟨.d0, .d1, .d5⟩), none⟩,
          ⟨some ⟨.d0, .d0, .d5⟩, .move (.t ⟨.d0, .d1, .d7⟩), none⟩])
        (.seq (.regionD [0, 0, 3, 7, 0, 0, 48, 112, 255] [⟨some ⟨.d0, .d2, .d0⟩, .move (.t ⟨.d0, .d0, .d0⟩), none⟩,
          ⟨some ⟨.d0, .d2, .d1⟩, .move (.t ⟨.d0, .d0, .d5⟩), none⟩,
          ⟨some ⟨.d0, .d2, .d2⟩, .indexSl 2 (.t ⟨.d0, .d2, .d0⟩) (.t ⟨.d0, .d2, .d1⟩), none⟩,
          ⟨some ⟨.d0, .d2, .d3⟩, .load true 2 (.t ⟨.d0, .d2, .d2⟩), none⟩,
          ⟨some ⟨.d0, .d2, .d4⟩, .move (.t ⟨.d0, .d0, .d1⟩), none⟩,
          ⟨some ⟨.d0, .d2, .d5⟩, .move (.t ⟨.d0, .d0, .d5⟩), none⟩,
          ⟨some ⟨.d0, .d2, .d6⟩, .indexSl 2 (.t ⟨.d0, .d2, .d4⟩) (.t ⟨.d0, .d2, .d5⟩), none⟩,
          ⟨some ⟨.d0, .d2, .d7⟩, .load true 2 (.t ⟨.d0, .d2, .d6⟩), none⟩,
          ⟨some ⟨.d0, .d3, .d0⟩, .eqs true [0, 0] (.t ⟨.d0, .d2, .d3⟩) (.t ⟨.d0, .d2, .d7⟩), none⟩])
        (.cond (.t ⟨.d0, .d3, .d0⟩)
          (.seq (.region [⟨some ⟨.d0, .d0, .d4⟩, .move (.c (.bool false)), none⟩])
          (.ret))
          (.skip)))))
      (.region [⟨some ⟨.d0, .d3, .d1⟩, .bin .add (.t ⟨.d0, .d1, .d5⟩) (.c (.int .i64 1)), none⟩,
        ⟨some ⟨.d0, .d1, .d5⟩, .move (.t ⟨.d0, .d3, .d1⟩), none⟩])))))))
  (.seq (.region [⟨some ⟨.d0, .d0, .d4⟩, .move (.c (.bool true)), none⟩])
  (.ret))))
def r_slices_Equal_api_Sent : List XR := [.tmp ⟨.d0, .d0, .d4⟩]
theorem ok_slices_Equal_api_Sent : okC Try.prog Try.f35.ntmps (bodyOf Try.f35) x_slices_Equal_api_Sent = true := by kernel_rfl
theorem okr_slices_Equal_api_Sent : okRs Try.prog Try.f35.results.toList r_slices_Equal_api_Sent = true := by kernel_rfl

/-- turns.size -/
def x_turns_size : XC :=
  .seq (.region [⟨some ⟨.d0, .d0, .d2⟩, .move (.c (.bool false)), none⟩])
  (.seq (.region [⟨some ⟨.d0, .d0, .d3⟩, .move (.t ⟨.d0, .d0, .d0⟩), none⟩,
    ⟨some ⟨.d0, .d0, .d4⟩, .bin .geq (.t ⟨.d0, .d0, .d3⟩) (.c (.int .i64 1)), none⟩,
    ⟨some ⟨.d0, .d0, .d5⟩, .move (.t ⟨.d0, .d0, .d4⟩), none⟩,
    ⟨some ⟨.d0, .d0, .d6⟩, .move (.t ⟨.d0, .d0, .d0⟩), some (⟨.d0, .d0, .d5⟩, true)⟩,
    ⟨some ⟨.d0, .d0, .d7⟩, .bin .leq (.t ⟨.d0, .d0, .d6⟩) (.c (.int .i64 1000000)), some (⟨.d0, .d0, .d5⟩, true)⟩,
    ⟨some ⟨.d0, .d1, .d0⟩, .pick (.t ⟨.d0, .d0, .d5⟩) (.t ⟨.d0, .d0, .d7⟩) (.c (.bool false)), none⟩,
    ⟨some ⟨.d0, .d0, .d2⟩, .move (.t ⟨.d0, .d1, .d0⟩), none⟩])
  (.ret))
def r_turns_size : List XR := [.tmp ⟨.d0, .d0, .d2⟩]
theorem ok_turns_size : okC Try.prog Try.f60.ntmps (bodyOf Try.f60) x_turns_size = true := by kernel_rfl
theorem okr_turns_size : okRs Try.prog Try.f60.results.toList r_turns_size = true := by kernel_rfl

/-- turns.own -/
def x_turns_own : XC :=
  .seq (.region [⟨some ⟨.d0, .d0, .d2⟩, .move (.c (.slice none 0 0)), none⟩])
  (.seq (.region [⟨some ⟨.d0, .d0, .d6⟩, .move (.t ⟨.d0, .d0, .d0⟩), none⟩,
    ⟨some ⟨.d0, .d0, .d7⟩, .len (.t ⟨.d0, .d0, .d6⟩), none⟩,
    ⟨some ⟨.d0, .d1, .d0⟩, .makeSlice 0 40 [.int .i64 0, .int .i64 0, .slice none 0 0] (.c (.int .i64 0)) (.t ⟨.d0, .d0, .d7⟩), none⟩,
    ⟨some ⟨.d0, .d0, .d3⟩, .move (.t ⟨.d0, .d1, .d0⟩), none⟩])
  (.seq (.seq (.region [⟨some ⟨.d0, .d1, .d1⟩, .move (.t ⟨.d0, .d0, .d0⟩), none⟩,
    ⟨some ⟨.d0, .d1, .d2⟩, .len (.t ⟨.d0, .d1, .d1⟩), none⟩,
    ⟨some ⟨.d0, .d1, .d3⟩, .move (.c (.int .i64 0)), none⟩])
  (.block 0
    (.loop
      (.seq (.region [⟨some ⟨.d0, .d1, .d4⟩, .bin .lss (.t ⟨.d0, .d1, .d3⟩) (.t ⟨.d0, .d1, .d2⟩), none⟩])
      (.seq (.cond (.t ⟨.d0, .d1, .d4⟩)
        (.skip)
        (.exit 0))
      (.seq (.block 1
        (.seq (.region [⟨some ⟨.d0, .d1, .d5⟩, .indexSl 3 (.t ⟨.d0, .d1, .d1⟩) (.t ⟨.d0, .d1, .d3⟩), none⟩,
          ⟨some ⟨.d0, .d1, .d6⟩, .load true 3 (.t ⟨.d0, .d1, .d5⟩), none⟩,
          ⟨some ⟨.d0, .d0, .d5⟩, .alloc 1 [.int .i64 0, .int .i64 0, .slice none 0 0], none⟩,
          ⟨none, .store 3 (.t ⟨.d0, .d0, .d5⟩) (.t ⟨.d0, .d1, .d6⟩), none⟩])
        (.seq (.region [⟨some ⟨.d0, .d1, .d7⟩, .fieldAddr 2 (.t ⟨.d0, .d0, .d5⟩), none⟩,
          ⟨some ⟨.d0, .d2, .d0⟩, .load false 1 (.t ⟨.d0, .d1, .d7⟩), none⟩,
          ⟨some ⟨.d0, .d2, .d1⟩, .call 29 [(.t ⟨.d0, .d2, .d0⟩)], none⟩,
          ⟨some ⟨.d0, .d2, .d2⟩, .fieldAddr 2 (.t ⟨.d0, .d0, .d5⟩), none⟩,
          ⟨none, .store 1 (.t ⟨.d0, .d2, .d2⟩) (.t ⟨.d0, .d2, .d1⟩), none⟩])
        (.region [⟨some ⟨.d0, .d2, .d3⟩, .move (.t ⟨.d0, .d0, .d3⟩), none⟩,
          ⟨some ⟨.d0, .d2, .d4⟩, .load true 3 (.t ⟨.d0, .d0, .d5⟩), none⟩,
          ⟨some ⟨.d0, .d2, .d5⟩, .buildSlice 2 1 [.int .i64 0, .int .i64 0, .slice none 0 0] [(0, (.t ⟨.d0, .d2, .d4⟩))], none⟩,
          ⟨some ⟨.d0, .d2, .d6⟩, .append 0 3 40 (.t ⟨.d0, .d2, .d3⟩) (.t ⟨.d0, .d2, .d5⟩), none⟩,
          ⟨some ⟨.d0, .d0, .d3⟩, .move (.t ⟨.d0, .d2, .d6⟩), none⟩]))))
      (.region [⟨some ⟨.d0, .d2, .d7⟩, .bin .add (.t ⟨.d0, .d1, .d3⟩) (.c (.int .i64 1)), none⟩,
        ⟨some ⟨.d0, .d1, .d3⟩, .move (.t ⟨.d0, .d2, .d7⟩), none⟩])))))))
  (.seq (.region [⟨some ⟨.d0, .d3, .d0⟩, .move (.t ⟨.d0, .d0, .d3⟩), none⟩,
    ⟨some ⟨.d0, .d0, .d2⟩, .move (.t ⟨.d0, .d3, .d0⟩), none⟩])
  (.ret))))
def r_turns_own : List XR := [.tmp ⟨.d0, .d0, .d2⟩]
theorem ok_turns_own : okC Try.prog Try.f61.ntmps (bodyOf Try.f61) x_turns_own = true := by kernel_rfl
theorem okr_turns_own : okRs Try.prog Try.f61.results.toList r_turns_own = true := by kernel_rfl

/-- slices.ContainsFunc -/
def x_slices_ContainsFunc_api_Queue : XC :=
  .seq (.region [⟨some ⟨.d0, .d0, .d4⟩, .move (.c (.bool false)), none⟩])
  (.seq (.region [⟨some ⟨.d0, .d0, .d5⟩, .move (.t ⟨.d0, .d0, .d0⟩), none⟩,
    ⟨some ⟨.d0, .d0, .d6⟩, .move (.t ⟨.d0, .d0, .d1⟩), none⟩,
    ⟨some ⟨.d0, .d0, .d7⟩, .call 81 [(.t ⟨.d0, .d0, .d5⟩), (.t ⟨.d0, .d0, .d6⟩)], none⟩,
    ⟨some ⟨.d0, .d1, .d0⟩, .bin .geq (.t ⟨.d0, .d0, .d7⟩) (.c (.int .i64 0)), none⟩,
    ⟨some ⟨.d0, .d0, .d4⟩, .move (.t ⟨.d0, .d1, .d0⟩), none⟩])
  (.ret))
def r_slices_ContainsFunc_api_Queue : List XR := [.tmp ⟨.d0, .d0, .d4⟩]
theorem ok_slices_ContainsFunc_api_Queue : okC Try.prog Try.f62.ntmps (bodyOf Try.f62) x_slices_ContainsFunc_api_Queue = true := by kernel_rfl
theorem okr_slices_ContainsFunc_api_Queue : okRs Try.prog Try.f62.results.toList r_slices_ContainsFunc_api_Queue = true := by kernel_rfl

/-- turns.Check-1 -/
def x_turns_Check_1 : XC :=
  .seq (.region [⟨some ⟨.d0, .d0, .d1⟩, .box 0 3 (.t ⟨.d0, .d0, .d0⟩), none⟩,
    ⟨some ⟨.d0, .d0, .d2⟩, .move (.c (.bool false)), none⟩])
  (.seq (.region [⟨some ⟨.d0, .d0, .d3⟩, .fieldAddr 2 (.t ⟨.d0, .d0, .d1⟩), none⟩,
    ⟨some ⟨.d0, .d0, .d4⟩, .load false 1 (.t ⟨.d0, .d0, .d3⟩), none⟩,
    ⟨some ⟨.d0, .d0, .d5⟩, .len (.t ⟨.d0, .d0, .d4⟩), none⟩,
    ⟨some ⟨.d0, .d0, .d6⟩, .bin .gtr (.t ⟨.d0, .d0, .d5⟩) (.c (.int .i64 200)), none⟩,
    ⟨some ⟨.d0, .d0, .d2⟩, .move (.t ⟨.d0, .d0, .d6⟩), none⟩])
  (.ret))
def r_turns_Check_1 : List XR := [.tmp ⟨.d0, .d0, .d2⟩]
theorem ok_turns_Check_1 : okC Try.prog Try.f63.ntmps (bodyOf Try.f63) x_turns_Check_1 = true := by kernel_rfl
theorem okr_turns_Check_1 : okRs Try.prog Try.f63.results.toList r_turns_Check_1 = true := by kernel_rfl

/-- slices.ContainsFunc -/
def x_slices_ContainsFunc_int : XC :=
  .seq (.region [⟨some ⟨.d0, .d0, .d4⟩, .move (.c (.bool false)), none⟩])
  (.seq (.region [⟨some ⟨.d0, .d0, .d5⟩, .move (.t ⟨.d0, .d0, .d0⟩), none⟩,
    ⟨some ⟨.d0, .d0, .d6⟩, .move (.t ⟨.d0, .d0, .d1⟩), none⟩,
    ⟨some ⟨.d0, .d0, .d7⟩, .call 82 [(.t ⟨.d0, .d0, .d5⟩), (.t ⟨.d0, .d0, .d6⟩)], none⟩,
    ⟨some ⟨.d0, .d1, .d0⟩, .bin .geq (.t ⟨.d0, .d0, .d7⟩) (.c (.int .i64 0)), none⟩,
    ⟨some ⟨.d0, .d0, .d4⟩, .move (.t ⟨.d0, .d1, .d0⟩), none⟩])
  (.ret))
def r_slices_ContainsFunc_int : List XR := [.tmp ⟨.d0, .d0, .d4⟩]
theorem ok_slices_ContainsFunc_int : okC Try.prog Try.f64.ntmps (bodyOf Try.f64) x_slices_ContainsFunc_int = true := by kernel_rfl
theorem okr_slices_ContainsFunc_int : okRs Try.prog Try.f64.results.toList r_slices_ContainsFunc_int = true := by kernel_rfl

/-- turns.Check-2 -/
def x_turns_Check_2 : XC :=
  .seq (.region [⟨some ⟨.d0, .d0, .d2⟩, .move (.c (.bool false)), none⟩])
  (.seq (.region [⟨some ⟨.d0, .d0, .d3⟩, .move (.t ⟨.d0, .d0, .d0⟩), none⟩,
    ⟨some ⟨.d0, .d0, .d4⟩, .call 60 [(.t ⟨.d0, .d0, .d3⟩)], none⟩,
    ⟨some ⟨.d0, .d0, .d5⟩, .un .not (.t ⟨.d0, .d0, .d4⟩), none⟩,
    ⟨some ⟨.d0, .d0, .d2⟩, .move (.t ⟨.d0, .d0, .d5⟩), none⟩])
  (.ret))
def r_turns_Check_2 : List XR := [.tmp ⟨.d0, .d0, .d2⟩]
theorem ok_turns_Check_2 : okC Try.prog Try.f65.ntmps (bodyOf Try.f65) x_turns_Check_2 = true := by kernel_rfl
theorem okr_turns_Check_2 : okRs Try.prog Try.f65.results.toList r_turns_Check_2 = true := by kernel_rfl

/-- slices.EqualFunc -/
def x_slices_EqualFunc_api_Queue : XC :=
  .seq (.region [⟨some ⟨.d0, .d0, .d6⟩, .move (.c (.bool false)), none⟩])
  (.seq (.seq (.region [⟨some ⟨.d0, .d1, .d2⟩, .move (.t ⟨.d0, .d0, .d0⟩), none⟩,
    ⟨some ⟨.d0, .d1, .d3⟩, .len (.t ⟨.d0, .d1, .d2⟩), none⟩,
    ⟨some ⟨.d0, .d1, .d4⟩, .move (.t ⟨.d0, .d0, .d1⟩), none⟩,
    ⟨some ⟨.d0, .d1, .d5⟩, .len (.t ⟨.d0, .d1, .d4⟩), none⟩,
    ⟨some ⟨.d0, .d1, .d6⟩, .bin .neq (.t ⟨.d0, .d1, .d3⟩) (.t ⟨.d0, .d1, .d5⟩), none⟩])
  (.cond (.t ⟨.d0, .d1, .d6⟩)
    (.seq (.region [⟨some ⟨.d0, .d0, .d6⟩, .move (.c (.bool false)), none⟩])
    (.ret))
    (.skip)))
  (.seq (.seq (.region [⟨some ⟨.d0, .d1, .d7⟩, .move (.t ⟨.d0, .d0, .d0⟩), none⟩,
    ⟨some ⟨.d0, .d2, .d0⟩, .len (.t ⟨.d0, .d1, .d7⟩), none⟩,
    ⟨some ⟨.d0, .d2, .d1⟩, .move (.c (.int .i64 0)), none⟩])
  (.block 0
    (.loop
      (.seq (.region [⟨some ⟨.d0, .d2, .d2⟩, .bin .lss (.t ⟨.d0, .d2, .d1⟩) (.t ⟨.d0, .d2, .d0⟩), none⟩])
      (.seq (.cond (.t ⟨.d0, .d2, .d2⟩)
        (.skip)
        (.exit 0))
      (.seq (.block 1
        (.seq (.region [⟨some ⟨.d0, .d2, .d3⟩, .move (.t ⟨.d0, .d2, .d1⟩), none⟩,
          ⟨some ⟨.d0, .d2, .d4⟩, .indexSl 3 (.t ⟨.d0, .d1, .d7⟩) (.t ⟨.d0, .d2, .d1⟩), none⟩,
          ⟨some ⟨.d0, .d2, .d5⟩, .load true 3 (.t ⟨.d0, .d2, .d4⟩), none⟩,
          ⟨some ⟨.d0, .d1, .d0⟩, .alloc 0 [.int .i64 0, .int .i64 0, .slice none 0 0], none⟩,
          ⟨some ⟨.d0, .d0, .d7⟩, .move (.t ⟨.d0, .d2, .d3⟩), none⟩,
          ⟨none, .store 3 (.t ⟨.d0, .d1, .d0⟩) (.t ⟨.d0, .d2, .d5⟩), none⟩])
        (.seq (.region [⟨some ⟨.d0, .d2, .d6⟩, .move (.t ⟨.d0, .d0, .d1⟩), none⟩,
          ⟨some ⟨.d0, .d2, .d7⟩, .move (.t ⟨.d0, .d0, .d7⟩), none⟩,
          ⟨some ⟨.d0, .d3, .d0⟩, .indexSl 3 (.t ⟨.d0, .d2, .d6⟩) (.t ⟨.d0, .d2, .d7⟩), none⟩,
          ⟨some ⟨.d0, .d3, .d1⟩, .load true 3 (.t ⟨.d0, .d3, .d0⟩), none⟩,
          ⟨some ⟨.d0, .d1, .d1⟩, .alloc 1 [.int .i64 0, .int .i64 0, .slice none 0 0], none⟩,
          ⟨none, .store 3 (.t ⟨.d0, .d1, .d1⟩) (.t ⟨.d0, .d3, .d1⟩), none⟩])
        (.seq (.region [⟨some ⟨.d0, .d3, .d2⟩, .move (.t ⟨.d0, .d0, .d2⟩), none⟩,
          ⟨some ⟨.d0, .d3, .d3⟩, .load true 3 (.t ⟨.d0, .d1, .d0⟩), none⟩,
          ⟨some ⟨.d0, .d3, .d4⟩, .load true 3 (.t ⟨.d0, .d1, .d1⟩), none⟩,
          ⟨some ⟨.d0, .d3, .d5⟩, .callv (.t ⟨.d0, .d3, .d2⟩) [(.t ⟨.d0, .d3, .d3⟩), (.t ⟨.d0, .d3, .d4⟩)], none⟩,
          ⟨some ⟨.d0, .d3, .d6⟩, .un .not (.t ⟨.d0, .d3, .d5⟩), none⟩])
        (.cond (.t ⟨.d0, .d3, .d6⟩)
          (.seq (.region [⟨some ⟨.d0, .d0, .d6⟩, .move (.c (.bool false)), none⟩])
          (.ret))
          (.skip))))))
      (.region [⟨some ⟨.d0, .d3, .d7⟩, .bin .add (.t ⟨.d0, .d2, .d1⟩) (.c (.int .i64 1)), none⟩,
        ⟨some ⟨.d0, .d2, .d1⟩, .move (.t ⟨.d0, .d3, .d7⟩), none⟩])))))))
  (.seq (.region [⟨some ⟨.d0, .d0, .d6⟩, .move (.c (.bool true)), none⟩])
  (.ret))))
def r_slices_EqualFunc_api_Queue : List XR := [.tmp ⟨.d0, .d0, .d6⟩]
theorem ok_slices_EqualFunc_api_Queue : okC Try.prog Try.f66.ntmps (bodyOf Try.f66) x_slices_EqualFunc_api_Queue = true := by kernel_rfl
theorem okr_slices_EqualFunc_api_Queue : okRs Try.prog Try.f66.results.toList r_slices_EqualFunc_api_Queue = true := by kernel_rfl

/-- custref.SameTurns-1 -/
def x_custref_SameTurns_1 : XC :=
  .seq (.region [⟨some ⟨.d0, .d0, .d2⟩, .box 0 3 (.t ⟨.d0, .d0, .d0⟩), none⟩,
    ⟨some ⟨.d0, .d0, .d3⟩, .box 1 3 (.t ⟨.d0, .d0, .d1⟩), none⟩,
    ⟨some ⟨.d0, .d0, .d4⟩, .move (.c (.bool false)), none⟩])
  (.seq (.region [⟨some ⟨.d0, .d0, .d5⟩, .fieldAddr 0 (.t ⟨.d0, .d0, .d2⟩), none⟩,
    ⟨some ⟨.d0, .d0, .d6⟩, .load false 1 (.t ⟨.d0, .d0, .d5⟩), none⟩,
    ⟨some ⟨.d0, .d0, .d7⟩, .fieldAddr 0 (.t ⟨.d0, .d0, .d3⟩), none⟩,
    ⟨some ⟨.d0, .d1, .d0⟩, .load false 1 (.t ⟨.d0, .d0, .d7⟩), none⟩,
    ⟨some ⟨.d0, .d1, .d1⟩, .bin .eql (.t ⟨.d0, .d0, .d6⟩) (.t ⟨.d0, .d1, .d0⟩), none⟩,
    ⟨some ⟨.d0, .d1, .d2⟩, .move (.t ⟨.d0, .d1, .d1⟩), none⟩,
    ⟨some ⟨.d0, .d1, .d3⟩, .fieldAddr 1 (.t ⟨.d0, .d0, .d2⟩), some (⟨.d0, .d1, .d2⟩, true)⟩,
    ⟨some ⟨.d0, .d1, .d4⟩, .load false 1 (.t ⟨.d0, .d1, .d3⟩), some (⟨.d0, .d1, .d2⟩, true)⟩,
    ⟨some ⟨.d0, .d1, .d5⟩, .fieldAddr 1 (.t ⟨.d0, .d0, .d3⟩), some (⟨.d0, .d1, .d2⟩, true)⟩,
    ⟨some ⟨.d0, .d1, .d6⟩, .load false 1 (.t ⟨.d0, .d1, .d5⟩), some (⟨.d0, .d1, .d2⟩, true)⟩,
    ⟨some ⟨.d0, .d1, .d7⟩, .bin .eql (.t ⟨.d0, .d1, .d4⟩) (.t ⟨.d0, .d1, .d6⟩), some (⟨.d0, .d1, .d2⟩, true)⟩,
    ⟨some ⟨.d0, .d2, .d0⟩, .pick (.t ⟨.d0, .d1, .d2⟩) (.t ⟨.d0, .d1, .d7⟩) (.c (.bool false)), none⟩,
    ⟨some ⟨.d0, .d2, .d1⟩, .move (.t ⟨.d0, .d2, .d0⟩), none⟩,
    ⟨some ⟨.d0, .d2, .d2⟩, .fieldAddr 2 (.t ⟨.d0, .d0, .d2⟩), some (⟨.d0, .d2, .d1⟩, true)⟩,
    ⟨some ⟨.d0, .d2, .d3⟩, .load false 1 (.t ⟨.d0, .d2, .d2⟩), some (⟨.d0, .d2, .d1⟩, true)⟩,
    ⟨some ⟨.d0, .d2, .d4⟩, .fieldAddr 2 (.t ⟨.d0, .d0, .d3⟩), some (⟨.d0, .d2, .d1⟩, true)⟩,
    ⟨some ⟨.d0, .d2, .d5⟩, .load false 1 (.t ⟨.d0, .d2, .d4⟩), some (⟨.d0, .d2, .d1⟩, true)⟩,
    ⟨some ⟨.d0, .d2, .d6⟩, .call 30 [(.t ⟨.d0, .d2, .d3⟩), (.t ⟨.d0, .d2, .d5⟩)], some (⟨.d0, .d2, .d1⟩, true)⟩,
    ⟨some ⟨.d0, .d2, .d7⟩, .pick (.t ⟨.d0, .d2, .d1⟩) (.t ⟨.d0, .d2, .d6⟩) (.c (.bool false)), none⟩,
    ⟨some ⟨.d0, .d0, .d4⟩, .move (.t ⟨.d0, .d2, .d7⟩), none⟩])
  (.ret))
def r_custref_SameTurns_1 : List XR := [.tmp ⟨.d0, .d0, .d4⟩]
theorem ok_custref_SameTurns_1 : okC Try.prog Try.f67.ntmps (bodyOf Try.f67) x_custref_SameTurns_1 = true := by kernel_rfl
theorem okr_custref_SameTurns_1 : okRs Try.prog Try.f67.results.toList r_custref_SameTurns_1 = true := by kernel_rfl

/-- slices.IndexFunc -/
def x_slices_IndexFunc_api_Queue : XC :=
  .seq (.region [⟨some ⟨.d0, .d0, .d4⟩, .move (.c (.int .i64 0)), none⟩])
  (.seq (.seq (.region [⟨some ⟨.d0, .d0, .d6⟩, .move (.t ⟨.d0, .d0, .d0⟩), none⟩,
    ⟨some ⟨.d0, .d0, .d7⟩, .len (.t ⟨.d0, .d0, .d6⟩), none⟩,
    ⟨some ⟨.d0, .d1, .d0⟩, .move (.c (.int .i64 0)), none⟩])
  (.block 0
    (.loop
      (.seq (.region [⟨some ⟨.d0, .d1, .d1⟩, .bin .lss (.t ⟨.d0, .d1, .d0⟩) (.t ⟨.d0, .d0, .d7⟩), none⟩])
      (.seq (.cond (.t ⟨.d0, .d1, .d1⟩)
        (.skip)
        (.exit 0))
      (.seq (.block 1
        (.seq (.region [⟨some ⟨.d0, .d1, .d2⟩, .move (.t ⟨.d0, .d1, .d0⟩), none⟩,
          ⟨some ⟨.d0, .d0, .d5⟩, .move (.t ⟨.d0, .d1, .d2⟩), none⟩])
        (.seq (.region [⟨some ⟨.d0, .d1, .d3⟩, .move (.t ⟨.d0, .d0, .d1⟩), none⟩,
          ⟨some ⟨.d0, .d1, .d4⟩, .move (.t ⟨.d0, .d0, .d0⟩), none⟩,
          ⟨some ⟨.d0, .d1, .d5⟩, .move (.t ⟨.d0, .d0, .d5⟩), none⟩,
          ⟨some ⟨.d0, .d1, .d6⟩, .indexSl 3 (.t ⟨.d0, .d1, .d4⟩) (.t ⟨.d0, .d1, .d5⟩), none⟩,
          ⟨some ⟨.d0, .d1, .d7⟩, .load true 3 (.t ⟨.d0, .d1, .d6⟩), none⟩,
          ⟨some ⟨.d0, .d2, .d0⟩, .callv (.t ⟨.d0, .d1, .d3⟩) [(.t ⟨.d0, .d1, .d7⟩)], none⟩])
        (.cond (.t ⟨.d0, .d2, .d0⟩)
          (.seq (.region [⟨some ⟨.d0, .d2, .d1⟩, .move (.t ⟨.d0, .d0, .d5⟩), none⟩,
            ⟨some ⟨.d0, .d0, .d4⟩, .move (.t ⟨.d0, .d2, .d1⟩), none⟩])
          (.ret))
          (.skip)))))
      (.region [⟨some ⟨.d0, .d2, .d2⟩, .bin .add (.t ⟨.d0, .d1, .d0⟩) (.c (.int .i64 1)), none⟩,
        ⟨some ⟨.d0, .d1, .d0⟩, .move (.t ⟨.d0, .d2, .d2⟩), none⟩])))))))
  (.seq (.region [⟨some ⟨.d0, .d0, .d4⟩, .move (.c (.int .i64 (-1))), none⟩])
  (.ret)))
def r_slices_IndexFunc_api_Queue : List XR := [.tmp ⟨.d0, .d0, .d4⟩]
theorem ok_slices_IndexFunc_api_Queue : okC Try.prog Try.f81.ntmps (bodyOf Try.f81) x_slices_IndexFunc_api_Queue = true := by kernel_rfl
theorem okr_slices_IndexFunc_api_Queue : okRs Try.prog Try.f81.results.toList r_slices_IndexFunc_api_Queue = true := by kernel_rfl

/-- slices.IndexFunc -/
def x_slices_IndexFunc_int : XC :=
  .seq (.region [⟨some ⟨.d0, .d0, .d4⟩, .move (.c (.int .i64 0)), none⟩])
  (.seq (.seq (.region [⟨some ⟨.d0, .d0, .d6⟩, .move (.t ⟨.d0, .d0, .d0⟩), none⟩,
    ⟨some ⟨.d0, .d0, .d7⟩, .len (.t ⟨.d0, .d0, .d6⟩), none⟩,
    ⟨some ⟨.d0, .d1, .d0⟩, .move (.c (.int .i64 0)), none⟩])
  (.block 0
    (.loop
      (.seq (.region [⟨some ⟨.d0, .d1, .d1⟩, .bin .lss (.t ⟨.d0, .d1, .d0⟩) (.t ⟨.d0, .d0, .d7⟩), none⟩])
      (.seq (.cond (.t ⟨.d0, .d1, .d1⟩)
        (.skip)
        (.exit 0))
      (.seq (.block 1
        (.seq (.region [⟨some ⟨.d0, .d1, .d2⟩, .move (.t ⟨.d0, .d1, .d0⟩), none⟩,
          ⟨some ⟨.d0, .d0, .d5⟩, .move (.t ⟨.d0, .d1, .d2⟩), none⟩])
        (.seq (.region [⟨some ⟨.d0, .d1, .d3⟩, .move (.t ⟨.d0, .d0, .d1⟩), none⟩,
          ⟨some ⟨.d0, .d1, .d4⟩, .move (.t ⟨.d0, .d0, .d0⟩), none⟩,
          ⟨some ⟨.d0, .d1, .d5⟩, .move (.t ⟨.d0, .d0, .d5⟩), none⟩,
          ⟨some ⟨.d0, .d1, .d6⟩, .indexSl 1 (.t ⟨.d0, .d1, .d4⟩) (.t ⟨.d0, .d1, .d5⟩), none⟩,
          ⟨some ⟨.d0, .d1, .d7⟩, .load false 1 (.t ⟨.d0, .d1, .d6⟩), none⟩,
          ⟨some ⟨.d0, .d2, .d0⟩, .callv (.t ⟨.d0, .d1, .d3⟩) [(.t ⟨.d0, .d1, .d7⟩)], none⟩])
        (.cond (.t ⟨.d0, .d2, .d0⟩)
          (.seq (.region [⟨some ⟨.d0, .d2, .d1⟩, .move (.t ⟨.d0, .d0, .d5⟩), none⟩,
            ⟨some ⟨.d0, .d0, .d4⟩, .move (.t ⟨.d0, .d2, .d1⟩), none⟩])
          (.ret))
          (.skip)))))
      (.region [⟨some ⟨.d0, .d2, .d2⟩, .bin .add (.t ⟨.d0, .d1, .d0⟩) (.c (.int .i64 1)), none⟩,
        ⟨some ⟨.d0, .d1, .d0⟩, .move (.t ⟨.d0, .d2, .d2⟩), none⟩])))))))
  (.seq (.region [⟨some ⟨.d0, .d0, .d4⟩, .move (.c (.int .i64 (-1))), none⟩])
  (.ret)))
def r_slices_IndexFunc_int : List XR := [.tmp ⟨.d0, .d0, .d4⟩]
theorem ok_slices_IndexFunc_int : okC Try.prog Try.f82.ntmps (bodyOf Try.f82) x_slices_IndexFunc_int = true := by kernel_rfl
theorem okr_slices_IndexFunc_int : okRs Try.prog Try.f82.results.toList r_slices_IndexFunc_int = true := by kernel_rfl
end Go.Proofs.Ytkpechddgjbfkaa
