/-
  The functions of the program in short form, and that the model's code is what they stand for. Printed by xgen.py.
-/
import Derived.Test.YtmkdgnocbjbijaaFw
import Derived.Test.YtmkdgnocbjbijaaProg
import Derived.KernelRfl
namespace Go.Proofs.Ytmkdgnocbjbijaa
set_option linter.unusedVariables false
set_option maxRecDepth 100000

/-- custlaw.AgesTakes -/
def x_custlaw_AgesTakes : XC :=
  .seq (.region [⟨some ⟨.d0, .d0, .d4⟩, .box 0 2 (.t ⟨.d0, .d0, .d1⟩), none⟩,
    ⟨some ⟨.d0, .d0, .d6⟩, .move (.c (.bool false)), none⟩])
  (.seq (.region [⟨some ⟨.d0, .d2, .d1⟩, .move (.t ⟨.d0, .d0, .d0⟩), none⟩,
    ⟨some ⟨.d0, .d2, .d2⟩, .call 20 [(.t ⟨.d0, .d2, .d1⟩)], none⟩,
    ⟨some ⟨.d0, .d2, .d0⟩, .move (.t ⟨.d0, .d2, .d2⟩), none⟩,
    ⟨some ⟨.d0, .d2, .d3⟩, .extract 0 (.t ⟨.d0, .d2, .d0⟩), none⟩,
    ⟨some ⟨.d0, .d2, .d4⟩, .extract 1 (.t ⟨.d0, .d2, .d0⟩), none⟩,
    ⟨some ⟨.d0, .d0, .d7⟩, .alloc 1 [.int .i64 0, .slice none 0 0], none⟩,
    ⟨none, .store 2 (.t ⟨.d0, .d0, .d7⟩) (.t ⟨.d0, .d2, .d3⟩), none⟩,
    ⟨some ⟨.d0, .d1, .d0⟩, .move (.t ⟨.d0, .d2, .d4⟩), none⟩])
  (.seq (.region [⟨some ⟨.d0, .d2, .d5⟩, .build [.int .i64 0, .slice none 0 0] [], none⟩,
    ⟨some ⟨.d0, .d1, .d1⟩, .alloc 2 [.int .i64 0, .slice none 0 0], none⟩,
    ⟨none, .store 2 (.t ⟨.d0, .d1, .d1⟩) (.t ⟨.d0, .d2, .d5⟩), none⟩])
  (.seq (.seq (.region [⟨some ⟨.d0, .d2, .d6⟩, .move (.t ⟨.d0, .d0, .d0⟩), none⟩,
    ⟨some ⟨.d0, .d2, .d7⟩, .call 10 [(.t ⟨.d0, .d2, .d6⟩), (.c (.int .i64 1)), (.c (.int .i64 64))], none⟩])
  (.cond (.t ⟨.d0, .d2, .d7⟩)
    (.region [⟨some ⟨.d0, .d3, .d0⟩, .move (.t ⟨.d0, .d0, .d0⟩), none⟩,
      ⟨some ⟨.d0, .d3, .d1⟩, .fieldAddr 0 (.t ⟨.d0, .d1, .d1⟩), none⟩,
      ⟨none, .store 1 (.t ⟨.d0, .d3, .d1⟩) (.t ⟨.d0, .d3, .d0⟩), none⟩])
    (.skip)))
  (.seq (.seq (.regionD [0, 0, 3, 7, 15, 31, 63, 31, 159, 415, 1023, 2047, 4095, 8191, 16383, 32767, 65535, 131071, 262143, 524287, 1048575, 2097151, 4194303, 2097151, 16777215, 33554431, 67108863] [⟨some ⟨.d0, .d3, .d2⟩, .load true 2 (.t ⟨.d0, .d0, .d7⟩), none⟩,
    ⟨some ⟨.d0, .d3, .d3⟩, .load true 2 (.t ⟨.d0, .d1, .d1⟩), none⟩,
    ⟨some ⟨.d0, .d3, .d4⟩, .call 21 [(.t ⟨.d0, .d3, .d2⟩), (.t ⟨.d0, .d3, .d3⟩)], none⟩,
    ⟨some ⟨.d0, .d3, .d5⟩, .un .not (.t ⟨.d0, .d3, .d4⟩), none⟩,
    ⟨some ⟨.d0, .d3, .d6⟩, .move (.t ⟨.d0, .d3, .d5⟩), none⟩,
    ⟨some ⟨.d0, .d3, .d7⟩, .move (.t ⟨.d0, .d1, .d0⟩), some (⟨.d0, .d3, .d6⟩, false)⟩,
    ⟨some ⟨.d0, .d4, .d0⟩, .bin .eql (.t ⟨.d0, .d3, .d7⟩) (.c (.int .i64 0)), some (⟨.d0, .d3, .d6⟩, false)⟩,
    ⟨some ⟨.d0, .d4, .d1⟩, .fieldAddr 0 (.t ⟨.d0, .d1, .d1⟩), some (⟨.d0, .d3, .d6⟩, false)⟩,
    ⟨some ⟨.d0, .d4, .d2⟩, .load false 1 (.t ⟨.d0, .d4, .d1⟩), some (⟨.d0, .d3, .d6⟩, false)⟩,
    ⟨some ⟨.d0, .d4, .d3⟩, .bin .gtr (.t ⟨.d0, .d4, .d2⟩) (.c (.int .i64 0)), some (⟨.d0, .d3, .d6⟩, false)⟩,
    ⟨some ⟨.d0, .d4, .d4⟩, .eqb true (.t ⟨.d0, .d4, .d0⟩) (.t ⟨.d0, .d4, .d3⟩), some (⟨.d0, .d3, .d6⟩, false)⟩,
    ⟨some ⟨.d0, .d4, .d5⟩, .pick (.t ⟨.d0, .d3, .d6⟩) (.c (.bool true)) (.t ⟨.d0, .d4, .d4⟩), none⟩,
    ⟨some ⟨.d0, .d4, .d6⟩, .move (.t ⟨.d0, .d4, .d5⟩), none⟩,
    ⟨some ⟨.d0, .d4, .d7⟩, .move (.t ⟨.d0, .d1, .d0⟩), some (⟨.d0, .d4, .d6⟩, false)⟩,
    ⟨some ⟨.d0, .d5, .d0⟩, .bin .neq (.t ⟨.d0, .d4, .d7⟩) (.c (.int .i64 0)), some (⟨.d0, .d4, .d6⟩, false)⟩,
    ⟨some ⟨.d0, .d5, .d1⟩, .move (.t ⟨.d0, .d5, .d0⟩), some (⟨.d0, .d4, .d6⟩, false)⟩,
    ⟨some ⟨.d0, .d5, .d2⟩, .move (.t ⟨.d0, .d1, .d0⟩), some (⟨.d0, .d5, .d1⟩, true)⟩,
    ⟨some ⟨.d0, .d5, .d3⟩, .bin .neq (.t ⟨.d0, .d5, .d2⟩) (.c (.int .i64 1)), some (⟨.d0, .d5, .d1⟩, true)⟩,
    ⟨some ⟨.d0, .d5, .d4⟩, .pick (.t ⟨.d0, .d5, .d1⟩) (.t ⟨.d0, .d5, .d3⟩) (.c (.bool false)), some (⟨.d0, .d4, .d6⟩, false)⟩,
    ⟨some ⟨.d0, .d5, .d5⟩, .pick (.t ⟨.d0, .d4, .d6⟩) (.c (.bool true)) (.t ⟨.d0, .d5, .d4⟩), none⟩,
    ⟨some ⟨.d0, .d5, .d6⟩, .move (.t ⟨.d0, .d5, .d5⟩), none⟩,
    ⟨some ⟨.d0, .d5, .d7⟩, .load true 2 (.t ⟨.d0, .d0, .d4⟩), some (⟨.d0, .d5, .d6⟩, false)⟩,
    ⟨some ⟨.d0, .d6, .d0⟩, .call 22 [(.t ⟨.d0, .d5, .d7⟩)], some (⟨.d0, .d5, .d6⟩, false)⟩,
    ⟨some ⟨.d0, .d6, .d1⟩, .load true 2 (.t ⟨.d0, .d0, .d4⟩), some (⟨.d0, .d5, .d6⟩, false)⟩,
    ⟨some ⟨.d0, .d6, .d2⟩, .call 23 [(.t ⟨.d0, .d6, .d1⟩)], some (⟨.d0, .d5, .d6⟩, false)⟩,
    ⟨some ⟨.d0, .d6, .d3⟩, .bin .neq (.t ⟨.d0, .d6, .d0⟩) (.t ⟨.d0, .d6, .d2⟩), some (⟨.d0, .d5, .d6⟩, false)⟩,
    ⟨some ⟨.d0, .d6, .d4⟩, .pick (.t ⟨.d0, .d5, .d6⟩) (.c (.bool true)) (.t ⟨.d0, .d6, .d3⟩), none⟩])
  (.cond (.t ⟨.d0, .d6, .d4⟩)
    (.seq (.region [⟨some ⟨.d0, .d0, .d6⟩, .move (.c (.bool false)), none⟩])
    (.ret))
    (.skip)))
  (.seq (.region [⟨some ⟨.d0, .d6, .d6⟩, .load true 2 (.t ⟨.d0, .d0, .d4⟩), none⟩,
    ⟨some ⟨.d0, .d6, .d7⟩, .move (.t ⟨.d0, .d0, .d2⟩), none⟩,
    ⟨some ⟨.d0, .d7, .d0⟩, .call 24 [(.t ⟨.d0, .d6, .d6⟩), (.t ⟨.d0, .d6, .d7⟩)], none⟩,
    ⟨some ⟨.d0, .d6, .d5⟩, .move (.t ⟨.d0, .d7, .d0⟩), none⟩,
    ⟨some ⟨.d0, .d7, .d1⟩, .extract 0 (.t ⟨.d0, .d6, .d5⟩), none⟩,
    ⟨some ⟨.d0, .d7, .d2⟩, .extract 1 (.t ⟨.d0, .d6, .d5⟩), none⟩,
    ⟨some ⟨.d0, .d7, .d3⟩, .extract 2 (.t ⟨.d0, .d6, .d5⟩), none⟩,
    ⟨some ⟨.d0, .d1, .d2⟩, .alloc 3 [.int .i64 0, .slice none 0 0], none⟩,
    ⟨none, .store 2 (.t ⟨.d0, .d1, .d2⟩) (.t ⟨.d0, .d7, .d1⟩), none⟩,
    ⟨some ⟨.d0, .d1, .d3⟩, .move (.t ⟨.d0, .d7, .d2⟩), none⟩,
    ⟨some ⟨.d0, .d1, .d4⟩, .move (.t ⟨.d0, .d7, .d3⟩), none⟩])
  (.seq (.region [⟨some ⟨.d0, .d7, .d4⟩, .load true 2 (.t ⟨.d0, .d0, .d4⟩), none⟩,
    ⟨some ⟨.d0, .d7, .d5⟩, .call 23 [(.t ⟨.d0, .d7, .d4⟩)], none⟩,
    ⟨some ⟨.d0, .d1, .d5⟩, .move (.t ⟨.d0, .d7, .d5⟩), none⟩])
  (.seq (.seq (.region [⟨some ⟨.d0, .d7, .d6⟩, .move (.t ⟨.d0, .d1, .d5⟩), none⟩,
    ⟨some ⟨.d0, .d7, .d7⟩, .bin .eql (.t ⟨.d0, .d7, .d6⟩) (.c (.int .i64 0)), none⟩])
  (.cond (.t ⟨.d0, .d7, .d7⟩)
    (.seq (.region [⟨some ⟨.d0, .d1, .d6⟩, .move (.c (.int .i64 0)), none⟩])
    (.seq (.block 0
      (.loop
        (.seq (.seq (.region [⟨some ⟨.d1, .d0, .d0⟩, .load true 2 (.t ⟨.d0, .d0, .d4⟩), none⟩,
          ⟨some ⟨.d1, .d0, .d1⟩, .move (.t ⟨.d0, .d1, .d6⟩), none⟩,
          ⟨some ⟨.d1, .d0, .d2⟩, .call 25 [(.t ⟨.d1, .d0, .d0⟩), (.t ⟨.d1, .d0, .d1⟩)], none⟩])
        (.cond (.t ⟨.d1, .d0, .d2⟩)
          (.skip)
          (.exit 0)))
        (.block 1
          (.region [⟨some ⟨.d1, .d0, .d3⟩, .move (.t ⟨.d0, .d1, .d6⟩), none⟩,
            ⟨some ⟨.d1, .d0, .d4⟩, .bin .add (.t ⟨.d1, .d0, .d3⟩) (.c (.int .i64 1)), none⟩,
            ⟨some ⟨.d0, .d1, .d6⟩, .move (.t ⟨.d1, .d0, .d4⟩), none⟩])))))
    (.seq (.region [⟨some ⟨.d0, .d1, .d7⟩, .alloc 4 [.int .i64 0, .slice none 0 0], none⟩])
    (.seq (.seq (.region [⟨some ⟨.d1, .d0, .d6⟩, .load true 2 (.t ⟨.d0, .d0, .d4⟩), none⟩,
      ⟨some ⟨.d1, .d0, .d7⟩, .move (.t ⟨.d0, .d1, .d6⟩), none⟩,
      ⟨some ⟨.d1, .d1, .d0⟩, .move (.t ⟨.d0, .d0, .d2⟩), none⟩,
      ⟨some ⟨.d1, .d1, .d1⟩, .call 26 [(.t ⟨.d1, .d0, .d6⟩), (.t ⟨.d1, .d0, .d7⟩), (.t ⟨.d1, .d1, .d0⟩)], none⟩,
      ⟨some ⟨.d1, .d0, .d5⟩, .move (.t ⟨.d1, .d1, .d1⟩), none⟩,
      ⟨some ⟨.d1, .d1, .d2⟩, .extract 0 (.t ⟨.d1, .d0, .d5⟩), none⟩,
      ⟨some ⟨.d1, .d1, .d3⟩, .extract 1 (.t ⟨.d1, .d0, .d5⟩), none⟩,
      ⟨none, .store 2 (.t ⟨.d0, .d1, .d7⟩) (.t ⟨.d1, .d1, .d2⟩), none⟩,
      ⟨some ⟨.d0, .d1, .d5⟩, .move (.t ⟨.d1, .d1, .d3⟩), none⟩])
    (.seq (.region [⟨some ⟨.d1, .d1, .d4⟩, .move (.t ⟨.d0, .d1, .d5⟩), none⟩,
      ⟨some ⟨.d1, .d1, .d5⟩, .bin .eql (.t ⟨.d1, .d1, .d4⟩) (.c (.int .i64 0)), none⟩,
      ⟨some ⟨.d1, .d1, .d6⟩, .move (.t ⟨.d1, .d1, .d5⟩), none⟩,
      ⟨some ⟨.d1, .d1, .d7⟩, .move (.t ⟨.d0, .d1, .d6⟩), some (⟨.d1, .d1, .d6⟩, true)⟩,
      ⟨some ⟨.d1, .d2, .d0⟩, .fieldAddr 0 (.t ⟨.d0, .d0, .d4⟩), some (⟨.d1, .d1, .d6⟩, true)⟩,
      ⟨some ⟨.d1, .d2, .d1⟩, .load false 1 (.t ⟨.d1, .d2, .d0⟩), some (⟨.d1, .d1, .d6⟩, true)⟩,
      ⟨some ⟨.d1, .d2, .d2⟩, .bin .lss (.t ⟨.d1, .d1, .d7⟩) (.t ⟨.d1, .d2, .d1⟩), some (⟨.d1, .d1, .d6⟩, true)⟩,
      ⟨some ⟨.d1, .d2, .d3⟩, .pick (.t ⟨.d1, .d1, .d6⟩) (.t ⟨.d1, .d2, .d2⟩) (.c (.bool false)), none⟩])
    (.cond (.t ⟨.d1, .d2, .d3⟩)
      (.seq (.region [⟨some ⟨.d1, .d2, .d4⟩, .load true 2 (.t ⟨.d0, .d1, .d2⟩), none⟩,
        ⟨some ⟨.d1, .d2, .d5⟩, .load true 2 (.t ⟨.d0, .d1, .d7⟩), none⟩,
        ⟨some ⟨.d1, .d2, .d6⟩, .call 21 [(.t ⟨.d1, .d2, .d4⟩), (.t ⟨.d1, .d2, .d5⟩)], none⟩,
        ⟨some ⟨.d1, .d2, .d7⟩, .move (.t ⟨.d1, .d2, .d6⟩), none⟩,
        ⟨some ⟨.d1, .d3, .d0⟩, .move (.t ⟨.d0, .d1, .d3⟩), some (⟨.d1, .d2, .d7⟩, true)⟩,
        ⟨some ⟨.d1, .d3, .d1⟩, .move (.t ⟨.d0, .d1, .d6⟩), some (⟨.d1, .d2, .d7⟩, true)⟩,
        ⟨some ⟨.d1, .d3, .d2⟩, .bin .eql (.t ⟨.d1, .d3, .d0⟩) (.t ⟨.d1, .d3, .d1⟩), some (⟨.d1, .d2, .d7⟩, true)⟩,
        ⟨some ⟨.d1, .d3, .d3⟩, .pick (.t ⟨.d1, .d2, .d7⟩) (.t ⟨.d1, .d3, .d2⟩) (.c (.bool false)), none⟩,
        ⟨some ⟨.d1, .d3, .d4⟩, .move (.t ⟨.d1, .d3, .d3⟩), none⟩,
        ⟨some ⟨.d1, .d3, .d5⟩, .move (.t ⟨.d0, .d1, .d4⟩), some (⟨.d1, .d3, .d4⟩, true)⟩,
        ⟨some ⟨.d1, .d3, .d6⟩, .bin .eql (.t ⟨.d1, .d3, .d5⟩) (.c (.int .i64 0)), some (⟨.d1, .d3, .d4⟩, true)⟩,
        ⟨some ⟨.d1, .d3, .d7⟩, .pick (.t ⟨.d1, .d3, .d4⟩) (.t ⟨.d1, .d3, .d6⟩) (.c (.bool false)), none⟩,
        ⟨some ⟨.d0, .d0, .d6⟩, .move (.t ⟨.d1, .d3, .d7⟩), none⟩])
      (.ret))
      (.skip))))
    (.seq (.region [⟨some ⟨.d1, .d4, .d0⟩, .move (.t ⟨.d0, .d1, .d5⟩), none⟩,
      ⟨some ⟨.d1, .d4, .d1⟩, .bin .eql (.t ⟨.d1, .d4, .d0⟩) (.c (.int .i64 0)), none⟩])
    (.cond (.t ⟨.d1, .d4, .d1⟩)
      (.region [⟨some ⟨.d0, .d1, .d5⟩, .move (.c (.int .i64 6)), none⟩])
      (.skip)))))))
    (.skip)))
  (.seq (.region [⟨some ⟨.d1, .d4, .d2⟩, .load true 2 (.t ⟨.d0, .d1, .d2⟩), none⟩,
    ⟨some ⟨.d1, .d4, .d3⟩, .build [.int .i64 0, .slice none 0 0] [], none⟩,
    ⟨some ⟨.d1, .d4, .d4⟩, .call 21 [(.t ⟨.d1, .d4, .d2⟩), (.t ⟨.d1, .d4, .d3⟩)], none⟩,
    ⟨some ⟨.d1, .d4, .d5⟩, .move (.t ⟨.d1, .d4, .d4⟩), none⟩,
    ⟨some ⟨.d1, .d4, .d6⟩, .move (.t ⟨.d0, .d1, .d3⟩), some (⟨.d1, .d4, .d5⟩, true)⟩,
    ⟨some ⟨.d1, .d4, .d7⟩, .bin .eql (.t ⟨.d1, .d4, .d6⟩) (.c (.int .i64 0)), some (⟨.d1, .d4, .d5⟩, true)⟩,
    ⟨some ⟨.d1, .d5, .d0⟩, .pick (.t ⟨.d1, .d4, .d5⟩) (.t ⟨.d1, .d4, .d7⟩) (.c (.bool false)), none⟩,
    ⟨some ⟨.d1, .d5, .d1⟩, .move (.t ⟨.d1, .d5, .d0⟩), none⟩,
    ⟨some ⟨.d1, .d5, .d2⟩, .move (.t ⟨.d0, .d1, .d4⟩), some (⟨.d1, .d5, .d1⟩, true)⟩,
    ⟨some ⟨.d1, .d5, .d3⟩, .move (.t ⟨.d0, .d1, .d5⟩), some (⟨.d1, .d5, .d1⟩, true)⟩,
    ⟨some ⟨.d1, .d5, .d4⟩, .bin .eql (.t ⟨.d1, .d5, .d2⟩) (.t ⟨.d1, .d5, .d3⟩), some (⟨.d1, .d5, .d1⟩, true)⟩,
    ⟨some ⟨.d1, .d5, .d5⟩, .pick (.t ⟨.d1, .d5, .d1⟩) (.t ⟨.d1, .d5, .d4⟩) (.c (.bool false)), none⟩,
    ⟨some ⟨.d0, .d0, .d6⟩, .move (.t ⟨.d1, .d5, .d5⟩), none⟩])
  (.ret)))))))))
def r_custlaw_AgesTakes : List XR := [.tmp ⟨.d0, .d0, .d6⟩]
theorem ok_custlaw_AgesTakes : okC Try.prog Try.f5.ntmps (bodyOf Try.f5) x_custlaw_AgesTakes = true := by kernel_rfl
theorem okr_custlaw_AgesTakes : okRs Try.prog Try.f5.results.toList r_custlaw_AgesTakes = true := by kernel_rfl

/-- custlaw.AgesGoes -/
def x_custlaw_AgesGoes : XC :=
  .seq (.region [⟨some ⟨.d0, .d0, .d3⟩, .box 0 2 (.t ⟨.d0, .d0, .d0⟩), none⟩,
    ⟨some ⟨.d0, .d0, .d6⟩, .move (.c (.bool false)), none⟩])
  (.seq (.region [⟨some ⟨.d0, .d3, .d2⟩, .load true 2 (.t ⟨.d0, .d0, .d3⟩), none⟩,
    ⟨some ⟨.d0, .d3, .d3⟩, .move (.t ⟨.d0, .d0, .d1⟩), none⟩,
    ⟨some ⟨.d0, .d3, .d4⟩, .move (.t ⟨.d0, .d0, .d2⟩), none⟩,
    ⟨some ⟨.d0, .d3, .d5⟩, .call 27 [(.t ⟨.d0, .d3, .d2⟩), (.t ⟨.d0, .d3, .d3⟩), (.t ⟨.d0, .d3, .d4⟩)], none⟩,
    ⟨some ⟨.d0, .d3, .d1⟩, .move (.t ⟨.d0, .d3, .d5⟩), none⟩,
    ⟨some ⟨.d0, .d3, .d6⟩, .extract 0 (.t ⟨.d0, .d3, .d1⟩), none⟩,
    ⟨some ⟨.d0, .d3, .d7⟩, .extract 1 (.t ⟨.d0, .d3, .d1⟩), none⟩,
    ⟨some ⟨.d0, .d0, .d7⟩, .alloc 1 [.int .i64 0, .slice none 0 0], none⟩,
    ⟨none, .store 2 (.t ⟨.d0, .d0, .d7⟩) (.t ⟨.d0, .d3, .d6⟩), none⟩,
    ⟨some ⟨.d0, .d1, .d0⟩, .move (.t ⟨.d0, .d3, .d7⟩), none⟩])
  (.seq (.region [⟨some ⟨.d0, .d4, .d1⟩, .load true 2 (.t ⟨.d0, .d0, .d3⟩), none⟩,
    ⟨some ⟨.d0, .d4, .d2⟩, .move (.t ⟨.d0, .d0, .d1⟩), none⟩,
    ⟨some ⟨.d0, .d4, .d3⟩, .call 28 [(.t ⟨.d0, .d4, .d1⟩), (.t ⟨.d0, .d4, .d2⟩)], none⟩,
    ⟨some ⟨.d0, .d4, .d0⟩, .move (.t ⟨.d0, .d4, .d3⟩), none⟩,
    ⟨some ⟨.d0, .d4, .d4⟩, .extract 0 (.t ⟨.d0, .d4, .d0⟩), none⟩,
    ⟨some ⟨.d0, .d4, .d5⟩, .extract 1 (.t ⟨.d0, .d4, .d0⟩), none⟩,
    ⟨some ⟨.d0, .d1, .d1⟩, .alloc 2 [.int .i64 0, .slice none 0 0], none⟩,
    ⟨none, .store 2 (.t ⟨.d0, .d1, .d1⟩) (.t ⟨.d0, .d4, .d4⟩), none⟩,
    ⟨some ⟨.d0, .d1, .d2⟩, .move (.t ⟨.d0, .d4, .d5⟩), none⟩])
  (.seq (.region [⟨some ⟨.d0, .d4, .d7⟩, .load true 2 (.t ⟨.d0, .d0, .d3⟩), none⟩,
    ⟨some ⟨.d0, .d5, .d0⟩, .move (.t ⟨.d0, .d0, .d2⟩), none⟩,
    ⟨some ⟨.d0, .d5, .d1⟩, .call 29 [(.t ⟨.d0, .d4, .d7⟩), (.t ⟨.d0, .d5, .d0⟩)], none⟩,
    ⟨some ⟨.d0, .d4, .d6⟩, .move (.t ⟨.d0, .d5, .d1⟩), none⟩,
    ⟨some ⟨.d0, .d5, .d2⟩, .extract 0 (.t ⟨.d0, .d4, .d6⟩), none⟩,
    ⟨some ⟨.d0, .d5, .d3⟩, .extract 1 (.t ⟨.d0, .d4, .d6⟩), none⟩,
    ⟨some ⟨.d0, .d5, .d4⟩, .extract 2 (.t ⟨.d0, .d4, .d6⟩), none⟩,
    ⟨some ⟨.d0, .d1, .d3⟩, .alloc 3 [.int .i64 0, .slice none 0 0], none⟩,
    ⟨none, .store 2 (.t ⟨.d0, .d1, .d3⟩) (.t ⟨.d0, .d5, .d2⟩), none⟩,
    ⟨some ⟨.d0, .d1, .d4⟩, .move (.t ⟨.d0, .d5, .d3⟩), none⟩,
    ⟨some ⟨.d0, .d1, .d5⟩, .move (.t ⟨.d0, .d5, .d4⟩), none⟩])
  (.seq (.seq (.region [⟨some ⟨.d0, .d5, .d5⟩, .load true 2 (.t ⟨.d0, .d0, .d3⟩), none⟩,
    ⟨some ⟨.d0, .d5, .d6⟩, .call 23 [(.t ⟨.d0, .d5, .d5⟩)], none⟩,
    ⟨some ⟨.d0, .d1, .d6⟩, .move (.t ⟨.d0, .d5, .d6⟩), none⟩])
  (.seq (.region [⟨some ⟨.d0, .d5, .d7⟩, .move (.t ⟨.d0, .d1, .d6⟩), none⟩,
    ⟨some ⟨.d0, .d6, .d0⟩, .bin .neq (.t ⟨.d0, .d5, .d7⟩) (.c (.int .i64 0)), none⟩])
  (.cond (.t ⟨.d0, .d6, .d0⟩)
    (.seq (.region [⟨some ⟨.d0, .d6, .d1⟩, .load true 2 (.t ⟨.d0, .d0, .d7⟩), none⟩,
      ⟨some ⟨.d0, .d6, .d2⟩, .build [.int .i64 0, .slice none 0 0] [], none⟩,
      ⟨some ⟨.d0, .d6, .d3⟩, .call 21 [(.t ⟨.d0, .d6, .d1⟩), (.t ⟨.d0, .d6, .d2⟩)], none⟩,
      ⟨some ⟨.d0, .d6, .d4⟩, .move (.t ⟨.d0, .d6, .d3⟩), none⟩,
      ⟨some ⟨.d0, .d6, .d5⟩, .load true 2 (.t ⟨.d0, .d1, .d1⟩), some (⟨.d0, .d6, .d4⟩, true)⟩,
      ⟨some ⟨.d0, .d6, .d6⟩, .build [.int .i64 0, .slice none 0 0] [], some (⟨.d0, .d6, .d4⟩, true)⟩,
      ⟨some ⟨.d0, .d6, .d7⟩, .call 21 [(.t ⟨.d0, .d6, .d5⟩), (.t ⟨.d0, .d6, .d6⟩)], some (⟨.d0, .d6, .d4⟩, true)⟩,
      ⟨some ⟨.d0, .d7, .d0⟩, .pick (.t ⟨.d0, .d6, .d4⟩) (.t ⟨.d0, .d6, .d7⟩) (.c (.bool false)), none⟩,
      ⟨some ⟨.d0, .d7, .d1⟩, .move (.t ⟨.d0, .d7, .d0⟩), none⟩,
      ⟨some ⟨.d0, .d7, .d2⟩, .load true 2 (.t ⟨.d0, .d1, .d3⟩), some (⟨.d0, .d7, .d1⟩, true)⟩,
      ⟨some ⟨.d0, .d7, .d3⟩, .build [.int .i64 0, .slice none 0 0] [], some (⟨.d0, .d7, .d1⟩, true)⟩,
      ⟨some ⟨.d0, .d7, .d4⟩, .call 21 [(.t ⟨.d0, .d7, .d2⟩), (.t ⟨.d0, .d7, .d3⟩)], some (⟨.d0, .d7, .d1⟩, true)⟩,
      ⟨some ⟨.d0, .d7, .d5⟩, .pick (.t ⟨.d0, .d7, .d1⟩) (.t ⟨.d0, .d7, .d4⟩) (.c (.bool false)), none⟩,
      ⟨some ⟨.d0, .d7, .d6⟩, .move (.t ⟨.d0, .d7, .d5⟩), none⟩,
      ⟨some ⟨.d0, .d7, .d7⟩, .move (.t ⟨.d0, .d1, .d4⟩), some (⟨.d0, .d7, .d6⟩, true)⟩,
      ⟨some ⟨.d1, .d0, .d0⟩, .len (.t ⟨.d0, .d7, .d7⟩), some (⟨.d0, .d7, .d6⟩, true)⟩,
      ⟨some ⟨.d1, .d0, .d1⟩, .bin .eql (.t ⟨.d1, .d0, .d0⟩) (.c (.int .i64 0)), some (⟨.d0, .d7, .d6⟩, true)⟩,
      ⟨some ⟨.d1, .d0, .d2⟩, .pick (.t ⟨.d0, .d7, .d6⟩) (.t ⟨.d1, .d0, .d1⟩) (.c (.bool false)), none⟩,
      ⟨some ⟨.d1, .d0, .d3⟩, .move (.t ⟨.d1, .d0, .d2⟩), none⟩,
      ⟨some ⟨.d1, .d0, .d4⟩, .move (.t ⟨.d0, .d1, .d0⟩), some (⟨.d1, .d0, .d3⟩, true)⟩,
      ⟨some ⟨.d1, .d0, .d5⟩, .move (.t ⟨.d0, .d1, .d6⟩), some (⟨.d1, .d0, .d3⟩, true)⟩,
      ⟨some ⟨.d1, .d0, .d6⟩, .bin .eql (.t ⟨.d1, .d0, .d4⟩) (.t ⟨.d1, .d0, .d5⟩), some (⟨.d1, .d0, .d3⟩, true)⟩,
      ⟨some ⟨.d1, .d0, .d7⟩, .pick (.t ⟨.d1, .d0, .d3⟩) (.t ⟨.d1, .d0, .d6⟩) (.c (.bool false)), none⟩,
      ⟨some ⟨.d1, .d1, .d0⟩, .move (.t ⟨.d1, .d0, .d7⟩), none⟩,
      ⟨some ⟨.d1, .d1, .d1⟩, .move (.t ⟨.d0, .d1, .d2⟩), some (⟨.d1, .d1, .d0⟩, true)⟩,
      ⟨some ⟨.d1, .d1, .d2⟩, .move (.t ⟨.d0, .d1, .d6⟩), some (⟨.d1, .d1, .d0⟩, true)⟩,
      ⟨some ⟨.d1, .d1, .d3⟩, .bin .eql (.t ⟨.d1, .d1, .d1⟩) (.t ⟨.d1, .d1, .d2⟩), some (⟨.d1, .d1, .d0⟩, true)⟩,
      ⟨some ⟨.d1, .d1, .d4⟩, .pick (.t ⟨.d1, .d1, .d0⟩) (.t ⟨.d1, .d1, .d3⟩) (.c (.bool false)), none⟩,
      ⟨some ⟨.d1, .d1, .d5⟩, .move (.t ⟨.d1, .d1, .d4⟩), none⟩,
      ⟨some ⟨.d1, .d1, .d6⟩, .move (.t ⟨.d0, .d1, .d5⟩), some (⟨.d1, .d1, .d5⟩, true)⟩,
      ⟨some ⟨.d1, .d1, .d7⟩, .move (.t ⟨.d0, .d1, .d6⟩), some (⟨.d1, .d1, .d5⟩, true)⟩,
      ⟨some ⟨.d1, .d2, .d0⟩, .bin .eql (.t ⟨.d1, .d1, .d6⟩) (.t ⟨.d1, .d1, .d7⟩), some (⟨.d1, .d1, .d5⟩, true)⟩,
      ⟨some ⟨.d1, .d2, .d1⟩, .pick (.t ⟨.d1, .d1, .d5⟩) (.t ⟨.d1, .d2, .d0⟩) (.c (.bool false)), none⟩,
      ⟨some ⟨.d0, .d0, .d6⟩, .move (.t ⟨.d1, .d2, .d1⟩), none⟩])
    (.ret))
    (.skip))))
  (.seq (.region [⟨some ⟨.d1, .d2, .d3⟩, .load true 2 (.t ⟨.d0, .d0, .d3⟩), none⟩,
    ⟨some ⟨.d1, .d2, .d4⟩, .move (.t ⟨.d0, .d0, .d1⟩), none⟩,
    ⟨some ⟨.d1, .d2, .d5⟩, .move (.t ⟨.d0, .d0, .d2⟩), none⟩,
    ⟨some ⟨.d1, .d2, .d6⟩, .call 26 [(.t ⟨.d1, .d2, .d3⟩), (.t ⟨.d1, .d2, .d4⟩), (.t ⟨.d1, .d2, .d5⟩)], none⟩,
    ⟨some ⟨.d1, .d2, .d2⟩, .move (.t ⟨.d1, .d2, .d6⟩), none⟩,
    ⟨some ⟨.d1, .d2, .d7⟩, .extract 0 (.t ⟨.d1, .d2, .d2⟩), none⟩,
    ⟨some ⟨.d1, .d3, .d0⟩, .extract 1 (.t ⟨.d1, .d2, .d2⟩), none⟩,
    ⟨some ⟨.d0, .d1, .d7⟩, .alloc 4 [.int .i64 0, .slice none 0 0], none⟩,
    ⟨none, .store 2 (.t ⟨.d0, .d1, .d7⟩) (.t ⟨.d1, .d2, .d7⟩), none⟩,
    ⟨some ⟨.d0, .d2, .d0⟩, .move (.t ⟨.d1, .d3, .d0⟩), none⟩])
  (.seq (.region [⟨some ⟨.d1, .d3, .d1⟩, .build [.int .i64 0, .slice none 0 0] [], none⟩,
    ⟨some ⟨.d0, .d2, .d1⟩, .alloc 5 [.int .i64 0, .slice none 0 0], none⟩,
    ⟨none, .store 2 (.t ⟨.d0, .d2, .d1⟩) (.t ⟨.d1, .d3, .d1⟩), none⟩,
    ⟨some ⟨.d0, .d2, .d2⟩, .move (.c (.int .i64 7)), none⟩])
  (.seq (.seq (.region [⟨some ⟨.d1, .d3, .d2⟩, .load true 2 (.t ⟨.d0, .d0, .d3⟩), none⟩,
    ⟨some ⟨.d1, .d3, .d3⟩, .move (.t ⟨.d0, .d0, .d1⟩), none⟩,
    ⟨some ⟨.d1, .d3, .d4⟩, .call 25 [(.t ⟨.d1, .d3, .d2⟩), (.t ⟨.d1, .d3, .d3⟩)], none⟩])
  (.cond (.t ⟨.d1, .d3, .d4⟩)
    (.seq (.region [⟨some ⟨.d1, .d3, .d5⟩, .fieldAddr 0 (.t ⟨.d0, .d0, .d3⟩), none⟩,
      ⟨some ⟨.d1, .d3, .d6⟩, .load false 1 (.t ⟨.d1, .d3, .d5⟩), none⟩,
      ⟨some ⟨.d1, .d3, .d7⟩, .build [.int .i64 0, .slice none 0 0] [(0, 1, (.t ⟨.d1, .d3, .d6⟩))], none⟩,
      ⟨none, .store 2 (.t ⟨.d0, .d2, .d1⟩) (.t ⟨.d1, .d3, .d7⟩), none⟩,
      ⟨some ⟨.d0, .d2, .d2⟩, .move (.c (.int .i64 0)), none⟩])
    (.seq (.region [⟨some ⟨.d1, .d4, .d0⟩, .fieldAddr 1 (.t ⟨.d0, .d0, .d3⟩), none⟩,
      ⟨some ⟨.d1, .d4, .d1⟩, .load false 1 (.t ⟨.d1, .d4, .d0⟩), none⟩,
      ⟨some ⟨.d1, .d4, .d2⟩, .len (.t ⟨.d1, .d4, .d1⟩), none⟩,
      ⟨some ⟨.d1, .d4, .d3⟩, .move (.c (.int .i64 0)), none⟩])
    (.block 0
      (.loop
        (.seq (.region [⟨some ⟨.d1, .d4, .d4⟩, .bin .lss (.t ⟨.d1, .d4, .d3⟩) (.t ⟨.d1, .d4, .d2⟩), none⟩])
        (.seq (.cond (.t ⟨.d1, .d4, .d4⟩)
          (.skip)
          (.exit 0))
        (.seq (.block 1
          (.seq (.region [⟨some ⟨.d1, .d4, .d5⟩, .indexSl 2 (.t ⟨.d1, .d4, .d1⟩) (.t ⟨.d1, .d4, .d3⟩), none⟩,
            ⟨some ⟨.d1, .d4, .d6⟩, .load true 2 (.t ⟨.d1, .d4, .d5⟩), none⟩,
            ⟨some ⟨.d0, .d2, .d4⟩, .alloc 6 [.int .i64 0, .int .i64 0], none⟩,
            ⟨none, .store 2 (.t ⟨.d0, .d2, .d4⟩) (.t ⟨.d1, .d4, .d6⟩), none⟩])
          (.seq (.region [⟨some ⟨.d1, .d4, .d7⟩, .fieldAddr 0 (.t ⟨.d0, .d2, .d4⟩), none⟩,
            ⟨some ⟨.d1, .d5, .d0⟩, .load false 1 (.t ⟨.d1, .d4, .d7⟩), none⟩,
            ⟨some ⟨.d1, .d5, .d1⟩, .move (.t ⟨.d0, .d0, .d1⟩), none⟩,
            ⟨some ⟨.d1, .d5, .d2⟩, .bin .neq (.t ⟨.d1, .d5, .d0⟩) (.t ⟨.d1, .d5, .d1⟩), none⟩])
          (.cond (.t ⟨.d1, .d5, .d2⟩)
            (.region [⟨some ⟨.d1, .d5, .d3⟩, .fieldAddr 1 (.t ⟨.d0, .d2, .d1⟩), none⟩,
              ⟨some ⟨.d1, .d5, .d4⟩, .load false 1 (.t ⟨.d1, .d5, .d3⟩), none⟩,
              ⟨some ⟨.d1, .d5, .d5⟩, .load true 2 (.t ⟨.d0, .d2, .d4⟩), none⟩,
              ⟨some ⟨.d1, .d5, .d6⟩, .buildSlice 7 1 [.int .i64 0, .int .i64 0] [(0, (.t ⟨.d1, .d5, .d5⟩))], none⟩,
              ⟨some ⟨.d1, .d5, .d7⟩, .append 8 2 16 (.t ⟨.d1, .d5, .d4⟩) (.t ⟨.d1, .d5, .d6⟩), none⟩,
              ⟨some ⟨.d1, .d6, .d0⟩, .fieldAddr 1 (.t ⟨.d0, .d2, .d1⟩), none⟩,
              ⟨none, .store 1 (.t ⟨.d1, .d6, .d0⟩) (.t ⟨.d1, .d5, .d7⟩), none⟩])
            (.skip)))))
        (.region [⟨some ⟨.d1, .d6, .d1⟩, .bin .add (.t ⟨.d1, .d4, .d3⟩) (.c (.int .i64 1)), none⟩,
          ⟨some ⟨.d1, .d4, .d3⟩, .move (.t ⟨.d1, .d6, .d1⟩), none⟩]))))))))
    (.seq (.region [⟨some ⟨.d1, .d6, .d2⟩, .move (.t ⟨.d0, .d2, .d0⟩), none⟩,
      ⟨some ⟨.d1, .d6, .d3⟩, .bin .eql (.t ⟨.d1, .d6, .d2⟩) (.c (.int .i64 0)), none⟩])
    (.cond (.t ⟨.d1, .d6, .d3⟩)
      (.region [⟨some ⟨.d1, .d6, .d4⟩, .build [.int .i64 0, .slice none 0 0] [], none⟩,
        ⟨none, .store 2 (.t ⟨.d0, .d1, .d7⟩) (.t ⟨.d1, .d6, .d4⟩), none⟩,
        ⟨some ⟨.d0, .d2, .d0⟩, .move (.c (.int .i64 7)), none⟩])
      (.skip)))))
  (.seq (.region [⟨some ⟨.d1, .d6, .d5⟩, .fieldAddr 0 (.t ⟨.d0, .d0, .d3⟩), none⟩,
    ⟨some ⟨.d1, .d6, .d6⟩, .load false 1 (.t ⟨.d1, .d6, .d5⟩), none⟩,
    ⟨some ⟨.d1, .d6, .d7⟩, .build [.int .i64 0, .slice none 0 0] [(0, 1, (.t ⟨.d1, .d6, .d6⟩))], none⟩,
    ⟨some ⟨.d0, .d2, .d5⟩, .alloc 9 [.int .i64 0, .slice none 0 0], none⟩,
    ⟨none, .store 2 (.t ⟨.d0, .d2, .d5⟩) (.t ⟨.d1, .d6, .d7⟩), none⟩])
  (.seq (.region [⟨some ⟨.d0, .d2, .d6⟩, .move (.c (.slice none 0 0)), none⟩])
  (.seq (.seq (.region [⟨some ⟨.d1, .d7, .d0⟩, .fieldAddr 1 (.t ⟨.d0, .d0, .d3⟩), none⟩,
    ⟨some ⟨.d1, .d7, .d1⟩, .load false 1 (.t ⟨.d1, .d7, .d0⟩), none⟩,
    ⟨some ⟨.d1, .d7, .d2⟩, .len (.t ⟨.d1, .d7, .d1⟩), none⟩,
    ⟨some ⟨.d1, .d7, .d3⟩, .move (.c (.int .i64 0)), none⟩])
  (.block 2
    (.loop
      (.seq (.region [⟨some ⟨.d1, .d7, .d4⟩, .bin .lss (.t ⟨.d1, .d7, .d3⟩) (.t ⟨.d1, .d7, .d2⟩), none⟩])
      (.seq (.cond (.t ⟨.d1, .d7, .d4⟩)
        (.skip)
        (.exit 2))
      (.seq (.block 3
        (.seq (.region [⟨some ⟨.d1, .d7, .d5⟩, .indexSl 2 (.t ⟨.d1, .d7, .d1⟩) (.t ⟨.d1, .d7, .d3⟩), none⟩,
          ⟨some ⟨.d1, .d7, .d6⟩, .load true 2 (.t ⟨.d1, .d7, .d5⟩), none⟩,
          ⟨some ⟨.d0, .d3, .d0⟩, .alloc 10 [.int .i64 0, .int .i64 0], none⟩,
          ⟨none, .store 2 (.t ⟨.d0, .d3, .d0⟩) (.t ⟨.d1, .d7, .d6⟩), none⟩])
        (.seq (.region [⟨some ⟨.d1, .d7, .d7⟩, .fieldAddr 1 (.t ⟨.d0, .d3, .d0⟩), none⟩,
          ⟨some ⟨.d2, .d0, .d0⟩, .load false 1 (.t ⟨.d1, .d7, .d7⟩), none⟩,
          ⟨some ⟨.d2, .d0, .d1⟩, .move (.t ⟨.d0, .d0, .d2⟩), none⟩,
          ⟨some ⟨.d2, .d0, .d2⟩, .bin .lss (.t ⟨.d2, .d0, .d0⟩) (.t ⟨.d2, .d0, .d1⟩), none⟩])
        (.cond (.t ⟨.d2, .d0, .d2⟩)
          (.region [⟨some ⟨.d2, .d0, .d3⟩, .move (.t ⟨.d0, .d2, .d6⟩), none⟩,
            ⟨some ⟨.d2, .d0, .d4⟩, .fieldAddr 0 (.t ⟨.d0, .d3, .d0⟩), none⟩,
            ⟨some ⟨.d2, .d0, .d5⟩, .load false 1 (.t ⟨.d2, .d0, .d4⟩), none⟩,
            ⟨some ⟨.d2, .d0, .d6⟩, .buildSlice 11 1 [.int .i64 0] [(0, (.t ⟨.d2, .d0, .d5⟩))], none⟩,
            ⟨some ⟨.d2, .d0, .d7⟩, .append 12 1 8 (.t ⟨.d2, .d0, .d3⟩) (.t ⟨.d2, .d0, .d6⟩), none⟩,
            ⟨some ⟨.d0, .d2, .d6⟩, .move (.t ⟨.d2, .d0, .d7⟩), none⟩])
          (.region [⟨some ⟨.d2, .d1, .d0⟩, .fieldAddr 1 (.t ⟨.d0, .d2, .d5⟩), none⟩,
            ⟨some ⟨.d2, .d1, .d1⟩, .load false 1 (.t ⟨.d2, .d1, .d0⟩), none⟩,
            ⟨some ⟨.d2, .d1, .d2⟩, .load true 2 (.t ⟨.d0, .d3, .d0⟩), none⟩,
            ⟨some ⟨.d2, .d1, .d3⟩, .buildSlice 13 1 [.int .i64 0, .int .i64 0] [(0, (.t ⟨.d2, .d1, .d2⟩))], none⟩,
            ⟨some ⟨.d2, .d1, .d4⟩, .append 14 2 16 (.t ⟨.d2, .d1, .d1⟩) (.t ⟨.d2, .d1, .d3⟩), none⟩,
            ⟨some ⟨.d2, .d1, .d5⟩, .fieldAddr 1 (.t ⟨.d0, .d2, .d5⟩), none⟩,
            ⟨none, .store 1 (.t ⟨.d2, .d1, .d5⟩) (.t ⟨.d2, .d1, .d4⟩), none⟩])))))
      (.region [⟨some ⟨.d2, .d1, .d6⟩, .bin .add (.t ⟨.d1, .d7, .d3⟩) (.c (.int .i64 1)), none⟩,
        ⟨some ⟨.d1, .d7, .d3⟩, .move (.t ⟨.d2, .d1, .d6⟩), none⟩])))))))
  (.seq (.region [⟨some ⟨.d2, .d1, .d7⟩, .load true 2 (.t ⟨.d0, .d0, .d7⟩), none⟩,
    ⟨some ⟨.d2, .d2, .d0⟩, .load true 2 (.t ⟨.d0, .d1, .d7⟩), none⟩,
    ⟨some ⟨.d2, .d2, .d1⟩, .call 21 [(.t ⟨.d2, .d1, .d7⟩), (.t ⟨.d2, .d2, .d0⟩)], none⟩,
    ⟨some ⟨.d2, .d2, .d2⟩, .move (.t ⟨.d2, .d2, .d1⟩), none⟩,
    ⟨some ⟨.d2, .d2, .d3⟩, .move (.t ⟨.d0, .d1, .d0⟩), some (⟨.d2, .d2, .d2⟩, true)⟩,
    ⟨some ⟨.d2, .d2, .d4⟩, .move (.t ⟨.d0, .d2, .d0⟩), some (⟨.d2, .d2, .d2⟩, true)⟩,
    ⟨some ⟨.d2, .d2, .d5⟩, .bin .eql (.t ⟨.d2, .d2, .d3⟩) (.t ⟨.d2, .d2, .d4⟩), some (⟨.d2, .d2, .d2⟩, true)⟩,
    ⟨some ⟨.d2, .d2, .d6⟩, .pick (.t ⟨.d2, .d2, .d2⟩) (.t ⟨.d2, .d2, .d5⟩) (.c (.bool false)), none⟩,
    ⟨some ⟨.d2, .d2, .d7⟩, .move (.t ⟨.d2, .d2, .d6⟩), none⟩,
    ⟨some ⟨.d2, .d3, .d0⟩, .load true 2 (.t ⟨.d0, .d1, .d1⟩), some (⟨.d2, .d2, .d7⟩, true)⟩,
    ⟨some ⟨.d2, .d3, .d1⟩, .load true 2 (.t ⟨.d0, .d2, .d1⟩), some (⟨.d2, .d2, .d7⟩, true)⟩,
    ⟨some ⟨.d2, .d3, .d2⟩, .call 21 [(.t ⟨.d2, .d3, .d0⟩), (.t ⟨.d2, .d3, .d1⟩)], some (⟨.d2, .d2, .d7⟩, true)⟩,
    ⟨some ⟨.d2, .d3, .d3⟩, .pick (.t ⟨.d2, .d2, .d7⟩) (.t ⟨.d2, .d3, .d2⟩) (.c (.bool false)), none⟩,
    ⟨some ⟨.d2, .d3, .d4⟩, .move (.t ⟨.d2, .d3, .d3⟩), none⟩,
    ⟨some ⟨.d2, .d3, .d5⟩, .move (.t ⟨.d0, .d1, .d2⟩), some (⟨.d2, .d3, .d4⟩, true)⟩,
    ⟨some ⟨.d2, .d3, .d6⟩, .move (.t ⟨.d0, .d2, .d2⟩), some (⟨.d2, .d3, .d4⟩, true)⟩,
    ⟨some ⟨.d2, .d3, .d7⟩, .bin .eql (.t ⟨.d2, .d3, .d5⟩) (.t ⟨.d2, .d3, .d6⟩), some (⟨.d2, .d3, .d4⟩, true)⟩,
    ⟨some ⟨.d2, .d4, .d0⟩, .pick (.t ⟨.d2, .d3, .d4⟩) (.t ⟨.d2, .d3, .d7⟩) (.c (.bool false)), none⟩,
    ⟨some ⟨.d2, .d4, .d1⟩, .move (.t ⟨.d2, .d4, .d0⟩), none⟩,
    ⟨some ⟨.d2, .d4, .d2⟩, .load true 2 (.t ⟨.d0, .d1, .d3⟩), some (⟨.d2, .d4, .d1⟩, true)⟩,
    ⟨some ⟨.d2, .d4, .d3⟩, .load true 2 (.t ⟨.d0, .d2, .d5⟩), some (⟨.d2, .d4, .d1⟩, true)⟩,
    ⟨some ⟨.d2, .d4, .d4⟩, .call 21 [(.t ⟨.d2, .d4, .d2⟩), (.t ⟨.d2, .d4, .d3⟩)], some (⟨.d2, .d4, .d1⟩, true)⟩,
    ⟨some ⟨.d2, .d4, .d5⟩, .pick (.t ⟨.d2, .d4, .d1⟩) (.t ⟨.d2, .d4, .d4⟩) (.c (.bool false)), none⟩,
    ⟨some ⟨.d2, .d4, .d6⟩, .move (.t ⟨.d2, .d4, .d5⟩), none⟩,
    ⟨some ⟨.d2, .d4, .d7⟩, .move (.t ⟨.d0, .d1, .d4⟩), some (⟨.d2, .d4, .d6⟩, true)⟩,
    ⟨some ⟨.d2, .d5, .d0⟩, .move (.t ⟨.d0, .d2, .d6⟩), some (⟨.d2, .d4, .d6⟩, true)⟩,
    ⟨some ⟨.d2, .d5, .d1⟩, .call 30 [(.t ⟨.d2, .d4, .d7⟩), (.t ⟨.d2, .d5, .d0⟩)], some (⟨.d2, .d4, .d6⟩, true)⟩,
    ⟨some ⟨.d2, .d5, .d2⟩, .pick (.t ⟨.d2, .d4, .d6⟩) (.t ⟨.d2, .d5, .d1⟩) (.c (.bool false)), none⟩,
    ⟨some ⟨.d2, .d5, .d3⟩, .move (.t ⟨.d2, .d5, .d2⟩), none⟩,
    ⟨some ⟨.d2, .d5, .d4⟩, .move (.t ⟨.d0, .d1, .d5⟩), some (⟨.d2, .d5, .d3⟩, true)⟩,
    ⟨some ⟨.d2, .d5, .d5⟩, .bin .eql (.t ⟨.d2, .d5, .d4⟩) (.c (.int .i64 0)), some (⟨.d2, .d5, .d3⟩, true)⟩,
    ⟨some ⟨.d2, .d5, .d6⟩, .pick (.t ⟨.d2, .d5, .d3⟩) (.t ⟨.d2, .d5, .d5⟩) (.c (.bool false)), none⟩,
    ⟨some ⟨.d0, .d0, .d6⟩, .move (.t ⟨.d2, .d5, .d6⟩), none⟩])
  (.ret))))))))))))
def r_custlaw_AgesGoes : List XR := [.tmp ⟨.d0, .d0, .d6⟩]
theorem ok_custlaw_AgesGoes : okC Try.prog Try.f6.ntmps (bodyOf Try.f6) x_custlaw_AgesGoes = true := by kernel_rfl
theorem okr_custlaw_AgesGoes : okRs Try.prog Try.f6.results.toList r_custlaw_AgesGoes = true := by kernel_rfl

/-- custref.Between -/
def x_custref_Between : XC :=
  .seq (.region [⟨some ⟨.d0, .d0, .d6⟩, .move (.c (.bool false)), none⟩])
  (.seq (.region [⟨some ⟨.d0, .d0, .d7⟩, .move (.t ⟨.d0, .d0, .d1⟩), none⟩,
    ⟨some ⟨.d0, .d1, .d0⟩, .move (.t ⟨.d0, .d0, .d0⟩), none⟩,
    ⟨some ⟨.d0, .d1, .d1⟩, .bin .leq (.t ⟨.d0, .d0, .d7⟩) (.t ⟨.d0, .d1, .d0⟩), none⟩,
    ⟨some ⟨.d0, .d1, .d2⟩, .move (.t ⟨.d0, .d1, .d1⟩), none⟩,
    ⟨some ⟨.d0, .d1, .d3⟩, .move (.t ⟨.d0, .d0, .d0⟩), some (⟨.d0, .d1, .d2⟩, true)⟩,
    ⟨some ⟨.d0, .d1, .d4⟩, .move (.t ⟨.d0, .d0, .d2⟩), some (⟨.d0, .d1, .d2⟩, true)⟩,
    ⟨some ⟨.d0, .d1, .d5⟩, .bin .leq (.t ⟨.d0, .d1, .d3⟩) (.t ⟨.d0, .d1, .d4⟩), some (⟨.d0, .d1, .d2⟩, true)⟩,
    ⟨some ⟨.d0, .d1, .d6⟩, .pick (.t ⟨.d0, .d1, .d2⟩) (.t ⟨.d0, .d1, .d5⟩) (.c (.bool false)), none⟩,
    ⟨some ⟨.d0, .d0, .d6⟩, .move (.t ⟨.d0, .d1, .d6⟩), none⟩])
  (.ret))
def r_custref_Between : List XR := [.tmp ⟨.d0, .d0, .d6⟩]
theorem ok_custref_Between : okC Try.prog Try.f10.ntmps (bodyOf Try.f10) x_custref_Between = true := by kernel_rfl
theorem okr_custref_Between : okRs Try.prog Try.f10.results.toList r_custref_Between = true := by kernel_rfl

/-- ages.New -/
def x_ages_New : XC :=
  .seq (.region [⟨some ⟨.d0, .d0, .d2⟩, .alloc 0 [.int .i64 0, .slice none 0 0], none⟩,
    ⟨some ⟨.d0, .d0, .d3⟩, .move (.c (.int .i64 0)), none⟩])
  (.seq (.seq (.region [⟨some ⟨.d0, .d0, .d4⟩, .move (.t ⟨.d0, .d0, .d0⟩), none⟩,
    ⟨some ⟨.d0, .d0, .d5⟩, .bin .lss (.t ⟨.d0, .d0, .d4⟩) (.c (.int .i64 1)), none⟩,
    ⟨some ⟨.d0, .d0, .d6⟩, .move (.t ⟨.d0, .d0, .d5⟩), none⟩,
    ⟨some ⟨.d0, .d0, .d7⟩, .move (.t ⟨.d0, .d0, .d0⟩), some (⟨.d0, .d0, .d6⟩, false)⟩,
    ⟨some ⟨.d0, .d1, .d0⟩, .bin .gtr (.t ⟨.d0, .d0, .d7⟩) (.c (.int .i64 64)), some (⟨.d0, .d0, .d6⟩, false)⟩,
    ⟨some ⟨.d0, .d1, .d1⟩, .pick (.t ⟨.d0, .d0, .d6⟩) (.c (.bool true)) (.t ⟨.d0, .d1, .d0⟩), none⟩])
  (.cond (.t ⟨.d0, .d1, .d1⟩)
    (.seq (.region [⟨some ⟨.d0, .d1, .d2⟩, .build [.int .i64 0, .slice none 0 0] [], none⟩,
      ⟨none, .store 2 (.t ⟨.d0, .d0, .d2⟩) (.t ⟨.d0, .d1, .d2⟩), none⟩,
      ⟨some ⟨.d0, .d0, .d3⟩, .move (.c (.int .i64 1)), none⟩])
    (.ret))
    (.skip)))
  (.seq (.region [⟨some ⟨.d0, .d1, .d3⟩, .move (.t ⟨.d0, .d0, .d0⟩), none⟩,
    ⟨some ⟨.d0, .d1, .d4⟩, .build [.int .i64 0, .slice none 0 0] [(0, 1, (.t ⟨.d0, .d1, .d3⟩))], none⟩,
    ⟨none, .store 2 (.t ⟨.d0, .d0, .d2⟩) (.t ⟨.d0, .d1, .d4⟩), none⟩,
    ⟨some ⟨.d0, .d0, .d3⟩, .move (.c (.int .i64 0)), none⟩])
  (.ret)))
def r_ages_New : List XR := [.cell ⟨.d0, .d0, .d2⟩ true 2, .tmp ⟨.d0, .d0, .d3⟩]
theorem ok_ages_New : okC Try.prog Try.f20.ntmps (bodyOf Try.f20) x_ages_New = true := by kernel_rfl
theorem okr_ages_New : okRs Try.prog Try.f20.results.toList r_ages_New = true := by kernel_rfl

/-- custref.SameAges -/
def x_custref_SameAges : XC :=
  .seq (.region [⟨some ⟨.d0, .d0, .d2⟩, .box 0 2 (.t ⟨.d0, .d0, .d0⟩), none⟩,
    ⟨some ⟨.d0, .d0, .d3⟩, .box 1 2 (.t ⟨.d0, .d0, .d1⟩), none⟩,
    ⟨some ⟨.d0, .d0, .d4⟩, .move (.c (.bool false)), none⟩])
  (.seq (.region [⟨some ⟨.d0, .d0, .d5⟩, .fieldAddr 0 (.t ⟨.d0, .d0, .d2⟩), none⟩,
    ⟨some ⟨.d0, .d0, .d6⟩, .load false 1 (.t ⟨.d0, .d0, .d5⟩), none⟩,
    ⟨some ⟨.d0, .d0, .d7⟩, .fieldAddr 0 (.t ⟨.d0, .d0, .d3⟩), none⟩,
    ⟨some ⟨.d0, .d1, .d0⟩, .load false 1 (.t ⟨.d0, .d0, .d7⟩), none⟩,
    ⟨some ⟨.d0, .d1, .d1⟩, .bin .eql (.t ⟨.d0, .d0, .d6⟩) (.t ⟨.d0, .d1, .d0⟩), none⟩,
    ⟨some ⟨.d0, .d1, .d2⟩, .move (.t ⟨.d0, .d1, .d1⟩), none⟩,
    ⟨some ⟨.d0, .d1, .d3⟩, .fieldAddr 1 (.t ⟨.d0, .d0, .d2⟩), some (⟨.d0, .d1, .d2⟩, true)⟩,
    ⟨some ⟨.d0, .d1, .d4⟩, .load false 1 (.t ⟨.d0, .d1, .d3⟩), some (⟨.d0, .d1, .d2⟩, true)⟩,
    ⟨some ⟨.d0, .d1, .d5⟩, .fieldAddr 1 (.t ⟨.d0, .d0, .d3⟩), some (⟨.d0, .d1, .d2⟩, true)⟩,
    ⟨some ⟨.d0, .d1, .d6⟩, .load false 1 (.t ⟨.d0, .d1, .d5⟩), some (⟨.d0, .d1, .d2⟩, true)⟩,
    ⟨some ⟨.d0, .d1, .d7⟩, .call 46 [(.t ⟨.d0, .d1, .d4⟩), (.t ⟨.d0, .d1, .d6⟩)], some (⟨.d0, .d1, .d2⟩, true)⟩,
    ⟨some ⟨.d0, .d2, .d0⟩, .pick (.t ⟨.d0, .d1, .d2⟩) (.t ⟨.d0, .d1, .d7⟩) (.c (.bool false)), none⟩,
    ⟨some ⟨.d0, .d0, .d4⟩, .move (.t ⟨.d0, .d2, .d0⟩), none⟩])
  (.ret))
def r_custref_SameAges : List XR := [.tmp ⟨.d0, .d0, .d4⟩]
theorem ok_custref_SameAges : okC Try.prog Try.f21.ntmps (bodyOf Try.f21) x_custref_SameAges = true := by kernel_rfl
theorem okr_custref_SameAges : okRs Try.prog Try.f21.results.toList r_custref_SameAges = true := by kernel_rfl

/-- ages.Check -/
def x_ages_Check : XC :=
  .seq (.region [⟨some ⟨.d0, .d0, .d1⟩, .box 0 2 (.t ⟨.d0, .d0, .d0⟩), none⟩,
    ⟨some ⟨.d0, .d0, .d2⟩, .move (.c (.int .i64 0)), none⟩])
  (.seq (.seq (.region [⟨some ⟨.d0, .d0, .d5⟩, .fieldAddr 0 (.t ⟨.d0, .d0, .d1⟩), none⟩,
    ⟨some ⟨.d0, .d0, .d6⟩, .load false 1 (.t ⟨.d0, .d0, .d5⟩), none⟩,
    ⟨some ⟨.d0, .d0, .d7⟩, .bin .lss (.t ⟨.d0, .d0, .d6⟩) (.c (.int .i64 1)), none⟩,
    ⟨some ⟨.d0, .d1, .d0⟩, .move (.t ⟨.d0, .d0, .d7⟩), none⟩,
    ⟨some ⟨.d0, .d1, .d1⟩, .fieldAddr 0 (.t ⟨.d0, .d0, .d1⟩), some (⟨.d0, .d1, .d0⟩, false)⟩,
    ⟨some ⟨.d0, .d1, .d2⟩, .load false 1 (.t ⟨.d0, .d1, .d1⟩), some (⟨.d0, .d1, .d0⟩, false)⟩,
    ⟨some ⟨.d0, .d1, .d3⟩, .bin .gtr (.t ⟨.d0, .d1, .d2⟩) (.c (.int .i64 64)), some (⟨.d0, .d1, .d0⟩, false)⟩,
    ⟨some ⟨.d0, .d1, .d4⟩, .pick (.t ⟨.d0, .d1, .d0⟩) (.c (.bool true)) (.t ⟨.d0, .d1, .d3⟩), none⟩])
  (.cond (.t ⟨.d0, .d1, .d4⟩)
    (.seq (.region [⟨some ⟨.d0, .d0, .d2⟩, .move (.c (.int .i64 1)), none⟩])
    (.ret))
    (.skip)))
  (.seq (.seq (.region [⟨some ⟨.d0, .d1, .d6⟩, .load true 2 (.t ⟨.d0, .d0, .d1⟩), none⟩,
    ⟨some ⟨.d0, .d1, .d7⟩, .call 47 [(.t ⟨.d0, .d1, .d6⟩)], none⟩,
    ⟨some ⟨.d0, .d1, .d5⟩, .move (.t ⟨.d0, .d1, .d7⟩), none⟩,
    ⟨some ⟨.d0, .d2, .d0⟩, .extract 0 (.t ⟨.d0, .d1, .d5⟩), none⟩,
    ⟨some ⟨.d0, .d2, .d1⟩, .extract 1 (.t ⟨.d0, .d1, .d5⟩), none⟩,
    ⟨some ⟨.d0, .d0, .d3⟩, .move (.t ⟨.d0, .d2, .d0⟩), none⟩,
    ⟨some ⟨.d0, .d0, .d4⟩, .move (.t ⟨.d0, .d2, .d1⟩), none⟩])
  (.seq (.region [⟨some ⟨.d0, .d2, .d2⟩, .move (.t ⟨.d0, .d0, .d4⟩), none⟩,
    ⟨some ⟨.d0, .d2, .d3⟩, .un .not (.t ⟨.d0, .d2, .d2⟩), none⟩])
  (.cond (.t ⟨.d0, .d2, .d3⟩)
    (.seq (.region [⟨some ⟨.d0, .d0, .d2⟩, .move (.c (.int .i64 4)), none⟩])
    (.ret))
    (.skip))))
  (.seq (.region [⟨some ⟨.d0, .d0, .d2⟩, .move (.c (.int .i64 0)), none⟩])
  (.ret))))
def r_ages_Check : List XR := [.tmp ⟨.d0, .d0, .d2⟩]
theorem ok_ages_Check : okC Try.prog Try.f22.ntmps (bodyOf Try.f22) x_ages_Check = true := by kernel_rfl
theorem okr_ages_Check : okRs Try.prog Try.f22.results.toList r_ages_Check = true := by kernel_rfl

/-- custref.AgesRight -/
def x_custref_AgesRight : XC :=
  .seq (.region [⟨some ⟨.d0, .d0, .d1⟩, .box 0 2 (.t ⟨.d0, .d0, .d0⟩), none⟩,
    ⟨some ⟨.d0, .d0, .d2⟩, .move (.c (.int .i64 0)), none⟩])
  (.seq (.seq (.region [⟨some ⟨.d0, .d0, .d7⟩, .fieldAddr 0 (.t ⟨.d0, .d0, .d1⟩), none⟩,
    ⟨some ⟨.d0, .d1, .d0⟩, .load false 1 (.t ⟨.d0, .d0, .d7⟩), none⟩,
    ⟨some ⟨.d0, .d1, .d1⟩, .call 10 [(.t ⟨.d0, .d1, .d0⟩), (.c (.int .i64 1)), (.c (.int .i64 64))], none⟩,
    ⟨some ⟨.d0, .d1, .d2⟩, .un .not (.t ⟨.d0, .d1, .d1⟩), none⟩])
  (.cond (.t ⟨.d0, .d1, .d2⟩)
    (.seq (.region [⟨some ⟨.d0, .d0, .d2⟩, .move (.c (.int .i64 1)), none⟩])
    (.ret))
    (.skip)))
  (.seq (.seq (.region [⟨some ⟨.d0, .d1, .d3⟩, .fieldAddr 1 (.t ⟨.d0, .d0, .d1⟩), none⟩,
    ⟨some ⟨.d0, .d1, .d4⟩, .load false 1 (.t ⟨.d0, .d1, .d3⟩), none⟩,
    ⟨some ⟨.d0, .d1, .d5⟩, .len (.t ⟨.d0, .d1, .d4⟩), none⟩,
    ⟨some ⟨.d0, .d1, .d6⟩, .move (.c (.int .i64 0)), none⟩])
  (.block 0
    (.loop
      (.seq (.region [⟨some ⟨.d0, .d1, .d7⟩, .bin .lss (.t ⟨.d0, .d1, .d6⟩) (.t ⟨.d0, .d1, .d5⟩), none⟩])
      (.seq (.cond (.t ⟨.d0, .d1, .d7⟩)
        (.skip)
        (.exit 0))
      (.seq (.block 1
        (.seq (.region [⟨some ⟨.d0, .d2, .d0⟩, .move (.t ⟨.d0, .d1, .d6⟩), none⟩,
          ⟨some ⟨.d0, .d2, .d1⟩, .indexSl 2 (.t ⟨.d0, .d1, .d4⟩) (.t ⟨.d0, .d1, .d6⟩), none⟩,
          ⟨some ⟨.d0, .d2, .d2⟩, .load true 2 (.t ⟨.d0, .d2, .d1⟩), none⟩,
          ⟨some ⟨.d0, .d0, .d4⟩, .alloc 1 [.int .i64 0, .int .i64 0], none⟩,
          ⟨some ⟨.d0, .d0, .d3⟩, .move (.t ⟨.d0, .d2, .d0⟩), none⟩,
          ⟨none, .store 2 (.t ⟨.d0, .d0, .d4⟩) (.t ⟨.d0, .d2, .d2⟩), none⟩])
        (.seq (.seq (.region [⟨some ⟨.d0, .d2, .d3⟩, .fieldAddr 0 (.t ⟨.d0, .d0, .d4⟩), none⟩,
          ⟨some ⟨.d0, .d2, .d4⟩, .load false 1 (.t ⟨.d0, .d2, .d3⟩), none⟩,
          ⟨some ⟨.d0, .d2, .d5⟩, .fieldAddr 0 (.t ⟨.d0, .d0, .d1⟩), none⟩,
          ⟨some ⟨.d0, .d2, .d6⟩, .load false 1 (.t ⟨.d0, .d2, .d5⟩), none⟩,
          ⟨some ⟨.d0, .d2, .d7⟩, .bin .sub (.t ⟨.d0, .d2, .d6⟩) (.c (.int .i64 1)), none⟩,
          ⟨some ⟨.d0, .d3, .d0⟩, .call 10 [(.t ⟨.d0, .d2, .d4⟩), (.c (.int .i64 0)), (.t ⟨.d0, .d2, .d7⟩)], none⟩,
          ⟨some ⟨.d0, .d3, .d1⟩, .un .not (.t ⟨.d0, .d3, .d0⟩), none⟩])
        (.cond (.t ⟨.d0, .d3, .d1⟩)
          (.seq (.region [⟨some ⟨.d0, .d0, .d2⟩, .move (.c (.int .i64 4)), none⟩])
          (.ret))
          (.skip)))
        (.seq (.region [⟨some ⟨.d0, .d3, .d2⟩, .fieldAddr 1 (.t ⟨.d0, .d0, .d1⟩), none⟩,
          ⟨some ⟨.d0, .d3, .d3⟩, .load false 1 (.t ⟨.d0, .d3, .d2⟩), none⟩,
          ⟨some ⟨.d0, .d3, .d4⟩, .move (.t ⟨.d0, .d0, .d3⟩), none⟩,
          ⟨some ⟨.d0, .d3, .d5⟩, .slice 2 (.t ⟨.d0, .d3, .d3⟩) none (some (.t ⟨.d0, .d3, .d4⟩)) none, none⟩,
          ⟨some ⟨.d0, .d3, .d6⟩, .len (.t ⟨.d0, .d3, .d5⟩), none⟩,
          ⟨some ⟨.d0, .d3, .d7⟩, .move (.c (.int .i64 0)), none⟩])
        (.block 2
          (.loop
            (.seq (.region [⟨some ⟨.d0, .d4, .d0⟩, .bin .lss (.t ⟨.d0, .d3, .d7⟩) (.t ⟨.d0, .d3, .d6⟩), none⟩])
            (.seq (.cond (.t ⟨.d0, .d4, .d0⟩)
              (.skip)
              (.exit 2))
            (.seq (.block 3
              (.seq (.region [⟨some ⟨.d0, .d4, .d1⟩, .indexSl 2 (.t ⟨.d0, .d3, .d5⟩) (.t ⟨.d0, .d3, .d7⟩), none⟩,
                ⟨some ⟨.d0, .d4, .d2⟩, .load true 2 (.t ⟨.d0, .d4, .d1⟩), none⟩,
                ⟨some ⟨.d0, .d0, .d6⟩, .alloc 2 [.int .i64 0, .int .i64 0], none⟩,
                ⟨none, .store 2 (.t ⟨.d0, .d0, .d6⟩) (.t ⟨.d0, .d4, .d2⟩), none⟩])
              (.seq (.region [⟨some ⟨.d0, .d4, .d3⟩, .fieldAddr 0 (.t ⟨.d0, .d0, .d6⟩), none⟩,
                ⟨some ⟨.d0, .d4, .d4⟩, .load false 1 (.t ⟨.d0, .d4, .d3⟩), none⟩,
                ⟨some ⟨.d0, .d4, .d5⟩, .fieldAddr 0 (.t ⟨.d0, .d0, .d4⟩), none⟩,
                ⟨some ⟨.d0, .d4, .d6⟩, .load false 1 (.t ⟨.d0, .d4, .d5⟩), none⟩,
                ⟨some ⟨.d0, .d4, .d7⟩, .bin .eql (.t ⟨.d0, .d4, .d4⟩) (.t ⟨.d0, .d4, .d6⟩), none⟩,
                ⟨some ⟨.d0, .d5, .d0⟩, .move (.t ⟨.d0, .d4, .d7⟩), none⟩,
                ⟨some ⟨.d0, .d5, .d1⟩, .fieldAddr 1 (.t ⟨.d0, .d0, .d6⟩), some (⟨.d0, .d5, .d0⟩, false)⟩,
                ⟨some ⟨.d0, .d5, .d2⟩, .load false 1 (.t ⟨.d0, .d5, .d1⟩), some (⟨.d0, .d5, .d0⟩, false)⟩,
                ⟨some ⟨.d0, .d5, .d3⟩, .fieldAddr 1 (.t ⟨.d0, .d0, .d4⟩), some (⟨.d0, .d5, .d0⟩, false)⟩,
                ⟨some ⟨.d0, .d5, .d4⟩, .load false 1 (.t ⟨.d0, .d5, .d3⟩), some (⟨.d0, .d5, .d0⟩, false)⟩,
                ⟨some ⟨.d0, .d5, .d5⟩, .bin .gtr (.t ⟨.d0, .d5, .d2⟩) (.t ⟨.d0, .d5, .d4⟩), some (⟨.d0, .d5, .d0⟩, false)⟩,
                ⟨some ⟨.d0, .d5, .d6⟩, .pick (.t ⟨.d0, .d5, .d0⟩) (.c (.bool true)) (.t ⟨.d0, .d5, .d5⟩), none⟩])
              (.cond (.t ⟨.d0, .d5, .d6⟩)
                (.seq (.region [⟨some ⟨.d0, .d0, .d2⟩, .move (.c (.int .i64 4)), none⟩])
                (.ret))
                (.skip)))))
            (.region [⟨some ⟨.d0, .d5, .d7⟩, .bin .add (.t ⟨.d0, .d3, .d7⟩) (.c (.int .i64 1)), none⟩,
              ⟨some ⟨.d0, .d3, .d7⟩, .move (.t ⟨.d0, .d5, .d7⟩), none⟩]))))))))))
      (.region [⟨some ⟨.d0, .d6, .d0⟩, .bin .add (.t ⟨.d0, .d1, .d6⟩) (.c (.int .i64 1)), none⟩,
        ⟨some ⟨.d0, .d1, .d6⟩, .move (.t ⟨.d0, .d6, .d0⟩), none⟩])))))))
  (.seq (.region [⟨some ⟨.d0, .d0, .d2⟩, .move (.c (.int .i64 0)), none⟩])
  (.ret))))
def r_custref_AgesRight : List XR := [.tmp ⟨.d0, .d0, .d2⟩]
theorem ok_custref_AgesRight : okC Try.prog Try.f23.ntmps (bodyOf Try.f23) x_custref_AgesRight = true := by kernel_rfl
theorem okr_custref_AgesRight : okRs Try.prog Try.f23.results.toList r_custref_AgesRight = true := by kernel_rfl

/-- ages.Take -/
def x_ages_Take : XC :=
  .seq (.region [⟨some ⟨.d0, .d0, .d2⟩, .box 0 2 (.t ⟨.d0, .d0, .d0⟩), none⟩,
    ⟨some ⟨.d0, .d0, .d4⟩, .alloc 1 [.int .i64 0, .slice none 0 0], none⟩,
    ⟨some ⟨.d0, .d0, .d5⟩, .move (.c (.int .i64 0)), none⟩,
    ⟨some ⟨.d0, .d0, .d6⟩, .move (.c (.int .i64 0)), none⟩])
  (.seq (.seq (.region [⟨some ⟨.d0, .d1, .d3⟩, .load true 2 (.t ⟨.d0, .d0, .d2⟩), none⟩,
    ⟨some ⟨.d0, .d1, .d4⟩, .call 22 [(.t ⟨.d0, .d1, .d3⟩)], none⟩,
    ⟨some ⟨.d0, .d0, .d7⟩, .move (.t ⟨.d0, .d1, .d4⟩), none⟩])
  (.seq (.region [⟨some ⟨.d0, .d1, .d5⟩, .move (.t ⟨.d0, .d0, .d7⟩), none⟩,
    ⟨some ⟨.d0, .d1, .d6⟩, .bin .neq (.t ⟨.d0, .d1, .d5⟩) (.c (.int .i64 0)), none⟩])
  (.cond (.t ⟨.d0, .d1, .d6⟩)
    (.seq (.region [⟨some ⟨.d0, .d1, .d7⟩, .build [.int .i64 0, .slice none 0 0] [], none⟩,
      ⟨some ⟨.d0, .d2, .d0⟩, .move (.t ⟨.d0, .d0, .d7⟩), none⟩,
      ⟨none, .store 2 (.t ⟨.d0, .d0, .d4⟩) (.t ⟨.d0, .d1, .d7⟩), none⟩,
      ⟨some ⟨.d0, .d0, .d5⟩, .move (.c (.int .i64 0)), none⟩,
      ⟨some ⟨.d0, .d0, .d6⟩, .move (.t ⟨.d0, .d2, .d0⟩), none⟩])
    (.ret))
    (.skip))))
  (.seq (.seq (.region [⟨some ⟨.d0, .d2, .d1⟩, .load true 2 (.t ⟨.d0, .d0, .d2⟩), none⟩,
    ⟨some ⟨.d0, .d2, .d2⟩, .move (.t ⟨.d0, .d0, .d1⟩), none⟩,
    ⟨some ⟨.d0, .d2, .d3⟩, .call 48 [(.t ⟨.d0, .d2, .d1⟩), (.t ⟨.d0, .d2, .d2⟩)], none⟩,
    ⟨some ⟨.d0, .d2, .d4⟩, .un .not (.t ⟨.d0, .d2, .d3⟩), none⟩])
  (.cond (.t ⟨.d0, .d2, .d4⟩)
    (.seq (.region [⟨some ⟨.d0, .d2, .d5⟩, .build [.int .i64 0, .slice none 0 0] [], none⟩,
      ⟨none, .store 2 (.t ⟨.d0, .d0, .d4⟩) (.t ⟨.d0, .d2, .d5⟩), none⟩,
      ⟨some ⟨.d0, .d0, .d5⟩, .move (.c (.int .i64 0)), none⟩,
      ⟨some ⟨.d0, .d0, .d6⟩, .move (.c (.int .i64 1)), none⟩])
    (.ret))
    (.skip)))
  (.seq (.region [⟨some ⟨.d0, .d2, .d7⟩, .load true 2 (.t ⟨.d0, .d0, .d2⟩), none⟩,
    ⟨some ⟨.d0, .d3, .d0⟩, .call 47 [(.t ⟨.d0, .d2, .d7⟩)], none⟩,
    ⟨some ⟨.d0, .d2, .d6⟩, .move (.t ⟨.d0, .d3, .d0⟩), none⟩,
    ⟨some ⟨.d0, .d3, .d1⟩, .extract 0 (.t ⟨.d0, .d2, .d6⟩), none⟩,
    ⟨some ⟨.d0, .d3, .d2⟩, .extract 1 (.t ⟨.d0, .d2, .d6⟩), none⟩,
    ⟨some ⟨.d0, .d1, .d0⟩, .move (.t ⟨.d0, .d3, .d1⟩), none⟩,
    ⟨some ⟨.d0, .d1, .d1⟩, .move (.t ⟨.d0, .d3, .d2⟩), none⟩])
  (.seq (.seq (.region [⟨some ⟨.d0, .d3, .d3⟩, .fieldAddr 0 (.t ⟨.d0, .d0, .d2⟩), none⟩,
    ⟨some ⟨.d0, .d3, .d4⟩, .load false 1 (.t ⟨.d0, .d3, .d3⟩), none⟩,
    ⟨some ⟨.d0, .d3, .d5⟩, .move (.c (.int .i64 0)), none⟩])
  (.block 0
    (.loop
      (.seq (.region [⟨some ⟨.d0, .d3, .d6⟩, .bin .lss (.t ⟨.d0, .d3, .d5⟩) (.t ⟨.d0, .d3, .d4⟩), none⟩])
      (.seq (.cond (.t ⟨.d0, .d3, .d6⟩)
        (.skip)
        (.exit 0))
      (.seq (.block 1
        (.seq (.region [⟨some ⟨.d0, .d3, .d7⟩, .move (.t ⟨.d0, .d3, .d5⟩), none⟩,
          ⟨some ⟨.d0, .d1, .d2⟩, .move (.t ⟨.d0, .d3, .d7⟩), none⟩])
        (.seq (.region [⟨some ⟨.d0, .d4, .d0⟩, .move (.t ⟨.d0, .d1, .d0⟩), none⟩,
          ⟨some ⟨.d0, .d4, .d1⟩, .move (.t ⟨.d0, .d1, .d2⟩), none⟩,
          ⟨some ⟨.d0, .d4, .d2⟩, .bin .shr (.t ⟨.d0, .d4, .d0⟩) (.t ⟨.d0, .d4, .d1⟩), none⟩,
          ⟨some ⟨.d0, .d4, .d3⟩, .bin .and (.t ⟨.d0, .d4, .d2⟩) (.c (.int .u64 1)), none⟩,
          ⟨some ⟨.d0, .d4, .d4⟩, .bin .eql (.t ⟨.d0, .d4, .d3⟩) (.c (.int .u64 0)), none⟩])
        (.cond (.t ⟨.d0, .d4, .d4⟩)
          (.seq (.region [⟨some ⟨.d0, .d4, .d5⟩, .load true 2 (.t ⟨.d0, .d0, .d2⟩), none⟩,
            ⟨some ⟨.d0, .d4, .d6⟩, .move (.t ⟨.d0, .d1, .d2⟩), none⟩,
            ⟨some ⟨.d0, .d4, .d7⟩, .move (.t ⟨.d0, .d0, .d1⟩), none⟩,
            ⟨some ⟨.d0, .d5, .d0⟩, .build [.int .i64 0, .int .i64 0] [(0, 1, (.t ⟨.d0, .d4, .d6⟩)), (1, 1, (.t ⟨.d0, .d4, .d7⟩))], none⟩,
            ⟨some ⟨.d0, .d5, .d1⟩, .call 49 [(.t ⟨.d0, .d4, .d5⟩), (.c (.int .i64 (-1))), (.t ⟨.d0, .d5, .d0⟩)], none⟩,
            ⟨some ⟨.d0, .d5, .d2⟩, .move (.t ⟨.d0, .d1, .d2⟩), none⟩,
            ⟨none, .store 2 (.t ⟨.d0, .d0, .d4⟩) (.t ⟨.d0, .d5, .d1⟩), none⟩,
            ⟨some ⟨.d0, .d0, .d5⟩, .move (.t ⟨.d0, .d5, .d2⟩), none⟩,
            ⟨some ⟨.d0, .d0, .d6⟩, .move (.c (.int .i64 0)), none⟩])
          (.ret))
          (.skip)))))
      (.region [⟨some ⟨.d0, .d5, .d3⟩, .bin .add (.t ⟨.d0, .d3, .d5⟩) (.c (.int .i64 1)), none⟩,
        ⟨some ⟨.d0, .d3, .d5⟩, .move (.t ⟨.d0, .d5, .d3⟩), none⟩])))))))
  (.seq (.region [⟨some ⟨.d0, .d5, .d4⟩, .build [.int .i64 0, .slice none 0 0] [], none⟩,
    ⟨none, .store 2 (.t ⟨.d0, .d0, .d4⟩) (.t ⟨.d0, .d5, .d4⟩), none⟩,
    ⟨some ⟨.d0, .d0, .d5⟩, .move (.c (.int .i64 0)), none⟩,
    ⟨some ⟨.d0, .d0, .d6⟩, .move (.c (.int .i64 6)), none⟩])
  (.ret))))))
def r_ages_Take : List XR := [.cell ⟨.d0, .d0, .d4⟩ true 2, .tmp ⟨.d0, .d0, .d5⟩, .tmp ⟨.d0, .d0, .d6⟩]
theorem ok_ages_Take : okC Try.prog Try.f24.ntmps (bodyOf Try.f24) x_ages_Take = true := by kernel_rfl
theorem okr_ages_Take : okRs Try.prog Try.f24.results.toList r_ages_Take = true := by kernel_rfl

/-- custref.IsTaken -/
def x_custref_IsTaken : XC :=
  .seq (.region [⟨some ⟨.d0, .d0, .d2⟩, .box 0 2 (.t ⟨.d0, .d0, .d0⟩), none⟩,
    ⟨some ⟨.d0, .d0, .d3⟩, .box 1 1 (.t ⟨.d0, .d0, .d1⟩), none⟩,
    ⟨some ⟨.d0, .d0, .d4⟩, .move (.c (.bool false)), none⟩])
  (.seq (.region [⟨some ⟨.d0, .d0, .d5⟩, .fieldAddr 1 (.t ⟨.d0, .d0, .d2⟩), none⟩,
    ⟨some ⟨.d0, .d0, .d6⟩, .load false 1 (.t ⟨.d0, .d0, .d5⟩), none⟩,
    ⟨some ⟨.d0, .d0, .d7⟩, .mkfn 51 [] [(.t ⟨.d0, .d0, .d3⟩)], none⟩,
    ⟨some ⟨.d0, .d1, .d0⟩, .call 50 [(.t ⟨.d0, .d0, .d6⟩), (.t ⟨.d0, .d0, .d7⟩)], none⟩,
    ⟨some ⟨.d0, .d0, .d4⟩, .move (.t ⟨.d0, .d1, .d0⟩), none⟩])
  (.ret))
def r_custref_IsTaken : List XR := [.tmp ⟨.d0, .d0, .d4⟩]
theorem ok_custref_IsTaken : okC Try.prog Try.f25.ntmps (bodyOf Try.f25) x_custref_IsTaken = true := by kernel_rfl
theorem okr_custref_IsTaken : okRs Try.prog Try.f25.results.toList r_custref_IsTaken = true := by kernel_rfl

/-- custref.AgesTouched -/
def x_custref_AgesTouched : XC :=
  .seq (.region [⟨some ⟨.d0, .d0, .d3⟩, .box 0 2 (.t ⟨.d0, .d0, .d0⟩), none⟩,
    ⟨some ⟨.d0, .d0, .d6⟩, .alloc 1 [.int .i64 0, .slice none 0 0], none⟩,
    ⟨some ⟨.d0, .d0, .d7⟩, .move (.c (.int .i64 0)), none⟩])
  (.seq (.seq (.region [⟨some ⟨.d0, .d1, .d2⟩, .fieldAddr 1 (.t ⟨.d0, .d0, .d3⟩), none⟩,
    ⟨some ⟨.d0, .d1, .d3⟩, .load false 1 (.t ⟨.d0, .d1, .d2⟩), none⟩,
    ⟨some ⟨.d0, .d1, .d4⟩, .len (.t ⟨.d0, .d1, .d3⟩), none⟩,
    ⟨some ⟨.d0, .d1, .d5⟩, .move (.c (.int .i64 0)), none⟩])
  (.block 0
    (.loop
      (.seq (.region [⟨some ⟨.d0, .d1, .d6⟩, .bin .lss (.t ⟨.d0, .d1, .d5⟩) (.t ⟨.d0, .d1, .d4⟩), none⟩])
      (.seq (.cond (.t ⟨.d0, .d1, .d6⟩)
        (.skip)
        (.exit 0))
      (.seq (.block 1
        (.seq (.region [⟨some ⟨.d0, .d1, .d7⟩, .indexSl 2 (.t ⟨.d0, .d1, .d3⟩) (.t ⟨.d0, .d1, .d5⟩), none⟩,
          ⟨some ⟨.d0, .d2, .d0⟩, .load true 2 (.t ⟨.d0, .d1, .d7⟩), none⟩,
          ⟨some ⟨.d0, .d1, .d1⟩, .alloc 2 [.int .i64 0, .int .i64 0], none⟩,
          ⟨none, .store 2 (.t ⟨.d0, .d1, .d1⟩) (.t ⟨.d0, .d2, .d0⟩), none⟩])
        (.seq (.region [⟨some ⟨.d0, .d2, .d1⟩, .fieldAddr 1 (.t ⟨.d0, .d1, .d1⟩), none⟩,
          ⟨some ⟨.d0, .d2, .d2⟩, .load false 1 (.t ⟨.d0, .d2, .d1⟩), none⟩,
          ⟨some ⟨.d0, .d2, .d3⟩, .move (.t ⟨.d0, .d0, .d2⟩), none⟩,
          ⟨some ⟨.d0, .d2, .d4⟩, .bin .gtr (.t ⟨.d0, .d2, .d2⟩) (.t ⟨.d0, .d2, .d3⟩), none⟩])
        (.cond (.t ⟨.d0, .d2, .d4⟩)
          (.seq (.region [⟨some ⟨.d0, .d2, .d5⟩, .build [.int .i64 0, .slice none 0 0] [], none⟩,
            ⟨none, .store 2 (.t ⟨.d0, .d0, .d6⟩) (.t ⟨.d0, .d2, .d5⟩), none⟩,
            ⟨some ⟨.d0, .d0, .d7⟩, .move (.c (.int .i64 1)), none⟩])
          (.ret))
          (.skip)))))
      (.region [⟨some ⟨.d0, .d2, .d6⟩, .bin .add (.t ⟨.d0, .d1, .d5⟩) (.c (.int .i64 1)), none⟩,
        ⟨some ⟨.d0, .d1, .d5⟩, .move (.t ⟨.d0, .d2, .d6⟩), none⟩])))))))
  (.seq (.regionD [0, 1, 0, 0, 12, 0, 0, 96, 224, 508, 1023, 2047, 4095] [⟨some ⟨.d0, .d2, .d7⟩, .fieldAddr 0 (.t ⟨.d0, .d0, .d3⟩), none⟩,
    ⟨some ⟨.d0, .d3, .d0⟩, .load false 1 (.t ⟨.d0, .d2, .d7⟩), none⟩,
    ⟨some ⟨.d0, .d3, .d1⟩, .load true 2 (.t ⟨.d0, .d0, .d3⟩), none⟩,
    ⟨some ⟨.d0, .d3, .d2⟩, .move (.t ⟨.d0, .d0, .d1⟩), none⟩,
    ⟨some ⟨.d0, .d3, .d3⟩, .call 52 [(.t ⟨.d0, .d3, .d1⟩), (.t ⟨.d0, .d3, .d2⟩)], none⟩,
    ⟨some ⟨.d0, .d3, .d4⟩, .move (.t ⟨.d0, .d0, .d1⟩), none⟩,
    ⟨some ⟨.d0, .d3, .d5⟩, .move (.t ⟨.d0, .d0, .d2⟩), none⟩,
    ⟨some ⟨.d0, .d3, .d6⟩, .build [.int .i64 0, .int .i64 0] [(0, 1, (.t ⟨.d0, .d3, .d4⟩)), (1, 1, (.t ⟨.d0, .d3, .d5⟩))], none⟩,
    ⟨some ⟨.d0, .d3, .d7⟩, .buildSlice 3 1 [.int .i64 0, .int .i64 0] [(0, (.t ⟨.d0, .d3, .d6⟩))], none⟩,
    ⟨some ⟨.d0, .d4, .d0⟩, .append 4 2 16 (.t ⟨.d0, .d3, .d3⟩) (.t ⟨.d0, .d3, .d7⟩), none⟩,
    ⟨some ⟨.d0, .d4, .d1⟩, .build [.int .i64 0, .slice none 0 0] [(0, 1, (.t ⟨.d0, .d3, .d0⟩)), (1, 1, (.t ⟨.d0, .d4, .d0⟩))], none⟩,
    ⟨none, .store 2 (.t ⟨.d0, .d0, .d6⟩) (.t ⟨.d0, .d4, .d1⟩), none⟩,
    ⟨some ⟨.d0, .d0, .d7⟩, .move (.c (.int .i64 0)), none⟩])
  (.ret)))
def r_custref_AgesTouched : List XR := [.cell ⟨.d0, .d0, .d6⟩ true 2, .tmp ⟨.d0, .d0, .d7⟩]
theorem ok_custref_AgesTouched : okC Try.prog Try.f26.ntmps (bodyOf Try.f26) x_custref_AgesTouched = true := by kernel_rfl
theorem okr_custref_AgesTouched : okRs Try.prog Try.f26.results.toList r_custref_AgesTouched = true := by kernel_rfl

/-- ages.Touch -/
def x_ages_Touch : XC :=
  .seq (.region [⟨some ⟨.d0, .d0, .d3⟩, .box 0 2 (.t ⟨.d0, .d0, .d0⟩), none⟩,
    ⟨some ⟨.d0, .d0, .d6⟩, .alloc 1 [.int .i64 0, .slice none 0 0], none⟩,
    ⟨some ⟨.d0, .d0, .d7⟩, .move (.c (.int .i64 0)), none⟩])
  (.seq (.seq (.region [⟨some ⟨.d0, .d1, .d2⟩, .load true 2 (.t ⟨.d0, .d0, .d3⟩), none⟩,
    ⟨some ⟨.d0, .d1, .d3⟩, .call 22 [(.t ⟨.d0, .d1, .d2⟩)], none⟩,
    ⟨some ⟨.d0, .d1, .d0⟩, .move (.t ⟨.d0, .d1, .d3⟩), none⟩])
  (.seq (.region [⟨some ⟨.d0, .d1, .d4⟩, .move (.t ⟨.d0, .d1, .d0⟩), none⟩,
    ⟨some ⟨.d0, .d1, .d5⟩, .bin .neq (.t ⟨.d0, .d1, .d4⟩) (.c (.int .i64 0)), none⟩])
  (.cond (.t ⟨.d0, .d1, .d5⟩)
    (.seq (.region [⟨some ⟨.d0, .d1, .d6⟩, .build [.int .i64 0, .slice none 0 0] [], none⟩,
      ⟨some ⟨.d0, .d1, .d7⟩, .move (.t ⟨.d0, .d1, .d0⟩), none⟩,
      ⟨none, .store 2 (.t ⟨.d0, .d0, .d6⟩) (.t ⟨.d0, .d1, .d6⟩), none⟩,
      ⟨some ⟨.d0, .d0, .d7⟩, .move (.t ⟨.d0, .d1, .d7⟩), none⟩])
    (.ret))
    (.skip))))
  (.seq (.seq (.region [⟨some ⟨.d0, .d2, .d0⟩, .load true 2 (.t ⟨.d0, .d0, .d3⟩), none⟩,
    ⟨some ⟨.d0, .d2, .d1⟩, .move (.t ⟨.d0, .d0, .d2⟩), none⟩,
    ⟨some ⟨.d0, .d2, .d2⟩, .call 48 [(.t ⟨.d0, .d2, .d0⟩), (.t ⟨.d0, .d2, .d1⟩)], none⟩,
    ⟨some ⟨.d0, .d2, .d3⟩, .un .not (.t ⟨.d0, .d2, .d2⟩), none⟩])
  (.cond (.t ⟨.d0, .d2, .d3⟩)
    (.seq (.region [⟨some ⟨.d0, .d2, .d4⟩, .build [.int .i64 0, .slice none 0 0] [], none⟩,
      ⟨none, .store 2 (.t ⟨.d0, .d0, .d6⟩) (.t ⟨.d0, .d2, .d4⟩), none⟩,
      ⟨some ⟨.d0, .d0, .d7⟩, .move (.c (.int .i64 1)), none⟩])
    (.ret))
    (.skip)))
  (.seq (.region [⟨some ⟨.d0, .d2, .d5⟩, .load true 2 (.t ⟨.d0, .d0, .d3⟩), none⟩,
    ⟨some ⟨.d0, .d2, .d6⟩, .move (.t ⟨.d0, .d0, .d1⟩), none⟩,
    ⟨some ⟨.d0, .d2, .d7⟩, .call 53 [(.t ⟨.d0, .d2, .d5⟩), (.t ⟨.d0, .d2, .d6⟩)], none⟩,
    ⟨some ⟨.d0, .d1, .d1⟩, .move (.t ⟨.d0, .d2, .d7⟩), none⟩])
  (.seq (.seq (.region [⟨some ⟨.d0, .d3, .d0⟩, .move (.t ⟨.d0, .d1, .d1⟩), none⟩,
    ⟨some ⟨.d0, .d3, .d1⟩, .bin .lss (.t ⟨.d0, .d3, .d0⟩) (.c (.int .i64 0)), none⟩])
  (.cond (.t ⟨.d0, .d3, .d1⟩)
    (.seq (.region [⟨some ⟨.d0, .d3, .d2⟩, .build [.int .i64 0, .slice none 0 0] [], none⟩,
      ⟨none, .store 2 (.t ⟨.d0, .d0, .d6⟩) (.t ⟨.d0, .d3, .d2⟩), none⟩,
      ⟨some ⟨.d0, .d0, .d7⟩, .move (.c (.int .i64 7)), none⟩])
    (.ret))
    (.skip)))
  (.seq (.region [⟨some ⟨.d0, .d3, .d3⟩, .load true 2 (.t ⟨.d0, .d0, .d3⟩), none⟩,
    ⟨some ⟨.d0, .d3, .d4⟩, .move (.t ⟨.d0, .d1, .d1⟩), none⟩,
    ⟨some ⟨.d0, .d3, .d5⟩, .move (.t ⟨.d0, .d0, .d1⟩), none⟩,
    ⟨some ⟨.d0, .d3, .d6⟩, .move (.t ⟨.d0, .d0, .d2⟩), none⟩,
    ⟨some ⟨.d0, .d3, .d7⟩, .build [.int .i64 0, .int .i64 0] [(0, 1, (.t ⟨.d0, .d3, .d5⟩)), (1, 1, (.t ⟨.d0, .d3, .d6⟩))], none⟩,
    ⟨some ⟨.d0, .d4, .d0⟩, .call 49 [(.t ⟨.d0, .d3, .d3⟩), (.t ⟨.d0, .d3, .d4⟩), (.t ⟨.d0, .d3, .d7⟩)], none⟩,
    ⟨none, .store 2 (.t ⟨.d0, .d0, .d6⟩) (.t ⟨.d0, .d4, .d0⟩), none⟩,
    ⟨some ⟨.d0, .d0, .d7⟩, .move (.c (.int .i64 0)), none⟩])
  (.ret))))))
def r_ages_Touch : List XR := [.cell ⟨.d0, .d0, .d6⟩ true 2, .tmp ⟨.d0, .d0, .d7⟩]
theorem ok_ages_Touch : okC Try.prog Try.f27.ntmps (bodyOf Try.f27) x_ages_Touch = true := by kernel_rfl
theorem okr_ages_Touch : okRs Try.prog Try.f27.results.toList r_ages_Touch = true := by kernel_rfl

/-- ages.Leave -/
def x_ages_Leave : XC :=
  .seq (.region [⟨some ⟨.d0, .d0, .d2⟩, .box 0 2 (.t ⟨.d0, .d0, .d0⟩), none⟩,
    ⟨some ⟨.d0, .d0, .d4⟩, .alloc 1 [.int .i64 0, .slice none 0 0], none⟩,
    ⟨some ⟨.d0, .d0, .d5⟩, .move (.c (.int .i64 0)), none⟩])
  (.seq (.seq (.region [⟨some ⟨.d0, .d1, .d0⟩, .load true 2 (.t ⟨.d0, .d0, .d2⟩), none⟩,
    ⟨some ⟨.d0, .d1, .d1⟩, .call 22 [(.t ⟨.d0, .d1, .d0⟩)], none⟩,
    ⟨some ⟨.d0, .d0, .d6⟩, .move (.t ⟨.d0, .d1, .d1⟩), none⟩])
  (.seq (.region [⟨some ⟨.d0, .d1, .d2⟩, .move (.t ⟨.d0, .d0, .d6⟩), none⟩,
    ⟨some ⟨.d0, .d1, .d3⟩, .bin .neq (.t ⟨.d0, .d1, .d2⟩) (.c (.int .i64 0)), none⟩])
  (.cond (.t ⟨.d0, .d1, .d3⟩)
    (.seq (.region [⟨some ⟨.d0, .d1, .d4⟩, .build [.int .i64 0, .slice none 0 0] [], none⟩,
      ⟨some ⟨.d0, .d1, .d5⟩, .move (.t ⟨.d0, .d0, .d6⟩), none⟩,
      ⟨none, .store 2 (.t ⟨.d0, .d0, .d4⟩) (.t ⟨.d0, .d1, .d4⟩), none⟩,
      ⟨some ⟨.d0, .d0, .d5⟩, .move (.t ⟨.d0, .d1, .d5⟩), none⟩])
    (.ret))
    (.skip))))
  (.seq (.region [⟨some ⟨.d0, .d1, .d6⟩, .load true 2 (.t ⟨.d0, .d0, .d2⟩), none⟩,
    ⟨some ⟨.d0, .d1, .d7⟩, .move (.t ⟨.d0, .d0, .d1⟩), none⟩,
    ⟨some ⟨.d0, .d2, .d0⟩, .call 53 [(.t ⟨.d0, .d1, .d6⟩), (.t ⟨.d0, .d1, .d7⟩)], none⟩,
    ⟨some ⟨.d0, .d0, .d7⟩, .move (.t ⟨.d0, .d2, .d0⟩), none⟩])
  (.seq (.seq (.region [⟨some ⟨.d0, .d2, .d1⟩, .move (.t ⟨.d0, .d0, .d7⟩), none⟩,
    ⟨some ⟨.d0, .d2, .d2⟩, .bin .lss (.t ⟨.d0, .d2, .d1⟩) (.c (.int .i64 0)), none⟩])
  (.cond (.t ⟨.d0, .d2, .d2⟩)
    (.seq (.region [⟨some ⟨.d0, .d2, .d3⟩, .build [.int .i64 0, .slice none 0 0] [], none⟩,
      ⟨none, .store 2 (.t ⟨.d0, .d0, .d4⟩) (.t ⟨.d0, .d2, .d3⟩), none⟩,
      ⟨some ⟨.d0, .d0, .d5⟩, .move (.c (.int .i64 7)), none⟩])
    (.ret))
    (.skip)))
  (.seq (.region [⟨some ⟨.d0, .d2, .d4⟩, .fieldAddr 1 (.t ⟨.d0, .d0, .d2⟩), none⟩,
    ⟨some ⟨.d0, .d2, .d5⟩, .load false 1 (.t ⟨.d0, .d2, .d4⟩), none⟩,
    ⟨some ⟨.d0, .d2, .d6⟩, .call 55 [(.t ⟨.d0, .d2, .d5⟩)], none⟩,
    ⟨some ⟨.d0, .d2, .d7⟩, .move (.t ⟨.d0, .d0, .d7⟩), none⟩,
    ⟨some ⟨.d0, .d3, .d0⟩, .move (.t ⟨.d0, .d0, .d7⟩), none⟩,
    ⟨some ⟨.d0, .d3, .d1⟩, .bin .add (.t ⟨.d0, .d3, .d0⟩) (.c (.int .i64 1)), none⟩,
    ⟨some ⟨.d0, .d3, .d2⟩, .call 54 [(.t ⟨.d0, .d2, .d6⟩), (.t ⟨.d0, .d2, .d7⟩), (.t ⟨.d0, .d3, .d1⟩)], none⟩,
    ⟨some ⟨.d0, .d3, .d3⟩, .fieldAddr 1 (.t ⟨.d0, .d0, .d2⟩), none⟩,
    ⟨none, .store 1 (.t ⟨.d0, .d3, .d3⟩) (.t ⟨.d0, .d3, .d2⟩), none⟩])
  (.seq (.region [⟨some ⟨.d0, .d3, .d4⟩, .load true 2 (.t ⟨.d0, .d0, .d2⟩), none⟩,
    ⟨none, .store 2 (.t ⟨.d0, .d0, .d4⟩) (.t ⟨.d0, .d3, .d4⟩), none⟩,
    ⟨some ⟨.d0, .d0, .d5⟩, .move (.c (.int .i64 0)), none⟩])
  (.ret))))))
def r_ages_Leave : List XR := [.cell ⟨.d0, .d0, .d4⟩ true 2, .tmp ⟨.d0, .d0, .d5⟩]
theorem ok_ages_Leave : okC Try.prog Try.f28.ntmps (bodyOf Try.f28) x_ages_Leave = true := by kernel_rfl
theorem okr_ages_Leave : okRs Try.prog Try.f28.results.toList r_ages_Leave = true := by kernel_rfl

/-- ages.Expire -/
def x_ages_Expire : XC :=
  .seq (.region [⟨some ⟨.d0, .d0, .d2⟩, .box 0 2 (.t ⟨.d0, .d0, .d0⟩), none⟩,
    ⟨some ⟨.d0, .d0, .d4⟩, .alloc 1 [.int .i64 0, .slice none 0 0], none⟩,
    ⟨some ⟨.d0, .d0, .d5⟩, .move (.c (.slice none 0 0)), none⟩,
    ⟨some ⟨.d0, .d0, .d6⟩, .move (.c (.int .i64 0)), none⟩])
  (.seq (.seq (.region [⟨some ⟨.d0, .d1, .d3⟩, .load true 2 (.t ⟨.d0, .d0, .d2⟩), none⟩,
    ⟨some ⟨.d0, .d1, .d4⟩, .call 22 [(.t ⟨.d0, .d1, .d3⟩)], none⟩,
    ⟨some ⟨.d0, .d0, .d7⟩, .move (.t ⟨.d0, .d1, .d4⟩), none⟩])
  (.seq (.region [⟨some ⟨.d0, .d1, .d5⟩, .move (.t ⟨.d0, .d0, .d7⟩), none⟩,
    ⟨some ⟨.d0, .d1, .d6⟩, .bin .neq (.t ⟨.d0, .d1, .d5⟩) (.c (.int .i64 0)), none⟩])
  (.cond (.t ⟨.d0, .d1, .d6⟩)
    (.seq (.region [⟨some ⟨.d0, .d1, .d7⟩, .build [.int .i64 0, .slice none 0 0] [], none⟩,
      ⟨some ⟨.d0, .d2, .d0⟩, .move (.t ⟨.d0, .d0, .d7⟩), none⟩,
      ⟨none, .store 2 (.t ⟨.d0, .d0, .d4⟩) (.t ⟨.d0, .d1, .d7⟩), none⟩,
      ⟨some ⟨.d0, .d0, .d5⟩, .move (.c (.slice none 0 0)), none⟩,
      ⟨some ⟨.d0, .d0, .d6⟩, .move (.t ⟨.d0, .d2, .d0⟩), none⟩])
    (.ret))
    (.skip))))
  (.seq (.region [⟨some ⟨.d0, .d1, .d0⟩, .move (.c (.slice none 0 0)), none⟩])
  (.seq (.seq (.region [⟨some ⟨.d0, .d2, .d1⟩, .fieldAddr 1 (.t ⟨.d0, .d0, .d2⟩), none⟩,
    ⟨some ⟨.d0, .d2, .d2⟩, .load false 1 (.t ⟨.d0, .d2, .d1⟩), none⟩,
    ⟨some ⟨.d0, .d2, .d3⟩, .len (.t ⟨.d0, .d2, .d2⟩), none⟩,
    ⟨some ⟨.d0, .d2, .d4⟩, .move (.c (.int .i64 0)), none⟩])
  (.block 0
    (.loop
      (.seq (.region [⟨some ⟨.d0, .d2, .d5⟩, .bin .lss (.t ⟨.d0, .d2, .d4⟩) (.t ⟨.d0, .d2, .d3⟩), none⟩])
      (.seq (.cond (.t ⟨.d0, .d2, .d5⟩)
        (.skip)
        (.exit 0))
      (.seq (.block 1
        (.seq (.region [⟨some ⟨.d0, .d2, .d6⟩, .indexSl 2 (.t ⟨.d0, .d2, .d2⟩) (.t ⟨.d0, .d2, .d4⟩), none⟩,
          ⟨some ⟨.d0, .d2, .d7⟩, .load true 2 (.t ⟨.d0, .d2, .d6⟩), none⟩,
          ⟨some ⟨.d0, .d1, .d2⟩, .alloc 2 [.int .i64 0, .int .i64 0], none⟩,
          ⟨none, .store 2 (.t ⟨.d0, .d1, .d2⟩) (.t ⟨.d0, .d2, .d7⟩), none⟩])
        (.seq (.seq (.region [⟨some ⟨.d0, .d3, .d0⟩, .fieldAddr 1 (.t ⟨.d0, .d1, .d2⟩), none⟩,
          ⟨some ⟨.d0, .d3, .d1⟩, .load false 1 (.t ⟨.d0, .d3, .d0⟩), none⟩,
          ⟨some ⟨.d0, .d3, .d2⟩, .move (.t ⟨.d0, .d0, .d1⟩), none⟩,
          ⟨some ⟨.d0, .d3, .d3⟩, .bin .geq (.t ⟨.d0, .d3, .d1⟩) (.t ⟨.d0, .d3, .d2⟩), none⟩])
        (.cond (.t ⟨.d0, .d3, .d3⟩)
          (.exit 0)
          (.skip)))
        (.region [⟨some ⟨.d0, .d3, .d4⟩, .move (.t ⟨.d0, .d1, .d0⟩), none⟩,
          ⟨some ⟨.d0, .d3, .d5⟩, .fieldAddr 0 (.t ⟨.d0, .d1, .d2⟩), none⟩,
          ⟨some ⟨.d0, .d3, .d6⟩, .load false 1 (.t ⟨.d0, .d3, .d5⟩), none⟩,
          ⟨some ⟨.d0, .d3, .d7⟩, .buildSlice 3 1 [.int .i64 0] [(0, (.t ⟨.d0, .d3, .d6⟩))], none⟩,
          ⟨some ⟨.d0, .d4, .d0⟩, .append 4 1 8 (.t ⟨.d0, .d3, .d4⟩) (.t ⟨.d0, .d3, .d7⟩), none⟩,
          ⟨some ⟨.d0, .d1, .d0⟩, .move (.t ⟨.d0, .d4, .d0⟩), none⟩]))))
      (.region [⟨some ⟨.d0, .d4, .d1⟩, .bin .add (.t ⟨.d0, .d2, .d4⟩) (.c (.int .i64 1)), none⟩,
        ⟨some ⟨.d0, .d2, .d4⟩, .move (.t ⟨.d0, .d4, .d1⟩), none⟩])))))))
  (.seq (.region [⟨some ⟨.d0, .d4, .d2⟩, .fieldAddr 1 (.t ⟨.d0, .d0, .d2⟩), none⟩,
    ⟨some ⟨.d0, .d4, .d3⟩, .load false 1 (.t ⟨.d0, .d4, .d2⟩), none⟩,
    ⟨some ⟨.d0, .d4, .d4⟩, .move (.t ⟨.d0, .d1, .d0⟩), none⟩,
    ⟨some ⟨.d0, .d4, .d5⟩, .len (.t ⟨.d0, .d4, .d4⟩), none⟩,
    ⟨some ⟨.d0, .d4, .d6⟩, .slice 2 (.t ⟨.d0, .d4, .d3⟩) (some (.t ⟨.d0, .d4, .d5⟩)) none none, none⟩,
    ⟨some ⟨.d0, .d4, .d7⟩, .call 55 [(.t ⟨.d0, .d4, .d6⟩)], none⟩,
    ⟨some ⟨.d0, .d5, .d0⟩, .fieldAddr 1 (.t ⟨.d0, .d0, .d2⟩), none⟩,
    ⟨none, .store 1 (.t ⟨.d0, .d5, .d0⟩) (.t ⟨.d0, .d4, .d7⟩), none⟩])
  (.seq (.region [⟨some ⟨.d0, .d5, .d1⟩, .load true 2 (.t ⟨.d0, .d0, .d2⟩), none⟩,
    ⟨some ⟨.d0, .d5, .d2⟩, .move (.t ⟨.d0, .d1, .d0⟩), none⟩,
    ⟨none, .store 2 (.t ⟨.d0, .d0, .d4⟩) (.t ⟨.d0, .d5, .d1⟩), none⟩,
    ⟨some ⟨.d0, .d0, .d5⟩, .move (.t ⟨.d0, .d5, .d2⟩), none⟩,
    ⟨some ⟨.d0, .d0, .d6⟩, .move (.c (.int .i64 0)), none⟩])
  (.ret))))))
def r_ages_Expire : List XR := [.cell ⟨.d0, .d0, .d4⟩ true 2, .tmp ⟨.d0, .d0, .d5⟩, .tmp ⟨.d0, .d0, .d6⟩]
theorem ok_ages_Expire : okC Try.prog Try.f29.ntmps (bodyOf Try.f29) x_ages_Expire = true := by kernel_rfl
theorem okr_ages_Expire : okRs Try.prog Try.f29.results.toList r_ages_Expire = true := by kernel_rfl

/-- slices.Equal -/
def x_slices_Equal_int : XC :=
  .seq (.region [⟨some ⟨.d0, .d0, .d4⟩, .move (.c (.bool false)), none⟩])
  (.seq (.seq (.region [⟨some ⟨.d0, .d0, .d6⟩, .move (.t ⟨.d0, .d0, .d0⟩), none⟩,
    ⟨some ⟨.d0, .d0, .d7⟩, .len (.t ⟨.d0, .d0, .d6⟩), none⟩,
    ⟨some ⟨.d0, .d1, .d0⟩, .move (.t ⟨.d0, .d0, .d1⟩), none⟩,
    ⟨some ⟨.d0, .d1, .d1⟩, .len (.t ⟨.d0, .d1, .d0⟩), none⟩,
    ⟨some ⟨.d0, .d1, .d2⟩, .bin .neq (.t ⟨.d0, .d0, .d7⟩) (.t ⟨.d0, .d1, .d1⟩), none⟩])
  (.cond (.t ⟨.d0, .d1, .d2⟩)
    (.seq (.region [⟨some ⟨.d0, .d0, .d4⟩, .move (.c (.bool false)), none⟩])
    (.ret))
    (.skip)))
  (.seq (.seq (.region [⟨some ⟨.d0, .d1, .d3⟩, .move (.t ⟨.d0, .d0, .d0⟩), none⟩,
    ⟨some ⟨.d0, .d1, .d4⟩, .len (.t ⟨.d0, .d1, .d3⟩), none⟩,
    ⟨some ⟨.d0, .d1, .d5⟩, .move (.c (.int .i64 0)), none⟩])
  (.block 0
    (.loop
      (.seq (.region [⟨some ⟨.d0, .d1, .d6⟩, .bin .lss (.t ⟨.d0, .d1, .d5⟩) (.t ⟨.d0, .d1, .d4⟩), none⟩])
      (.seq (.cond (.t ⟨.d0, .d1, .d6⟩)
        (.skip)
        (.exit 0))
      (.seq (.block 1
        (.seq (.region [⟨some ⟨.d0, .d1, .d7⟩, .move (.t ⟨.d0, .d1, .d5⟩), none⟩,
          ⟨some ⟨.d0, .d0, .d5⟩, .move (.t ⟨.d0, .d1, .d7⟩), none⟩])
        (.seq (.regionD [0, 0, 3, 7, 0, 0, 48, 112, 255] [⟨some ⟨.d0, .d2, .d0⟩, .move (.t ⟨.d0, .d0, .d0⟩), none⟩,
          ⟨some ⟨.d0, .d2, .d1⟩, .move (.t ⟨.d0, .d0, .d5⟩), none⟩,
          ⟨some ⟨.d0, .d2, .d2⟩, .indexSl 1 (.t ⟨.d0, .d2, .d0⟩) (.t ⟨.d0, .d2, .d1⟩), none⟩,
          ⟨some ⟨.d0, .d2, .d3⟩, .load false 1 (.t ⟨.d0, .d2, .d2⟩), none⟩,
          ⟨some ⟨.d0, .d2, .d4⟩, .move (.t ⟨.d0, .d0, .d1⟩), none⟩,
          ⟨some ⟨.d0, .d2, .d5⟩, .move (.t ⟨.d0, .d0, .d5⟩), none⟩,
          ⟨some ⟨.d0, .d2, .d6⟩, .indexSl 1 (.t ⟨.d0, .d2, .d4⟩) (.t ⟨.d0, .d2, .d5⟩), none⟩,
          ⟨some ⟨.d0, .d2, .d7⟩, .load false 1 (.t ⟨.d0, .d2, .d6⟩), none⟩,
          ⟨some ⟨.d0, .d3, .d0⟩, .bin .neq (.t ⟨.d0, .d2, .d3⟩) (.t ⟨.d0, .d2, .d7⟩), none⟩])
        (.cond (.t ⟨.d0, .d3, .d0⟩)
          (.seq (.region [⟨some ⟨.d0, .d0, .d4⟩, .move (.c (.bool false)), none⟩])
          (.ret))
          (.skip)))))
      (.region [⟨some ⟨.d0, .d3, .d1⟩, .bin .add (.t ⟨.d0, .d1, .d5⟩) (.c (.int .i64 1)), none⟩,
        ⟨some ⟨.d0, .d1, .d5⟩, .move (.t ⟨.d0, .d3, .d1⟩), none⟩])))))))
  (.seq (.region [⟨some ⟨.d0, .d0, .d4⟩, .move (.c (.bool true)), none⟩])
  (.ret))))
def r_slices_Equal_int : List XR := [.tmp ⟨.d0, .d0, .d4⟩]
theorem ok_slices_Equal_int : okC Try.prog Try.f30.ntmps (bodyOf Try.f30) x_slices_Equal_int = true := by kernel_rfl
theorem okr_slices_Equal_int : okRs Try.prog Try.f30.results.toList r_slices_Equal_int = true := by kernel_rfl

/-- slices.Equal -/
def x_slices_Equal_api_Stay : XC :=
  .seq (.region [⟨some ⟨.d0, .d0, .d4⟩, .move (.c (.bool false)), none⟩])
  (.seq (.seq (.region [⟨some ⟨.d0, .d0, .d6⟩, .move (.t ⟨.d0, .d0, .d0⟩), none⟩,
    ⟨some ⟨.d0, .d0, .d7⟩, .len (.t ⟨.d0, .d0, .d6⟩), none⟩,
    ⟨some ⟨.d0, .d1, .d0⟩, .move (.t ⟨.d0, .d0, .d1⟩), none⟩,
    ⟨some ⟨.d0, .d1, .d1⟩, .len (.t ⟨.d0, .d1, .d0⟩), none⟩,
    ⟨some ⟨.d0, .d1, .d2⟩, .bin .neq (.t ⟨.d0, .d0, .d7⟩) (.t ⟨.d0, .d1, .d1⟩), none⟩])
  (.cond (.t ⟨.d0, .d1, .d2⟩)
    (.seq (.region [⟨some ⟨.d0, .d0, .d4⟩, .move (.c (.bool false)), none⟩])
    (.ret))
    (.skip)))
  (.seq (.seq (.region [⟨some ⟨.d0, .d1, .d3⟩, .move (.t ⟨.d0, .d0, .d0⟩), none⟩,
    ⟨some ⟨.d0, .d1, .d4⟩, .len (.t ⟨.d0, .d1, .d3⟩), none⟩,
    ⟨some ⟨.d0, .d1, .d5⟩, .move (.c (.int .i64 0)), none⟩])
  (.block 0
    (.loop
      (.seq (.region [⟨some ⟨.d0, .d1, .d6⟩, .bin .lss (.t ⟨.d0, .d1, .d5⟩) (.t ⟨.d0, .d1, .d4⟩), none⟩])
      (.seq (.cond (.t ⟨.d0, .d1, .d6⟩)
        (.skip)
        (.exit 0))
      (.seq (.block 1
        (.seq (.region [⟨some ⟨.d0, .d1, .d7⟩, .move (.t ⟨.d0, .d1, .d5⟩), none⟩,
          ⟨some ⟨.d0, .d0, .d5⟩, .move (.t ⟨.d0, .d1, .d7⟩), none⟩])
        (.seq (.regionD [0, 0, 3, 7, 0, 0, 48, 112, 255] [⟨some ⟨.d0, .d2, .d0⟩, .move (.t ⟨.d0, .d0, .d0⟩), none⟩,
          ⟨some ⟨.d0, .d2, .d1⟩, .move (.t ⟨.d0, .d0, .d5⟩), none⟩,
          ⟨some ⟨.d0, .d2, .d2⟩, .indexSl 2 (.t ⟨.d0, .d2, .d0⟩) (.t ⟨.d0, .d2, .d1⟩), none⟩,
          ⟨some ⟨.d0, .d2, .d3⟩, .load true 2 (.t ⟨.d0, .d2, .d2⟩), none⟩,
          ⟨some ⟨.d0, .d2, .d4⟩, .move (.t ⟨.d0, .d0, .d1⟩), none⟩,
          ⟨some ⟨.d0, .d2, .d5⟩, .move (.t ⟨.d0, .d0, .d5⟩), none⟩,
          ⟨some ⟨.d0, .d2, .d6⟩, .indexSl 2 (.t ⟨.d0, .d2, .d4⟩) (.t ⟨.d0, .d2, .d5⟩), none⟩,
          ⟨some ⟨.d0, .d2, .d7⟩, .load true 2 (.t ⟨.d0, .d2, .d6⟩), none⟩,
          ⟨some ⟨.d0, .d3, .d0⟩, .eqs true [0, 0] (.t ⟨.d0, .d2, .d3⟩) (.t ⟨.d0, .d2, .d7⟩), none⟩])
        (.cond (.t ⟨.d0, .d3, .d0⟩)
          (.seq (.region [⟨some ⟨.d0, .d0, .d4⟩, .move (.c (.bool false)), none⟩])
          (.ret))
          (.skip)))))
      (.region [⟨some ⟨.d0, .d3, .d1⟩, .bin .add (.t ⟨.d0, .d1, .d5⟩) (.c (.int .i64 1)), none⟩,
        ⟨some ⟨.d0, .d1, .d5⟩, .move (.t ⟨.d0, .d3, .d1⟩), none⟩])))))))
  (.seq (.region [⟨some ⟨.d0, .d0, .d4⟩, .move (.c (.bool true)), none⟩])
  (.ret))))
def r_slices_Equal_api_Stay : List XR := [.tmp ⟨.d0, .d0, .d4⟩]
theorem ok_slices_Equal_api_Stay : okC Try.prog Try.f46.ntmps (bodyOf Try.f46) x_slices_Equal_api_Stay = true := by kernel_rfl
theorem okr_slices_Equal_api_Stay : okRs Try.prog Try.f46.results.toList r_slices_Equal_api_Stay = true := by kernel_rfl

/-- ages.taken -/
def x_ages_taken : XC :=
  .seq (.region [⟨some ⟨.d0, .d0, .d1⟩, .box 0 2 (.t ⟨.d0, .d0, .d0⟩), none⟩,
    ⟨some ⟨.d0, .d0, .d2⟩, .move (.c (.int .u64 0)), none⟩,
    ⟨some ⟨.d0, .d0, .d3⟩, .move (.c (.bool false)), none⟩])
  (.seq (.region [⟨some ⟨.d0, .d0, .d4⟩, .move (.c (.int .u64 0)), none⟩])
  (.seq (.seq (.region [⟨some ⟨.d0, .d0, .d7⟩, .fieldAddr 1 (.t ⟨.d0, .d0, .d1⟩), none⟩,
    ⟨some ⟨.d0, .d1, .d0⟩, .load false 1 (.t ⟨.d0, .d0, .d7⟩), none⟩,
    ⟨some ⟨.d0, .d1, .d1⟩, .len (.t ⟨.d0, .d1, .d0⟩), none⟩,
    ⟨some ⟨.d0, .d1, .d2⟩, .move (.c (.int .i64 0)), none⟩])
  (.block 0
    (.loop
      (.seq (.region [⟨some ⟨.d0, .d1, .d3⟩, .bin .lss (.t ⟨.d0, .d1, .d2⟩) (.t ⟨.d0, .d1, .d1⟩), none⟩])
      (.seq (.cond (.t ⟨.d0, .d1, .d3⟩)
        (.skip)
        (.exit 0))
      (.seq (.block 1
        (.seq (.region [⟨some ⟨.d0, .d1, .d4⟩, .move (.t ⟨.d0, .d1, .d2⟩), none⟩,
          ⟨some ⟨.d0, .d1, .d5⟩, .indexSl 2 (.t ⟨.d0, .d1, .d0⟩) (.t ⟨.d0, .d1, .d2⟩), none⟩,
          ⟨some ⟨.d0, .d1, .d6⟩, .load true 2 (.t ⟨.d0, .d1, .d5⟩), none⟩,
          ⟨some ⟨.d0, .d0, .d6⟩, .alloc 1 [.int .i64 0, .int .i64 0], none⟩,
          ⟨some ⟨.d0, .d0, .d5⟩, .move (.t ⟨.d0, .d1, .d4⟩), none⟩,
          ⟨none, .store 2 (.t ⟨.d0, .d0, .d6⟩) (.t ⟨.d0, .d1, .d6⟩), none⟩])
        (.seq (.seq (.regionD [0, 1, 3, 7, 15, 31, 15, 79, 255, 511, 1023, 2047, 2047, 6143, 16383, 32767, 65535, 131071, 262143, 524287, 1048575, 2097151, 4194303, 8388607, 4194303, 20971519, 4194303, 71303167, 255852543, 524287999, 1061158911, 2147483647, 4294967295, 8589934591] [⟨some ⟨.d0, .d1, .d7⟩, .fieldAddr 0 (.t ⟨.d0, .d0, .d6⟩), none⟩,
          ⟨some ⟨.d0, .d2, .d0⟩, .load false 1 (.t ⟨.d0, .d1, .d7⟩), none⟩,
          ⟨some ⟨.d0, .d2, .d1⟩, .bin .lss (.t ⟨.d0, .d2, .d0⟩) (.c (.int .i64 0)), none⟩,
          ⟨some ⟨.d0, .d2, .d2⟩, .move (.t ⟨.d0, .d2, .d1⟩), none⟩,
          ⟨some ⟨.d0, .d2, .d3⟩, .fieldAddr 0 (.t ⟨.d0, .d0, .d6⟩), some (⟨.d0, .d2, .d2⟩, false)⟩,
          ⟨some ⟨.d0, .d2, .d4⟩, .load false 1 (.t ⟨.d0, .d2, .d3⟩), some (⟨.d0, .d2, .d2⟩, false)⟩,
          ⟨some ⟨.d0, .d2, .d5⟩, .fieldAddr 0 (.t ⟨.d0, .d0, .d1⟩), some (⟨.d0, .d2, .d2⟩, false)⟩,
          ⟨some ⟨.d0, .d2, .d6⟩, .load false 1 (.t ⟨.d0, .d2, .d5⟩), some (⟨.d0, .d2, .d2⟩, false)⟩,
          ⟨some ⟨.d0, .d2, .d7⟩, .bin .geq (.t ⟨.d0, .d2, .d4⟩) (.t ⟨.d0, .d2, .d6⟩), some (⟨.d0, .d2, .d2⟩, false)⟩,
          ⟨some ⟨.d0, .d3, .d0⟩, .pick (.t ⟨.d0, .d2, .d2⟩) (.c (.bool true)) (.t ⟨.d0, .d2, .d7⟩), none⟩,
          ⟨some ⟨.d0, .d3, .d1⟩, .move (.t ⟨.d0, .d3, .d0⟩), none⟩,
          ⟨some ⟨.d0, .d3, .d2⟩, .move (.t ⟨.d0, .d0, .d4⟩), some (⟨.d0, .d3, .d1⟩, false)⟩,
          ⟨some ⟨.d0, .d3, .d3⟩, .fieldAddr 0 (.t ⟨.d0, .d0, .d6⟩), some (⟨.d0, .d3, .d1⟩, false)⟩,
          ⟨some ⟨.d0, .d3, .d4⟩, .load false 1 (.t ⟨.d0, .d3, .d3⟩), some (⟨.d0, .d3, .d1⟩, false)⟩,
          ⟨some ⟨.d0, .d3, .d5⟩, .bin .shr (.t ⟨.d0, .d3, .d2⟩) (.t ⟨.d0, .d3, .d4⟩), some (⟨.d0, .d3, .d1⟩, false)⟩,
          ⟨some ⟨.d0, .d3, .d6⟩, .bin .and (.t ⟨.d0, .d3, .d5⟩) (.c (.int .u64 1)), some (⟨.d0, .d3, .d1⟩, false)⟩,
          ⟨some ⟨.d0, .d3, .d7⟩, .bin .eql (.t ⟨.d0, .d3, .d6⟩) (.c (.int .u64 1)), some (⟨.d0, .d3, .d1⟩, false)⟩,
          ⟨some ⟨.d0, .d4, .d0⟩, .pick (.t ⟨.d0, .d3, .d1⟩) (.c (.bool true)) (.t ⟨.d0, .d3, .d7⟩), none⟩,
          ⟨some ⟨.d0, .d4, .d1⟩, .move (.t ⟨.d0, .d4, .d0⟩), none⟩,
          ⟨some ⟨.d0, .d4, .d2⟩, .move (.t ⟨.d0, .d0, .d5⟩), some (⟨.d0, .d4, .d1⟩, false)⟩,
          ⟨some ⟨.d0, .d4, .d3⟩, .bin .gtr (.t ⟨.d0, .d4, .d2⟩) (.c (.int .i64 0)), some (⟨.d0, .d4, .d1⟩, false)⟩,
          ⟨some ⟨.d0, .d4, .d4⟩, .move (.t ⟨.d0, .d4, .d3⟩), some (⟨.d0, .d4, .d1⟩, false)⟩,
          ⟨some ⟨.d0, .d4, .d5⟩, .fieldAddr 1 (.t ⟨.d0, .d0, .d6⟩), some (⟨.d0, .d4, .d4⟩, true)⟩,
          ⟨some ⟨.d0, .d4, .d6⟩, .load false 1 (.t ⟨.d0, .d4, .d5⟩), some (⟨.d0, .d4, .d4⟩, true)⟩,
          ⟨some ⟨.d0, .d4, .d7⟩, .fieldAddr 1 (.t ⟨.d0, .d0, .d1⟩), some (⟨.d0, .d4, .d4⟩, true)⟩,
          ⟨some ⟨.d0, .d5, .d0⟩, .load false 1 (.t ⟨.d0, .d4, .d7⟩), some (⟨.d0, .d4, .d4⟩, true)⟩,
          ⟨some ⟨.d0, .d5, .d1⟩, .move (.t ⟨.d0, .d0, .d5⟩), some (⟨.d0, .d4, .d4⟩, true)⟩,
          ⟨some ⟨.d0, .d5, .d2⟩, .bin .sub (.t ⟨.d0, .d5, .d1⟩) (.c (.int .i64 1)), some (⟨.d0, .d4, .d4⟩, true)⟩,
          ⟨some ⟨.d0, .d5, .d3⟩, .indexSl 2 (.t ⟨.d0, .d5, .d0⟩) (.t ⟨.d0, .d5, .d2⟩), some (⟨.d0, .d4, .d4⟩, true)⟩,
          ⟨some ⟨.d0, .d5, .d4⟩, .fieldAddr 1 (.t ⟨.d0, .d5, .d3⟩), some (⟨.d0, .d4, .d4⟩, true)⟩,
          ⟨some ⟨.d0, .d5, .d5⟩, .load false 1 (.t ⟨.d0, .d5, .d4⟩), some (⟨.d0, .d4, .d4⟩, true)⟩,
          ⟨some ⟨.d0, .d5, .d6⟩, .bin .lss (.t ⟨.d0, .d4, .d6⟩) (.t ⟨.d0, .d5, .d5⟩), some (⟨.d0, .d4, .d4⟩, true)⟩,
          ⟨some ⟨.d0, .d5, .d7⟩, .pick (.t ⟨.d0, .d4, .d4⟩) (.t ⟨.d0, .d5, .d6⟩) (.c (.bool false)), some (⟨.d0, .d4, .d1⟩, false)⟩,
          ⟨some ⟨.d0, .d6, .d0⟩, .pick (.t ⟨.d0, .d4, .d1⟩) (.c (.bool true)) (.t ⟨.d0, .d5, .d7⟩), none⟩])
        (.cond (.t ⟨.d0, .d6, .d0⟩)
          (.seq (.region [⟨some ⟨.d0, .d0, .d2⟩, .move (.c (.int .u64 0)), none⟩,
            ⟨some ⟨.d0, .d0, .d3⟩, .move (.c (.bool false)), none⟩])
          (.ret))
          (.skip)))
        (.region [⟨some ⟨.d0, .d6, .d1⟩, .move (.t ⟨.d0, .d0, .d4⟩), none⟩,
          ⟨some ⟨.d0, .d6, .d2⟩, .fieldAddr 0 (.t ⟨.d0, .d0, .d6⟩), none⟩,
          ⟨some ⟨.d0, .d6, .d3⟩, .load false 1 (.t ⟨.d0, .d6, .d2⟩), none⟩,
          ⟨some ⟨.d0, .d6, .d4⟩, .bin .shl (.c (.int .u64 1)) (.t ⟨.d0, .d6, .d3⟩), none⟩,
          ⟨some ⟨.d0, .d6, .d5⟩, .bin .or (.t ⟨.d0, .d6, .d1⟩) (.t ⟨.d0, .d6, .d4⟩), none⟩,
          ⟨some ⟨.d0, .d0, .d4⟩, .move (.t ⟨.d0, .d6, .d5⟩), none⟩]))))
      (.region [⟨some ⟨.d0, .d6, .d6⟩, .bin .add (.t ⟨.d0, .d1, .d2⟩) (.c (.int .i64 1)), none⟩,
        ⟨some ⟨.d0, .d1, .d2⟩, .move (.t ⟨.d0, .d6, .d6⟩), none⟩])))))))
  (.seq (.region [⟨some ⟨.d0, .d6, .d7⟩, .move (.t ⟨.d0, .d0, .d4⟩), none⟩,
    ⟨some ⟨.d0, .d0, .d2⟩, .move (.t ⟨.d0, .d6, .d7⟩), none⟩,
    ⟨some ⟨.d0, .d0, .d3⟩, .move (.c (.bool true)), none⟩])
  (.ret))))
def r_ages_taken : List XR := [.tmp ⟨.d0, .d0, .d2⟩, .tmp ⟨.d0, .d0, .d3⟩]
theorem ok_ages_taken : okC Try.prog Try.f47.ntmps (bodyOf Try.f47) x_ages_taken = true := by kernel_rfl
theorem okr_ages_taken : okRs Try.prog Try.f47.results.toList r_ages_taken = true := by kernel_rfl

/-- ages.late -/
def x_ages_late : XC :=
  .seq (.region [⟨some ⟨.d0, .d0, .d2⟩, .box 0 2 (.t ⟨.d0, .d0, .d0⟩), none⟩,
    ⟨some ⟨.d0, .d0, .d4⟩, .move (.c (.bool false)), none⟩])
  (.seq (.region [⟨some ⟨.d0, .d0, .d6⟩, .fieldAddr 1 (.t ⟨.d0, .d0, .d2⟩), none⟩,
    ⟨some ⟨.d0, .d0, .d7⟩, .load false 1 (.t ⟨.d0, .d0, .d6⟩), none⟩,
    ⟨some ⟨.d0, .d1, .d0⟩, .len (.t ⟨.d0, .d0, .d7⟩), none⟩,
    ⟨some ⟨.d0, .d0, .d5⟩, .move (.t ⟨.d0, .d1, .d0⟩), none⟩])
  (.seq (.region [⟨some ⟨.d0, .d1, .d1⟩, .move (.t ⟨.d0, .d0, .d5⟩), none⟩,
    ⟨some ⟨.d0, .d1, .d2⟩, .bin .eql (.t ⟨.d0, .d1, .d1⟩) (.c (.int .i64 0)), none⟩,
    ⟨some ⟨.d0, .d1, .d3⟩, .move (.t ⟨.d0, .d1, .d2⟩), none⟩,
    ⟨some ⟨.d0, .d1, .d4⟩, .move (.t ⟨.d0, .d0, .d1⟩), some (⟨.d0, .d1, .d3⟩, false)⟩,
    ⟨some ⟨.d0, .d1, .d5⟩, .fieldAddr 1 (.t ⟨.d0, .d0, .d2⟩), some (⟨.d0, .d1, .d3⟩, false)⟩,
    ⟨some ⟨.d0, .d1, .d6⟩, .load false 1 (.t ⟨.d0, .d1, .d5⟩), some (⟨.d0, .d1, .d3⟩, false)⟩,
    ⟨some ⟨.d0, .d1, .d7⟩, .move (.t ⟨.d0, .d0, .d5⟩), some (⟨.d0, .d1, .d3⟩, false)⟩,
    ⟨some ⟨.d0, .d2, .d0⟩, .bin .sub (.t ⟨.d0, .d1, .d7⟩) (.c (.int .i64 1)), some (⟨.d0, .d1, .d3⟩, false)⟩,
    ⟨some ⟨.d0, .d2, .d1⟩, .indexSl 2 (.t ⟨.d0, .d1, .d6⟩) (.t ⟨.d0, .d2, .d0⟩), some (⟨.d0, .d1, .d3⟩, false)⟩,
    ⟨some ⟨.d0, .d2, .d2⟩, .fieldAddr 1 (.t ⟨.d0, .d2, .d1⟩), some (⟨.d0, .d1, .d3⟩, false)⟩,
    ⟨some ⟨.d0, .d2, .d3⟩, .load false 1 (.t ⟨.d0, .d2, .d2⟩), some (⟨.d0, .d1, .d3⟩, false)⟩,
    ⟨some ⟨.d0, .d2, .d4⟩, .bin .geq (.t ⟨.d0, .d1, .d4⟩) (.t ⟨.d0, .d2, .d3⟩), some (⟨.d0, .d1, .d3⟩, false)⟩,
    ⟨some ⟨.d0, .d2, .d5⟩, .pick (.t ⟨.d0, .d1, .d3⟩) (.c (.bool true)) (.t ⟨.d0, .d2, .d4⟩), none⟩,
    ⟨some ⟨.d0, .d0, .d4⟩, .move (.t ⟨.d0, .d2, .d5⟩), none⟩])
  (.ret)))
def r_ages_late : List XR := [.tmp ⟨.d0, .d0, .d4⟩]
theorem ok_ages_late : okC Try.prog Try.f48.ntmps (bodyOf Try.f48) x_ages_late = true := by kernel_rfl
theorem okr_ages_late : okRs Try.prog Try.f48.results.toList r_ages_late = true := by kernel_rfl

/-- ages.behind -/
def x_ages_behind : XC :=
  .seq (.region [⟨some ⟨.d0, .d0, .d3⟩, .box 0 2 (.t ⟨.d0, .d0, .d0⟩), none⟩,
    ⟨some ⟨.d0, .d0, .d5⟩, .box 1 2 (.t ⟨.d0, .d0, .d2⟩), none⟩,
    ⟨some ⟨.d0, .d0, .d6⟩, .alloc 2 [.int .i64 0, .slice none 0 0], none⟩])
  (.seq (.region [⟨some ⟨.d0, .d1, .d0⟩, .fieldAddr 1 (.t ⟨.d0, .d0, .d3⟩), none⟩,
    ⟨some ⟨.d0, .d1, .d1⟩, .load false 1 (.t ⟨.d0, .d1, .d0⟩), none⟩,
    ⟨some ⟨.d0, .d1, .d2⟩, .call 55 [(.t ⟨.d0, .d1, .d1⟩)], none⟩,
    ⟨some ⟨.d0, .d0, .d7⟩, .move (.t ⟨.d0, .d1, .d2⟩), none⟩])
  (.seq (.seq (.region [⟨some ⟨.d0, .d1, .d3⟩, .move (.t ⟨.d0, .d0, .d1⟩), none⟩,
    ⟨some ⟨.d0, .d1, .d4⟩, .bin .geq (.t ⟨.d0, .d1, .d3⟩) (.c (.int .i64 0)), none⟩])
  (.cond (.t ⟨.d0, .d1, .d4⟩)
    (.region [⟨some ⟨.d0, .d1, .d5⟩, .move (.t ⟨.d0, .d0, .d7⟩), none⟩,
      ⟨some ⟨.d0, .d1, .d6⟩, .move (.t ⟨.d0, .d0, .d1⟩), none⟩,
      ⟨some ⟨.d0, .d1, .d7⟩, .move (.t ⟨.d0, .d0, .d1⟩), none⟩,
      ⟨some ⟨.d0, .d2, .d0⟩, .bin .add (.t ⟨.d0, .d1, .d7⟩) (.c (.int .i64 1)), none⟩,
      ⟨some ⟨.d0, .d2, .d1⟩, .call 54 [(.t ⟨.d0, .d1, .d5⟩), (.t ⟨.d0, .d1, .d6⟩), (.t ⟨.d0, .d2, .d0⟩)], none⟩,
      ⟨some ⟨.d0, .d0, .d7⟩, .move (.t ⟨.d0, .d2, .d1⟩), none⟩])
    (.skip)))
  (.seq (.regionD [0, 1, 0, 0, 8, 28, 63, 127] [⟨some ⟨.d0, .d2, .d2⟩, .fieldAddr 0 (.t ⟨.d0, .d0, .d3⟩), none⟩,
    ⟨some ⟨.d0, .d2, .d3⟩, .load false 1 (.t ⟨.d0, .d2, .d2⟩), none⟩,
    ⟨some ⟨.d0, .d2, .d4⟩, .move (.t ⟨.d0, .d0, .d7⟩), none⟩,
    ⟨some ⟨.d0, .d2, .d5⟩, .load true 2 (.t ⟨.d0, .d0, .d5⟩), none⟩,
    ⟨some ⟨.d0, .d2, .d6⟩, .buildSlice 3 1 [.int .i64 0, .int .i64 0] [(0, (.t ⟨.d0, .d2, .d5⟩))], none⟩,
    ⟨some ⟨.d0, .d2, .d7⟩, .append 4 2 16 (.t ⟨.d0, .d2, .d4⟩) (.t ⟨.d0, .d2, .d6⟩), none⟩,
    ⟨some ⟨.d0, .d3, .d0⟩, .build [.int .i64 0, .slice none 0 0] [(0, 1, (.t ⟨.d0, .d2, .d3⟩)), (1, 1, (.t ⟨.d0, .d2, .d7⟩))], none⟩,
    ⟨none, .store 2 (.t ⟨.d0, .d0, .d6⟩) (.t ⟨.d0, .d3, .d0⟩), none⟩])
  (.ret))))
def r_ages_behind : List XR := [.cell ⟨.d0, .d0, .d6⟩ true 2]
theorem ok_ages_behind : okC Try.prog Try.f49.ntmps (bodyOf Try.f49) x_ages_behind = true := by kernel_rfl
theorem okr_ages_behind : okRs Try.prog Try.f49.results.toList r_ages_behind = true := by kernel_rfl

/-- slices.ContainsFunc -/
def x_slices_ContainsFunc_api_Stay : XC :=
  .seq (.region [⟨some ⟨.d0, .d0, .d4⟩, .move (.c (.bool false)), none⟩])
  (.seq (.region [⟨some ⟨.d0, .d0, .d5⟩, .move (.t ⟨.d0, .d0, .d0⟩), none⟩,
    ⟨some ⟨.d0, .d0, .d6⟩, .move (.t ⟨.d0, .d0, .d1⟩), none⟩,
    ⟨some ⟨.d0, .d0, .d7⟩, .call 67 [(.t ⟨.d0, .d0, .d5⟩), (.t ⟨.d0, .d0, .d6⟩)], none⟩,
    ⟨some ⟨.d0, .d1, .d0⟩, .bin .geq (.t ⟨.d0, .d0, .d7⟩) (.c (.int .i64 0)), none⟩,
    ⟨some ⟨.d0, .d0, .d4⟩, .move (.t ⟨.d0, .d1, .d0⟩), none⟩])
  (.ret))
def r_slices_ContainsFunc_api_Stay : List XR := [.tmp ⟨.d0, .d0, .d4⟩]
theorem ok_slices_ContainsFunc_api_Stay : okC Try.prog Try.f50.ntmps (bodyOf Try.f50) x_slices_ContainsFunc_api_Stay = true := by kernel_rfl
theorem okr_slices_ContainsFunc_api_Stay : okRs Try.prog Try.f50.results.toList r_slices_ContainsFunc_api_Stay = true := by kernel_rfl

/-- custref.IsTaken-1 -/
def x_custref_IsTaken_1 : XC :=
  .seq (.region [⟨some ⟨.d0, .d0, .d2⟩, .box 0 2 (.t ⟨.d0, .d0, .d0⟩), none⟩,
    ⟨some ⟨.d0, .d0, .d3⟩, .move (.c (.bool false)), none⟩])
  (.seq (.region [⟨some ⟨.d0, .d0, .d4⟩, .fieldAddr 0 (.t ⟨.d0, .d0, .d2⟩), none⟩,
    ⟨some ⟨.d0, .d0, .d5⟩, .load false 1 (.t ⟨.d0, .d0, .d4⟩), none⟩,
    ⟨some ⟨.d0, .d0, .d6⟩, .load false 1 (.t ⟨.d0, .d0, .d1⟩), none⟩,
    ⟨some ⟨.d0, .d0, .d7⟩, .bin .eql (.t ⟨.d0, .d0, .d5⟩) (.t ⟨.d0, .d0, .d6⟩), none⟩,
    ⟨some ⟨.d0, .d0, .d3⟩, .move (.t ⟨.d0, .d0, .d7⟩), none⟩])
  (.ret))
def r_custref_IsTaken_1 : List XR := [.tmp ⟨.d0, .d0, .d3⟩]
theorem ok_custref_IsTaken_1 : okC Try.prog Try.f51.ntmps (bodyOf Try.f51) x_custref_IsTaken_1 = true := by kernel_rfl
theorem okr_custref_IsTaken_1 : okRs Try.prog Try.f51.results.toList r_custref_IsTaken_1 = true := by kernel_rfl

/-- custref.others -/
def x_custref_others : XC :=
  .seq (.region [⟨some ⟨.d0, .d0, .d2⟩, .box 0 2 (.t ⟨.d0, .d0, .d0⟩), none⟩,
    ⟨some ⟨.d0, .d0, .d4⟩, .move (.c (.slice none 0 0)), none⟩])
  (.seq (.region [⟨some ⟨.d0, .d0, .d5⟩, .move (.c (.slice none 0 0)), none⟩])
  (.seq (.seq (.region [⟨some ⟨.d0, .d1, .d0⟩, .fieldAddr 1 (.t ⟨.d0, .d0, .d2⟩), none⟩,
    ⟨some ⟨.d0, .d1, .d1⟩, .load false 1 (.t ⟨.d0, .d1, .d0⟩), none⟩,
    ⟨some ⟨.d0, .d1, .d2⟩, .len (.t ⟨.d0, .d1, .d1⟩), none⟩,
    ⟨some ⟨.d0, .d1, .d3⟩, .move (.c (.int .i64 0)), none⟩])
  (.block 0
    (.loop
      (.seq (.region [⟨some ⟨.d0, .d1, .d4⟩, .bin .lss (.t ⟨.d0, .d1, .d3⟩) (.t ⟨.d0, .d1, .d2⟩), none⟩])
      (.seq (.cond (.t ⟨.d0, .d1, .d4⟩)
        (.skip)
        (.exit 0))
      (.seq (.block 1
        (.seq (.region [⟨some ⟨.d0, .d1, .d5⟩, .indexSl 2 (.t ⟨.d0, .d1, .d1⟩) (.t ⟨.d0, .d1, .d3⟩), none⟩,
          ⟨some ⟨.d0, .d1, .d6⟩, .load true 2 (.t ⟨.d0, .d1, .d5⟩), none⟩,
          ⟨some ⟨.d0, .d0, .d7⟩, .alloc 1 [.int .i64 0, .int .i64 0], none⟩,
          ⟨none, .store 2 (.t ⟨.d0, .d0, .d7⟩) (.t ⟨.d0, .d1, .d6⟩), none⟩])
        (.seq (.region [⟨some ⟨.d0, .d1, .d7⟩, .fieldAddr 0 (.t ⟨.d0, .d0, .d7⟩), none⟩,
          ⟨some ⟨.d0, .d2, .d0⟩, .load false 1 (.t ⟨.d0, .d1, .d7⟩), none⟩,
          ⟨some ⟨.d0, .d2, .d1⟩, .move (.t ⟨.d0, .d0, .d1⟩), none⟩,
          ⟨some ⟨.d0, .d2, .d2⟩, .bin .neq (.t ⟨.d0, .d2, .d0⟩) (.t ⟨.d0, .d2, .d1⟩), none⟩])
        (.cond (.t ⟨.d0, .d2, .d2⟩)
          (.region [⟨some ⟨.d0, .d2, .d3⟩, .move (.t ⟨.d0, .d0, .d5⟩), none⟩,
            ⟨some ⟨.d0, .d2, .d4⟩, .load true 2 (.t ⟨.d0, .d0, .d7⟩), none⟩,
            ⟨some ⟨.d0, .d2, .d5⟩, .buildSlice 2 1 [.int .i64 0, .int .i64 0] [(0, (.t ⟨.d0, .d2, .d4⟩))], none⟩,
            ⟨some ⟨.d0, .d2, .d6⟩, .append 3 2 16 (.t ⟨.d0, .d2, .d3⟩) (.t ⟨.d0, .d2, .d5⟩), none⟩,
            ⟨some ⟨.d0, .d0, .d5⟩, .move (.t ⟨.d0, .d2, .d6⟩), none⟩])
          (.skip)))))
      (.region [⟨some ⟨.d0, .d2, .d7⟩, .bin .add (.t ⟨.d0, .d1, .d3⟩) (.c (.int .i64 1)), none⟩,
        ⟨some ⟨.d0, .d1, .d3⟩, .move (.t ⟨.d0, .d2, .d7⟩), none⟩])))))))
  (.seq (.region [⟨some ⟨.d0, .d3, .d0⟩, .move (.t ⟨.d0, .d0, .d5⟩), none⟩,
    ⟨some ⟨.d0, .d0, .d4⟩, .move (.t ⟨.d0, .d3, .d0⟩), none⟩])
  (.ret))))
def r_custref_others : List XR := [.tmp ⟨.d0, .d0, .d4⟩]
theorem ok_custref_others : okC Try.prog Try.f52.ntmps (bodyOf Try.f52) x_custref_others = true := by kernel_rfl
theorem okr_custref_others : okRs Try.prog Try.f52.results.toList r_custref_others = true := by kernel_rfl

/-- ages.place -/
def x_ages_place : XC :=
  .seq (.region [⟨some ⟨.d0, .d0, .d2⟩, .box 0 2 (.t ⟨.d0, .d0, .d0⟩), none⟩,
    ⟨some ⟨.d0, .d0, .d3⟩, .box 1 1 (.t ⟨.d0, .d0, .d1⟩), none⟩,
    ⟨some ⟨.d0, .d0, .d4⟩, .move (.c (.int .i64 0)), none⟩])
  (.seq (.region [⟨some ⟨.d0, .d0, .d5⟩, .fieldAddr 1 (.t ⟨.d0, .d0, .d2⟩), none⟩,
    ⟨some ⟨.d0, .d0, .d6⟩, .load false 1 (.t ⟨.d0, .d0, .d5⟩), none⟩,
    ⟨some ⟨.d0, .d0, .d7⟩, .mkfn 68 [] [(.t ⟨.d0, .d0, .d3⟩)], none⟩,
    ⟨some ⟨.d0, .d1, .d0⟩, .call 67 [(.t ⟨.d0, .d0, .d6⟩), (.t ⟨.d0, .d0, .d7⟩)], none⟩,
    ⟨some ⟨.d0, .d0, .d4⟩, .move (.t ⟨.d0, .d1, .d0⟩), none⟩])
  (.ret))
def r_ages_place : List XR := [.tmp ⟨.d0, .d0, .d4⟩]
theorem ok_ages_place : okC Try.prog Try.f53.ntmps (bodyOf Try.f53) x_ages_place = true := by kernel_rfl
theorem okr_ages_place : okRs Try.prog Try.f53.results.toList r_ages_place = true := by kernel_rfl

/-- slices.Delete -/
def x_slices_Delete_api_Stay : XC :=
  .seq (.region [⟨some ⟨.d0, .d0, .d6⟩, .move (.c (.slice none 0 0)), none⟩])
  (.seq (.region [⟨some ⟨.d0, .d1, .d0⟩, .move (.t ⟨.d0, .d0, .d0⟩), none⟩,
    ⟨some ⟨.d0, .d1, .d1⟩, .move (.t ⟨.d0, .d0, .d1⟩), none⟩,
    ⟨some ⟨.d0, .d1, .d2⟩, .move (.t ⟨.d0, .d0, .d2⟩), none⟩,
    ⟨some ⟨.d0, .d1, .d3⟩, .move (.t ⟨.d0, .d0, .d0⟩), none⟩,
    ⟨some ⟨.d0, .d1, .d4⟩, .len (.t ⟨.d0, .d1, .d3⟩), none⟩,
    ⟨some ⟨.d0, .d1, .d5⟩, .sliceW 2 (.t ⟨.d0, .d1, .d0⟩) (some (.t ⟨.d0, .d1, .d1⟩)) (some (.t ⟨.d0, .d1, .d2⟩)) (some (.t ⟨.d0, .d1, .d4⟩)), none⟩])
  (.seq (.seq (.region [⟨some ⟨.d0, .d1, .d6⟩, .move (.t ⟨.d0, .d0, .d1⟩), none⟩,
    ⟨some ⟨.d0, .d1, .d7⟩, .move (.t ⟨.d0, .d0, .d2⟩), none⟩,
    ⟨some ⟨.d0, .d2, .d0⟩, .bin .eql (.t ⟨.d0, .d1, .d6⟩) (.t ⟨.d0, .d1, .d7⟩), none⟩])
  (.cond (.t ⟨.d0, .d2, .d0⟩)
    (.seq (.region [⟨some ⟨.d0, .d2, .d1⟩, .move (.t ⟨.d0, .d0, .d0⟩), none⟩,
      ⟨some ⟨.d0, .d0, .d6⟩, .move (.t ⟨.d0, .d2, .d1⟩), none⟩])
    (.ret))
    (.skip)))
  (.seq (.region [⟨some ⟨.d0, .d2, .d2⟩, .move (.t ⟨.d0, .d0, .d0⟩), none⟩,
    ⟨some ⟨.d0, .d2, .d3⟩, .len (.t ⟨.d0, .d2, .d2⟩), none⟩,
    ⟨some ⟨.d0, .d0, .d7⟩, .move (.t ⟨.d0, .d2, .d3⟩), none⟩])
  (.seq (.regionD [0, 0, 3, 0, 0, 24, 63, 127] [⟨some ⟨.d0, .d2, .d4⟩, .move (.t ⟨.d0, .d0, .d0⟩), none⟩,
    ⟨some ⟨.d0, .d2, .d5⟩, .move (.t ⟨.d0, .d0, .d1⟩), none⟩,
    ⟨some ⟨.d0, .d2, .d6⟩, .sliceW 2 (.t ⟨.d0, .d2, .d4⟩) none (some (.t ⟨.d0, .d2, .d5⟩)) none, none⟩,
    ⟨some ⟨.d0, .d2, .d7⟩, .move (.t ⟨.d0, .d0, .d0⟩), none⟩,
    ⟨some ⟨.d0, .d3, .d0⟩, .move (.t ⟨.d0, .d0, .d2⟩), none⟩,
    ⟨some ⟨.d0, .d3, .d1⟩, .slice 2 (.t ⟨.d0, .d2, .d7⟩) (some (.t ⟨.d0, .d3, .d0⟩)) none none, none⟩,
    ⟨some ⟨.d0, .d3, .d2⟩, .appendW 2 16 (.t ⟨.d0, .d2, .d6⟩) (.t ⟨.d0, .d3, .d1⟩), none⟩,
    ⟨some ⟨.d0, .d0, .d0⟩, .move (.t ⟨.d0, .d3, .d2⟩), none⟩])
  (.seq (.region [⟨some ⟨.d0, .d3, .d3⟩, .move (.t ⟨.d0, .d0, .d0⟩), none⟩,
    ⟨some ⟨.d0, .d3, .d4⟩, .move (.t ⟨.d0, .d0, .d0⟩), none⟩,
    ⟨some ⟨.d0, .d3, .d5⟩, .len (.t ⟨.d0, .d3, .d4⟩), none⟩,
    ⟨some ⟨.d0, .d3, .d6⟩, .move (.t ⟨.d0, .d0, .d7⟩), none⟩,
    ⟨some ⟨.d0, .d3, .d7⟩, .sliceW 2 (.t ⟨.d0, .d3, .d3⟩) (some (.t ⟨.d0, .d3, .d5⟩)) (some (.t ⟨.d0, .d3, .d6⟩)) none, none⟩,
    ⟨none, .clear [.int .i64 0, .int .i64 0] (.t ⟨.d0, .d3, .d7⟩), none⟩])
  (.seq (.region [⟨some ⟨.d0, .d4, .d0⟩, .move (.t ⟨.d0, .d0, .d0⟩), none⟩,
    ⟨some ⟨.d0, .d0, .d6⟩, .move (.t ⟨.d0, .d4, .d0⟩), none⟩])
  (.ret)))))))
def r_slices_Delete_api_Stay : List XR := [.tmp ⟨.d0, .d0, .d6⟩]
theorem ok_slices_Delete_api_Stay : okC Try.prog Try.f54.ntmps (bodyOf Try.f54) x_slices_Delete_api_Stay = true := by kernel_rfl
theorem okr_slices_Delete_api_Stay : okRs Try.prog Try.f54.results.toList r_slices_Delete_api_Stay = true := by kernel_rfl

/-- slices.Clone -/
def x_slices_Clone_api_Stay : XC :=
  .seq (.region [⟨some ⟨.d0, .d0, .d2⟩, .move (.c (.slice none 0 0)), none⟩])
  (.seq (.seq (.region [⟨some ⟨.d0, .d0, .d3⟩, .move (.t ⟨.d0, .d0, .d0⟩), none⟩,
    ⟨some ⟨.d0, .d0, .d4⟩, .isnil false (.t ⟨.d0, .d0, .d3⟩), none⟩])
  (.cond (.t ⟨.d0, .d0, .d4⟩)
    (.seq (.region [⟨some ⟨.d0, .d0, .d2⟩, .move (.c (.slice none 0 0)), none⟩])
    (.ret))
    (.skip)))
  (.seq (.region [⟨some ⟨.d0, .d0, .d5⟩, .buildSlice 0 0 [.int .i64 0, .int .i64 0] [], none⟩,
    ⟨some ⟨.d0, .d0, .d6⟩, .move (.t ⟨.d0, .d0, .d0⟩), none⟩,
    ⟨some ⟨.d0, .d0, .d7⟩, .append 1 2 16 (.t ⟨.d0, .d0, .d5⟩) (.t ⟨.d0, .d0, .d6⟩), none⟩,
    ⟨some ⟨.d0, .d0, .d2⟩, .move (.t ⟨.d0, .d0, .d7⟩), none⟩])
  (.ret)))
def r_slices_Clone_api_Stay : List XR := [.tmp ⟨.d0, .d0, .d2⟩]
theorem ok_slices_Clone_api_Stay : okC Try.prog Try.f55.ntmps (bodyOf Try.f55) x_slices_Clone_api_Stay = true := by kernel_rfl
theorem okr_slices_Clone_api_Stay : okRs Try.prog Try.f55.results.toList r_slices_Clone_api_Stay = true := by kernel_rfl

/-- slices.IndexFunc -/
def x_slices_IndexFunc_api_Stay : XC :=
  .seq (.region [⟨some ⟨.d0, .d0, .d4⟩, .move (.c (.int .i64 0)), none⟩])
  (.seq (.seq (.region [⟨some ⟨.d0, .d0, .d6⟩, .move (.t ⟨.d0, .d0, .d0⟩), none⟩,
    ⟨some ⟨.d0, .d0, .d7⟩, .len (.t ⟨.d0, .d0, .d6⟩), none⟩,
    ⟨some ⟨.d0, .d1, .d0⟩, .move (.c (.int .i64 0)), none⟩])
  (.block 0
    (.loop
      (.seq (.region [⟨some ⟨.d0, .d1, .d1⟩, .bin .lss (.t ⟨.d0, .d1, .d0⟩) (.t ⟨.d0, .d0, .d7⟩), none⟩])
      (.seq (.cond (.t ⟨.d0, .d1, .d1⟩)
        (.skip)
        (.exit 0))
      (.seq (.block 1
        (.seq (.region [⟨some ⟨.d0, .d1, .d2⟩, .move (.t ⟨.d0, .d1, .d0⟩), none⟩,
          ⟨some ⟨.d0, .d0, .d5⟩, .move (.t ⟨.d0, .d1, .d2⟩), none⟩])
        (.seq (.region [⟨some ⟨.d0, .d1, .d3⟩, .move (.t ⟨.d0, .d0, .d1⟩), none⟩,
          ⟨some ⟨.d0, .d1, .d4⟩, .move (.t ⟨.d0, .d0, .d0⟩), none⟩,
          ⟨some ⟨.d0, .d1, .d5⟩, .move (.t ⟨.d0, .d0, .d5⟩), none⟩,
          ⟨some ⟨.d0, .d1, .d6⟩, .indexSl 2 (.t ⟨.d0, .d1, .d4⟩) (.t ⟨.d0, .d1, .d5⟩), none⟩,
          ⟨some ⟨.d0, .d1, .d7⟩, .load true 2 (.t ⟨.d0, .d1, .d6⟩), none⟩,
          ⟨some ⟨.d0, .d2, .d0⟩, .callv (.t ⟨.d0, .d1, .d3⟩) [(.t ⟨.d0, .d1, .d7⟩)], none⟩])
        (.cond (.t ⟨.d0, .d2, .d0⟩)
          (.seq (.region [⟨some ⟨.d0, .d2, .d1⟩, .move (.t ⟨.d0, .d0, .d5⟩), none⟩,
            ⟨some ⟨.d0, .d0, .d4⟩, .move (.t ⟨.d0, .d2, .d1⟩), none⟩])
          (.ret))
          (.skip)))))
      (.region [⟨some ⟨.d0, .d2, .d2⟩, .bin .add (.t ⟨.d0, .d1, .d0⟩) (.c (.int .i64 1)), none⟩,
        ⟨some ⟨.d0, .d1, .d0⟩, .move (.t ⟨.d0, .d2, .d2⟩), none⟩])))))))
  (.seq (.region [⟨some ⟨.d0, .d0, .d4⟩, .move (.c (.int .i64 (-1))), none⟩])
  (.ret)))
def r_slices_IndexFunc_api_Stay : List XR := [.tmp ⟨.d0, .d0, .d4⟩]
theorem ok_slices_IndexFunc_api_Stay : okC Try.prog Try.f67.ntmps (bodyOf Try.f67) x_slices_IndexFunc_api_Stay = true := by kernel_rfl
theorem okr_slices_IndexFunc_api_Stay : okRs Try.prog Try.f67.results.toList r_slices_IndexFunc_api_Stay = true := by kernel_rfl

/-- ages.place-1 -/
def x_ages_place_1 : XC :=
  .seq (.region [⟨some ⟨.d0, .d0, .d2⟩, .box 0 2 (.t ⟨.d0, .d0, .d0⟩), none⟩,
    ⟨some ⟨.d0, .d0, .d3⟩, .move (.c (.bool false)), none⟩])
  (.seq (.region [⟨some ⟨.d0, .d0, .d4⟩, .fieldAddr 0 (.t ⟨.d0, .d0, .d2⟩), none⟩,
    ⟨some ⟨.d0, .d0, .d5⟩, .load false 1 (.t ⟨.d0, .d0, .d4⟩), none⟩,
    ⟨some ⟨.d0, .d0, .d6⟩, .load false 1 (.t ⟨.d0, .d0, .d1⟩), none⟩,
    ⟨some ⟨.d0, .d0, .d7⟩, .bin .eql (.t ⟨.d0, .d0, .d5⟩) (.t ⟨.d0, .d0, .d6⟩), none⟩,
    ⟨some ⟨.d0, .d0, .d3⟩, .move (.t ⟨.d0, .d0, .d7⟩), none⟩])
  (.ret))
def r_ages_place_1 : List XR := [.tmp ⟨.d0, .d0, .d3⟩]
theorem ok_ages_place_1 : okC Try.prog Try.f68.ntmps (bodyOf Try.f68) x_ages_place_1 = true := by kernel_rfl
theorem okr_ages_place_1 : okRs Try.prog Try.f68.results.toList r_ages_place_1 = true := by kernel_rfl
end Go.Proofs.Ytmkdgnocbjbijaa
