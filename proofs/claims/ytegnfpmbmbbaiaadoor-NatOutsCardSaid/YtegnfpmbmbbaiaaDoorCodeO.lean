/-
  The functions of the program in short form, and that the model's code is what they stand for. Printed by xgen.py.
-/
import Derived.Test.YtegnfpmbmbbaiaaDoorFw
import Derived.Test.YtegnfpmbmbbaiaaDoorProg
import Derived.KernelRfl
namespace Go.Proofs.YtegnfpmbmbbaiaaDoor
set_option linter.unusedVariables false
set_option maxRecDepth 100000

/-- custlaw.NatOuts -/
def x_custlaw_NatOuts : XC :=
  .seq (.region [⟨some ⟨.d0, .d0, .d5⟩, .box 0 6 (.t ⟨.d0, .d0, .d0⟩), none⟩,
    ⟨some ⟨.d0, .d1, .d2⟩, .move (.c (.bool false)), none⟩])
  (.seq (.region [⟨some ⟨.d0, .d2, .d2⟩, .load true 6 (.t ⟨.d0, .d0, .d5⟩), none⟩,
    ⟨some ⟨.d0, .d2, .d3⟩, .move (.t ⟨.d0, .d0, .d1⟩), none⟩,
    ⟨some ⟨.d0, .d2, .d4⟩, .move (.t ⟨.d0, .d0, .d2⟩), none⟩,
    ⟨some ⟨.d0, .d2, .d5⟩, .move (.t ⟨.d0, .d0, .d3⟩), none⟩,
    ⟨some ⟨.d0, .d2, .d6⟩, .move (.t ⟨.d0, .d0, .d4⟩), none⟩,
    ⟨some ⟨.d0, .d2, .d7⟩, .call 5 [(.t ⟨.d0, .d2, .d2⟩), (.t ⟨.d0, .d2, .d3⟩), (.t ⟨.d0, .d2, .d4⟩), (.t ⟨.d0, .d2, .d5⟩), (.t ⟨.d0, .d2, .d6⟩)], none⟩,
    ⟨some ⟨.d0, .d2, .d1⟩, .move (.t ⟨.d0, .d2, .d7⟩), none⟩,
    ⟨some ⟨.d0, .d3, .d0⟩, .extract 0 (.t ⟨.d0, .d2, .d1⟩), none⟩,
    ⟨some ⟨.d0, .d3, .d1⟩, .extract 1 (.t ⟨.d0, .d2, .d1⟩), none⟩,
    ⟨some ⟨.d0, .d3, .d2⟩, .extract 2 (.t ⟨.d0, .d2, .d1⟩), none⟩,
    ⟨some ⟨.d0, .d1, .d3⟩, .alloc 1 [.int .i64 0, .int .i64 0, .int .u64 0, .int .i64 0, .int .u64 0, .slice none 0 0], none⟩,
    ⟨none, .store 6 (.t ⟨.d0, .d1, .d3⟩) (.t ⟨.d0, .d3, .d0⟩), none⟩,
    ⟨some ⟨.d0, .d1, .d4⟩, .move (.t ⟨.d0, .d3, .d1⟩), none⟩,
    ⟨some ⟨.d0, .d1, .d5⟩, .move (.t ⟨.d0, .d3, .d2⟩), none⟩])
  (.seq (.region [⟨some ⟨.d0, .d3, .d4⟩, .load true 6 (.t ⟨.d0, .d0, .d5⟩), none⟩,
    ⟨some ⟨.d0, .d3, .d5⟩, .move (.t ⟨.d0, .d0, .d1⟩), none⟩,
    ⟨some ⟨.d0, .d3, .d6⟩, .move (.t ⟨.d0, .d0, .d2⟩), none⟩,
    ⟨some ⟨.d0, .d3, .d7⟩, .move (.t ⟨.d0, .d0, .d3⟩), none⟩,
    ⟨some ⟨.d0, .d4, .d0⟩, .move (.t ⟨.d0, .d0, .d4⟩), none⟩,
    ⟨some ⟨.d0, .d4, .d1⟩, .call 6 [(.t ⟨.d0, .d3, .d4⟩), (.t ⟨.d0, .d3, .d5⟩), (.t ⟨.d0, .d3, .d6⟩), (.t ⟨.d0, .d3, .d7⟩), (.t ⟨.d0, .d4, .d0⟩)], none⟩,
    ⟨some ⟨.d0, .d3, .d3⟩, .move (.t ⟨.d0, .d4, .d1⟩), none⟩,
    ⟨some ⟨.d0, .d4, .d2⟩, .extract 0 (.t ⟨.d0, .d3, .d3⟩), none⟩,
    ⟨some ⟨.d0, .d4, .d3⟩, .extract 1 (.t ⟨.d0, .d3, .d3⟩), none⟩,
    ⟨some ⟨.d0, .d4, .d4⟩, .extract 2 (.t ⟨.d0, .d3, .d3⟩), none⟩,
    ⟨some ⟨.d0, .d1, .d6⟩, .alloc 2 [.int .i64 0, .int .i64 0, .int .u64 0, .int .i64 0, .int .u64 0, .slice none 0 0], none⟩,
    ⟨none, .store 6 (.t ⟨.d0, .d1, .d6⟩) (.t ⟨.d0, .d4, .d2⟩), none⟩,
    ⟨some ⟨.d0, .d1, .d7⟩, .move (.t ⟨.d0, .d4, .d3⟩), none⟩,
    ⟨some ⟨.d0, .d2, .d0⟩, .move (.t ⟨.d0, .d4, .d4⟩), none⟩])
  (.seq (.regionD [0, 1, 0, 7, 15, 31, 63, 63, 255, 511, 1023, 2047, 2047, 8191, 16383, 32767, 65535, 65535, 262143, 524287, 1048575] [⟨some ⟨.d0, .d4, .d5⟩, .load true 6 (.t ⟨.d0, .d0, .d5⟩), none⟩,
    ⟨some ⟨.d0, .d4, .d6⟩, .call 7 [(.t ⟨.d0, .d4, .d5⟩)], none⟩,
    ⟨some ⟨.d0, .d4, .d7⟩, .load true 6 (.t ⟨.d0, .d0, .d5⟩), none⟩,
    ⟨some ⟨.d0, .d5, .d0⟩, .call 8 [(.t ⟨.d0, .d4, .d7⟩)], none⟩,
    ⟨some ⟨.d0, .d5, .d1⟩, .bin .eql (.t ⟨.d0, .d4, .d6⟩) (.t ⟨.d0, .d5, .d0⟩), none⟩,
    ⟨some ⟨.d0, .d5, .d2⟩, .move (.t ⟨.d0, .d5, .d1⟩), none⟩,
    ⟨some ⟨.d0, .d5, .d3⟩, .load true 6 (.t ⟨.d0, .d1, .d3⟩), some (⟨.d0, .d5, .d2⟩, true)⟩,
    ⟨some ⟨.d0, .d5, .d4⟩, .load true 6 (.t ⟨.d0, .d1, .d6⟩), some (⟨.d0, .d5, .d2⟩, true)⟩,
    ⟨some ⟨.d0, .d5, .d5⟩, .call 9 [(.t ⟨.d0, .d5, .d3⟩), (.t ⟨.d0, .d5, .d4⟩)], some (⟨.d0, .d5, .d2⟩, true)⟩,
    ⟨some ⟨.d0, .d5, .d6⟩, .pick (.t ⟨.d0, .d5, .d2⟩) (.t ⟨.d0, .d5, .d5⟩) (.c (.bool false)), none⟩,
    ⟨some ⟨.d0, .d5, .d7⟩, .move (.t ⟨.d0, .d5, .d6⟩), none⟩,
    ⟨some ⟨.d0, .d6, .d0⟩, .move (.t ⟨.d0, .d1, .d4⟩), some (⟨.d0, .d5, .d7⟩, true)⟩,
    ⟨some ⟨.d0, .d6, .d1⟩, .move (.t ⟨.d0, .d1, .d7⟩), some (⟨.d0, .d5, .d7⟩, true)⟩,
    ⟨some ⟨.d0, .d6, .d2⟩, .bin .eql (.t ⟨.d0, .d6, .d0⟩) (.t ⟨.d0, .d6, .d1⟩), some (⟨.d0, .d5, .d7⟩, true)⟩,
    ⟨some ⟨.d0, .d6, .d3⟩, .pick (.t ⟨.d0, .d5, .d7⟩) (.t ⟨.d0, .d6, .d2⟩) (.c (.bool false)), none⟩,
    ⟨some ⟨.d0, .d6, .d4⟩, .move (.t ⟨.d0, .d6, .d3⟩), none⟩,
    ⟨some ⟨.d0, .d6, .d5⟩, .move (.t ⟨.d0, .d1, .d5⟩), some (⟨.d0, .d6, .d4⟩, true)⟩,
    ⟨some ⟨.d0, .d6, .d6⟩, .move (.t ⟨.d0, .d2, .d0⟩), some (⟨.d0, .d6, .d4⟩, true)⟩,
    ⟨some ⟨.d0, .d6, .d7⟩, .bin .eql (.t ⟨.d0, .d6, .d5⟩) (.t ⟨.d0, .d6, .d6⟩), some (⟨.d0, .d6, .d4⟩, true)⟩,
    ⟨some ⟨.d0, .d7, .d0⟩, .pick (.t ⟨.d0, .d6, .d4⟩) (.t ⟨.d0, .d6, .d7⟩) (.c (.bool false)), none⟩,
    ⟨some ⟨.d0, .d1, .d2⟩, .move (.t ⟨.d0, .d7, .d0⟩), none⟩])
  (.ret))))
def r_custlaw_NatOuts : List XR := [.tmp ⟨.d0, .d1, .d2⟩]
theorem ok_custlaw_NatOuts : okC Tryd.prog Tryd.f3.ntmps (bodyOf Tryd.f3) x_custlaw_NatOuts = true := by kernel_rfl
theorem okr_custlaw_NatOuts : okRs Tryd.prog Tryd.f3.results.toList r_custlaw_NatOuts = true := by kernel_rfl

/-- nat.Out -/
def x_nat_Out : XC :=
  .seq (.region [⟨some ⟨.d0, .d0, .d5⟩, .box 2 6 (.t ⟨.d0, .d0, .d0⟩), none⟩,
    ⟨some ⟨.d0, .d1, .d2⟩, .alloc 3 [.int .i64 0, .int .i64 0, .int .u64 0, .int .i64 0, .int .u64 0, .slice none 0 0], none⟩,
    ⟨some ⟨.d0, .d1, .d3⟩, .move (.c (.int .i64 0)), none⟩,
    ⟨some ⟨.d0, .d1, .d4⟩, .move (.c (.int .i64 0)), none⟩])
  (.seq (.region [⟨some ⟨.d0, .d2, .d7⟩, .fieldAddr 5 (.t ⟨.d0, .d0, .d5⟩), none⟩,
    ⟨some ⟨.d0, .d3, .d0⟩, .load false 1 (.t ⟨.d0, .d2, .d7⟩), none⟩,
    ⟨some ⟨.d0, .d3, .d1⟩, .call 15 [(.t ⟨.d0, .d3, .d0⟩)], none⟩,
    ⟨some ⟨.d0, .d3, .d2⟩, .fieldAddr 5 (.t ⟨.d0, .d0, .d5⟩), none⟩,
    ⟨none, .store 1 (.t ⟨.d0, .d3, .d2⟩) (.t ⟨.d0, .d3, .d1⟩), none⟩])
  (.seq (.seq (.region [⟨some ⟨.d0, .d3, .d3⟩, .load true 6 (.t ⟨.d0, .d0, .d5⟩), none⟩,
    ⟨some ⟨.d0, .d3, .d4⟩, .call 7 [(.t ⟨.d0, .d3, .d3⟩)], none⟩,
    ⟨some ⟨.d0, .d1, .d5⟩, .move (.t ⟨.d0, .d3, .d4⟩), none⟩])
  (.seq (.region [⟨some ⟨.d0, .d3, .d5⟩, .move (.t ⟨.d0, .d1, .d5⟩), none⟩,
    ⟨some ⟨.d0, .d3, .d6⟩, .bin .neq (.t ⟨.d0, .d3, .d5⟩) (.c (.int .i64 0)), none⟩])
  (.cond (.t ⟨.d0, .d3, .d6⟩)
    (.seq (.region [⟨some ⟨.d0, .d3, .d7⟩, .load true 6 (.t ⟨.d0, .d0, .d5⟩), none⟩,
      ⟨some ⟨.d0, .d4, .d0⟩, .move (.t ⟨.d0, .d1, .d5⟩), none⟩,
      ⟨none, .store 6 (.t ⟨.d0, .d1, .d2⟩) (.t ⟨.d0, .d3, .d7⟩), none⟩,
      ⟨some ⟨.d0, .d1, .d3⟩, .move (.c (.int .i64 0)), none⟩,
      ⟨some ⟨.d0, .d1, .d4⟩, .move (.t ⟨.d0, .d4, .d0⟩), none⟩])
    (.ret))
    (.skip))))
  (.seq (.region [⟨some ⟨.d0, .d1, .d6⟩, .move (.c (.int .i64 0)), none⟩])
  (.seq (.seq (.region [⟨some ⟨.d0, .d4, .d1⟩, .fieldAddr 5 (.t ⟨.d0, .d0, .d5⟩), none⟩,
    ⟨some ⟨.d0, .d4, .d2⟩, .load false 1 (.t ⟨.d0, .d4, .d1⟩), none⟩,
    ⟨some ⟨.d0, .d4, .d3⟩, .len (.t ⟨.d0, .d4, .d2⟩), none⟩,
    ⟨some ⟨.d0, .d1, .d7⟩, .move (.t ⟨.d0, .d4, .d3⟩), none⟩])
  (.seq (.region [⟨some ⟨.d0, .d4, .d4⟩, .move (.t ⟨.d0, .d1, .d7⟩), none⟩,
    ⟨some ⟨.d0, .d4, .d5⟩, .bin .gtr (.t ⟨.d0, .d4, .d4⟩) (.c (.int .i64 0)), none⟩])
  (.cond (.t ⟨.d0, .d4, .d5⟩)
    (.region [⟨some ⟨.d0, .d4, .d6⟩, .fieldAddr 5 (.t ⟨.d0, .d0, .d5⟩), none⟩,
      ⟨some ⟨.d0, .d4, .d7⟩, .load false 1 (.t ⟨.d0, .d4, .d6⟩), none⟩,
      ⟨some ⟨.d0, .d5, .d0⟩, .move (.t ⟨.d0, .d1, .d7⟩), none⟩,
      ⟨some ⟨.d0, .d5, .d1⟩, .bin .sub (.t ⟨.d0, .d5, .d0⟩) (.c (.int .i64 1)), none⟩,
      ⟨some ⟨.d0, .d5, .d2⟩, .indexSl 5 (.t ⟨.d0, .d4, .d7⟩) (.t ⟨.d0, .d5, .d1⟩), none⟩,
      ⟨some ⟨.d0, .d5, .d3⟩, .fieldAddr 4 (.t ⟨.d0, .d5, .d2⟩), none⟩,
      ⟨some ⟨.d0, .d5, .d4⟩, .load false 1 (.t ⟨.d0, .d5, .d3⟩), none⟩,
      ⟨some ⟨.d0, .d1, .d6⟩, .move (.t ⟨.d0, .d5, .d4⟩), none⟩])
    (.skip))))
  (.seq (.block 0
    (.seq (.region [⟨some ⟨.d0, .d5, .d6⟩, .move (.t ⟨.d0, .d0, .d1⟩), none⟩,
      ⟨some ⟨.d0, .d5, .d7⟩, .bin .neq (.t ⟨.d0, .d5, .d6⟩) (.c (.int .i64 6)), none⟩,
      ⟨some ⟨.d0, .d6, .d0⟩, .move (.t ⟨.d0, .d5, .d7⟩), none⟩,
      ⟨some ⟨.d0, .d6, .d1⟩, .move (.t ⟨.d0, .d0, .d1⟩), some (⟨.d0, .d6, .d0⟩, true)⟩,
      ⟨some ⟨.d0, .d6, .d2⟩, .bin .neq (.t ⟨.d0, .d6, .d1⟩) (.c (.int .i64 17)), some (⟨.d0, .d6, .d0⟩, true)⟩,
      ⟨some ⟨.d0, .d6, .d3⟩, .pick (.t ⟨.d0, .d6, .d0⟩) (.t ⟨.d0, .d6, .d2⟩) (.c (.bool false)), none⟩,
      ⟨some ⟨.d0, .d5, .d5⟩, .move (.t ⟨.d0, .d6, .d3⟩), none⟩])
    (.cond (.t ⟨.d0, .d5, .d5⟩)
      (.seq (.region [⟨some ⟨.d0, .d6, .d4⟩, .load true 6 (.t ⟨.d0, .d0, .d5⟩), none⟩,
        ⟨none, .store 6 (.t ⟨.d0, .d1, .d2⟩) (.t ⟨.d0, .d6, .d4⟩), none⟩,
        ⟨some ⟨.d0, .d1, .d3⟩, .move (.c (.int .i64 0)), none⟩,
        ⟨some ⟨.d0, .d1, .d4⟩, .move (.c (.int .i64 7)), none⟩])
      (.ret))
      (.seq (.region [⟨some ⟨.d0, .d6, .d6⟩, .move (.t ⟨.d0, .d0, .d3⟩), none⟩,
        ⟨some ⟨.d0, .d6, .d7⟩, .bin .lss (.t ⟨.d0, .d6, .d6⟩) (.c (.int .i64 0)), none⟩,
        ⟨some ⟨.d0, .d7, .d0⟩, .move (.t ⟨.d0, .d6, .d7⟩), none⟩,
        ⟨some ⟨.d0, .d7, .d1⟩, .move (.t ⟨.d0, .d0, .d3⟩), some (⟨.d0, .d7, .d0⟩, false)⟩,
        ⟨some ⟨.d0, .d7, .d2⟩, .bin .gtr (.t ⟨.d0, .d7, .d1⟩) (.c (.int .i64 65535)), some (⟨.d0, .d7, .d0⟩, false)⟩,
        ⟨some ⟨.d0, .d7, .d3⟩, .pick (.t ⟨.d0, .d7, .d0⟩) (.c (.bool true)) (.t ⟨.d0, .d7, .d2⟩), none⟩,
        ⟨some ⟨.d0, .d7, .d4⟩, .move (.t ⟨.d0, .d7, .d3⟩), none⟩,
        ⟨some ⟨.d0, .d7, .d5⟩, .move (.t ⟨.d0, .d0, .d4⟩), some (⟨.d0, .d7, .d4⟩, false)⟩,
        ⟨some ⟨.d0, .d7, .d6⟩, .move (.t ⟨.d0, .d1, .d6⟩), some (⟨.d0, .d7, .d4⟩, false)⟩,
        ⟨some ⟨.d0, .d7, .d7⟩, .bin .lss (.t ⟨.d0, .d7, .d5⟩) (.t ⟨.d0, .d7, .d6⟩), some (⟨.d0, .d7, .d4⟩, false)⟩,
        ⟨some ⟨.d1, .d0, .d0⟩, .pick (.t ⟨.d0, .d7, .d4⟩) (.c (.bool true)) (.t ⟨.d0, .d7, .d7⟩), none⟩,
        ⟨some ⟨.d1, .d0, .d1⟩, .move (.t ⟨.d1, .d0, .d0⟩), none⟩,
        ⟨some ⟨.d1, .d0, .d2⟩, .move (.t ⟨.d0, .d0, .d4⟩), some (⟨.d1, .d0, .d1⟩, false)⟩,
        ⟨some ⟨.d1, .d0, .d3⟩, .bin .gtr (.t ⟨.d1, .d0, .d2⟩) (.c (.int .i64 1099511627776)), some (⟨.d1, .d0, .d1⟩, false)⟩,
        ⟨some ⟨.d1, .d0, .d4⟩, .pick (.t ⟨.d1, .d0, .d1⟩) (.c (.bool true)) (.t ⟨.d1, .d0, .d3⟩), none⟩,
        ⟨some ⟨.d0, .d6, .d5⟩, .move (.t ⟨.d1, .d0, .d4⟩), none⟩])
      (.cond (.t ⟨.d0, .d6, .d5⟩)
        (.seq (.region [⟨some ⟨.d1, .d0, .d5⟩, .load true 6 (.t ⟨.d0, .d0, .d5⟩), none⟩,
          ⟨none, .store 6 (.t ⟨.d0, .d1, .d2⟩) (.t ⟨.d1, .d0, .d5⟩), none⟩,
          ⟨some ⟨.d0, .d1, .d3⟩, .move (.c (.int .i64 0)), none⟩,
          ⟨some ⟨.d0, .d1, .d4⟩, .move (.c (.int .i64 1)), none⟩])
        (.ret))
        (.skip))))))
  (.seq (.region [⟨some ⟨.d1, .d0, .d6⟩, .load true 6 (.t ⟨.d0, .d0, .d5⟩), none⟩,
    ⟨some ⟨.d0, .d2, .d0⟩, .alloc 4 [.int .i64 0, .int .i64 0, .int .u64 0, .int .i64 0, .int .u64 0, .slice none 0 0], none⟩,
    ⟨none, .store 6 (.t ⟨.d0, .d2, .d0⟩) (.t ⟨.d1, .d0, .d6⟩), none⟩])
  (.seq (.region [⟨some ⟨.d1, .d0, .d7⟩, .fieldAddr 5 (.t ⟨.d0, .d0, .d5⟩), none⟩,
    ⟨some ⟨.d1, .d1, .d0⟩, .load false 1 (.t ⟨.d1, .d0, .d7⟩), none⟩,
    ⟨some ⟨.d1, .d1, .d1⟩, .call 15 [(.t ⟨.d1, .d1, .d0⟩)], none⟩,
    ⟨some ⟨.d1, .d1, .d2⟩, .fieldAddr 5 (.t ⟨.d0, .d2, .d0⟩), none⟩,
    ⟨none, .store 1 (.t ⟨.d1, .d1, .d2⟩) (.t ⟨.d1, .d1, .d1⟩), none⟩])
  (.seq (.region [⟨some ⟨.d1, .d1, .d3⟩, .move (.t ⟨.d0, .d0, .d4⟩), none⟩,
    ⟨some ⟨.d1, .d1, .d4⟩, .call 16 [(.t ⟨.d0, .d2, .d0⟩), (.t ⟨.d1, .d1, .d3⟩)], none⟩])
  (.seq (.region [⟨some ⟨.d1, .d1, .d5⟩, .move (.t ⟨.d0, .d0, .d1⟩), none⟩,
    ⟨some ⟨.d1, .d1, .d6⟩, .move (.t ⟨.d0, .d0, .d2⟩), none⟩,
    ⟨some ⟨.d1, .d1, .d7⟩, .move (.t ⟨.d0, .d0, .d3⟩), none⟩,
    ⟨some ⟨.d1, .d2, .d0⟩, .move (.t ⟨.d0, .d0, .d4⟩), none⟩,
    ⟨some ⟨.d1, .d2, .d1⟩, .build [.int .i64 0, .int .u32 0, .int .i64 0, .int .i64 0, .int .i64 0] [(0, 1, (.t ⟨.d1, .d1, .d5⟩)), (1, 1, (.t ⟨.d1, .d1, .d6⟩)), (2, 1, (.t ⟨.d1, .d1, .d7⟩)), (4, 1, (.t ⟨.d1, .d2, .d0⟩))], none⟩,
    ⟨some ⟨.d0, .d2, .d1⟩, .alloc 5 [.int .i64 0, .int .u32 0, .int .i64 0, .int .i64 0, .int .i64 0], none⟩,
    ⟨none, .store 5 (.t ⟨.d0, .d2, .d1⟩) (.t ⟨.d1, .d2, .d1⟩), none⟩])
  (.seq (.seq (.region [⟨some ⟨.d1, .d2, .d2⟩, .load true 6 (.t ⟨.d0, .d2, .d0⟩), none⟩,
    ⟨some ⟨.d1, .d2, .d3⟩, .move (.t ⟨.d0, .d0, .d1⟩), none⟩,
    ⟨some ⟨.d1, .d2, .d4⟩, .move (.t ⟨.d0, .d0, .d2⟩), none⟩,
    ⟨some ⟨.d1, .d2, .d5⟩, .move (.t ⟨.d0, .d0, .d3⟩), none⟩,
    ⟨some ⟨.d1, .d2, .d6⟩, .call 17 [(.t ⟨.d1, .d2, .d2⟩), (.t ⟨.d1, .d2, .d3⟩), (.t ⟨.d1, .d2, .d4⟩), (.t ⟨.d1, .d2, .d5⟩)], none⟩,
    ⟨some ⟨.d0, .d2, .d2⟩, .move (.t ⟨.d1, .d2, .d6⟩), none⟩])
  (.seq (.region [⟨some ⟨.d1, .d2, .d7⟩, .move (.t ⟨.d0, .d2, .d2⟩), none⟩,
    ⟨some ⟨.d1, .d3, .d0⟩, .bin .geq (.t ⟨.d1, .d2, .d7⟩) (.c (.int .i64 0)), none⟩])
  (.cond (.t ⟨.d1, .d3, .d0⟩)
    (.seq (.region [⟨some ⟨.d1, .d3, .d1⟩, .fieldAddr 5 (.t ⟨.d0, .d2, .d0⟩), none⟩,
      ⟨some ⟨.d1, .d3, .d2⟩, .load false 1 (.t ⟨.d1, .d3, .d1⟩), none⟩,
      ⟨some ⟨.d1, .d3, .d3⟩, .move (.t ⟨.d0, .d2, .d2⟩), none⟩,
      ⟨some ⟨.d1, .d3, .d4⟩, .indexSl 5 (.t ⟨.d1, .d3, .d2⟩) (.t ⟨.d1, .d3, .d3⟩), none⟩,
      ⟨some ⟨.d1, .d3, .d5⟩, .fieldAddr 3 (.t ⟨.d1, .d3, .d4⟩), none⟩,
      ⟨some ⟨.d1, .d3, .d6⟩, .load false 1 (.t ⟨.d1, .d3, .d5⟩), none⟩,
      ⟨some ⟨.d1, .d3, .d7⟩, .fieldAddr 3 (.t ⟨.d0, .d2, .d1⟩), none⟩,
      ⟨none, .store 1 (.t ⟨.d1, .d3, .d7⟩) (.t ⟨.d1, .d3, .d6⟩), none⟩])
    (.region [⟨some ⟨.d1, .d4, .d0⟩, .fieldAddr 5 (.t ⟨.d0, .d2, .d0⟩), none⟩,
      ⟨some ⟨.d1, .d4, .d1⟩, .load false 1 (.t ⟨.d1, .d4, .d0⟩), none⟩,
      ⟨some ⟨.d1, .d4, .d2⟩, .move (.t ⟨.d0, .d2, .d2⟩), none⟩,
      ⟨some ⟨.d1, .d4, .d3⟩, .move (.t ⟨.d0, .d2, .d2⟩), none⟩,
      ⟨some ⟨.d1, .d4, .d4⟩, .bin .add (.t ⟨.d1, .d4, .d3⟩) (.c (.int .i64 1)), none⟩,
      ⟨some ⟨.d1, .d4, .d5⟩, .call 18 [(.t ⟨.d1, .d4, .d1⟩), (.t ⟨.d1, .d4, .d2⟩), (.t ⟨.d1, .d4, .d4⟩)], none⟩,
      ⟨some ⟨.d1, .d4, .d6⟩, .fieldAddr 5 (.t ⟨.d0, .d2, .d0⟩), none⟩,
      ⟨none, .store 1 (.t ⟨.d1, .d4, .d6⟩) (.t ⟨.d1, .d4, .d5⟩), none⟩]))
    (.seq (.region [⟨some ⟨.d1, .d4, .d7⟩, .move (.t ⟨.d0, .d0, .d1⟩), none⟩,
      ⟨some ⟨.d1, .d5, .d0⟩, .call 19 [(.t ⟨.d0, .d2, .d0⟩), (.t ⟨.d1, .d4, .d7⟩)], none⟩,
      ⟨some ⟨.d0, .d2, .d3⟩, .move (.t ⟨.d1, .d5, .d0⟩), none⟩])
    (.seq (.region [⟨some ⟨.d1, .d5, .d2⟩, .move (.t ⟨.d0, .d2, .d3⟩), none⟩,
      ⟨some ⟨.d1, .d5, .d3⟩, .nilCheck (.t ⟨.d1, .d5, .d2⟩), none⟩,
      ⟨some ⟨.d1, .d5, .d4⟩, .load true 2 (.t ⟨.d1, .d5, .d3⟩), none⟩,
      ⟨some ⟨.d1, .d5, .d5⟩, .move (.t ⟨.d0, .d0, .d3⟩), none⟩,
      ⟨some ⟨.d1, .d5, .d6⟩, .call 20 [(.t ⟨.d1, .d5, .d4⟩), (.t ⟨.d1, .d5, .d5⟩)], none⟩,
      ⟨some ⟨.d1, .d5, .d1⟩, .move (.t ⟨.d1, .d5, .d6⟩), none⟩,
      ⟨some ⟨.d1, .d5, .d7⟩, .extract 0 (.t ⟨.d1, .d5, .d1⟩), none⟩,
      ⟨some ⟨.d1, .d6, .d0⟩, .extract 1 (.t ⟨.d1, .d5, .d1⟩), none⟩,
      ⟨some ⟨.d1, .d6, .d1⟩, .extract 2 (.t ⟨.d1, .d5, .d1⟩), none⟩,
      ⟨some ⟨.d0, .d2, .d4⟩, .alloc 6 [.int .i64 0, .int .u64 0], none⟩,
      ⟨none, .store 2 (.t ⟨.d0, .d2, .d4⟩) (.t ⟨.d1, .d5, .d7⟩), none⟩,
      ⟨some ⟨.d0, .d2, .d5⟩, .move (.t ⟨.d1, .d6, .d0⟩), none⟩,
      ⟨some ⟨.d0, .d2, .d6⟩, .move (.t ⟨.d1, .d6, .d1⟩), none⟩])
    (.seq (.seq (.region [⟨some ⟨.d1, .d6, .d2⟩, .move (.t ⟨.d0, .d2, .d6⟩), none⟩,
      ⟨some ⟨.d1, .d6, .d3⟩, .bin .neq (.t ⟨.d1, .d6, .d2⟩) (.c (.int .i64 0)), none⟩])
    (.cond (.t ⟨.d1, .d6, .d3⟩)
      (.seq (.region [⟨some ⟨.d1, .d6, .d4⟩, .load true 6 (.t ⟨.d0, .d0, .d5⟩), none⟩,
        ⟨some ⟨.d1, .d6, .d5⟩, .move (.t ⟨.d0, .d2, .d6⟩), none⟩,
        ⟨none, .store 6 (.t ⟨.d0, .d1, .d2⟩) (.t ⟨.d1, .d6, .d4⟩), none⟩,
        ⟨some ⟨.d0, .d1, .d3⟩, .move (.c (.int .i64 0)), none⟩,
        ⟨some ⟨.d0, .d1, .d4⟩, .move (.t ⟨.d1, .d6, .d5⟩), none⟩])
      (.ret))
      (.skip)))
    (.region [⟨some ⟨.d1, .d6, .d6⟩, .move (.t ⟨.d0, .d2, .d3⟩), none⟩,
      ⟨some ⟨.d1, .d6, .d7⟩, .load true 2 (.t ⟨.d0, .d2, .d4⟩), none⟩,
      ⟨some ⟨.d1, .d7, .d0⟩, .move (.t ⟨.d0, .d2, .d5⟩), none⟩,
      ⟨some ⟨.d1, .d7, .d1⟩, .nilCheck (.t ⟨.d1, .d6, .d6⟩), none⟩,
      ⟨none, .store 2 (.t ⟨.d1, .d7, .d1⟩) (.t ⟨.d1, .d6, .d7⟩), none⟩,
      ⟨some ⟨.d1, .d7, .d2⟩, .fieldAddr 3 (.t ⟨.d0, .d2, .d1⟩), none⟩,
      ⟨none, .store 1 (.t ⟨.d1, .d7, .d2⟩) (.t ⟨.d1, .d7, .d0⟩), none⟩])))))))
  (.seq (.region [⟨some ⟨.d1, .d7, .d3⟩, .fieldAddr 5 (.t ⟨.d0, .d2, .d0⟩), none⟩,
    ⟨some ⟨.d1, .d7, .d4⟩, .load false 1 (.t ⟨.d1, .d7, .d3⟩), none⟩,
    ⟨some ⟨.d1, .d7, .d5⟩, .load true 5 (.t ⟨.d0, .d2, .d1⟩), none⟩,
    ⟨some ⟨.d1, .d7, .d6⟩, .buildSlice 7 1 [.int .i64 0, .int .u32 0, .int .i64 0, .int .i64 0, .int .i64 0] [(0, (.t ⟨.d1, .d7, .d5⟩))], none⟩,
    ⟨some ⟨.d1, .d7, .d7⟩, .append 8 5 40 (.t ⟨.d1, .d7, .d4⟩) (.t ⟨.d1, .d7, .d6⟩), none⟩,
    ⟨some ⟨.d2, .d0, .d0⟩, .fieldAddr 5 (.t ⟨.d0, .d2, .d0⟩), none⟩,
    ⟨none, .store 1 (.t ⟨.d2, .d0, .d0⟩) (.t ⟨.d1, .d7, .d7⟩), none⟩])
  (.seq (.regionD [0, 0, 2, 1, 15, 31] [⟨some ⟨.d2, .d0, .d1⟩, .load true 6 (.t ⟨.d0, .d2, .d0⟩), none⟩,
    ⟨some ⟨.d2, .d0, .d2⟩, .fieldAddr 3 (.t ⟨.d0, .d2, .d1⟩), none⟩,
    ⟨some ⟨.d2, .d0, .d3⟩, .load false 1 (.t ⟨.d2, .d0, .d2⟩), none⟩,
    ⟨none, .store 6 (.t ⟨.d0, .d1, .d2⟩) (.t ⟨.d2, .d0, .d1⟩), none⟩,
    ⟨some ⟨.d0, .d1, .d3⟩, .move (.t ⟨.d2, .d0, .d3⟩), none⟩,
    ⟨some ⟨.d0, .d1, .d4⟩, .move (.c (.int .i64 0)), none⟩])
  (.ret)))))))))))))
def r_nat_Out : List XR := [.cell ⟨.d0, .d1, .d2⟩ true 6, .tmp ⟨.d0, .d1, .d3⟩, .tmp ⟨.d0, .d1, .d4⟩]
theorem ok_nat_Out : okC Tryd.prog Tryd.f5.ntmps (bodyOf Tryd.f5) x_nat_Out = true := by kernel_rfl
theorem okr_nat_Out : okRs Tryd.prog Tryd.f5.results.toList r_nat_Out = true := by kernel_rfl

/-- custref.NatOut -/
def x_custref_NatOut : XC :=
  .seq (.region [⟨some ⟨.d0, .d0, .d5⟩, .box 0 6 (.t ⟨.d0, .d0, .d0⟩), none⟩,
    ⟨some ⟨.d0, .d1, .d2⟩, .alloc 1 [.int .i64 0, .int .i64 0, .int .u64 0, .int .i64 0, .int .u64 0, .slice none 0 0], none⟩,
    ⟨some ⟨.d0, .d1, .d3⟩, .move (.c (.int .i64 0)), none⟩,
    ⟨some ⟨.d0, .d1, .d4⟩, .move (.c (.int .i64 0)), none⟩])
  (.seq (.seq (.region [⟨some ⟨.d0, .d3, .d0⟩, .load true 6 (.t ⟨.d0, .d0, .d5⟩), none⟩,
    ⟨some ⟨.d0, .d3, .d1⟩, .call 8 [(.t ⟨.d0, .d3, .d0⟩)], none⟩,
    ⟨some ⟨.d0, .d1, .d5⟩, .move (.t ⟨.d0, .d3, .d1⟩), none⟩])
  (.seq (.region [⟨some ⟨.d0, .d3, .d2⟩, .move (.t ⟨.d0, .d1, .d5⟩), none⟩,
    ⟨some ⟨.d0, .d3, .d3⟩, .bin .neq (.t ⟨.d0, .d3, .d2⟩) (.c (.int .i64 0)), none⟩])
  (.cond (.t ⟨.d0, .d3, .d3⟩)
    (.seq (.region [⟨some ⟨.d0, .d3, .d4⟩, .load true 6 (.t ⟨.d0, .d0, .d5⟩), none⟩,
      ⟨some ⟨.d0, .d3, .d5⟩, .move (.t ⟨.d0, .d1, .d5⟩), none⟩,
      ⟨none, .store 6 (.t ⟨.d0, .d1, .d2⟩) (.t ⟨.d0, .d3, .d4⟩), none⟩,
      ⟨some ⟨.d0, .d1, .d3⟩, .move (.c (.int .i64 0)), none⟩,
      ⟨some ⟨.d0, .d1, .d4⟩, .move (.t ⟨.d0, .d3, .d5⟩), none⟩])
    (.ret))
    (.skip))))
  (.seq (.seq (.region [⟨some ⟨.d0, .d3, .d6⟩, .move (.t ⟨.d0, .d0, .d1⟩), none⟩,
    ⟨some ⟨.d0, .d3, .d7⟩, .bin .neq (.t ⟨.d0, .d3, .d6⟩) (.c (.int .i64 17)), none⟩,
    ⟨some ⟨.d0, .d4, .d0⟩, .move (.t ⟨.d0, .d3, .d7⟩), none⟩,
    ⟨some ⟨.d0, .d4, .d1⟩, .move (.t ⟨.d0, .d0, .d1⟩), some (⟨.d0, .d4, .d0⟩, true)⟩,
    ⟨some ⟨.d0, .d4, .d2⟩, .bin .neq (.t ⟨.d0, .d4, .d1⟩) (.c (.int .i64 6)), some (⟨.d0, .d4, .d0⟩, true)⟩,
    ⟨some ⟨.d0, .d4, .d3⟩, .pick (.t ⟨.d0, .d4, .d0⟩) (.t ⟨.d0, .d4, .d2⟩) (.c (.bool false)), none⟩])
  (.cond (.t ⟨.d0, .d4, .d3⟩)
    (.seq (.region [⟨some ⟨.d0, .d4, .d4⟩, .load true 6 (.t ⟨.d0, .d0, .d5⟩), none⟩,
      ⟨none, .store 6 (.t ⟨.d0, .d1, .d2⟩) (.t ⟨.d0, .d4, .d4⟩), none⟩,
      ⟨some ⟨.d0, .d1, .d3⟩, .move (.c (.int .i64 0)), none⟩,
      ⟨some ⟨.d0, .d1, .d4⟩, .move (.c (.int .i64 7)), none⟩])
    (.ret))
    (.skip)))
  (.seq (.region [⟨some ⟨.d0, .d1, .d6⟩, .move (.c (.int .i64 0)), none⟩])
  (.seq (.seq (.region [⟨some ⟨.d0, .d4, .d5⟩, .fieldAddr 5 (.t ⟨.d0, .d0, .d5⟩), none⟩,
    ⟨some ⟨.d0, .d4, .d6⟩, .load false 1 (.t ⟨.d0, .d4, .d5⟩), none⟩,
    ⟨some ⟨.d0, .d4, .d7⟩, .len (.t ⟨.d0, .d4, .d6⟩), none⟩,
    ⟨some ⟨.d0, .d5, .d0⟩, .move (.c (.int .i64 0)), none⟩])
  (.block 0
    (.loop
      (.seq (.region [⟨some ⟨.d0, .d5, .d1⟩, .bin .lss (.t ⟨.d0, .d5, .d0⟩) (.t ⟨.d0, .d4, .d7⟩), none⟩])
      (.seq (.cond (.t ⟨.d0, .d5, .d1⟩)
        (.skip)
        (.exit 0))
      (.seq (.block 1
        (.seq (.region [⟨some ⟨.d0, .d5, .d2⟩, .indexSl 5 (.t ⟨.d0, .d4, .d6⟩) (.t ⟨.d0, .d5, .d0⟩), none⟩,
          ⟨some ⟨.d0, .d5, .d3⟩, .load true 5 (.t ⟨.d0, .d5, .d2⟩), none⟩,
          ⟨some ⟨.d0, .d2, .d0⟩, .alloc 2 [.int .i64 0, .int .u32 0, .int .i64 0, .int .i64 0, .int .i64 0], none⟩,
          ⟨none, .store 5 (.t ⟨.d0, .d2, .d0⟩) (.t ⟨.d0, .d5, .d3⟩), none⟩])
        (.region [⟨some ⟨.d0, .d5, .d4⟩, .fieldAddr 4 (.t ⟨.d0, .d2, .d0⟩), none⟩,
          ⟨some ⟨.d0, .d5, .d5⟩, .load false 1 (.t ⟨.d0, .d5, .d4⟩), none⟩,
          ⟨some ⟨.d0, .d1, .d6⟩, .move (.t ⟨.d0, .d5, .d5⟩), none⟩])))
      (.region [⟨some ⟨.d0, .d5, .d6⟩, .bin .add (.t ⟨.d0, .d5, .d0⟩) (.c (.int .i64 1)), none⟩,
        ⟨some ⟨.d0, .d5, .d0⟩, .move (.t ⟨.d0, .d5, .d6⟩), none⟩])))))))
  (.seq (.seq (.region [⟨some ⟨.d0, .d5, .d7⟩, .move (.t ⟨.d0, .d0, .d3⟩), none⟩,
    ⟨some ⟨.d0, .d6, .d0⟩, .call 21 [(.t ⟨.d0, .d5, .d7⟩), (.c (.int .i64 0)), (.c (.int .i64 65535))], none⟩,
    ⟨some ⟨.d0, .d6, .d1⟩, .un .not (.t ⟨.d0, .d6, .d0⟩), none⟩,
    ⟨some ⟨.d0, .d6, .d2⟩, .move (.t ⟨.d0, .d6, .d1⟩), none⟩,
    ⟨some ⟨.d0, .d6, .d3⟩, .move (.t ⟨.d0, .d0, .d4⟩), some (⟨.d0, .d6, .d2⟩, false)⟩,
    ⟨some ⟨.d0, .d6, .d4⟩, .move (.t ⟨.d0, .d1, .d6⟩), some (⟨.d0, .d6, .d2⟩, false)⟩,
    ⟨some ⟨.d0, .d6, .d5⟩, .call 21 [(.t ⟨.d0, .d6, .d3⟩), (.t ⟨.d0, .d6, .d4⟩), (.c (.int .i64 1099511627776))], some (⟨.d0, .d6, .d2⟩, false)⟩,
    ⟨some ⟨.d0, .d6, .d6⟩, .un .not (.t ⟨.d0, .d6, .d5⟩), some (⟨.d0, .d6, .d2⟩, false)⟩,
    ⟨some ⟨.d0, .d6, .d7⟩, .pick (.t ⟨.d0, .d6, .d2⟩) (.c (.bool true)) (.t ⟨.d0, .d6, .d6⟩), none⟩])
  (.cond (.t ⟨.d0, .d6, .d7⟩)
    (.seq (.region [⟨some ⟨.d0, .d7, .d0⟩, .load true 6 (.t ⟨.d0, .d0, .d5⟩), none⟩,
      ⟨none, .store 6 (.t ⟨.d0, .d1, .d2⟩) (.t ⟨.d0, .d7, .d0⟩), none⟩,
      ⟨some ⟨.d0, .d1, .d3⟩, .move (.c (.int .i64 0)), none⟩,
      ⟨some ⟨.d0, .d1, .d4⟩, .move (.c (.int .i64 1)), none⟩])
    (.ret))
    (.skip)))
  (.seq (.region [⟨some ⟨.d0, .d2, .d1⟩, .move (.c (.slice none 0 0)), none⟩])
  (.seq (.region [⟨some ⟨.d0, .d2, .d2⟩, .move (.c (.int .i64 (-1))), none⟩])
  (.seq (.seq (.region [⟨some ⟨.d0, .d7, .d1⟩, .fieldAddr 5 (.t ⟨.d0, .d0, .d5⟩), none⟩,
    ⟨some ⟨.d0, .d7, .d2⟩, .load false 1 (.t ⟨.d0, .d7, .d1⟩), none⟩,
    ⟨some ⟨.d0, .d7, .d3⟩, .len (.t ⟨.d0, .d7, .d2⟩), none⟩,
    ⟨some ⟨.d0, .d7, .d4⟩, .move (.c (.int .i64 0)), none⟩])
  (.block 2
    (.loop
      (.seq (.region [⟨some ⟨.d0, .d7, .d5⟩, .bin .lss (.t ⟨.d0, .d7, .d4⟩) (.t ⟨.d0, .d7, .d3⟩), none⟩])
      (.seq (.cond (.t ⟨.d0, .d7, .d5⟩)
        (.skip)
        (.exit 2))
      (.seq (.block 3
        (.seq (.region [⟨some ⟨.d0, .d7, .d6⟩, .indexSl 5 (.t ⟨.d0, .d7, .d2⟩) (.t ⟨.d0, .d7, .d4⟩), none⟩,
          ⟨some ⟨.d0, .d7, .d7⟩, .load true 5 (.t ⟨.d0, .d7, .d6⟩), none⟩,
          ⟨some ⟨.d0, .d2, .d4⟩, .alloc 3 [.int .i64 0, .int .u32 0, .int .i64 0, .int .i64 0, .int .i64 0], none⟩,
          ⟨none, .store 5 (.t ⟨.d0, .d2, .d4⟩) (.t ⟨.d0, .d7, .d7⟩), none⟩])
        (.block 4
          (.seq (.region [⟨some ⟨.d1, .d0, .d5⟩, .move (.t ⟨.d0, .d0, .d4⟩), none⟩,
            ⟨some ⟨.d1, .d0, .d6⟩, .fieldAddr 4 (.t ⟨.d0, .d2, .d4⟩), none⟩,
            ⟨some ⟨.d1, .d0, .d7⟩, .load false 1 (.t ⟨.d1, .d0, .d6⟩), none⟩,
            ⟨some ⟨.d1, .d1, .d0⟩, .bin .sub (.t ⟨.d1, .d0, .d5⟩) (.t ⟨.d1, .d0, .d7⟩), none⟩,
            ⟨some ⟨.d1, .d1, .d1⟩, .fieldAddr 0 (.t ⟨.d0, .d0, .d5⟩), none⟩,
            ⟨some ⟨.d1, .d1, .d2⟩, .load false 1 (.t ⟨.d1, .d1, .d1⟩), none⟩,
            ⟨some ⟨.d1, .d1, .d3⟩, .bin .gtr (.t ⟨.d1, .d1, .d0⟩) (.t ⟨.d1, .d1, .d2⟩), none⟩,
            ⟨some ⟨.d1, .d0, .d4⟩, .move (.t ⟨.d1, .d1, .d3⟩), none⟩])
          (.cond (.t ⟨.d1, .d0, .d4⟩)
            (.skip)
            (.seq (.region [⟨some ⟨.d1, .d1, .d5⟩, .fieldAddr 0 (.t ⟨.d0, .d2, .d4⟩), none⟩,
              ⟨some ⟨.d1, .d1, .d6⟩, .load false 1 (.t ⟨.d1, .d1, .d5⟩), none⟩,
              ⟨some ⟨.d1, .d1, .d7⟩, .move (.t ⟨.d0, .d0, .d1⟩), none⟩,
              ⟨some ⟨.d1, .d2, .d0⟩, .bin .eql (.t ⟨.d1, .d1, .d6⟩) (.t ⟨.d1, .d1, .d7⟩), none⟩,
              ⟨some ⟨.d1, .d2, .d1⟩, .move (.t ⟨.d1, .d2, .d0⟩), none⟩,
              ⟨some ⟨.d1, .d2, .d2⟩, .fieldAddr 1 (.t ⟨.d0, .d2, .d4⟩), some (⟨.d1, .d2, .d1⟩, true)⟩,
              ⟨some ⟨.d1, .d2, .d3⟩, .load false 1 (.t ⟨.d1, .d2, .d2⟩), some (⟨.d1, .d2, .d1⟩, true)⟩,
              ⟨some ⟨.d1, .d2, .d4⟩, .move (.t ⟨.d0, .d0, .d2⟩), some (⟨.d1, .d2, .d1⟩, true)⟩,
              ⟨some ⟨.d1, .d2, .d5⟩, .bin .eql (.t ⟨.d1, .d2, .d3⟩) (.t ⟨.d1, .d2, .d4⟩), some (⟨.d1, .d2, .d1⟩, true)⟩,
              ⟨some ⟨.d1, .d2, .d6⟩, .pick (.t ⟨.d1, .d2, .d1⟩) (.t ⟨.d1, .d2, .d5⟩) (.c (.bool false)), none⟩,
              ⟨some ⟨.d1, .d2, .d7⟩, .move (.t ⟨.d1, .d2, .d6⟩), none⟩,
              ⟨some ⟨.d1, .d3, .d0⟩, .fieldAddr 2 (.t ⟨.d0, .d2, .d4⟩), some (⟨.d1, .d2, .d7⟩, true)⟩,
              ⟨some ⟨.d1, .d3, .d1⟩, .load false 1 (.t ⟨.d1, .d3, .d0⟩), some (⟨.d1, .d2, .d7⟩, true)⟩,
              ⟨some ⟨.d1, .d3, .d2⟩, .move (.t ⟨.d0, .d0, .d3⟩), some (⟨.d1, .d2, .d7⟩, true)⟩,
              ⟨some ⟨.d1, .d3, .d3⟩, .bin .eql (.t ⟨.d1, .d3, .d1⟩) (.t ⟨.d1, .d3, .d2⟩), some (⟨.d1, .d2, .d7⟩, true)⟩,
              ⟨some ⟨.d1, .d3, .d4⟩, .pick (.t ⟨.d1, .d2, .d7⟩) (.t ⟨.d1, .d3, .d3⟩) (.c (.bool false)), none⟩,
              ⟨some ⟨.d1, .d1, .d4⟩, .move (.t ⟨.d1, .d3, .d4⟩), none⟩])
            (.cond (.t ⟨.d1, .d1, .d4⟩)
              (.region [⟨some ⟨.d1, .d3, .d5⟩, .fieldAddr 3 (.t ⟨.d0, .d2, .d4⟩), none⟩,
                ⟨some ⟨.d1, .d3, .d6⟩, .load false 1 (.t ⟨.d1, .d3, .d5⟩), none⟩,
                ⟨some ⟨.d0, .d2, .d2⟩, .move (.t ⟨.d1, .d3, .d6⟩), none⟩])
              (.region [⟨some ⟨.d1, .d0, .d0⟩, .move (.t ⟨.d0, .d2, .d1⟩), none⟩,
                ⟨some ⟨.d1, .d0, .d1⟩, .load true 5 (.t ⟨.d0, .d2, .d4⟩), none⟩,
                ⟨some ⟨.d1, .d0, .d2⟩, .buildSlice 4 1 [.int .i64 0, .int .u32 0, .int .i64 0, .int .i64 0, .int .i64 0] [(0, (.t ⟨.d1, .d0, .d1⟩))], none⟩,
                ⟨some ⟨.d1, .d0, .d3⟩, .append 5 5 40 (.t ⟨.d1, .d0, .d0⟩) (.t ⟨.d1, .d0, .d2⟩), none⟩,
                ⟨some ⟨.d0, .d2, .d1⟩, .move (.t ⟨.d1, .d0, .d3⟩), none⟩]))))))))
      (.region [⟨some ⟨.d1, .d3, .d7⟩, .bin .add (.t ⟨.d0, .d7, .d4⟩) (.c (.int .i64 1)), none⟩,
        ⟨some ⟨.d0, .d7, .d4⟩, .move (.t ⟨.d1, .d3, .d7⟩), none⟩])))))))
  (.seq (.region [⟨some ⟨.d1, .d4, .d0⟩, .load true 6 (.t ⟨.d0, .d0, .d5⟩), none⟩,
    ⟨some ⟨.d0, .d2, .d5⟩, .alloc 6 [.int .i64 0, .int .i64 0, .int .u64 0, .int .i64 0, .int .u64 0, .slice none 0 0], none⟩,
    ⟨none, .store 6 (.t ⟨.d0, .d2, .d5⟩) (.t ⟨.d1, .d4, .d0⟩), none⟩])
  (.seq (.seq (.region [⟨some ⟨.d1, .d4, .d1⟩, .move (.t ⟨.d0, .d2, .d2⟩), none⟩,
    ⟨some ⟨.d1, .d4, .d2⟩, .bin .lss (.t ⟨.d1, .d4, .d1⟩) (.c (.int .i64 0)), none⟩])
  (.cond (.t ⟨.d1, .d4, .d2⟩)
    (.seq (.region [⟨some ⟨.d1, .d4, .d3⟩, .fieldAddr 1 (.t ⟨.d0, .d0, .d5⟩), none⟩,
      ⟨some ⟨.d1, .d4, .d4⟩, .load true 2 (.t ⟨.d1, .d4, .d3⟩), none⟩,
      ⟨some ⟨.d1, .d4, .d5⟩, .move (.t ⟨.d0, .d2, .d1⟩), none⟩,
      ⟨some ⟨.d1, .d4, .d6⟩, .call 22 [(.t ⟨.d1, .d4, .d4⟩), (.t ⟨.d1, .d4, .d5⟩), (.c (.int .i64 17))], none⟩,
      ⟨some ⟨.d0, .d2, .d6⟩, .alloc 7 [.int .i64 0, .int .u64 0], none⟩,
      ⟨none, .store 2 (.t ⟨.d0, .d2, .d6⟩) (.t ⟨.d1, .d4, .d6⟩), none⟩])
    (.seq (.seq (.region [⟨some ⟨.d1, .d4, .d7⟩, .move (.t ⟨.d0, .d0, .d1⟩), none⟩,
      ⟨some ⟨.d1, .d5, .d0⟩, .bin .eql (.t ⟨.d1, .d4, .d7⟩) (.c (.int .i64 6)), none⟩])
    (.cond (.t ⟨.d1, .d5, .d0⟩)
      (.region [⟨some ⟨.d1, .d5, .d1⟩, .fieldAddr 3 (.t ⟨.d0, .d0, .d5⟩), none⟩,
        ⟨some ⟨.d1, .d5, .d2⟩, .load true 2 (.t ⟨.d1, .d5, .d1⟩), none⟩,
        ⟨some ⟨.d1, .d5, .d3⟩, .move (.t ⟨.d0, .d2, .d1⟩), none⟩,
        ⟨some ⟨.d1, .d5, .d4⟩, .call 22 [(.t ⟨.d1, .d5, .d2⟩), (.t ⟨.d1, .d5, .d3⟩), (.c (.int .i64 6))], none⟩,
        ⟨none, .store 2 (.t ⟨.d0, .d2, .d6⟩) (.t ⟨.d1, .d5, .d4⟩), none⟩])
      (.skip)))
    (.seq (.region [⟨some ⟨.d0, .d2, .d7⟩, .move (.c (.int .i64 0)), none⟩])
    (.seq (.region [⟨some ⟨.d1, .d5, .d6⟩, .load true 2 (.t ⟨.d0, .d2, .d6⟩), none⟩,
      ⟨some ⟨.d1, .d5, .d7⟩, .move (.t ⟨.d0, .d0, .d3⟩), none⟩,
      ⟨some ⟨.d1, .d6, .d0⟩, .call 23 [(.t ⟨.d1, .d5, .d6⟩), (.t ⟨.d1, .d5, .d7⟩)], none⟩,
      ⟨some ⟨.d1, .d5, .d5⟩, .move (.t ⟨.d1, .d6, .d0⟩), none⟩,
      ⟨some ⟨.d1, .d6, .d1⟩, .extract 0 (.t ⟨.d1, .d5, .d5⟩), none⟩,
      ⟨some ⟨.d1, .d6, .d2⟩, .extract 1 (.t ⟨.d1, .d5, .d5⟩), none⟩,
      ⟨some ⟨.d1, .d6, .d3⟩, .extract 2 (.t ⟨.d1, .d5, .d5⟩), none⟩,
      ⟨some ⟨.d0, .d2, .d2⟩, .move (.t ⟨.d1, .d6, .d2⟩), none⟩,
      ⟨some ⟨.d0, .d2, .d7⟩, .move (.t ⟨.d1, .d6, .d3⟩), none⟩])
    (.seq (.region [⟨some ⟨.d1, .d6, .d4⟩, .move (.t ⟨.d0, .d2, .d7⟩), none⟩,
      ⟨some ⟨.d1, .d6, .d5⟩, .bin .neq (.t ⟨.d1, .d6, .d4⟩) (.c (.int .i64 0)), none⟩])
    (.cond (.t ⟨.d1, .d6, .d5⟩)
      (.seq (.region [⟨some ⟨.d1, .d6, .d6⟩, .load true 6 (.t ⟨.d0, .d0, .d5⟩), none⟩,
        ⟨some ⟨.d1, .d6, .d7⟩, .move (.t ⟨.d0, .d2, .d7⟩), none⟩,
        ⟨none, .store 6 (.t ⟨.d0, .d1, .d2⟩) (.t ⟨.d1, .d6, .d6⟩), none⟩,
        ⟨some ⟨.d0, .d1, .d3⟩, .move (.c (.int .i64 0)), none⟩,
        ⟨some ⟨.d0, .d1, .d4⟩, .move (.t ⟨.d1, .d6, .d7⟩), none⟩])
      (.ret))
      (.skip)))))))
    (.skip)))
  (.seq (.region [⟨some ⟨.d1, .d7, .d0⟩, .move (.t ⟨.d0, .d2, .d1⟩), none⟩,
    ⟨some ⟨.d1, .d7, .d1⟩, .move (.t ⟨.d0, .d0, .d1⟩), none⟩,
    ⟨some ⟨.d1, .d7, .d2⟩, .move (.t ⟨.d0, .d0, .d2⟩), none⟩,
    ⟨some ⟨.d1, .d7, .d3⟩, .move (.t ⟨.d0, .d0, .d3⟩), none⟩,
    ⟨some ⟨.d1, .d7, .d4⟩, .move (.t ⟨.d0, .d2, .d2⟩), none⟩,
    ⟨some ⟨.d1, .d7, .d5⟩, .move (.t ⟨.d0, .d0, .d4⟩), none⟩,
    ⟨some ⟨.d1, .d7, .d6⟩, .build [.int .i64 0, .int .u32 0, .int .i64 0, .int .i64 0, .int .i64 0] [(0, 1, (.t ⟨.d1, .d7, .d1⟩)), (1, 1, (.t ⟨.d1, .d7, .d2⟩)), (2, 1, (.t ⟨.d1, .d7, .d3⟩)), (3, 1, (.t ⟨.d1, .d7, .d4⟩)), (4, 1, (.t ⟨.d1, .d7, .d5⟩))], none⟩,
    ⟨some ⟨.d1, .d7, .d7⟩, .buildSlice 8 1 [.int .i64 0, .int .u32 0, .int .i64 0, .int .i64 0, .int .i64 0] [(0, (.t ⟨.d1, .d7, .d6⟩))], none⟩,
    ⟨some ⟨.d2, .d0, .d0⟩, .append 9 5 40 (.t ⟨.d1, .d7, .d0⟩) (.t ⟨.d1, .d7, .d7⟩), none⟩,
    ⟨some ⟨.d2, .d0, .d1⟩, .fieldAddr 5 (.t ⟨.d0, .d2, .d5⟩), none⟩,
    ⟨none, .store 1 (.t ⟨.d2, .d0, .d1⟩) (.t ⟨.d2, .d0, .d0⟩), none⟩])
  (.seq (.regionD [0, 1, 0, 4, 15, 0, 32, 0, 128, 511, 415, 2047, 4095, 8191] [⟨some ⟨.d2, .d0, .d2⟩, .fieldAddr 1 (.t ⟨.d0, .d0, .d5⟩), none⟩,
    ⟨some ⟨.d2, .d0, .d3⟩, .load true 2 (.t ⟨.d2, .d0, .d2⟩), none⟩,
    ⟨some ⟨.d2, .d0, .d4⟩, .fieldAddr 5 (.t ⟨.d0, .d2, .d5⟩), none⟩,
    ⟨some ⟨.d2, .d0, .d5⟩, .load false 1 (.t ⟨.d2, .d0, .d4⟩), none⟩,
    ⟨some ⟨.d2, .d0, .d6⟩, .call 22 [(.t ⟨.d2, .d0, .d3⟩), (.t ⟨.d2, .d0, .d5⟩), (.c (.int .i64 17))], none⟩,
    ⟨some ⟨.d2, .d0, .d7⟩, .fieldAddr 3 (.t ⟨.d0, .d0, .d5⟩), none⟩,
    ⟨some ⟨.d2, .d1, .d0⟩, .load true 2 (.t ⟨.d2, .d0, .d7⟩), none⟩,
    ⟨some ⟨.d2, .d1, .d1⟩, .fieldAddr 5 (.t ⟨.d0, .d2, .d5⟩), none⟩,
    ⟨some ⟨.d2, .d1, .d2⟩, .load false 1 (.t ⟨.d2, .d1, .d1⟩), none⟩,
    ⟨some ⟨.d2, .d1, .d3⟩, .call 22 [(.t ⟨.d2, .d1, .d0⟩), (.t ⟨.d2, .d1, .d2⟩), (.c (.int .i64 6))], none⟩,
    ⟨some ⟨.d2, .d1, .d4⟩, .fieldAddr 1 (.t ⟨.d0, .d2, .d5⟩), none⟩,
    ⟨none, .store 2 (.t ⟨.d2, .d1, .d4⟩) (.t ⟨.d2, .d0, .d6⟩), none⟩,
    ⟨some ⟨.d2, .d1, .d5⟩, .fieldAddr 3 (.t ⟨.d0, .d2, .d5⟩), none⟩,
    ⟨none, .store 2 (.t ⟨.d2, .d1, .d5⟩) (.t ⟨.d2, .d1, .d3⟩), none⟩])
  (.seq (.region [⟨some ⟨.d2, .d1, .d6⟩, .load true 6 (.t ⟨.d0, .d2, .d5⟩), none⟩,
    ⟨some ⟨.d2, .d1, .d7⟩, .move (.t ⟨.d0, .d2, .d2⟩), none⟩,
    ⟨none, .store 6 (.t ⟨.d0, .d1, .d2⟩) (.t ⟨.d2, .d1, .d6⟩), none⟩,
    ⟨some ⟨.d0, .d1, .d3⟩, .move (.t ⟨.d2, .d1, .d7⟩), none⟩,
    ⟨some ⟨.d0, .d1, .d4⟩, .move (.c (.int .i64 0)), none⟩])
  (.ret))))))))))))))
def r_custref_NatOut : List XR := [.cell ⟨.d0, .d1, .d2⟩ true 6, .tmp ⟨.d0, .d1, .d3⟩, .tmp ⟨.d0, .d1, .d4⟩]
theorem ok_custref_NatOut : okC Tryd.prog Tryd.f6.ntmps (bodyOf Tryd.f6) x_custref_NatOut = true := by kernel_rfl
theorem okr_custref_NatOut : okRs Tryd.prog Tryd.f6.results.toList r_custref_NatOut = true := by kernel_rfl

/-- nat.Check -/
def x_nat_Check : XC :=
  .seq (.region [⟨some ⟨.d0, .d0, .d1⟩, .box 0 6 (.t ⟨.d0, .d0, .d0⟩), none⟩,
    ⟨some ⟨.d0, .d0, .d2⟩, .move (.c (.int .i64 0)), none⟩])
  (.seq (.seq (.region [⟨some ⟨.d0, .d1, .d3⟩, .fieldAddr 0 (.t ⟨.d0, .d0, .d1⟩), none⟩,
    ⟨some ⟨.d0, .d1, .d4⟩, .load false 1 (.t ⟨.d0, .d1, .d3⟩), none⟩,
    ⟨some ⟨.d0, .d1, .d5⟩, .bin .lss (.t ⟨.d0, .d1, .d4⟩) (.c (.int .i64 1)), none⟩,
    ⟨some ⟨.d0, .d1, .d6⟩, .move (.t ⟨.d0, .d1, .d5⟩), none⟩,
    ⟨some ⟨.d0, .d1, .d7⟩, .fieldAddr 0 (.t ⟨.d0, .d0, .d1⟩), some (⟨.d0, .d1, .d6⟩, false)⟩,
    ⟨some ⟨.d0, .d2, .d0⟩, .load false 1 (.t ⟨.d0, .d1, .d7⟩), some (⟨.d0, .d1, .d6⟩, false)⟩,
    ⟨some ⟨.d0, .d2, .d1⟩, .bin .gtr (.t ⟨.d0, .d2, .d0⟩) (.c (.int .i64 1000000)), some (⟨.d0, .d1, .d6⟩, false)⟩,
    ⟨some ⟨.d0, .d2, .d2⟩, .pick (.t ⟨.d0, .d1, .d6⟩) (.c (.bool true)) (.t ⟨.d0, .d2, .d1⟩), none⟩])
  (.cond (.t ⟨.d0, .d2, .d2⟩)
    (.seq (.region [⟨some ⟨.d0, .d0, .d2⟩, .move (.c (.int .i64 1)), none⟩])
    (.ret))
    (.skip)))
  (.seq (.seq (.regionD [0, 1, 3, 0, 8, 31, 63, 127] [⟨some ⟨.d0, .d2, .d3⟩, .fieldAddr 1 (.t ⟨.d0, .d0, .d1⟩), none⟩,
    ⟨some ⟨.d0, .d2, .d4⟩, .load true 2 (.t ⟨.d0, .d2, .d3⟩), none⟩,
    ⟨some ⟨.d0, .d2, .d5⟩, .call 24 [(.t ⟨.d0, .d2, .d4⟩)], none⟩,
    ⟨some ⟨.d0, .d2, .d6⟩, .fieldAddr 3 (.t ⟨.d0, .d0, .d1⟩), none⟩,
    ⟨some ⟨.d0, .d2, .d7⟩, .load true 2 (.t ⟨.d0, .d2, .d6⟩), none⟩,
    ⟨some ⟨.d0, .d3, .d0⟩, .call 24 [(.t ⟨.d0, .d2, .d7⟩)], none⟩,
    ⟨some ⟨.d0, .d3, .d1⟩, .maxI (.t ⟨.d0, .d2, .d5⟩) (.t ⟨.d0, .d3, .d0⟩), none⟩,
    ⟨some ⟨.d0, .d0, .d3⟩, .move (.t ⟨.d0, .d3, .d1⟩), none⟩])
  (.seq (.region [⟨some ⟨.d0, .d3, .d2⟩, .move (.t ⟨.d0, .d0, .d3⟩), none⟩,
    ⟨some ⟨.d0, .d3, .d3⟩, .bin .neq (.t ⟨.d0, .d3, .d2⟩) (.c (.int .i64 0)), none⟩])
  (.cond (.t ⟨.d0, .d3, .d3⟩)
    (.seq (.region [⟨some ⟨.d0, .d3, .d4⟩, .move (.t ⟨.d0, .d0, .d3⟩), none⟩,
      ⟨some ⟨.d0, .d0, .d2⟩, .move (.t ⟨.d0, .d3, .d4⟩), none⟩])
    (.ret))
    (.skip))))
  (.seq (.region [⟨some ⟨.d0, .d3, .d5⟩, .load true 6 (.t ⟨.d0, .d0, .d1⟩), none⟩,
    ⟨some ⟨.d0, .d0, .d4⟩, .alloc 1 [.int .i64 0, .int .i64 0, .int .u64 0, .int .i64 0, .int .u64 0, .slice none 0 0], none⟩,
    ⟨none, .store 6 (.t ⟨.d0, .d0, .d4⟩) (.t ⟨.d0, .d3, .d5⟩), none⟩])
  (.seq (.region [⟨some ⟨.d0, .d0, .d5⟩, .move (.c (.int .i64 0)), none⟩])
  (.seq (.seq (.region [⟨some ⟨.d0, .d3, .d6⟩, .fieldAddr 5 (.t ⟨.d0, .d0, .d1⟩), none⟩,
    ⟨some ⟨.d0, .d3, .d7⟩, .load false 1 (.t ⟨.d0, .d3, .d6⟩), none⟩,
    ⟨some ⟨.d0, .d4, .d0⟩, .len (.t ⟨.d0, .d3, .d7⟩), none⟩,
    ⟨some ⟨.d0, .d4, .d1⟩, .move (.c (.int .i64 0)), none⟩])
  (.block 0
    (.loop
      (.seq (.region [⟨some ⟨.d0, .d4, .d2⟩, .bin .lss (.t ⟨.d0, .d4, .d1⟩) (.t ⟨.d0, .d4, .d0⟩), none⟩])
      (.seq (.cond (.t ⟨.d0, .d4, .d2⟩)
        (.skip)
        (.exit 0))
      (.seq (.block 1
        (.seq (.region [⟨some ⟨.d0, .d4, .d3⟩, .move (.t ⟨.d0, .d4, .d1⟩), none⟩,
          ⟨some ⟨.d0, .d4, .d4⟩, .indexSl 5 (.t ⟨.d0, .d3, .d7⟩) (.t ⟨.d0, .d4, .d1⟩), none⟩,
          ⟨some ⟨.d0, .d4, .d5⟩, .load true 5 (.t ⟨.d0, .d4, .d4⟩), none⟩,
          ⟨some ⟨.d0, .d0, .d7⟩, .alloc 2 [.int .i64 0, .int .u32 0, .int .i64 0, .int .i64 0, .int .i64 0], none⟩,
          ⟨some ⟨.d0, .d0, .d6⟩, .move (.t ⟨.d0, .d4, .d3⟩), none⟩,
          ⟨none, .store 5 (.t ⟨.d0, .d0, .d7⟩) (.t ⟨.d0, .d4, .d5⟩), none⟩])
        (.seq (.region [⟨some ⟨.d0, .d4, .d6⟩, .fieldAddr 0 (.t ⟨.d0, .d0, .d7⟩), none⟩,
          ⟨some ⟨.d0, .d4, .d7⟩, .load false 1 (.t ⟨.d0, .d4, .d6⟩), none⟩,
          ⟨some ⟨.d0, .d5, .d0⟩, .call 19 [(.t ⟨.d0, .d0, .d4⟩), (.t ⟨.d0, .d4, .d7⟩)], none⟩,
          ⟨some ⟨.d0, .d1, .d0⟩, .move (.t ⟨.d0, .d5, .d0⟩), none⟩])
        (.seq (.seq (.region [⟨some ⟨.d0, .d5, .d1⟩, .move (.t ⟨.d0, .d1, .d0⟩), none⟩,
          ⟨some ⟨.d0, .d5, .d2⟩, .isnilP false (.t ⟨.d0, .d5, .d1⟩), none⟩,
          ⟨some ⟨.d0, .d5, .d3⟩, .move (.t ⟨.d0, .d5, .d2⟩), none⟩,
          ⟨some ⟨.d0, .d5, .d4⟩, .fieldAddr 2 (.t ⟨.d0, .d0, .d7⟩), some (⟨.d0, .d5, .d3⟩, false)⟩,
          ⟨some ⟨.d0, .d5, .d5⟩, .load false 1 (.t ⟨.d0, .d5, .d4⟩), some (⟨.d0, .d5, .d3⟩, false)⟩,
          ⟨some ⟨.d0, .d5, .d6⟩, .bin .lss (.t ⟨.d0, .d5, .d5⟩) (.c (.int .i64 0)), some (⟨.d0, .d5, .d3⟩, false)⟩,
          ⟨some ⟨.d0, .d5, .d7⟩, .pick (.t ⟨.d0, .d5, .d3⟩) (.c (.bool true)) (.t ⟨.d0, .d5, .d6⟩), none⟩,
          ⟨some ⟨.d0, .d6, .d0⟩, .move (.t ⟨.d0, .d5, .d7⟩), none⟩,
          ⟨some ⟨.d0, .d6, .d1⟩, .fieldAddr 2 (.t ⟨.d0, .d0, .d7⟩), some (⟨.d0, .d6, .d0⟩, false)⟩,
          ⟨some ⟨.d0, .d6, .d2⟩, .load false 1 (.t ⟨.d0, .d6, .d1⟩), some (⟨.d0, .d6, .d0⟩, false)⟩,
          ⟨some ⟨.d0, .d6, .d3⟩, .bin .gtr (.t ⟨.d0, .d6, .d2⟩) (.c (.int .i64 65535)), some (⟨.d0, .d6, .d0⟩, false)⟩,
          ⟨some ⟨.d0, .d6, .d4⟩, .pick (.t ⟨.d0, .d6, .d0⟩) (.c (.bool true)) (.t ⟨.d0, .d6, .d3⟩), none⟩,
          ⟨some ⟨.d0, .d6, .d5⟩, .move (.t ⟨.d0, .d6, .d4⟩), none⟩,
          ⟨some ⟨.d0, .d6, .d6⟩, .fieldAddr 4 (.t ⟨.d0, .d0, .d7⟩), some (⟨.d0, .d6, .d5⟩, false)⟩,
          ⟨some ⟨.d0, .d6, .d7⟩, .load false 1 (.t ⟨.d0, .d6, .d6⟩), some (⟨.d0, .d6, .d5⟩, false)⟩,
          ⟨some ⟨.d0, .d7, .d0⟩, .move (.t ⟨.d0, .d0, .d5⟩), some (⟨.d0, .d6, .d5⟩, false)⟩,
          ⟨some ⟨.d0, .d7, .d1⟩, .bin .lss (.t ⟨.d0, .d6, .d7⟩) (.t ⟨.d0, .d7, .d0⟩), some (⟨.d0, .d6, .d5⟩, false)⟩,
          ⟨some ⟨.d0, .d7, .d2⟩, .pick (.t ⟨.d0, .d6, .d5⟩) (.c (.bool true)) (.t ⟨.d0, .d7, .d1⟩), none⟩,
          ⟨some ⟨.d0, .d7, .d3⟩, .move (.t ⟨.d0, .d7, .d2⟩), none⟩,
          ⟨some ⟨.d0, .d7, .d4⟩, .fieldAddr 4 (.t ⟨.d0, .d0, .d7⟩), some (⟨.d0, .d7, .d3⟩, false)⟩,
          ⟨some ⟨.d0, .d7, .d5⟩, .load false 1 (.t ⟨.d0, .d7, .d4⟩), some (⟨.d0, .d7, .d3⟩, false)⟩,
          ⟨some ⟨.d0, .d7, .d6⟩, .bin .gtr (.t ⟨.d0, .d7, .d5⟩) (.c (.int .i64 1099511627776)), some (⟨.d0, .d7, .d3⟩, false)⟩,
          ⟨some ⟨.d0, .d7, .d7⟩, .pick (.t ⟨.d0, .d7, .d3⟩) (.c (.bool true)) (.t ⟨.d0, .d7, .d6⟩), none⟩,
          ⟨some ⟨.d1, .d0, .d0⟩, .move (.t ⟨.d0, .d7, .d7⟩), none⟩,
          ⟨some ⟨.d1, .d0, .d1⟩, .load true 6 (.t ⟨.d0, .d0, .d1⟩), some (⟨.d1, .d0, .d0⟩, false)⟩,
          ⟨some ⟨.d1, .d0, .d2⟩, .fieldAddr 0 (.t ⟨.d0, .d0, .d7⟩), some (⟨.d1, .d0, .d0⟩, false)⟩,
          ⟨some ⟨.d1, .d0, .d3⟩, .load false 1 (.t ⟨.d1, .d0, .d2⟩), some (⟨.d1, .d0, .d0⟩, false)⟩,
          ⟨some ⟨.d1, .d0, .d4⟩, .fieldAddr 1 (.t ⟨.d0, .d0, .d7⟩), some (⟨.d1, .d0, .d0⟩, false)⟩,
          ⟨some ⟨.d1, .d0, .d5⟩, .load false 1 (.t ⟨.d1, .d0, .d4⟩), some (⟨.d1, .d0, .d0⟩, false)⟩,
          ⟨some ⟨.d1, .d0, .d6⟩, .fieldAddr 2 (.t ⟨.d0, .d0, .d7⟩), some (⟨.d1, .d0, .d0⟩, false)⟩,
          ⟨some ⟨.d1, .d0, .d7⟩, .load false 1 (.t ⟨.d1, .d0, .d6⟩), some (⟨.d1, .d0, .d0⟩, false)⟩,
          ⟨some ⟨.d1, .d1, .d0⟩, .call 17 [(.t ⟨.d1, .d0, .d1⟩), (.t ⟨.d1, .d0, .d3⟩), (.t ⟨.d1, .d0, .d5⟩), (.t ⟨.d1, .d0, .d7⟩)], some (⟨.d1, .d0, .d0⟩, false)⟩,
          ⟨some ⟨.d1, .d1, .d1⟩, .move (.t ⟨.d0, .d0, .d6⟩), some (⟨.d1, .d0, .d0⟩, false)⟩,
          ⟨some ⟨.d1, .d1, .d2⟩, .bin .neq (.t ⟨.d1, .d1, .d0⟩) (.t ⟨.d1, .d1, .d1⟩), some (⟨.d1, .d0, .d0⟩, false)⟩,
          ⟨some ⟨.d1, .d1, .d3⟩, .pick (.t ⟨.d1, .d0, .d0⟩) (.c (.bool true)) (.t ⟨.d1, .d1, .d2⟩), none⟩])
        (.cond (.t ⟨.d1, .d1, .d3⟩)
          (.seq (.region [⟨some ⟨.d0, .d0, .d2⟩, .move (.c (.int .i64 4)), none⟩])
          (.ret))
          (.skip)))
        (.seq (.regionD [0, 1, 3, 0, 8, 31, 63, 127, 127, 0, 767, 2047] [⟨some ⟨.d1, .d1, .d5⟩, .move (.t ⟨.d0, .d1, .d0⟩), none⟩,
          ⟨some ⟨.d1, .d1, .d6⟩, .nilCheck (.t ⟨.d1, .d1, .d5⟩), none⟩,
          ⟨some ⟨.d1, .d1, .d7⟩, .load true 2 (.t ⟨.d1, .d1, .d6⟩), none⟩,
          ⟨some ⟨.d1, .d2, .d0⟩, .fieldAddr 3 (.t ⟨.d0, .d0, .d7⟩), none⟩,
          ⟨some ⟨.d1, .d2, .d1⟩, .load false 1 (.t ⟨.d1, .d2, .d0⟩), none⟩,
          ⟨some ⟨.d1, .d2, .d2⟩, .call 25 [(.t ⟨.d1, .d1, .d7⟩), (.t ⟨.d1, .d2, .d1⟩)], none⟩,
          ⟨some ⟨.d1, .d1, .d4⟩, .move (.t ⟨.d1, .d2, .d2⟩), none⟩,
          ⟨some ⟨.d1, .d2, .d3⟩, .extract 0 (.t ⟨.d1, .d1, .d4⟩), none⟩,
          ⟨some ⟨.d1, .d2, .d4⟩, .extract 1 (.t ⟨.d1, .d1, .d4⟩), none⟩,
          ⟨some ⟨.d0, .d1, .d1⟩, .alloc 3 [.int .i64 0, .int .u64 0], none⟩,
          ⟨none, .store 2 (.t ⟨.d0, .d1, .d1⟩) (.t ⟨.d1, .d2, .d3⟩), none⟩,
          ⟨some ⟨.d0, .d1, .d2⟩, .move (.t ⟨.d1, .d2, .d4⟩), none⟩])
        (.seq (.seq (.region [⟨some ⟨.d1, .d2, .d5⟩, .move (.t ⟨.d0, .d1, .d2⟩), none⟩,
          ⟨some ⟨.d1, .d2, .d6⟩, .bin .neq (.t ⟨.d1, .d2, .d5⟩) (.c (.int .i64 0)), none⟩])
        (.cond (.t ⟨.d1, .d2, .d6⟩)
          (.seq (.region [⟨some ⟨.d0, .d0, .d2⟩, .move (.c (.int .i64 4)), none⟩])
          (.ret))
          (.skip)))
        (.regionD [0, 0, 0, 4, 3, 19, 63] [⟨some ⟨.d1, .d2, .d7⟩, .move (.t ⟨.d0, .d1, .d0⟩), none⟩,
          ⟨some ⟨.d1, .d3, .d0⟩, .load true 2 (.t ⟨.d0, .d1, .d1⟩), none⟩,
          ⟨some ⟨.d1, .d3, .d1⟩, .fieldAddr 4 (.t ⟨.d0, .d0, .d7⟩), none⟩,
          ⟨some ⟨.d1, .d3, .d2⟩, .load false 1 (.t ⟨.d1, .d3, .d1⟩), none⟩,
          ⟨some ⟨.d1, .d3, .d3⟩, .nilCheck (.t ⟨.d1, .d2, .d7⟩), none⟩,
          ⟨none, .store 2 (.t ⟨.d1, .d3, .d3⟩) (.t ⟨.d1, .d3, .d0⟩), none⟩,
          ⟨some ⟨.d0, .d0, .d5⟩, .move (.t ⟨.d1, .d3, .d2⟩), none⟩])))))))
      (.region [⟨some ⟨.d1, .d3, .d4⟩, .bin .add (.t ⟨.d0, .d4, .d1⟩) (.c (.int .i64 1)), none⟩,
        ⟨some ⟨.d0, .d4, .d1⟩, .move (.t ⟨.d1, .d3, .d4⟩), none⟩])))))))
  (.seq (.seq (.region [⟨some ⟨.d1, .d3, .d5⟩, .fieldAddr 1 (.t ⟨.d0, .d0, .d4⟩), none⟩,
    ⟨some ⟨.d1, .d3, .d6⟩, .fieldAddr 1 (.t ⟨.d1, .d3, .d5⟩), none⟩,
    ⟨some ⟨.d1, .d3, .d7⟩, .load false 1 (.t ⟨.d1, .d3, .d6⟩), none⟩,
    ⟨some ⟨.d1, .d4, .d0⟩, .bin .neq (.t ⟨.d1, .d3, .d7⟩) (.c (.int .u64 0)), none⟩,
    ⟨some ⟨.d1, .d4, .d1⟩, .move (.t ⟨.d1, .d4, .d0⟩), none⟩,
    ⟨some ⟨.d1, .d4, .d2⟩, .fieldAddr 3 (.t ⟨.d0, .d0, .d4⟩), some (⟨.d1, .d4, .d1⟩, false)⟩,
    ⟨some ⟨.d1, .d4, .d3⟩, .fieldAddr 1 (.t ⟨.d1, .d4, .d2⟩), some (⟨.d1, .d4, .d1⟩, false)⟩,
    ⟨some ⟨.d1, .d4, .d4⟩, .load false 1 (.t ⟨.d1, .d4, .d3⟩), some (⟨.d1, .d4, .d1⟩, false)⟩,
    ⟨some ⟨.d1, .d4, .d5⟩, .bin .neq (.t ⟨.d1, .d4, .d4⟩) (.c (.int .u64 0)), some (⟨.d1, .d4, .d1⟩, false)⟩,
    ⟨some ⟨.d1, .d4, .d6⟩, .pick (.t ⟨.d1, .d4, .d1⟩) (.c (.bool true)) (.t ⟨.d1, .d4, .d5⟩), none⟩])
  (.cond (.t ⟨.d1, .d4, .d6⟩)
    (.seq (.region [⟨some ⟨.d0, .d0, .d2⟩, .move (.c (.int .i64 4)), none⟩])
    (.ret))
    (.skip)))
  (.seq (.region [⟨some ⟨.d0, .d0, .d2⟩, .move (.c (.int .i64 0)), none⟩])
  (.ret))))))))
def r_nat_Check : List XR := [.tmp ⟨.d0, .d0, .d2⟩]
theorem ok_nat_Check : okC Tryd.prog Tryd.f7.ntmps (bodyOf Tryd.f7) x_nat_Check = true := by kernel_rfl
theorem okr_nat_Check : okRs Tryd.prog Tryd.f7.results.toList r_nat_Check = true := by kernel_rfl

/-- custref.NatRight -/
def x_custref_NatRight : XC :=
  .seq (.region [⟨some ⟨.d0, .d0, .d1⟩, .box 0 6 (.t ⟨.d0, .d0, .d0⟩), none⟩,
    ⟨some ⟨.d0, .d0, .d2⟩, .move (.c (.int .i64 0)), none⟩])
  (.seq (.seq (.region [⟨some ⟨.d0, .d1, .d6⟩, .fieldAddr 0 (.t ⟨.d0, .d0, .d1⟩), none⟩,
    ⟨some ⟨.d0, .d1, .d7⟩, .load false 1 (.t ⟨.d0, .d1, .d6⟩), none⟩,
    ⟨some ⟨.d0, .d2, .d0⟩, .call 21 [(.t ⟨.d0, .d1, .d7⟩), (.c (.int .i64 1)), (.c (.int .i64 1000000))], none⟩,
    ⟨some ⟨.d0, .d2, .d1⟩, .un .not (.t ⟨.d0, .d2, .d0⟩), none⟩,
    ⟨some ⟨.d0, .d2, .d2⟩, .move (.t ⟨.d0, .d2, .d1⟩), none⟩,
    ⟨some ⟨.d0, .d2, .d3⟩, .fieldAddr 1 (.t ⟨.d0, .d0, .d1⟩), some (⟨.d0, .d2, .d2⟩, false)⟩,
    ⟨some ⟨.d0, .d2, .d4⟩, .load true 2 (.t ⟨.d0, .d2, .d3⟩), some (⟨.d0, .d2, .d2⟩, false)⟩,
    ⟨some ⟨.d0, .d2, .d5⟩, .call 26 [(.t ⟨.d0, .d2, .d4⟩)], some (⟨.d0, .d2, .d2⟩, false)⟩,
    ⟨some ⟨.d0, .d2, .d6⟩, .bin .neq (.t ⟨.d0, .d2, .d5⟩) (.c (.int .i64 0)), some (⟨.d0, .d2, .d2⟩, false)⟩,
    ⟨some ⟨.d0, .d2, .d7⟩, .pick (.t ⟨.d0, .d2, .d2⟩) (.c (.bool true)) (.t ⟨.d0, .d2, .d6⟩), none⟩,
    ⟨some ⟨.d0, .d3, .d0⟩, .move (.t ⟨.d0, .d2, .d7⟩), none⟩,
    ⟨some ⟨.d0, .d3, .d1⟩, .fieldAddr 3 (.t ⟨.d0, .d0, .d1⟩), some (⟨.d0, .d3, .d0⟩, false)⟩,
    ⟨some ⟨.d0, .d3, .d2⟩, .load true 2 (.t ⟨.d0, .d3, .d1⟩), some (⟨.d0, .d3, .d0⟩, false)⟩,
    ⟨some ⟨.d0, .d3, .d3⟩, .call 26 [(.t ⟨.d0, .d3, .d2⟩)], some (⟨.d0, .d3, .d0⟩, false)⟩,
    ⟨some ⟨.d0, .d3, .d4⟩, .bin .neq (.t ⟨.d0, .d3, .d3⟩) (.c (.int .i64 0)), some (⟨.d0, .d3, .d0⟩, false)⟩,
    ⟨some ⟨.d0, .d3, .d5⟩, .pick (.t ⟨.d0, .d3, .d0⟩) (.c (.bool true)) (.t ⟨.d0, .d3, .d4⟩), none⟩])
  (.cond (.t ⟨.d0, .d3, .d5⟩)
    (.seq (.region [⟨some ⟨.d0, .d0, .d2⟩, .move (.c (.int .i64 1)), none⟩])
    (.ret))
    (.skip)))
  (.seq (.region [⟨some ⟨.d0, .d3, .d6⟩, .makeMap 1, none⟩,
    ⟨some ⟨.d0, .d0, .d3⟩, .move (.t ⟨.d0, .d3, .d6⟩), none⟩])
  (.seq (.seq (.region [⟨some ⟨.d0, .d3, .d7⟩, .fieldAddr 5 (.t ⟨.d0, .d0, .d1⟩), none⟩,
    ⟨some ⟨.d0, .d4, .d0⟩, .load false 1 (.t ⟨.d0, .d3, .d7⟩), none⟩,
    ⟨some ⟨.d0, .d4, .d1⟩, .len (.t ⟨.d0, .d4, .d0⟩), none⟩,
    ⟨some ⟨.d0, .d4, .d2⟩, .move (.c (.int .i64 0)), none⟩])
  (.block 0
    (.loop
      (.seq (.region [⟨some ⟨.d0, .d4, .d3⟩, .bin .lss (.t ⟨.d0, .d4, .d2⟩) (.t ⟨.d0, .d4, .d1⟩), none⟩])
      (.seq (.cond (.t ⟨.d0, .d4, .d3⟩)
        (.skip)
        (.exit 0))
      (.seq (.block 1
        (.seq (.region [⟨some ⟨.d0, .d4, .d4⟩, .move (.t ⟨.d0, .d4, .d2⟩), none⟩,
          ⟨some ⟨.d0, .d4, .d5⟩, .indexSl 5 (.t ⟨.d0, .d4, .d0⟩) (.t ⟨.d0, .d4, .d2⟩), none⟩,
          ⟨some ⟨.d0, .d4, .d6⟩, .load true 5 (.t ⟨.d0, .d4, .d5⟩), none⟩,
          ⟨some ⟨.d0, .d0, .d5⟩, .alloc 2 [.int .i64 0, .int .u32 0, .int .i64 0, .int .i64 0, .int .i64 0], none⟩,
          ⟨some ⟨.d0, .d0, .d4⟩, .move (.t ⟨.d0, .d4, .d4⟩), none⟩,
          ⟨none, .store 5 (.t ⟨.d0, .d0, .d5⟩) (.t ⟨.d0, .d4, .d6⟩), none⟩])
        (.seq (.seq (.region [⟨some ⟨.d0, .d4, .d7⟩, .fieldAddr 0 (.t ⟨.d0, .d0, .d5⟩), none⟩,
          ⟨some ⟨.d0, .d5, .d0⟩, .load false 1 (.t ⟨.d0, .d4, .d7⟩), none⟩,
          ⟨some ⟨.d0, .d5, .d1⟩, .bin .neq (.t ⟨.d0, .d5, .d0⟩) (.c (.int .i64 17)), none⟩,
          ⟨some ⟨.d0, .d5, .d2⟩, .move (.t ⟨.d0, .d5, .d1⟩), none⟩,
          ⟨some ⟨.d0, .d5, .d3⟩, .fieldAddr 0 (.t ⟨.d0, .d0, .d5⟩), some (⟨.d0, .d5, .d2⟩, true)⟩,
          ⟨some ⟨.d0, .d5, .d4⟩, .load false 1 (.t ⟨.d0, .d5, .d3⟩), some (⟨.d0, .d5, .d2⟩, true)⟩,
          ⟨some ⟨.d0, .d5, .d5⟩, .bin .neq (.t ⟨.d0, .d5, .d4⟩) (.c (.int .i64 6)), some (⟨.d0, .d5, .d2⟩, true)⟩,
          ⟨some ⟨.d0, .d5, .d6⟩, .pick (.t ⟨.d0, .d5, .d2⟩) (.t ⟨.d0, .d5, .d5⟩) (.c (.bool false)), none⟩,
          ⟨some ⟨.d0, .d5, .d7⟩, .move (.t ⟨.d0, .d5, .d6⟩), none⟩,
          ⟨some ⟨.d0, .d6, .d0⟩, .fieldAddr 2 (.t ⟨.d0, .d0, .d5⟩), some (⟨.d0, .d5, .d7⟩, false)⟩,
          ⟨some ⟨.d0, .d6, .d1⟩, .load false 1 (.t ⟨.d0, .d6, .d0⟩), some (⟨.d0, .d5, .d7⟩, false)⟩,
          ⟨some ⟨.d0, .d6, .d2⟩, .call 21 [(.t ⟨.d0, .d6, .d1⟩), (.c (.int .i64 0)), (.c (.int .i64 65535))], some (⟨.d0, .d5, .d7⟩, false)⟩,
          ⟨some ⟨.d0, .d6, .d3⟩, .un .not (.t ⟨.d0, .d6, .d2⟩), some (⟨.d0, .d5, .d7⟩, false)⟩,
          ⟨some ⟨.d0, .d6, .d4⟩, .pick (.t ⟨.d0, .d5, .d7⟩) (.c (.bool true)) (.t ⟨.d0, .d6, .d3⟩), none⟩,
          ⟨some ⟨.d0, .d6, .d5⟩, .move (.t ⟨.d0, .d6, .d4⟩), none⟩,
          ⟨some ⟨.d0, .d6, .d6⟩, .fieldAddr 4 (.t ⟨.d0, .d0, .d5⟩), some (⟨.d0, .d6, .d5⟩, false)⟩,
          ⟨some ⟨.d0, .d6, .d7⟩, .load false 1 (.t ⟨.d0, .d6, .d6⟩), some (⟨.d0, .d6, .d5⟩, false)⟩,
          ⟨some ⟨.d0, .d7, .d0⟩, .call 21 [(.t ⟨.d0, .d6, .d7⟩), (.c (.int .i64 0)), (.c (.int .i64 1099511627776))], some (⟨.d0, .d6, .d5⟩, false)⟩,
          ⟨some ⟨.d0, .d7, .d1⟩, .un .not (.t ⟨.d0, .d7, .d0⟩), some (⟨.d0, .d6, .d5⟩, false)⟩,
          ⟨some ⟨.d0, .d7, .d2⟩, .pick (.t ⟨.d0, .d6, .d5⟩) (.c (.bool true)) (.t ⟨.d0, .d7, .d1⟩), none⟩])
        (.cond (.t ⟨.d0, .d7, .d2⟩)
          (.seq (.region [⟨some ⟨.d0, .d0, .d2⟩, .move (.c (.int .i64 4)), none⟩])
          (.ret))
          (.skip)))
        (.seq (.seq (.region [⟨some ⟨.d0, .d7, .d3⟩, .fieldAddr 5 (.t ⟨.d0, .d0, .d1⟩), none⟩,
          ⟨some ⟨.d0, .d7, .d4⟩, .load false 1 (.t ⟨.d0, .d7, .d3⟩), none⟩,
          ⟨some ⟨.d0, .d7, .d5⟩, .move (.t ⟨.d0, .d0, .d4⟩), none⟩,
          ⟨some ⟨.d0, .d7, .d6⟩, .slice 5 (.t ⟨.d0, .d7, .d4⟩) none (some (.t ⟨.d0, .d7, .d5⟩)) none, none⟩,
          ⟨some ⟨.d0, .d7, .d7⟩, .len (.t ⟨.d0, .d7, .d6⟩), none⟩,
          ⟨some ⟨.d1, .d0, .d0⟩, .move (.c (.int .i64 0)), none⟩])
        (.block 2
          (.loop
            (.seq (.region [⟨some ⟨.d1, .d0, .d1⟩, .bin .lss (.t ⟨.d1, .d0, .d0⟩) (.t ⟨.d0, .d7, .d7⟩), none⟩])
            (.seq (.cond (.t ⟨.d1, .d0, .d1⟩)
              (.skip)
              (.exit 2))
            (.seq (.block 3
              (.seq (.region [⟨some ⟨.d1, .d0, .d2⟩, .indexSl 5 (.t ⟨.d0, .d7, .d6⟩) (.t ⟨.d1, .d0, .d0⟩), none⟩,
                ⟨some ⟨.d1, .d0, .d3⟩, .load true 5 (.t ⟨.d1, .d0, .d2⟩), none⟩,
                ⟨some ⟨.d0, .d0, .d7⟩, .alloc 3 [.int .i64 0, .int .u32 0, .int .i64 0, .int .i64 0, .int .i64 0], none⟩,
                ⟨none, .store 5 (.t ⟨.d0, .d0, .d7⟩) (.t ⟨.d1, .d0, .d3⟩), none⟩])
              (.seq (.region [⟨some ⟨.d1, .d0, .d4⟩, .fieldAddr 4 (.t ⟨.d0, .d0, .d7⟩), none⟩,
                ⟨some ⟨.d1, .d0, .d5⟩, .load false 1 (.t ⟨.d1, .d0, .d4⟩), none⟩,
                ⟨some ⟨.d1, .d0, .d6⟩, .fieldAddr 4 (.t ⟨.d0, .d0, .d5⟩), none⟩,
                ⟨some ⟨.d1, .d0, .d7⟩, .load false 1 (.t ⟨.d1, .d0, .d6⟩), none⟩,
                ⟨some ⟨.d1, .d1, .d0⟩, .bin .gtr (.t ⟨.d1, .d0, .d5⟩) (.t ⟨.d1, .d0, .d7⟩), none⟩,
                ⟨some ⟨.d1, .d1, .d1⟩, .move (.t ⟨.d1, .d1, .d0⟩), none⟩,
                ⟨some ⟨.d1, .d1, .d2⟩, .fieldAddr 0 (.t ⟨.d0, .d0, .d7⟩), some (⟨.d1, .d1, .d1⟩, false)⟩,
                ⟨some ⟨.d1, .d1, .d3⟩, .load false 1 (.t ⟨.d1, .d1, .d2⟩), some (⟨.d1, .d1, .d1⟩, false)⟩,
                ⟨some ⟨.d1, .d1, .d4⟩, .fieldAddr 0 (.t ⟨.d0, .d0, .d5⟩), some (⟨.d1, .d1, .d1⟩, false)⟩,
                ⟨some ⟨.d1, .d1, .d5⟩, .load false 1 (.t ⟨.d1, .d1, .d4⟩), some (⟨.d1, .d1, .d1⟩, false)⟩,
                ⟨some ⟨.d1, .d1, .d6⟩, .bin .eql (.t ⟨.d1, .d1, .d3⟩) (.t ⟨.d1, .d1, .d5⟩), some (⟨.d1, .d1, .d1⟩, false)⟩,
                ⟨some ⟨.d1, .d1, .d7⟩, .move (.t ⟨.d1, .d1, .d6⟩), some (⟨.d1, .d1, .d1⟩, false)⟩,
                ⟨some ⟨.d1, .d2, .d0⟩, .fieldAddr 3 (.t ⟨.d0, .d0, .d7⟩), some (⟨.d1, .d1, .d7⟩, true)⟩,
                ⟨some ⟨.d1, .d2, .d1⟩, .load false 1 (.t ⟨.d1, .d2, .d0⟩), some (⟨.d1, .d1, .d7⟩, true)⟩,
                ⟨some ⟨.d1, .d2, .d2⟩, .fieldAddr 3 (.t ⟨.d0, .d0, .d5⟩), some (⟨.d1, .d1, .d7⟩, true)⟩,
                ⟨some ⟨.d1, .d2, .d3⟩, .load false 1 (.t ⟨.d1, .d2, .d2⟩), some (⟨.d1, .d1, .d7⟩, true)⟩,
                ⟨some ⟨.d1, .d2, .d4⟩, .bin .eql (.t ⟨.d1, .d2, .d1⟩) (.t ⟨.d1, .d2, .d3⟩), some (⟨.d1, .d1, .d7⟩, true)⟩,
                ⟨some ⟨.d1, .d2, .d5⟩, .move (.t ⟨.d1, .d2, .d4⟩), some (⟨.d1, .d1, .d7⟩, true)⟩,
                ⟨some ⟨.d1, .d2, .d6⟩, .fieldAddr 1 (.t ⟨.d0, .d0, .d7⟩), some (⟨.d1, .d2, .d5⟩, false)⟩,
                ⟨some ⟨.d1, .d2, .d7⟩, .load false 1 (.t ⟨.d1, .d2, .d6⟩), some (⟨.d1, .d2, .d5⟩, false)⟩,
                ⟨some ⟨.d1, .d3, .d0⟩, .fieldAddr 1 (.t ⟨.d0, .d0, .d5⟩), some (⟨.d1, .d2, .d5⟩, false)⟩,
                ⟨some ⟨.d1, .d3, .d1⟩, .load false 1 (.t ⟨.d1, .d3, .d0⟩), some (⟨.d1, .d2, .d5⟩, false)⟩,
                ⟨some ⟨.d1, .d3, .d2⟩, .bin .eql (.t ⟨.d1, .d2, .d7⟩) (.t ⟨.d1, .d3, .d1⟩), some (⟨.d1, .d2, .d5⟩, false)⟩,
                ⟨some ⟨.d1, .d3, .d3⟩, .move (.t ⟨.d1, .d3, .d2⟩), some (⟨.d1, .d2, .d5⟩, false)⟩,
                ⟨some ⟨.d1, .d3, .d4⟩, .fieldAddr 2 (.t ⟨.d0, .d0, .d7⟩), some (⟨.d1, .d3, .d3⟩, true)⟩,
                ⟨some ⟨.d1, .d3, .d5⟩, .load false 1 (.t ⟨.d1, .d3, .d4⟩), some (⟨.d1, .d3, .d3⟩, true)⟩,
                ⟨some ⟨.d1, .d3, .d6⟩, .fieldAddr 2 (.t ⟨.d0, .d0, .d5⟩), some (⟨.d1, .d3, .d3⟩, true)⟩,
                ⟨some ⟨.d1, .d3, .d7⟩, .load false 1 (.t ⟨.d1, .d3, .d6⟩), some (⟨.d1, .d3, .d3⟩, true)⟩,
                ⟨some ⟨.d1, .d4, .d0⟩, .bin .eql (.t ⟨.d1, .d3, .d5⟩) (.t ⟨.d1, .d3, .d7⟩), some (⟨.d1, .d3, .d3⟩, true)⟩,
                ⟨some ⟨.d1, .d4, .d1⟩, .pick (.t ⟨.d1, .d3, .d3⟩) (.t ⟨.d1, .d4, .d0⟩) (.c (.bool false)), some (⟨.d1, .d2, .d5⟩, false)⟩,
                ⟨some ⟨.d1, .d4, .d2⟩, .pick (.t ⟨.d1, .d2, .d5⟩) (.c (.bool true)) (.t ⟨.d1, .d4, .d1⟩), some (⟨.d1, .d1, .d7⟩, true)⟩,
                ⟨some ⟨.d1, .d4, .d3⟩, .pick (.t ⟨.d1, .d1, .d7⟩) (.t ⟨.d1, .d4, .d2⟩) (.c (.bool false)), some (⟨.d1, .d1, .d1⟩, false)⟩,
                ⟨some ⟨.d1, .d4, .d4⟩, .pick (.t ⟨.d1, .d1, .d1⟩) (.c (.bool true)) (.t ⟨.d1, .d4, .d3⟩), none⟩])
              (.cond (.t ⟨.d1, .d4, .d4⟩)
                (.seq (.region [⟨some ⟨.d0, .d0, .d2⟩, .move (.c (.int .i64 4)), none⟩])
                (.ret))
                (.skip)))))
            (.region [⟨some ⟨.d1, .d4, .d5⟩, .bin .add (.t ⟨.d1, .d0, .d0⟩) (.c (.int .i64 1)), none⟩,
              ⟨some ⟨.d1, .d0, .d0⟩, .move (.t ⟨.d1, .d4, .d5⟩), none⟩])))))))
        (.region [⟨some ⟨.d1, .d4, .d6⟩, .move (.t ⟨.d0, .d0, .d3⟩), none⟩,
          ⟨some ⟨.d1, .d4, .d7⟩, .fieldAddr 0 (.t ⟨.d0, .d0, .d5⟩), none⟩,
          ⟨some ⟨.d1, .d5, .d0⟩, .load false 1 (.t ⟨.d1, .d4, .d7⟩), none⟩,
          ⟨some ⟨.d1, .d5, .d1⟩, .fieldAddr 3 (.t ⟨.d0, .d0, .d5⟩), none⟩,
          ⟨some ⟨.d1, .d5, .d2⟩, .load false 1 (.t ⟨.d1, .d5, .d1⟩), none⟩,
          ⟨some ⟨.d1, .d5, .d3⟩, .build [.int .i64 0, .int .u32 0, .int .i64 0, .int .i64 0, .int .i64 0] [(0, 1, (.t ⟨.d1, .d5, .d0⟩)), (3, 1, (.t ⟨.d1, .d5, .d2⟩))], none⟩,
          ⟨none, .mput (.cells [.i64, .u32, .i64, .i64, .i64]) (.t ⟨.d1, .d4, .d6⟩) (.t ⟨.d1, .d5, .d3⟩) (.c (.int .i64 1)), none⟩])))))
      (.region [⟨some ⟨.d1, .d5, .d4⟩, .bin .add (.t ⟨.d0, .d4, .d2⟩) (.c (.int .i64 1)), none⟩,
        ⟨some ⟨.d0, .d4, .d2⟩, .move (.t ⟨.d1, .d5, .d4⟩), none⟩])))))))
  (.seq (.regionD [0, 1, 3, 0, 8, 31, 63, 127] [⟨some ⟨.d1, .d5, .d5⟩, .fieldAddr 1 (.t ⟨.d0, .d0, .d1⟩), none⟩,
    ⟨some ⟨.d1, .d5, .d6⟩, .load true 2 (.t ⟨.d1, .d5, .d5⟩), none⟩,
    ⟨some ⟨.d1, .d5, .d7⟩, .call 27 [(.t ⟨.d1, .d5, .d6⟩)], none⟩,
    ⟨some ⟨.d1, .d6, .d0⟩, .fieldAddr 3 (.t ⟨.d0, .d0, .d1⟩), none⟩,
    ⟨some ⟨.d1, .d6, .d1⟩, .load true 2 (.t ⟨.d1, .d6, .d0⟩), none⟩,
    ⟨some ⟨.d1, .d6, .d2⟩, .call 27 [(.t ⟨.d1, .d6, .d1⟩)], none⟩,
    ⟨some ⟨.d0, .d1, .d0⟩, .move (.t ⟨.d1, .d5, .d7⟩), none⟩,
    ⟨some ⟨.d0, .d1, .d1⟩, .move (.t ⟨.d1, .d6, .d2⟩), none⟩])
  (.seq (.seq (.region [⟨some ⟨.d1, .d6, .d3⟩, .move (.t ⟨.d0, .d0, .d3⟩), none⟩,
    ⟨some ⟨.d1, .d6, .d4⟩, .mlen (.cells [.i64, .u32, .i64, .i64, .i64]) (.t ⟨.d1, .d6, .d3⟩), none⟩,
    ⟨some ⟨.d1, .d6, .d5⟩, .move (.t ⟨.d0, .d1, .d0⟩), none⟩,
    ⟨some ⟨.d1, .d6, .d6⟩, .len (.t ⟨.d1, .d6, .d5⟩), none⟩,
    ⟨some ⟨.d1, .d6, .d7⟩, .move (.t ⟨.d0, .d1, .d1⟩), none⟩,
    ⟨some ⟨.d1, .d7, .d0⟩, .len (.t ⟨.d1, .d6, .d7⟩), none⟩,
    ⟨some ⟨.d1, .d7, .d1⟩, .bin .add (.t ⟨.d1, .d6, .d6⟩) (.t ⟨.d1, .d7, .d0⟩), none⟩,
    ⟨some ⟨.d1, .d7, .d2⟩, .bin .neq (.t ⟨.d1, .d6, .d4⟩) (.t ⟨.d1, .d7, .d1⟩), none⟩,
    ⟨some ⟨.d1, .d7, .d3⟩, .move (.t ⟨.d1, .d7, .d2⟩), none⟩,
    ⟨some ⟨.d1, .d7, .d4⟩, .fieldAddr 5 (.t ⟨.d0, .d0, .d1⟩), some (⟨.d1, .d7, .d3⟩, false)⟩,
    ⟨some ⟨.d1, .d7, .d5⟩, .load false 1 (.t ⟨.d1, .d7, .d4⟩), some (⟨.d1, .d7, .d3⟩, false)⟩,
    ⟨some ⟨.d1, .d7, .d6⟩, .len (.t ⟨.d1, .d7, .d5⟩), some (⟨.d1, .d7, .d3⟩, false)⟩,
    ⟨some ⟨.d1, .d7, .d7⟩, .move (.t ⟨.d0, .d0, .d3⟩), some (⟨.d1, .d7, .d3⟩, false)⟩,
    ⟨some ⟨.d2, .d0, .d0⟩, .mlen (.cells [.i64, .u32, .i64, .i64, .i64]) (.t ⟨.d1, .d7, .d7⟩), some (⟨.d1, .d7, .d3⟩, false)⟩,
    ⟨some ⟨.d2, .d0, .d1⟩, .bin .neq (.t ⟨.d1, .d7, .d6⟩) (.t ⟨.d2, .d0, .d0⟩), some (⟨.d1, .d7, .d3⟩, false)⟩,
    ⟨some ⟨.d2, .d0, .d2⟩, .pick (.t ⟨.d1, .d7, .d3⟩) (.c (.bool true)) (.t ⟨.d2, .d0, .d1⟩), none⟩])
  (.cond (.t ⟨.d2, .d0, .d2⟩)
    (.seq (.region [⟨some ⟨.d0, .d0, .d2⟩, .move (.c (.int .i64 4)), none⟩])
    (.ret))
    (.skip)))
  (.seq (.seq (.region [⟨some ⟨.d2, .d0, .d3⟩, .move (.t ⟨.d0, .d1, .d0⟩), none⟩,
    ⟨some ⟨.d2, .d0, .d4⟩, .len (.t ⟨.d2, .d0, .d3⟩), none⟩,
    ⟨some ⟨.d2, .d0, .d5⟩, .move (.c (.int .i64 0)), none⟩])
  (.block 4
    (.loop
      (.seq (.region [⟨some ⟨.d2, .d0, .d6⟩, .bin .lss (.t ⟨.d2, .d0, .d5⟩) (.t ⟨.d2, .d0, .d4⟩), none⟩])
      (.seq (.cond (.t ⟨.d2, .d0, .d6⟩)
        (.skip)
        (.exit 4))
      (.seq (.block 5
        (.seq (.region [⟨some ⟨.d2, .d0, .d7⟩, .indexSl 1 (.t ⟨.d2, .d0, .d3⟩) (.t ⟨.d2, .d0, .d5⟩), none⟩,
          ⟨some ⟨.d2, .d1, .d0⟩, .load false 1 (.t ⟨.d2, .d0, .d7⟩), none⟩,
          ⟨some ⟨.d0, .d1, .d3⟩, .move (.t ⟨.d2, .d1, .d0⟩), none⟩])
        (.seq (.region [⟨some ⟨.d2, .d1, .d1⟩, .move (.t ⟨.d0, .d0, .d3⟩), none⟩,
          ⟨some ⟨.d2, .d1, .d2⟩, .move (.t ⟨.d0, .d1, .d3⟩), none⟩,
          ⟨some ⟨.d2, .d1, .d3⟩, .build [.int .i64 0, .int .u32 0, .int .i64 0, .int .i64 0, .int .i64 0] [(0, 1, (.c (.int .i64 17))), (3, 1, (.t ⟨.d2, .d1, .d2⟩))], none⟩,
          ⟨some ⟨.d2, .d1, .d4⟩, .mget (.cells [.i64, .u32, .i64, .i64, .i64]) (.int .i64 0) (.t ⟨.d2, .d1, .d1⟩) (.t ⟨.d2, .d1, .d3⟩), none⟩,
          ⟨some ⟨.d2, .d1, .d5⟩, .bin .neq (.t ⟨.d2, .d1, .d4⟩) (.c (.int .i64 1)), none⟩])
        (.cond (.t ⟨.d2, .d1, .d5⟩)
          (.seq (.region [⟨some ⟨.d0, .d0, .d2⟩, .move (.c (.int .i64 4)), none⟩])
          (.ret))
          (.skip)))))
      (.region [⟨some ⟨.d2, .d1, .d6⟩, .bin .add (.t ⟨.d2, .d0, .d5⟩) (.c (.int .i64 1)), none⟩,
        ⟨some ⟨.d2, .d0, .d5⟩, .move (.t ⟨.d2, .d1, .d6⟩), none⟩])))))))
  (.seq (.seq (.region [⟨some ⟨.d2, .d1, .d7⟩, .move (.t ⟨.d0, .d1, .d1⟩), none⟩,
    ⟨some ⟨.d2, .d2, .d0⟩, .len (.t ⟨.d2, .d1, .d7⟩), none⟩,
    ⟨some ⟨.d2, .d2, .d1⟩, .move (.c (.int .i64 0)), none⟩])
  (.block 6
    (.loop
      (.seq (.region [⟨some ⟨.d2, .d2, .d2⟩, .bin .lss (.t ⟨.d2, .d2, .d1⟩) (.t ⟨.d2, .d2, .d0⟩), none⟩])
      (.seq (.cond (.t ⟨.d2, .d2, .d2⟩)
        (.skip)
        (.exit 6))
      (.seq (.block 7
        (.seq (.region [⟨some ⟨.d2, .d2, .d3⟩, .indexSl 1 (.t ⟨.d2, .d1, .d7⟩) (.t ⟨.d2, .d2, .d1⟩), none⟩,
          ⟨some ⟨.d2, .d2, .d4⟩, .load false 1 (.t ⟨.d2, .d2, .d3⟩), none⟩,
          ⟨some ⟨.d0, .d1, .d5⟩, .move (.t ⟨.d2, .d2, .d4⟩), none⟩])
        (.seq (.region [⟨some ⟨.d2, .d2, .d5⟩, .move (.t ⟨.d0, .d0, .d3⟩), none⟩,
          ⟨some ⟨.d2, .d2, .d6⟩, .move (.t ⟨.d0, .d1, .d5⟩), none⟩,
          ⟨some ⟨.d2, .d2, .d7⟩, .build [.int .i64 0, .int .u32 0, .int .i64 0, .int .i64 0, .int .i64 0] [(0, 1, (.c (.int .i64 6))), (3, 1, (.t ⟨.d2, .d2, .d6⟩))], none⟩,
          ⟨some ⟨.d2, .d3, .d0⟩, .mget (.cells [.i64, .u32, .i64, .i64, .i64]) (.int .i64 0) (.t ⟨.d2, .d2, .d5⟩) (.t ⟨.d2, .d2, .d7⟩), none⟩,
          ⟨some ⟨.d2, .d3, .d1⟩, .bin .neq (.t ⟨.d2, .d3, .d0⟩) (.c (.int .i64 1)), none⟩])
        (.cond (.t ⟨.d2, .d3, .d1⟩)
          (.seq (.region [⟨some ⟨.d0, .d0, .d2⟩, .move (.c (.int .i64 4)), none⟩])
          (.ret))
          (.skip)))))
      (.region [⟨some ⟨.d2, .d3, .d2⟩, .bin .add (.t ⟨.d2, .d2, .d1⟩) (.c (.int .i64 1)), none⟩,
        ⟨some ⟨.d2, .d2, .d1⟩, .move (.t ⟨.d2, .d3, .d2⟩), none⟩])))))))
  (.seq (.region [⟨some ⟨.d0, .d0, .d2⟩, .move (.c (.int .i64 0)), none⟩])
  (.ret)))))))))
def r_custref_NatRight : List XR := [.tmp ⟨.d0, .d0, .d2⟩]
theorem ok_custref_NatRight : okC Tryd.prog Tryd.f8.ntmps (bodyOf Tryd.f8) x_custref_NatRight = true := by kernel_rfl
theorem okr_custref_NatRight : okRs Tryd.prog Tryd.f8.results.toList r_custref_NatRight = true := by kernel_rfl

/-- custref.SameNat -/
def x_custref_SameNat : XC :=
  .seq (.region [⟨some ⟨.d0, .d0, .d2⟩, .box 0 6 (.t ⟨.d0, .d0, .d0⟩), none⟩,
    ⟨some ⟨.d0, .d0, .d3⟩, .box 1 6 (.t ⟨.d0, .d0, .d1⟩), none⟩,
    ⟨some ⟨.d0, .d0, .d4⟩, .move (.c (.bool false)), none⟩])
  (.seq (.region [⟨some ⟨.d0, .d0, .d5⟩, .fieldAddr 0 (.t ⟨.d0, .d0, .d2⟩), none⟩,
    ⟨some ⟨.d0, .d0, .d6⟩, .load false 1 (.t ⟨.d0, .d0, .d5⟩), none⟩,
    ⟨some ⟨.d0, .d0, .d7⟩, .fieldAddr 0 (.t ⟨.d0, .d0, .d3⟩), none⟩,
    ⟨some ⟨.d0, .d1, .d0⟩, .load false 1 (.t ⟨.d0, .d0, .d7⟩), none⟩,
    ⟨some ⟨.d0, .d1, .d1⟩, .bin .eql (.t ⟨.d0, .d0, .d6⟩) (.t ⟨.d0, .d1, .d0⟩), none⟩,
    ⟨some ⟨.d0, .d1, .d2⟩, .move (.t ⟨.d0, .d1, .d1⟩), none⟩,
    ⟨some ⟨.d0, .d1, .d3⟩, .fieldAddr 1 (.t ⟨.d0, .d0, .d2⟩), some (⟨.d0, .d1, .d2⟩, true)⟩,
    ⟨some ⟨.d0, .d1, .d4⟩, .load true 2 (.t ⟨.d0, .d1, .d3⟩), some (⟨.d0, .d1, .d2⟩, true)⟩,
    ⟨some ⟨.d0, .d1, .d5⟩, .fieldAddr 1 (.t ⟨.d0, .d0, .d3⟩), some (⟨.d0, .d1, .d2⟩, true)⟩,
    ⟨some ⟨.d0, .d1, .d6⟩, .load true 2 (.t ⟨.d0, .d1, .d5⟩), some (⟨.d0, .d1, .d2⟩, true)⟩,
    ⟨some ⟨.d0, .d1, .d7⟩, .eqs false [0, 0] (.t ⟨.d0, .d1, .d4⟩) (.t ⟨.d0, .d1, .d6⟩), some (⟨.d0, .d1, .d2⟩, true)⟩,
    ⟨some ⟨.d0, .d2, .d0⟩, .pick (.t ⟨.d0, .d1, .d2⟩) (.t ⟨.d0, .d1, .d7⟩) (.c (.bool false)), none⟩,
    ⟨some ⟨.d0, .d2, .d1⟩, .move (.t ⟨.d0, .d2, .d0⟩), none⟩,
    ⟨some ⟨.d0, .d2, .d2⟩, .fieldAddr 3 (.t ⟨.d0, .d0, .d2⟩), some (⟨.d0, .d2, .d1⟩, true)⟩,
    ⟨some ⟨.d0, .d2, .d3⟩, .load true 2 (.t ⟨.d0, .d2, .d2⟩), some (⟨.d0, .d2, .d1⟩, true)⟩,
    ⟨some ⟨.d0, .d2, .d4⟩, .fieldAddr 3 (.t ⟨.d0, .d0, .d3⟩), some (⟨.d0, .d2, .d1⟩, true)⟩,
    ⟨some ⟨.d0, .d2, .d5⟩, .load true 2 (.t ⟨.d0, .d2, .d4⟩), some (⟨.d0, .d2, .d1⟩, true)⟩,
    ⟨some ⟨.d0, .d2, .d6⟩, .eqs false [0, 0] (.t ⟨.d0, .d2, .d3⟩) (.t ⟨.d0, .d2, .d5⟩), some (⟨.d0, .d2, .d1⟩, true)⟩,
    ⟨some ⟨.d0, .d2, .d7⟩, .pick (.t ⟨.d0, .d2, .d1⟩) (.t ⟨.d0, .d2, .d6⟩) (.c (.bool false)), none⟩,
    ⟨some ⟨.d0, .d3, .d0⟩, .move (.t ⟨.d0, .d2, .d7⟩), none⟩,
    ⟨some ⟨.d0, .d3, .d1⟩, .fieldAddr 5 (.t ⟨.d0, .d0, .d2⟩), some (⟨.d0, .d3, .d0⟩, true)⟩,
    ⟨some ⟨.d0, .d3, .d2⟩, .load false 1 (.t ⟨.d0, .d3, .d1⟩), some (⟨.d0, .d3, .d0⟩, true)⟩,
    ⟨some ⟨.d0, .d3, .d3⟩, .fieldAddr 5 (.t ⟨.d0, .d0, .d3⟩), some (⟨.d0, .d3, .d0⟩, true)⟩,
    ⟨some ⟨.d0, .d3, .d4⟩, .load false 1 (.t ⟨.d0, .d3, .d3⟩), some (⟨.d0, .d3, .d0⟩, true)⟩,
    ⟨some ⟨.d0, .d3, .d5⟩, .call 28 [(.t ⟨.d0, .d3, .d2⟩), (.t ⟨.d0, .d3, .d4⟩)], some (⟨.d0, .d3, .d0⟩, true)⟩,
    ⟨some ⟨.d0, .d3, .d6⟩, .pick (.t ⟨.d0, .d3, .d0⟩) (.t ⟨.d0, .d3, .d5⟩) (.c (.bool false)), none⟩,
    ⟨some ⟨.d0, .d0, .d4⟩, .move (.t ⟨.d0, .d3, .d6⟩), none⟩])
  (.ret))
def r_custref_SameNat : List XR := [.tmp ⟨.d0, .d0, .d4⟩]
theorem ok_custref_SameNat : okC Tryd.prog Tryd.f9.ntmps (bodyOf Tryd.f9) x_custref_SameNat = true := by kernel_rfl
theorem okr_custref_SameNat : okRs Tryd.prog Tryd.f9.results.toList r_custref_SameNat = true := by kernel_rfl

/-- slices.Clone -/
def x_slices_Clone_api_Map : XC :=
  .seq (.region [⟨some ⟨.d0, .d0, .d2⟩, .move (.c (.slice none 0 0)), none⟩])
  (.seq (.seq (.region [⟨some ⟨.d0, .d0, .d3⟩, .move (.t ⟨.d0, .d0, .d0⟩), none⟩,
    ⟨some ⟨.d0, .d0, .d4⟩, .isnil false (.t ⟨.d0, .d0, .d3⟩), none⟩])
  (.cond (.t ⟨.d0, .d0, .d4⟩)
    (.seq (.region [⟨some ⟨.d0, .d0, .d2⟩, .move (.c (.slice none 0 0)), none⟩])
    (.ret))
    (.skip)))
  (.seq (.region [⟨some ⟨.d0, .d0, .d5⟩, .buildSlice 0 0 [.int .i64 0, .int .u32 0, .int .i64 0, .int .i64 0, .int .i64 0] [], none⟩,
    ⟨some ⟨.d0, .d0, .d6⟩, .move (.t ⟨.d0, .d0, .d0⟩), none⟩,
    ⟨some ⟨.d0, .d0, .d7⟩, .append 1 5 40 (.t ⟨.d0, .d0, .d5⟩) (.t ⟨.d0, .d0, .d6⟩), none⟩,
    ⟨some ⟨.d0, .d0, .d2⟩, .move (.t ⟨.d0, .d0, .d7⟩), none⟩])
  (.ret)))
def r_slices_Clone_api_Map : List XR := [.tmp ⟨.d0, .d0, .d2⟩]
theorem ok_slices_Clone_api_Map : okC Tryd.prog Tryd.f15.ntmps (bodyOf Tryd.f15) x_slices_Clone_api_Map = true := by kernel_rfl
theorem okr_slices_Clone_api_Map : okRs Tryd.prog Tryd.f15.results.toList r_slices_Clone_api_Map = true := by kernel_rfl

/-- nat.expire -/
def x_nat_expire : XC :=
  .seq (.region [⟨some ⟨.d0, .d0, .d4⟩, .move (.c (.int .i64 0)), none⟩])
  (.seq (.block 0
    (.loop
      (.seq (.seq (.regionD [0, 0, 2, 6, 14, 30, 63, 127, 255, 255, 767, 1791, 3839, 255, 16127, 32511, 65279, 131071, 255, 262399, 786687, 1835263, 4194303, 8388607] [⟨some ⟨.d0, .d0, .d6⟩, .move (.t ⟨.d0, .d0, .d4⟩), none⟩,
        ⟨some ⟨.d0, .d0, .d7⟩, .move (.t ⟨.d0, .d0, .d0⟩), none⟩,
        ⟨some ⟨.d0, .d1, .d0⟩, .nilCheck (.t ⟨.d0, .d0, .d7⟩), none⟩,
        ⟨some ⟨.d0, .d1, .d1⟩, .fieldAddr 5 (.t ⟨.d0, .d1, .d0⟩), none⟩,
        ⟨some ⟨.d0, .d1, .d2⟩, .load false 1 (.t ⟨.d0, .d1, .d1⟩), none⟩,
        ⟨some ⟨.d0, .d1, .d3⟩, .len (.t ⟨.d0, .d1, .d2⟩), none⟩,
        ⟨some ⟨.d0, .d1, .d4⟩, .bin .lss (.t ⟨.d0, .d0, .d6⟩) (.t ⟨.d0, .d1, .d3⟩), none⟩,
        ⟨some ⟨.d0, .d1, .d5⟩, .move (.t ⟨.d0, .d1, .d4⟩), none⟩,
        ⟨some ⟨.d0, .d1, .d6⟩, .move (.t ⟨.d0, .d0, .d1⟩), some (⟨.d0, .d1, .d5⟩, true)⟩,
        ⟨some ⟨.d0, .d1, .d7⟩, .move (.t ⟨.d0, .d0, .d0⟩), some (⟨.d0, .d1, .d5⟩, true)⟩,
        ⟨some ⟨.d0, .d2, .d0⟩, .nilCheck (.t ⟨.d0, .d1, .d7⟩), some (⟨.d0, .d1, .d5⟩, true)⟩,
        ⟨some ⟨.d0, .d2, .d1⟩, .fieldAddr 5 (.t ⟨.d0, .d2, .d0⟩), some (⟨.d0, .d1, .d5⟩, true)⟩,
        ⟨some ⟨.d0, .d2, .d2⟩, .load false 1 (.t ⟨.d0, .d2, .d1⟩), some (⟨.d0, .d1, .d5⟩, true)⟩,
        ⟨some ⟨.d0, .d2, .d3⟩, .move (.t ⟨.d0, .d0, .d4⟩), some (⟨.d0, .d1, .d5⟩, true)⟩,
        ⟨some ⟨.d0, .d2, .d4⟩, .indexSl 5 (.t ⟨.d0, .d2, .d2⟩) (.t ⟨.d0, .d2, .d3⟩), some (⟨.d0, .d1, .d5⟩, true)⟩,
        ⟨some ⟨.d0, .d2, .d5⟩, .fieldAddr 4 (.t ⟨.d0, .d2, .d4⟩), some (⟨.d0, .d1, .d5⟩, true)⟩,
        ⟨some ⟨.d0, .d2, .d6⟩, .load false 1 (.t ⟨.d0, .d2, .d5⟩), some (⟨.d0, .d1, .d5⟩, true)⟩,
        ⟨some ⟨.d0, .d2, .d7⟩, .bin .sub (.t ⟨.d0, .d1, .d6⟩) (.t ⟨.d0, .d2, .d6⟩), some (⟨.d0, .d1, .d5⟩, true)⟩,
        ⟨some ⟨.d0, .d3, .d0⟩, .move (.t ⟨.d0, .d0, .d0⟩), some (⟨.d0, .d1, .d5⟩, true)⟩,
        ⟨some ⟨.d0, .d3, .d1⟩, .nilCheck (.t ⟨.d0, .d3, .d0⟩), some (⟨.d0, .d1, .d5⟩, true)⟩,
        ⟨some ⟨.d0, .d3, .d2⟩, .fieldAddr 0 (.t ⟨.d0, .d3, .d1⟩), some (⟨.d0, .d1, .d5⟩, true)⟩,
        ⟨some ⟨.d0, .d3, .d3⟩, .load false 1 (.t ⟨.d0, .d3, .d2⟩), some (⟨.d0, .d1, .d5⟩, true)⟩,
        ⟨some ⟨.d0, .d3, .d4⟩, .bin .gtr (.t ⟨.d0, .d2, .d7⟩) (.t ⟨.d0, .d3, .d3⟩), some (⟨.d0, .d1, .d5⟩, true)⟩,
        ⟨some ⟨.d0, .d3, .d5⟩, .pick (.t ⟨.d0, .d1, .d5⟩) (.t ⟨.d0, .d3, .d4⟩) (.c (.bool false)), none⟩])
      (.cond (.t ⟨.d0, .d3, .d5⟩)
        (.skip)
        (.exit 0)))
      (.block 1
        (.seq (.region [⟨some ⟨.d0, .d3, .d6⟩, .move (.t ⟨.d0, .d0, .d0⟩), none⟩,
          ⟨some ⟨.d0, .d3, .d7⟩, .move (.t ⟨.d0, .d0, .d0⟩), none⟩,
          ⟨some ⟨.d0, .d4, .d0⟩, .nilCheck (.t ⟨.d0, .d3, .d7⟩), none⟩,
          ⟨some ⟨.d0, .d4, .d1⟩, .fieldAddr 5 (.t ⟨.d0, .d4, .d0⟩), none⟩,
          ⟨some ⟨.d0, .d4, .d2⟩, .load false 1 (.t ⟨.d0, .d4, .d1⟩), none⟩,
          ⟨some ⟨.d0, .d4, .d3⟩, .move (.t ⟨.d0, .d0, .d4⟩), none⟩,
          ⟨some ⟨.d0, .d4, .d4⟩, .indexSl 5 (.t ⟨.d0, .d4, .d2⟩) (.t ⟨.d0, .d4, .d3⟩), none⟩,
          ⟨some ⟨.d0, .d4, .d5⟩, .fieldAddr 0 (.t ⟨.d0, .d4, .d4⟩), none⟩,
          ⟨some ⟨.d0, .d4, .d6⟩, .load false 1 (.t ⟨.d0, .d4, .d5⟩), none⟩,
          ⟨some ⟨.d0, .d4, .d7⟩, .call 19 [(.t ⟨.d0, .d3, .d6⟩), (.t ⟨.d0, .d4, .d6⟩)], none⟩,
          ⟨some ⟨.d0, .d0, .d5⟩, .move (.t ⟨.d0, .d4, .d7⟩), none⟩])
        (.seq (.regionD [0, 0, 2, 6, 0, 16, 48, 112, 0, 496, 1008, 2032, 4094, 8190, 16382, 16382, 32767, 98303] [⟨some ⟨.d0, .d5, .d1⟩, .move (.t ⟨.d0, .d0, .d5⟩), none⟩,
          ⟨some ⟨.d0, .d5, .d2⟩, .move (.t ⟨.d0, .d0, .d5⟩), none⟩,
          ⟨some ⟨.d0, .d5, .d3⟩, .nilCheck (.t ⟨.d0, .d5, .d2⟩), none⟩,
          ⟨some ⟨.d0, .d5, .d4⟩, .load true 2 (.t ⟨.d0, .d5, .d3⟩), none⟩,
          ⟨some ⟨.d0, .d5, .d5⟩, .move (.t ⟨.d0, .d0, .d0⟩), none⟩,
          ⟨some ⟨.d0, .d5, .d6⟩, .nilCheck (.t ⟨.d0, .d5, .d5⟩), none⟩,
          ⟨some ⟨.d0, .d5, .d7⟩, .fieldAddr 5 (.t ⟨.d0, .d5, .d6⟩), none⟩,
          ⟨some ⟨.d0, .d6, .d0⟩, .load false 1 (.t ⟨.d0, .d5, .d7⟩), none⟩,
          ⟨some ⟨.d0, .d6, .d1⟩, .move (.t ⟨.d0, .d0, .d4⟩), none⟩,
          ⟨some ⟨.d0, .d6, .d2⟩, .indexSl 5 (.t ⟨.d0, .d6, .d0⟩) (.t ⟨.d0, .d6, .d1⟩), none⟩,
          ⟨some ⟨.d0, .d6, .d3⟩, .fieldAddr 3 (.t ⟨.d0, .d6, .d2⟩), none⟩,
          ⟨some ⟨.d0, .d6, .d4⟩, .load false 1 (.t ⟨.d0, .d6, .d3⟩), none⟩,
          ⟨some ⟨.d0, .d6, .d5⟩, .call 25 [(.t ⟨.d0, .d5, .d4⟩), (.t ⟨.d0, .d6, .d4⟩)], none⟩,
          ⟨some ⟨.d0, .d5, .d0⟩, .move (.t ⟨.d0, .d6, .d5⟩), none⟩,
          ⟨some ⟨.d0, .d6, .d6⟩, .extract 0 (.t ⟨.d0, .d5, .d0⟩), none⟩,
          ⟨some ⟨.d0, .d6, .d7⟩, .extract 1 (.t ⟨.d0, .d5, .d0⟩), none⟩,
          ⟨some ⟨.d0, .d7, .d0⟩, .nilCheck (.t ⟨.d0, .d5, .d1⟩), none⟩,
          ⟨none, .store 2 (.t ⟨.d0, .d7, .d0⟩) (.t ⟨.d0, .d6, .d6⟩), none⟩])
        (.region [⟨some ⟨.d0, .d7, .d1⟩, .move (.t ⟨.d0, .d0, .d4⟩), none⟩,
          ⟨some ⟨.d0, .d7, .d2⟩, .bin .add (.t ⟨.d0, .d7, .d1⟩) (.c (.int .i64 1)), none⟩,
          ⟨some ⟨.d0, .d0, .d4⟩, .move (.t ⟨.d0, .d7, .d2⟩), none⟩])))))))
  (.region [⟨some ⟨.d0, .d7, .d3⟩, .move (.t ⟨.d0, .d0, .d0⟩), none⟩,
    ⟨some ⟨.d0, .d7, .d4⟩, .move (.t ⟨.d0, .d0, .d0⟩), none⟩,
    ⟨some ⟨.d0, .d7, .d5⟩, .nilCheck (.t ⟨.d0, .d7, .d4⟩), none⟩,
    ⟨some ⟨.d0, .d7, .d6⟩, .fieldAddr 5 (.t ⟨.d0, .d7, .d5⟩), none⟩,
    ⟨some ⟨.d0, .d7, .d7⟩, .load false 1 (.t ⟨.d0, .d7, .d6⟩), none⟩,
    ⟨some ⟨.d1, .d0, .d0⟩, .move (.t ⟨.d0, .d0, .d4⟩), none⟩,
    ⟨some ⟨.d1, .d0, .d1⟩, .call 18 [(.t ⟨.d0, .d7, .d7⟩), (.c (.int .i64 0)), (.t ⟨.d1, .d0, .d0⟩)], none⟩,
    ⟨some ⟨.d1, .d0, .d2⟩, .nilCheck (.t ⟨.d0, .d7, .d3⟩), none⟩,
    ⟨some ⟨.d1, .d0, .d3⟩, .fieldAddr 5 (.t ⟨.d1, .d0, .d2⟩), none⟩,
    ⟨none, .store 1 (.t ⟨.d1, .d0, .d3⟩) (.t ⟨.d1, .d0, .d1⟩), none⟩]))
def r_nat_expire : List XR := []
theorem ok_nat_expire : okC Tryd.prog Tryd.f16.ntmps (bodyOf Tryd.f16) x_nat_expire = true := by kernel_rfl
theorem okr_nat_expire : okRs Tryd.prog Tryd.f16.results.toList r_nat_expire = true := by kernel_rfl

/-- nat.within -/
def x_nat_within : XC :=
  .seq (.region [⟨some ⟨.d0, .d0, .d4⟩, .box 0 6 (.t ⟨.d0, .d0, .d0⟩), none⟩,
    ⟨some ⟨.d0, .d0, .d5⟩, .box 1 1 (.t ⟨.d0, .d0, .d1⟩), none⟩,
    ⟨some ⟨.d0, .d0, .d6⟩, .box 2 1 (.t ⟨.d0, .d0, .d2⟩), none⟩,
    ⟨some ⟨.d0, .d0, .d7⟩, .box 3 1 (.t ⟨.d0, .d0, .d3⟩), none⟩,
    ⟨some ⟨.d0, .d1, .d0⟩, .move (.c (.int .i64 0)), none⟩])
  (.seq (.region [⟨some ⟨.d0, .d1, .d1⟩, .fieldAddr 5 (.t ⟨.d0, .d0, .d4⟩), none⟩,
    ⟨some ⟨.d0, .d1, .d2⟩, .load false 1 (.t ⟨.d0, .d1, .d1⟩), none⟩,
    ⟨some ⟨.d0, .d1, .d3⟩, .mkfn 34 [] [(.t ⟨.d0, .d0, .d5⟩), (.t ⟨.d0, .d0, .d6⟩), (.t ⟨.d0, .d0, .d7⟩)], none⟩,
    ⟨some ⟨.d0, .d1, .d4⟩, .call 33 [(.t ⟨.d0, .d1, .d2⟩), (.t ⟨.d0, .d1, .d3⟩)], none⟩,
    ⟨some ⟨.d0, .d1, .d0⟩, .move (.t ⟨.d0, .d1, .d4⟩), none⟩])
  (.ret))
def r_nat_within : List XR := [.tmp ⟨.d0, .d1, .d0⟩]
theorem ok_nat_within : okC Tryd.prog Tryd.f17.ntmps (bodyOf Tryd.f17) x_nat_within = true := by kernel_rfl
theorem okr_nat_within : okRs Tryd.prog Tryd.f17.results.toList r_nat_within = true := by kernel_rfl

/-- slices.Delete -/
def x_slices_Delete_api_Map : XC :=
  .seq (.region [⟨some ⟨.d0, .d0, .d6⟩, .move (.c (.slice none 0 0)), none⟩])
  (.seq (.region [⟨some ⟨.d0, .d1, .d0⟩, .move (.t ⟨.d0, .d0, .d0⟩), none⟩,
    ⟨some ⟨.d0, .d1, .d1⟩, .move (.t ⟨.d0, .d0, .d1⟩), none⟩,
    ⟨some ⟨.d0, .d1, .d2⟩, .move (.t ⟨.d0, .d0, .d2⟩), none⟩,
    ⟨some ⟨.d0, .d1, .d3⟩, .move (.t ⟨.d0, .d0, .d0⟩), none⟩,
    ⟨some ⟨.d0, .d1, .d4⟩, .len (.t ⟨.d0, .d1, .d3⟩), none⟩,
    ⟨some ⟨.d0, .d1, .d5⟩, .sliceW 5 (.t ⟨.d0, .d1, .d0⟩) (some (.t ⟨.d0, .d1, .d1⟩)) (some (.t ⟨.d0, .d1, .d2⟩)) (some (.t ⟨.d0, .d1, .d4⟩)), none⟩])
  (.seq (.seq (.region [⟨some ⟨.d0, .d1, .d6⟩, .move (.t ⟨.d0, .d0, .d1⟩), none⟩,
    ⟨some ⟨.d0, .d1, .d7⟩, .move (.t ⟨.d0, .d0, .d2⟩), none⟩,
    ⟨some ⟨.d0, .d2, .d0⟩, .bin .eql (.t ⟨.d0, .d1, .d6⟩) (.t ⟨.d0, .d1, .d7⟩), none⟩])
  (.cond (.t ⟨.d0, .d2, .d0⟩)
    (.seq (.region [⟨some ⟨.d0, .d2, .d1⟩, .move (.t ⟨.d0, .d0, .d0⟩), none⟩,
      ⟨some ⟨.d0, .d0, .d6⟩, .move (.t ⟨.d0, .d2, .d1⟩), none⟩])
    (.ret))
    (.skip)))
  (.seq (.region [⟨some ⟨.d0, .d2, .d2⟩, .move (.t ⟨.d0, .d0, .d0⟩), none⟩,
    ⟨some ⟨.d0, .d2, .d3⟩, .len (.t ⟨.d0, .d2, .d2⟩), none⟩,
    ⟨some ⟨.d0, .d0, .d7⟩, .move (.t ⟨.d0, .d2, .d3⟩), none⟩])
  (.seq (.regionD [0, 0, 3, 0, 0, 24, 63, 127] [⟨some ⟨.d0, .d2, .d4⟩, .move (.t ⟨.d0, .d0, .d0⟩), none⟩,
    ⟨some ⟨.d0, .d2, .d5⟩, .move (.t ⟨.d0, .d0, .d1⟩), none⟩,
    ⟨some ⟨.d0, .d2, .d6⟩, .sliceW 5 (.t ⟨.d0, .d2, .d4⟩) none (some (.t ⟨.d0, .d2, .d5⟩)) none, none⟩,
    ⟨some ⟨.d0, .d2, .d7⟩, .move (.t ⟨.d0, .d0, .d0⟩), none⟩,
    ⟨some ⟨.d0, .d3, .d0⟩, .move (.t ⟨.d0, .d0, .d2⟩), none⟩,
    ⟨some ⟨.d0, .d3, .d1⟩, .slice 5 (.t ⟨.d0, .d2, .d7⟩) (some (.t ⟨.d0, .d3, .d0⟩)) none none, none⟩,
    ⟨some ⟨.d0, .d3, .d2⟩, .appendW 5 40 (.t ⟨.d0, .d2, .d6⟩) (.t ⟨.d0, .d3, .d1⟩), none⟩,
    ⟨some ⟨.d0, .d0, .d0⟩, .move (.t ⟨.d0, .d3, .d2⟩), none⟩])
  (.seq (.region [⟨some ⟨.d0, .d3, .d3⟩, .move (.t ⟨.d0, .d0, .d0⟩), none⟩,
    ⟨some ⟨.d0, .d3, .d4⟩, .move (.t ⟨.d0, .d0, .d0⟩), none⟩,
    ⟨some ⟨.d0, .d3, .d5⟩, .len (.t ⟨.d0, .d3, .d4⟩), none⟩,
    ⟨some ⟨.d0, .d3, .d6⟩, .move (.t ⟨.d0, .d0, .d7⟩), none⟩,
    ⟨some ⟨.d0, .d3, .d7⟩, .sliceW 5 (.t ⟨.d0, .d3, .d3⟩) (some (.t ⟨.d0, .d3, .d5⟩)) (some (.t ⟨.d0, .d3, .d6⟩)) none, none⟩,
    ⟨none, .clear [.int .i64 0, .int .u32 0, .int .i64 0, .int .i64 0, .int .i64 0] (.t ⟨.d0, .d3, .d7⟩), none⟩])
  (.seq (.region [⟨some ⟨.d0, .d4, .d0⟩, .move (.t ⟨.d0, .d0, .d0⟩), none⟩,
    ⟨some ⟨.d0, .d0, .d6⟩, .move (.t ⟨.d0, .d4, .d0⟩), none⟩])
  (.ret)))))))
def r_slices_Delete_api_Map : List XR := [.tmp ⟨.d0, .d0, .d6⟩]
theorem ok_slices_Delete_api_Map : okC Tryd.prog Tryd.f18.ntmps (bodyOf Tryd.f18) x_slices_Delete_api_Map = true := by kernel_rfl
theorem okr_slices_Delete_api_Map : okRs Tryd.prog Tryd.f18.results.toList r_slices_Delete_api_Map = true := by kernel_rfl

/-- nat.place -/
def x_nat_place : XC :=
  .seq (.region [⟨some ⟨.d0, .d0, .d4⟩, .move (.c (.pointer none)), none⟩])
  (.seq (.seq (.region [⟨some ⟨.d0, .d0, .d5⟩, .move (.t ⟨.d0, .d0, .d1⟩), none⟩])
  (.block 0
    (.seq (.region [⟨some ⟨.d0, .d0, .d7⟩, .bin .eql (.t ⟨.d0, .d0, .d5⟩) (.c (.int .i64 17)), none⟩,
      ⟨some ⟨.d0, .d0, .d6⟩, .move (.t ⟨.d0, .d0, .d7⟩), none⟩])
    (.cond (.t ⟨.d0, .d0, .d6⟩)
      (.seq (.region [⟨some ⟨.d0, .d1, .d0⟩, .move (.t ⟨.d0, .d0, .d0⟩), none⟩,
        ⟨some ⟨.d0, .d1, .d1⟩, .nilCheck (.t ⟨.d0, .d1, .d0⟩), none⟩,
        ⟨some ⟨.d0, .d1, .d2⟩, .fieldAddr 1 (.t ⟨.d0, .d1, .d1⟩), none⟩,
        ⟨some ⟨.d0, .d0, .d4⟩, .move (.t ⟨.d0, .d1, .d2⟩), none⟩])
      (.ret))
      (.seq (.region [⟨some ⟨.d0, .d1, .d4⟩, .bin .eql (.t ⟨.d0, .d0, .d5⟩) (.c (.int .i64 6)), none⟩,
        ⟨some ⟨.d0, .d1, .d3⟩, .move (.t ⟨.d0, .d1, .d4⟩), none⟩])
      (.cond (.t ⟨.d0, .d1, .d3⟩)
        (.seq (.region [⟨some ⟨.d0, .d1, .d5⟩, .move (.t ⟨.d0, .d0, .d0⟩), none⟩,
          ⟨some ⟨.d0, .d1, .d6⟩, .nilCheck (.t ⟨.d0, .d1, .d5⟩), none⟩,
          ⟨some ⟨.d0, .d1, .d7⟩, .fieldAddr 3 (.t ⟨.d0, .d1, .d6⟩), none⟩,
          ⟨some ⟨.d0, .d0, .d4⟩, .move (.t ⟨.d0, .d1, .d7⟩), none⟩])
        (.ret))
        (.skip)))))))
  (.seq (.region [⟨some ⟨.d0, .d0, .d4⟩, .move (.c (.pointer none)), none⟩])
  (.ret)))
def r_nat_place : List XR := [.tmp ⟨.d0, .d0, .d4⟩]
theorem ok_nat_place : okC Tryd.prog Tryd.f19.ntmps (bodyOf Tryd.f19) x_nat_place = true := by kernel_rfl
theorem okr_nat_place : okRs Tryd.prog Tryd.f19.results.toList r_nat_place = true := by kernel_rfl

/-- ports.Let -/
def x_ports_Let : XC :=
  .seq (.region [⟨some ⟨.d0, .d0, .d2⟩, .box 0 2 (.t ⟨.d0, .d0, .d0⟩), none⟩,
    ⟨some ⟨.d0, .d0, .d4⟩, .alloc 1 [.int .i64 0, .int .u64 0], none⟩,
    ⟨some ⟨.d0, .d0, .d5⟩, .move (.c (.int .i64 0)), none⟩,
    ⟨some ⟨.d0, .d0, .d6⟩, .move (.c (.int .i64 0)), none⟩])
  (.seq (.region [⟨some ⟨.d0, .d1, .d3⟩, .load true 2 (.t ⟨.d0, .d0, .d2⟩), none⟩,
    ⟨some ⟨.d0, .d1, .d4⟩, .call 24 [(.t ⟨.d0, .d1, .d3⟩)], none⟩,
    ⟨some ⟨.d0, .d0, .d7⟩, .move (.t ⟨.d0, .d1, .d4⟩), none⟩])
  (.seq (.block 0
    (.seq (.region [⟨some ⟨.d0, .d1, .d6⟩, .move (.t ⟨.d0, .d0, .d7⟩), none⟩,
      ⟨some ⟨.d0, .d1, .d7⟩, .bin .neq (.t ⟨.d0, .d1, .d6⟩) (.c (.int .i64 0)), none⟩,
      ⟨some ⟨.d0, .d1, .d5⟩, .move (.t ⟨.d0, .d1, .d7⟩), none⟩])
    (.cond (.t ⟨.d0, .d1, .d5⟩)
      (.skip)
      (.seq (.region [⟨some ⟨.d0, .d2, .d1⟩, .move (.t ⟨.d0, .d0, .d1⟩), none⟩,
        ⟨some ⟨.d0, .d2, .d2⟩, .bin .lss (.t ⟨.d0, .d2, .d1⟩) (.c (.int .i64 0)), none⟩,
        ⟨some ⟨.d0, .d2, .d3⟩, .move (.t ⟨.d0, .d2, .d2⟩), none⟩,
        ⟨some ⟨.d0, .d2, .d4⟩, .move (.t ⟨.d0, .d0, .d1⟩), some (⟨.d0, .d2, .d3⟩, false)⟩,
        ⟨some ⟨.d0, .d2, .d5⟩, .bin .gtr (.t ⟨.d0, .d2, .d4⟩) (.c (.int .i64 65535)), some (⟨.d0, .d2, .d3⟩, false)⟩,
        ⟨some ⟨.d0, .d2, .d6⟩, .pick (.t ⟨.d0, .d2, .d3⟩) (.c (.bool true)) (.t ⟨.d0, .d2, .d5⟩), none⟩,
        ⟨some ⟨.d0, .d2, .d0⟩, .move (.t ⟨.d0, .d2, .d6⟩), none⟩])
      (.cond (.t ⟨.d0, .d2, .d0⟩)
        (.region [⟨some ⟨.d0, .d0, .d7⟩, .move (.c (.int .i64 1)), none⟩])
        (.seq (.region [⟨some ⟨.d0, .d3, .d0⟩, .fieldAddr 1 (.t ⟨.d0, .d0, .d2⟩), none⟩,
          ⟨some ⟨.d0, .d3, .d1⟩, .load false 1 (.t ⟨.d0, .d3, .d0⟩), none⟩,
          ⟨some ⟨.d0, .d3, .d2⟩, .bin .eql (.t ⟨.d0, .d3, .d1⟩) (.c (.int .u64 18446744073709551615)), none⟩,
          ⟨some ⟨.d0, .d2, .d7⟩, .move (.t ⟨.d0, .d3, .d2⟩), none⟩])
        (.cond (.t ⟨.d0, .d2, .d7⟩)
          (.region [⟨some ⟨.d0, .d0, .d7⟩, .move (.c (.int .i64 6)), none⟩])
          (.skip))))))))
  (.seq (.seq (.region [⟨some ⟨.d0, .d3, .d3⟩, .move (.t ⟨.d0, .d0, .d7⟩), none⟩,
    ⟨some ⟨.d0, .d3, .d4⟩, .bin .neq (.t ⟨.d0, .d3, .d3⟩) (.c (.int .i64 0)), none⟩])
  (.cond (.t ⟨.d0, .d3, .d4⟩)
    (.seq (.region [⟨some ⟨.d0, .d3, .d5⟩, .build [.int .i64 0, .int .u64 0] [], none⟩,
      ⟨some ⟨.d0, .d3, .d6⟩, .move (.t ⟨.d0, .d0, .d7⟩), none⟩,
      ⟨none, .store 2 (.t ⟨.d0, .d0, .d4⟩) (.t ⟨.d0, .d3, .d5⟩), none⟩,
      ⟨some ⟨.d0, .d0, .d5⟩, .move (.c (.int .i64 0)), none⟩,
      ⟨some ⟨.d0, .d0, .d6⟩, .move (.t ⟨.d0, .d3, .d6⟩), none⟩])
    (.ret))
    (.skip)))
  (.seq (.region [⟨some ⟨.d0, .d3, .d7⟩, .fieldAddr 1 (.t ⟨.d0, .d0, .d2⟩), none⟩,
    ⟨some ⟨.d0, .d4, .d0⟩, .load false 1 (.t ⟨.d0, .d3, .d7⟩), none⟩,
    ⟨some ⟨.d0, .d4, .d1⟩, .un .xor (.t ⟨.d0, .d4, .d0⟩), none⟩,
    ⟨some ⟨.d0, .d1, .d0⟩, .move (.t ⟨.d0, .d4, .d1⟩), none⟩])
  (.seq (.region [⟨some ⟨.d0, .d4, .d2⟩, .move (.t ⟨.d0, .d0, .d1⟩), none⟩,
    ⟨some ⟨.d0, .d4, .d3⟩, .fieldAddr 0 (.t ⟨.d0, .d0, .d2⟩), none⟩,
    ⟨some ⟨.d0, .d4, .d4⟩, .load false 1 (.t ⟨.d0, .d4, .d3⟩), none⟩,
    ⟨some ⟨.d0, .d4, .d5⟩, .bin .sub (.t ⟨.d0, .d4, .d2⟩) (.t ⟨.d0, .d4, .d4⟩), none⟩,
    ⟨some ⟨.d0, .d1, .d1⟩, .move (.t ⟨.d0, .d4, .d5⟩), none⟩])
  (.seq (.seq (.region [⟨some ⟨.d0, .d4, .d6⟩, .move (.t ⟨.d0, .d1, .d1⟩), none⟩,
    ⟨some ⟨.d0, .d4, .d7⟩, .bin .lss (.t ⟨.d0, .d4, .d6⟩) (.c (.int .i64 0)), none⟩,
    ⟨some ⟨.d0, .d5, .d0⟩, .move (.t ⟨.d0, .d4, .d7⟩), none⟩,
    ⟨some ⟨.d0, .d5, .d1⟩, .move (.t ⟨.d0, .d1, .d1⟩), some (⟨.d0, .d5, .d0⟩, false)⟩,
    ⟨some ⟨.d0, .d5, .d2⟩, .bin .gtr (.t ⟨.d0, .d5, .d1⟩) (.c (.int .i64 63)), some (⟨.d0, .d5, .d0⟩, false)⟩,
    ⟨some ⟨.d0, .d5, .d3⟩, .pick (.t ⟨.d0, .d5, .d0⟩) (.c (.bool true)) (.t ⟨.d0, .d5, .d2⟩), none⟩,
    ⟨some ⟨.d0, .d5, .d4⟩, .move (.t ⟨.d0, .d5, .d3⟩), none⟩,
    ⟨some ⟨.d0, .d5, .d5⟩, .move (.t ⟨.d0, .d1, .d0⟩), some (⟨.d0, .d5, .d4⟩, false)⟩,
    ⟨some ⟨.d0, .d5, .d6⟩, .move (.t ⟨.d0, .d1, .d1⟩), some (⟨.d0, .d5, .d4⟩, false)⟩,
    ⟨some ⟨.d0, .d5, .d7⟩, .bin .shr (.t ⟨.d0, .d5, .d5⟩) (.t ⟨.d0, .d5, .d6⟩), some (⟨.d0, .d5, .d4⟩, false)⟩,
    ⟨some ⟨.d0, .d6, .d0⟩, .bin .and (.t ⟨.d0, .d5, .d7⟩) (.c (.int .u64 1)), some (⟨.d0, .d5, .d4⟩, false)⟩,
    ⟨some ⟨.d0, .d6, .d1⟩, .bin .eql (.t ⟨.d0, .d6, .d0⟩) (.c (.int .u64 0)), some (⟨.d0, .d5, .d4⟩, false)⟩,
    ⟨some ⟨.d0, .d6, .d2⟩, .pick (.t ⟨.d0, .d5, .d4⟩) (.c (.bool true)) (.t ⟨.d0, .d6, .d1⟩), none⟩])
  (.cond (.t ⟨.d0, .d6, .d2⟩)
    (.seq (.region [⟨some ⟨.d0, .d6, .d3⟩, .move (.t ⟨.d0, .d1, .d0⟩), none⟩,
      ⟨some ⟨.d0, .d6, .d4⟩, .move (.t ⟨.d0, .d0, .d1⟩), none⟩,
      ⟨some ⟨.d0, .d6, .d5⟩, .bin .and (.t ⟨.d0, .d6, .d4⟩) (.c (.int .i64 1)), none⟩,
      ⟨some ⟨.d0, .d6, .d6⟩, .bin .shl (.c (.int .u64 6148914691236517205)) (.t ⟨.d0, .d6, .d5⟩), none⟩,
      ⟨some ⟨.d0, .d6, .d7⟩, .bin .and (.t ⟨.d0, .d6, .d3⟩) (.t ⟨.d0, .d6, .d6⟩), none⟩,
      ⟨some ⟨.d0, .d1, .d2⟩, .move (.t ⟨.d0, .d6, .d7⟩), none⟩])
    (.seq (.seq (.region [⟨some ⟨.d0, .d7, .d0⟩, .move (.t ⟨.d0, .d1, .d2⟩), none⟩,
      ⟨some ⟨.d0, .d7, .d1⟩, .bin .eql (.t ⟨.d0, .d7, .d0⟩) (.c (.int .u64 0)), none⟩])
    (.cond (.t ⟨.d0, .d7, .d1⟩)
      (.region [⟨some ⟨.d0, .d7, .d2⟩, .move (.t ⟨.d0, .d1, .d0⟩), none⟩,
        ⟨some ⟨.d0, .d1, .d2⟩, .move (.t ⟨.d0, .d7, .d2⟩), none⟩])
      (.skip)))
    (.region [⟨some ⟨.d0, .d7, .d3⟩, .move (.t ⟨.d0, .d1, .d2⟩), none⟩,
      ⟨some ⟨.d0, .d7, .d4⟩, .call 35 [(.t ⟨.d0, .d7, .d3⟩)], none⟩,
      ⟨some ⟨.d0, .d1, .d1⟩, .move (.t ⟨.d0, .d7, .d4⟩), none⟩])))
    (.skip)))
  (.seq (.regionD [0, 1, 0, 4, 15, 31, 63] [⟨some ⟨.d0, .d7, .d5⟩, .fieldAddr 1 (.t ⟨.d0, .d0, .d2⟩), none⟩,
    ⟨some ⟨.d0, .d7, .d6⟩, .load false 1 (.t ⟨.d0, .d7, .d5⟩), none⟩,
    ⟨some ⟨.d0, .d7, .d7⟩, .move (.t ⟨.d0, .d1, .d1⟩), none⟩,
    ⟨some ⟨.d1, .d0, .d0⟩, .bin .shl (.c (.int .u64 1)) (.t ⟨.d0, .d7, .d7⟩), none⟩,
    ⟨some ⟨.d1, .d0, .d1⟩, .bin .or (.t ⟨.d0, .d7, .d6⟩) (.t ⟨.d1, .d0, .d0⟩), none⟩,
    ⟨some ⟨.d1, .d0, .d2⟩, .fieldAddr 1 (.t ⟨.d0, .d0, .d2⟩), none⟩,
    ⟨none, .store 1 (.t ⟨.d1, .d0, .d2⟩) (.t ⟨.d1, .d0, .d1⟩), none⟩])
  (.seq (.regionD [0, 0, 2, 0, 14, 1, 63, 127] [⟨some ⟨.d1, .d0, .d3⟩, .load true 2 (.t ⟨.d0, .d0, .d2⟩), none⟩,
    ⟨some ⟨.d1, .d0, .d4⟩, .fieldAddr 0 (.t ⟨.d0, .d0, .d2⟩), none⟩,
    ⟨some ⟨.d1, .d0, .d5⟩, .load false 1 (.t ⟨.d1, .d0, .d4⟩), none⟩,
    ⟨some ⟨.d1, .d0, .d6⟩, .move (.t ⟨.d0, .d1, .d1⟩), none⟩,
    ⟨some ⟨.d1, .d0, .d7⟩, .bin .add (.t ⟨.d1, .d0, .d5⟩) (.t ⟨.d1, .d0, .d6⟩), none⟩,
    ⟨none, .store 2 (.t ⟨.d0, .d0, .d4⟩) (.t ⟨.d1, .d0, .d3⟩), none⟩,
    ⟨some ⟨.d0, .d0, .d5⟩, .move (.t ⟨.d1, .d0, .d7⟩), none⟩,
    ⟨some ⟨.d0, .d0, .d6⟩, .move (.c (.int .i64 0)), none⟩])
  (.ret)))))))))
def r_ports_Let : List XR := [.cell ⟨.d0, .d0, .d4⟩ true 2, .tmp ⟨.d0, .d0, .d5⟩, .tmp ⟨.d0, .d0, .d6⟩]
theorem ok_ports_Let : okC Tryd.prog Tryd.f20.ntmps (bodyOf Tryd.f20) x_ports_Let = true := by kernel_rfl
theorem okr_ports_Let : okRs Tryd.prog Tryd.f20.results.toList r_ports_Let = true := by kernel_rfl

/-- custref.Between -/
def x_custref_Between : XC :=
  .seq (.region [⟨some ⟨.d0, .d0, .d6⟩, .move (.c (.bool false)), none⟩])
  (.seq (.region [⟨some ⟨.d0, .d0, .d7⟩, .move (.t ⟨.d0, .d0, .d1⟩), none⟩,
    ⟨some ⟨.d0, .d1, .d0⟩, .move (.t ⟨.d0, .d0, .d0⟩), none⟩,
    ⟨some ⟨.d0, .d1, .d1⟩, .bin .leq (.t ⟨.d0, .d0, .d7⟩) (.t ⟨.d0, .d1, .d0⟩), none⟩,
    ⟨some ⟨.d0, .d1, .d2⟩, .move (.t ⟨.d0, .d1, .d1⟩), none⟩,
    ⟨some ⟨.d0, .d1, .d3⟩, .move (.t ⟨.d0, .d0, .d0⟩), some (⟨.d0, .d1, .d2⟩, true)⟩,
    ⟨some ⟨.d0, .d1, .d4⟩, .move (.t ⟨.d0, .d0, .d2⟩), some (⟨.d0, .d1, .d2⟩, true)⟩,
    ⟨some ⟨.d0, .d1, .d5⟩, .bin .leq (.t ⟨.d0, .d1, .d3⟩) (.t ⟨.d0, .d1, .d4⟩), some (⟨.d0, .d1, .d2⟩, true)⟩,
    ⟨some ⟨.d0, .d1, .d6⟩, .pick (.t ⟨.d0, .d1, .d2⟩) (.t ⟨.d0, .d1, .d5⟩) (.c (.bool false)), none⟩,
    ⟨some ⟨.d0, .d0, .d6⟩, .move (.t ⟨.d0, .d1, .d6⟩), none⟩])
  (.ret))
def r_custref_Between : List XR := [.tmp ⟨.d0, .d0, .d6⟩]
theorem ok_custref_Between : okC Tryd.prog Tryd.f21.ntmps (bodyOf Tryd.f21) x_custref_Between = true := by kernel_rfl
theorem okr_custref_Between : okRs Tryd.prog Tryd.f21.results.toList r_custref_Between = true := by kernel_rfl

/-- custref.portsBut -/
def x_custref_portsBut : XC :=
  .seq (.region [⟨some ⟨.d0, .d0, .d3⟩, .box 0 2 (.t ⟨.d0, .d0, .d0⟩), none⟩,
    ⟨some ⟨.d0, .d0, .d6⟩, .alloc 1 [.int .i64 0, .int .u64 0], none⟩])
  (.seq (.region [⟨some ⟨.d0, .d1, .d1⟩, .fieldAddr 1 (.t ⟨.d0, .d0, .d3⟩), none⟩,
    ⟨none, .store 1 (.t ⟨.d0, .d1, .d1⟩) (.c (.int .u64 0)), none⟩])
  (.seq (.seq (.region [⟨some ⟨.d0, .d1, .d2⟩, .move (.t ⟨.d0, .d0, .d1⟩), none⟩,
    ⟨some ⟨.d0, .d1, .d3⟩, .len (.t ⟨.d0, .d1, .d2⟩), none⟩,
    ⟨some ⟨.d0, .d1, .d4⟩, .move (.c (.int .i64 0)), none⟩])
  (.block 0
    (.loop
      (.seq (.region [⟨some ⟨.d0, .d1, .d5⟩, .bin .lss (.t ⟨.d0, .d1, .d4⟩) (.t ⟨.d0, .d1, .d3⟩), none⟩])
      (.seq (.cond (.t ⟨.d0, .d1, .d5⟩)
        (.skip)
        (.exit 0))
      (.seq (.block 1
        (.seq (.region [⟨some ⟨.d0, .d1, .d6⟩, .indexSl 5 (.t ⟨.d0, .d1, .d2⟩) (.t ⟨.d0, .d1, .d4⟩), none⟩,
          ⟨some ⟨.d0, .d1, .d7⟩, .load true 5 (.t ⟨.d0, .d1, .d6⟩), none⟩,
          ⟨some ⟨.d0, .d1, .d0⟩, .alloc 2 [.int .i64 0, .int .u32 0, .int .i64 0, .int .i64 0, .int .i64 0], none⟩,
          ⟨none, .store 5 (.t ⟨.d0, .d1, .d0⟩) (.t ⟨.d0, .d1, .d7⟩), none⟩])
        (.seq (.region [⟨some ⟨.d0, .d2, .d0⟩, .fieldAddr 0 (.t ⟨.d0, .d1, .d0⟩), none⟩,
          ⟨some ⟨.d0, .d2, .d1⟩, .load false 1 (.t ⟨.d0, .d2, .d0⟩), none⟩,
          ⟨some ⟨.d0, .d2, .d2⟩, .move (.t ⟨.d0, .d0, .d2⟩), none⟩,
          ⟨some ⟨.d0, .d2, .d3⟩, .bin .eql (.t ⟨.d0, .d2, .d1⟩) (.t ⟨.d0, .d2, .d2⟩), none⟩])
        (.cond (.t ⟨.d0, .d2, .d3⟩)
          (.regionD [0, 1, 0, 4, 0, 16, 60, 124, 255, 511, 1023] [⟨some ⟨.d0, .d2, .d4⟩, .fieldAddr 1 (.t ⟨.d0, .d0, .d3⟩), none⟩,
            ⟨some ⟨.d0, .d2, .d5⟩, .load false 1 (.t ⟨.d0, .d2, .d4⟩), none⟩,
            ⟨some ⟨.d0, .d2, .d6⟩, .fieldAddr 3 (.t ⟨.d0, .d1, .d0⟩), none⟩,
            ⟨some ⟨.d0, .d2, .d7⟩, .load false 1 (.t ⟨.d0, .d2, .d6⟩), none⟩,
            ⟨some ⟨.d0, .d3, .d0⟩, .fieldAddr 0 (.t ⟨.d0, .d0, .d3⟩), none⟩,
            ⟨some ⟨.d0, .d3, .d1⟩, .load false 1 (.t ⟨.d0, .d3, .d0⟩), none⟩,
            ⟨some ⟨.d0, .d3, .d2⟩, .bin .sub (.t ⟨.d0, .d2, .d7⟩) (.t ⟨.d0, .d3, .d1⟩), none⟩,
            ⟨some ⟨.d0, .d3, .d3⟩, .bin .shl (.c (.int .u64 1)) (.t ⟨.d0, .d3, .d2⟩), none⟩,
            ⟨some ⟨.d0, .d3, .d4⟩, .bin .add (.t ⟨.d0, .d2, .d5⟩) (.t ⟨.d0, .d3, .d3⟩), none⟩,
            ⟨some ⟨.d0, .d3, .d5⟩, .fieldAddr 1 (.t ⟨.d0, .d0, .d3⟩), none⟩,
            ⟨none, .store 1 (.t ⟨.d0, .d3, .d5⟩) (.t ⟨.d0, .d3, .d4⟩), none⟩])
          (.skip)))))
      (.region [⟨some ⟨.d0, .d3, .d6⟩, .bin .add (.t ⟨.d0, .d1, .d4⟩) (.c (.int .i64 1)), none⟩,
        ⟨some ⟨.d0, .d1, .d4⟩, .move (.t ⟨.d0, .d3, .d6⟩), none⟩])))))))
  (.seq (.region [⟨some ⟨.d0, .d3, .d7⟩, .load true 2 (.t ⟨.d0, .d0, .d3⟩), none⟩,
    ⟨none, .store 2 (.t ⟨.d0, .d0, .d6⟩) (.t ⟨.d0, .d3, .d7⟩), none⟩])
  (.ret))))
def r_custref_portsBut : List XR := [.cell ⟨.d0, .d0, .d6⟩ true 2]
theorem ok_custref_portsBut : okC Tryd.prog Tryd.f22.ntmps (bodyOf Tryd.f22) x_custref_portsBut = true := by kernel_rfl
theorem okr_custref_portsBut : okRs Tryd.prog Tryd.f22.results.toList r_custref_portsBut = true := by kernel_rfl

/-- custref.PortsLet -/
def x_custref_PortsLet : XC :=
  .seq (.region [⟨some ⟨.d0, .d0, .d2⟩, .box 0 2 (.t ⟨.d0, .d0, .d0⟩), none⟩,
    ⟨some ⟨.d0, .d0, .d3⟩, .box 1 1 (.t ⟨.d0, .d0, .d1⟩), none⟩,
    ⟨some ⟨.d0, .d0, .d4⟩, .alloc 2 [.int .i64 0, .int .u64 0], none⟩,
    ⟨some ⟨.d0, .d0, .d5⟩, .move (.c (.int .i64 0)), none⟩,
    ⟨some ⟨.d0, .d0, .d6⟩, .move (.c (.int .i64 0)), none⟩])
  (.seq (.seq (.region [⟨some ⟨.d0, .d1, .d3⟩, .load true 2 (.t ⟨.d0, .d0, .d2⟩), none⟩,
    ⟨some ⟨.d0, .d1, .d4⟩, .call 26 [(.t ⟨.d0, .d1, .d3⟩)], none⟩,
    ⟨some ⟨.d0, .d0, .d7⟩, .move (.t ⟨.d0, .d1, .d4⟩), none⟩])
  (.seq (.region [⟨some ⟨.d0, .d1, .d5⟩, .move (.t ⟨.d0, .d0, .d7⟩), none⟩,
    ⟨some ⟨.d0, .d1, .d6⟩, .bin .neq (.t ⟨.d0, .d1, .d5⟩) (.c (.int .i64 0)), none⟩])
  (.cond (.t ⟨.d0, .d1, .d6⟩)
    (.seq (.region [⟨some ⟨.d0, .d1, .d7⟩, .build [.int .i64 0, .int .u64 0] [], none⟩,
      ⟨some ⟨.d0, .d2, .d0⟩, .move (.t ⟨.d0, .d0, .d7⟩), none⟩,
      ⟨none, .store 2 (.t ⟨.d0, .d0, .d4⟩) (.t ⟨.d0, .d1, .d7⟩), none⟩,
      ⟨some ⟨.d0, .d0, .d5⟩, .move (.c (.int .i64 0)), none⟩,
      ⟨some ⟨.d0, .d0, .d6⟩, .move (.t ⟨.d0, .d2, .d0⟩), none⟩])
    (.ret))
    (.skip))))
  (.seq (.seq (.region [⟨some ⟨.d0, .d2, .d1⟩, .load false 1 (.t ⟨.d0, .d0, .d3⟩), none⟩,
    ⟨some ⟨.d0, .d2, .d2⟩, .call 21 [(.t ⟨.d0, .d2, .d1⟩), (.c (.int .i64 0)), (.c (.int .i64 65535))], none⟩,
    ⟨some ⟨.d0, .d2, .d3⟩, .un .not (.t ⟨.d0, .d2, .d2⟩), none⟩])
  (.cond (.t ⟨.d0, .d2, .d3⟩)
    (.seq (.region [⟨some ⟨.d0, .d2, .d4⟩, .build [.int .i64 0, .int .u64 0] [], none⟩,
      ⟨none, .store 2 (.t ⟨.d0, .d0, .d4⟩) (.t ⟨.d0, .d2, .d4⟩), none⟩,
      ⟨some ⟨.d0, .d0, .d5⟩, .move (.c (.int .i64 0)), none⟩,
      ⟨some ⟨.d0, .d0, .d6⟩, .move (.c (.int .i64 1)), none⟩])
    (.ret))
    (.skip)))
  (.seq (.region [⟨some ⟨.d0, .d2, .d5⟩, .load true 2 (.t ⟨.d0, .d0, .d2⟩), none⟩,
    ⟨some ⟨.d0, .d2, .d6⟩, .call 36 [(.t ⟨.d0, .d2, .d5⟩)], none⟩,
    ⟨some ⟨.d0, .d1, .d0⟩, .move (.t ⟨.d0, .d2, .d6⟩), none⟩])
  (.seq (.seq (.region [⟨some ⟨.d0, .d2, .d7⟩, .move (.t ⟨.d0, .d1, .d0⟩), none⟩,
    ⟨some ⟨.d0, .d3, .d0⟩, .len (.t ⟨.d0, .d2, .d7⟩), none⟩,
    ⟨some ⟨.d0, .d3, .d1⟩, .bin .eql (.t ⟨.d0, .d3, .d0⟩) (.c (.int .i64 0)), none⟩])
  (.cond (.t ⟨.d0, .d3, .d1⟩)
    (.seq (.region [⟨some ⟨.d0, .d3, .d2⟩, .build [.int .i64 0, .int .u64 0] [], none⟩,
      ⟨none, .store 2 (.t ⟨.d0, .d0, .d4⟩) (.t ⟨.d0, .d3, .d2⟩), none⟩,
      ⟨some ⟨.d0, .d0, .d5⟩, .move (.c (.int .i64 0)), none⟩,
      ⟨some ⟨.d0, .d0, .d6⟩, .move (.c (.int .i64 6)), none⟩])
    (.ret))
    (.skip)))
  (.seq (.region [⟨some ⟨.d0, .d3, .d3⟩, .move (.t ⟨.d0, .d1, .d0⟩), none⟩,
    ⟨some ⟨.d0, .d3, .d4⟩, .indexSl 1 (.t ⟨.d0, .d3, .d3⟩) (.c (.int .i64 0)), none⟩,
    ⟨some ⟨.d0, .d3, .d5⟩, .load false 1 (.t ⟨.d0, .d3, .d4⟩), none⟩,
    ⟨some ⟨.d0, .d1, .d1⟩, .move (.t ⟨.d0, .d3, .d5⟩), none⟩])
  (.seq (.seq (.region [⟨some ⟨.d0, .d3, .d6⟩, .move (.t ⟨.d0, .d1, .d0⟩), none⟩,
    ⟨some ⟨.d0, .d3, .d7⟩, .mkfn 38 [] [(.t ⟨.d0, .d0, .d3⟩)], none⟩,
    ⟨some ⟨.d0, .d4, .d0⟩, .call 37 [(.t ⟨.d0, .d3, .d6⟩), (.t ⟨.d0, .d3, .d7⟩)], none⟩,
    ⟨some ⟨.d0, .d1, .d2⟩, .move (.t ⟨.d0, .d4, .d0⟩), none⟩])
  (.seq (.region [⟨some ⟨.d0, .d4, .d1⟩, .move (.t ⟨.d0, .d1, .d2⟩), none⟩,
    ⟨some ⟨.d0, .d4, .d2⟩, .bin .geq (.t ⟨.d0, .d4, .d1⟩) (.c (.int .i64 0)), none⟩])
  (.cond (.t ⟨.d0, .d4, .d2⟩)
    (.region [⟨some ⟨.d0, .d4, .d3⟩, .move (.t ⟨.d0, .d1, .d0⟩), none⟩,
      ⟨some ⟨.d0, .d4, .d4⟩, .move (.t ⟨.d0, .d1, .d2⟩), none⟩,
      ⟨some ⟨.d0, .d4, .d5⟩, .indexSl 1 (.t ⟨.d0, .d4, .d3⟩) (.t ⟨.d0, .d4, .d4⟩), none⟩,
      ⟨some ⟨.d0, .d4, .d6⟩, .load false 1 (.t ⟨.d0, .d4, .d5⟩), none⟩,
      ⟨some ⟨.d0, .d1, .d1⟩, .move (.t ⟨.d0, .d4, .d6⟩), none⟩])
    (.skip))))
  (.seq (.seq (.region [⟨some ⟨.d0, .d4, .d7⟩, .move (.t ⟨.d0, .d1, .d0⟩), none⟩,
    ⟨some ⟨.d0, .d5, .d0⟩, .load false 1 (.t ⟨.d0, .d0, .d3⟩), none⟩,
    ⟨some ⟨.d0, .d5, .d1⟩, .call 39 [(.t ⟨.d0, .d4, .d7⟩), (.t ⟨.d0, .d5, .d0⟩)], none⟩])
  (.cond (.t ⟨.d0, .d5, .d1⟩)
    (.region [⟨some ⟨.d0, .d5, .d2⟩, .load false 1 (.t ⟨.d0, .d0, .d3⟩), none⟩,
      ⟨some ⟨.d0, .d1, .d1⟩, .move (.t ⟨.d0, .d5, .d2⟩), none⟩])
    (.skip)))
  (.seq (.regionD [0, 1, 0, 4, 0, 0, 32, 112, 240, 508, 1023, 0, 2047, 8191, 16383] [⟨some ⟨.d0, .d5, .d3⟩, .fieldAddr 0 (.t ⟨.d0, .d0, .d2⟩), none⟩,
    ⟨some ⟨.d0, .d5, .d4⟩, .load false 1 (.t ⟨.d0, .d5, .d3⟩), none⟩,
    ⟨some ⟨.d0, .d5, .d5⟩, .fieldAddr 1 (.t ⟨.d0, .d0, .d2⟩), none⟩,
    ⟨some ⟨.d0, .d5, .d6⟩, .load false 1 (.t ⟨.d0, .d5, .d5⟩), none⟩,
    ⟨some ⟨.d0, .d5, .d7⟩, .move (.t ⟨.d0, .d1, .d1⟩), none⟩,
    ⟨some ⟨.d0, .d6, .d0⟩, .fieldAddr 0 (.t ⟨.d0, .d0, .d2⟩), none⟩,
    ⟨some ⟨.d0, .d6, .d1⟩, .load false 1 (.t ⟨.d0, .d6, .d0⟩), none⟩,
    ⟨some ⟨.d0, .d6, .d2⟩, .bin .sub (.t ⟨.d0, .d5, .d7⟩) (.t ⟨.d0, .d6, .d1⟩), none⟩,
    ⟨some ⟨.d0, .d6, .d3⟩, .bin .shl (.c (.int .u64 1)) (.t ⟨.d0, .d6, .d2⟩), none⟩,
    ⟨some ⟨.d0, .d6, .d4⟩, .bin .add (.t ⟨.d0, .d5, .d6⟩) (.t ⟨.d0, .d6, .d3⟩), none⟩,
    ⟨some ⟨.d0, .d6, .d5⟩, .build [.int .i64 0, .int .u64 0] [(0, 1, (.t ⟨.d0, .d5, .d4⟩)), (1, 1, (.t ⟨.d0, .d6, .d4⟩))], none⟩,
    ⟨some ⟨.d0, .d6, .d6⟩, .move (.t ⟨.d0, .d1, .d1⟩), none⟩,
    ⟨none, .store 2 (.t ⟨.d0, .d0, .d4⟩) (.t ⟨.d0, .d6, .d5⟩), none⟩,
    ⟨some ⟨.d0, .d0, .d5⟩, .move (.t ⟨.d0, .d6, .d6⟩), none⟩,
    ⟨some ⟨.d0, .d0, .d6⟩, .move (.c (.int .i64 0)), none⟩])
  (.ret)))))))))
def r_custref_PortsLet : List XR := [.cell ⟨.d0, .d0, .d4⟩ true 2, .tmp ⟨.d0, .d0, .d5⟩, .tmp ⟨.d0, .d0, .d6⟩]
theorem ok_custref_PortsLet : okC Tryd.prog Tryd.f23.ntmps (bodyOf Tryd.f23) x_custref_PortsLet = true := by kernel_rfl
theorem okr_custref_PortsLet : okRs Tryd.prog Tryd.f23.results.toList r_custref_PortsLet = true := by kernel_rfl

/-- ports.Check -/
def x_ports_Check : XC :=
  .seq (.region [⟨some ⟨.d0, .d0, .d1⟩, .box 0 2 (.t ⟨.d0, .d0, .d0⟩), none⟩,
    ⟨some ⟨.d0, .d0, .d2⟩, .move (.c (.int .i64 0)), none⟩])
  (.seq (.seq (.region [⟨some ⟨.d0, .d0, .d3⟩, .fieldAddr 0 (.t ⟨.d0, .d0, .d1⟩), none⟩,
    ⟨some ⟨.d0, .d0, .d4⟩, .load false 1 (.t ⟨.d0, .d0, .d3⟩), none⟩,
    ⟨some ⟨.d0, .d0, .d5⟩, .bin .lss (.t ⟨.d0, .d0, .d4⟩) (.c (.int .i64 64)), none⟩,
    ⟨some ⟨.d0, .d0, .d6⟩, .move (.t ⟨.d0, .d0, .d5⟩), none⟩,
    ⟨some ⟨.d0, .d0, .d7⟩, .fieldAddr 0 (.t ⟨.d0, .d0, .d1⟩), some (⟨.d0, .d0, .d6⟩, false)⟩,
    ⟨some ⟨.d0, .d1, .d0⟩, .load false 1 (.t ⟨.d0, .d0, .d7⟩), some (⟨.d0, .d0, .d6⟩, false)⟩,
    ⟨some ⟨.d0, .d1, .d1⟩, .bin .gtr (.t ⟨.d0, .d1, .d0⟩) (.c (.int .i64 65472)), some (⟨.d0, .d0, .d6⟩, false)⟩,
    ⟨some ⟨.d0, .d1, .d2⟩, .pick (.t ⟨.d0, .d0, .d6⟩) (.c (.bool true)) (.t ⟨.d0, .d1, .d1⟩), none⟩,
    ⟨some ⟨.d0, .d1, .d3⟩, .move (.t ⟨.d0, .d1, .d2⟩), none⟩,
    ⟨some ⟨.d0, .d1, .d4⟩, .fieldAddr 0 (.t ⟨.d0, .d0, .d1⟩), some (⟨.d0, .d1, .d3⟩, false)⟩,
    ⟨some ⟨.d0, .d1, .d5⟩, .load false 1 (.t ⟨.d0, .d1, .d4⟩), some (⟨.d0, .d1, .d3⟩, false)⟩,
    ⟨some ⟨.d0, .d1, .d6⟩, .bin .rem (.t ⟨.d0, .d1, .d5⟩) (.c (.int .i64 64)), some (⟨.d0, .d1, .d3⟩, false)⟩,
    ⟨some ⟨.d0, .d1, .d7⟩, .bin .neq (.t ⟨.d0, .d1, .d6⟩) (.c (.int .i64 0)), some (⟨.d0, .d1, .d3⟩, false)⟩,
    ⟨some ⟨.d0, .d2, .d0⟩, .pick (.t ⟨.d0, .d1, .d3⟩) (.c (.bool true)) (.t ⟨.d0, .d1, .d7⟩), none⟩])
  (.cond (.t ⟨.d0, .d2, .d0⟩)
    (.seq (.region [⟨some ⟨.d0, .d0, .d2⟩, .move (.c (.int .i64 1)), none⟩])
    (.ret))
    (.skip)))
  (.seq (.region [⟨some ⟨.d0, .d0, .d2⟩, .move (.c (.int .i64 0)), none⟩])
  (.ret)))
def r_ports_Check : List XR := [.tmp ⟨.d0, .d0, .d2⟩]
theorem ok_ports_Check : okC Tryd.prog Tryd.f24.ntmps (bodyOf Tryd.f24) x_ports_Check = true := by kernel_rfl
theorem okr_ports_Check : okRs Tryd.prog Tryd.f24.results.toList r_ports_Check = true := by kernel_rfl

/-- ports.End -/
def x_ports_End : XC :=
  .seq (.region [⟨some ⟨.d0, .d0, .d2⟩, .box 0 2 (.t ⟨.d0, .d0, .d0⟩), none⟩,
    ⟨some ⟨.d0, .d0, .d4⟩, .alloc 1 [.int .i64 0, .int .u64 0], none⟩,
    ⟨some ⟨.d0, .d0, .d5⟩, .move (.c (.int .i64 0)), none⟩])
  (.seq (.seq (.region [⟨some ⟨.d0, .d0, .d7⟩, .load true 2 (.t ⟨.d0, .d0, .d2⟩), none⟩,
    ⟨some ⟨.d0, .d1, .d0⟩, .call 24 [(.t ⟨.d0, .d0, .d7⟩)], none⟩,
    ⟨some ⟨.d0, .d0, .d6⟩, .move (.t ⟨.d0, .d1, .d0⟩), none⟩])
  (.seq (.region [⟨some ⟨.d0, .d1, .d1⟩, .move (.t ⟨.d0, .d0, .d6⟩), none⟩,
    ⟨some ⟨.d0, .d1, .d2⟩, .bin .neq (.t ⟨.d0, .d1, .d1⟩) (.c (.int .i64 0)), none⟩])
  (.cond (.t ⟨.d0, .d1, .d2⟩)
    (.seq (.region [⟨some ⟨.d0, .d1, .d3⟩, .build [.int .i64 0, .int .u64 0] [], none⟩,
      ⟨some ⟨.d0, .d1, .d4⟩, .move (.t ⟨.d0, .d0, .d6⟩), none⟩,
      ⟨none, .store 2 (.t ⟨.d0, .d0, .d4⟩) (.t ⟨.d0, .d1, .d3⟩), none⟩,
      ⟨some ⟨.d0, .d0, .d5⟩, .move (.t ⟨.d0, .d1, .d4⟩), none⟩])
    (.ret))
    (.skip))))
  (.seq (.seq (.region [⟨some ⟨.d0, .d1, .d5⟩, .move (.t ⟨.d0, .d0, .d1⟩), none⟩,
    ⟨some ⟨.d0, .d1, .d6⟩, .fieldAddr 0 (.t ⟨.d0, .d0, .d2⟩), none⟩,
    ⟨some ⟨.d0, .d1, .d7⟩, .load false 1 (.t ⟨.d0, .d1, .d6⟩), none⟩,
    ⟨some ⟨.d0, .d2, .d0⟩, .bin .lss (.t ⟨.d0, .d1, .d5⟩) (.t ⟨.d0, .d1, .d7⟩), none⟩,
    ⟨some ⟨.d0, .d2, .d1⟩, .move (.t ⟨.d0, .d2, .d0⟩), none⟩,
    ⟨some ⟨.d0, .d2, .d2⟩, .move (.t ⟨.d0, .d0, .d1⟩), some (⟨.d0, .d2, .d1⟩, false)⟩,
    ⟨some ⟨.d0, .d2, .d3⟩, .fieldAddr 0 (.t ⟨.d0, .d0, .d2⟩), some (⟨.d0, .d2, .d1⟩, false)⟩,
    ⟨some ⟨.d0, .d2, .d4⟩, .load false 1 (.t ⟨.d0, .d2, .d3⟩), some (⟨.d0, .d2, .d1⟩, false)⟩,
    ⟨some ⟨.d0, .d2, .d5⟩, .bin .add (.t ⟨.d0, .d2, .d4⟩) (.c (.int .i64 63)), some (⟨.d0, .d2, .d1⟩, false)⟩,
    ⟨some ⟨.d0, .d2, .d6⟩, .bin .gtr (.t ⟨.d0, .d2, .d2⟩) (.t ⟨.d0, .d2, .d5⟩), some (⟨.d0, .d2, .d1⟩, false)⟩,
    ⟨some ⟨.d0, .d2, .d7⟩, .pick (.t ⟨.d0, .d2, .d1⟩) (.c (.bool true)) (.t ⟨.d0, .d2, .d6⟩), none⟩,
    ⟨some ⟨.d0, .d3, .d0⟩, .move (.t ⟨.d0, .d2, .d7⟩), none⟩,
    ⟨some ⟨.d0, .d3, .d1⟩, .fieldAddr 1 (.t ⟨.d0, .d0, .d2⟩), some (⟨.d0, .d3, .d0⟩, false)⟩,
    ⟨some ⟨.d0, .d3, .d2⟩, .load false 1 (.t ⟨.d0, .d3, .d1⟩), some (⟨.d0, .d3, .d0⟩, false)⟩,
    ⟨some ⟨.d0, .d3, .d3⟩, .move (.t ⟨.d0, .d0, .d1⟩), some (⟨.d0, .d3, .d0⟩, false)⟩,
    ⟨some ⟨.d0, .d3, .d4⟩, .fieldAddr 0 (.t ⟨.d0, .d0, .d2⟩), some (⟨.d0, .d3, .d0⟩, false)⟩,
    ⟨some ⟨.d0, .d3, .d5⟩, .load false 1 (.t ⟨.d0, .d3, .d4⟩), some (⟨.d0, .d3, .d0⟩, false)⟩,
    ⟨some ⟨.d0, .d3, .d6⟩, .bin .sub (.t ⟨.d0, .d3, .d3⟩) (.t ⟨.d0, .d3, .d5⟩), some (⟨.d0, .d3, .d0⟩, false)⟩,
    ⟨some ⟨.d0, .d3, .d7⟩, .bin .shr (.t ⟨.d0, .d3, .d2⟩) (.t ⟨.d0, .d3, .d6⟩), some (⟨.d0, .d3, .d0⟩, false)⟩,
    ⟨some ⟨.d0, .d4, .d0⟩, .bin .and (.t ⟨.d0, .d3, .d7⟩) (.c (.int .u64 1)), some (⟨.d0, .d3, .d0⟩, false)⟩,
    ⟨some ⟨.d0, .d4, .d1⟩, .bin .eql (.t ⟨.d0, .d4, .d0⟩) (.c (.int .u64 0)), some (⟨.d0, .d3, .d0⟩, false)⟩,
    ⟨some ⟨.d0, .d4, .d2⟩, .pick (.t ⟨.d0, .d3, .d0⟩) (.c (.bool true)) (.t ⟨.d0, .d4, .d1⟩), none⟩])
  (.cond (.t ⟨.d0, .d4, .d2⟩)
    (.seq (.region [⟨some ⟨.d0, .d4, .d3⟩, .build [.int .i64 0, .int .u64 0] [], none⟩,
      ⟨none, .store 2 (.t ⟨.d0, .d0, .d4⟩) (.t ⟨.d0, .d4, .d3⟩), none⟩,
      ⟨some ⟨.d0, .d0, .d5⟩, .move (.c (.int .i64 7)), none⟩])
    (.ret))
    (.skip)))
  (.seq (.regionD [0, 1, 0, 0, 8, 28, 60, 127, 255, 511] [⟨some ⟨.d0, .d4, .d4⟩, .fieldAddr 1 (.t ⟨.d0, .d0, .d2⟩), none⟩,
    ⟨some ⟨.d0, .d4, .d5⟩, .load false 1 (.t ⟨.d0, .d4, .d4⟩), none⟩,
    ⟨some ⟨.d0, .d4, .d6⟩, .move (.t ⟨.d0, .d0, .d1⟩), none⟩,
    ⟨some ⟨.d0, .d4, .d7⟩, .fieldAddr 0 (.t ⟨.d0, .d0, .d2⟩), none⟩,
    ⟨some ⟨.d0, .d5, .d0⟩, .load false 1 (.t ⟨.d0, .d4, .d7⟩), none⟩,
    ⟨some ⟨.d0, .d5, .d1⟩, .bin .sub (.t ⟨.d0, .d4, .d6⟩) (.t ⟨.d0, .d5, .d0⟩), none⟩,
    ⟨some ⟨.d0, .d5, .d2⟩, .bin .shl (.c (.int .u64 1)) (.t ⟨.d0, .d5, .d1⟩), none⟩,
    ⟨some ⟨.d0, .d5, .d3⟩, .bin .xor (.t ⟨.d0, .d4, .d5⟩) (.t ⟨.d0, .d5, .d2⟩), none⟩,
    ⟨some ⟨.d0, .d5, .d4⟩, .fieldAddr 1 (.t ⟨.d0, .d0, .d2⟩), none⟩,
    ⟨none, .store 1 (.t ⟨.d0, .d5, .d4⟩) (.t ⟨.d0, .d5, .d3⟩), none⟩])
  (.seq (.region [⟨some ⟨.d0, .d5, .d5⟩, .load true 2 (.t ⟨.d0, .d0, .d2⟩), none⟩,
    ⟨none, .store 2 (.t ⟨.d0, .d0, .d4⟩) (.t ⟨.d0, .d5, .d5⟩), none⟩,
    ⟨some ⟨.d0, .d0, .d5⟩, .move (.c (.int .i64 0)), none⟩])
  (.ret)))))
def r_ports_End : List XR := [.cell ⟨.d0, .d0, .d4⟩ true 2, .tmp ⟨.d0, .d0, .d5⟩]
theorem ok_ports_End : okC Tryd.prog Tryd.f25.ntmps (bodyOf Tryd.f25) x_ports_End = true := by kernel_rfl
theorem okr_ports_End : okRs Tryd.prog Tryd.f25.results.toList r_ports_End = true := by kernel_rfl

/-- custref.PortsRight -/
def x_custref_PortsRight : XC :=
  .seq (.region [⟨some ⟨.d0, .d0, .d1⟩, .box 0 2 (.t ⟨.d0, .d0, .d0⟩), none⟩,
    ⟨some ⟨.d0, .d0, .d2⟩, .move (.c (.int .i64 0)), none⟩])
  (.seq (.seq (.region [⟨some ⟨.d0, .d0, .d3⟩, .fieldAddr 0 (.t ⟨.d0, .d0, .d1⟩), none⟩,
    ⟨some ⟨.d0, .d0, .d4⟩, .load false 1 (.t ⟨.d0, .d0, .d3⟩), none⟩,
    ⟨some ⟨.d0, .d0, .d5⟩, .call 21 [(.t ⟨.d0, .d0, .d4⟩), (.c (.int .i64 64)), (.c (.int .i64 65472))], none⟩,
    ⟨some ⟨.d0, .d0, .d6⟩, .un .not (.t ⟨.d0, .d0, .d5⟩), none⟩,
    ⟨some ⟨.d0, .d0, .d7⟩, .move (.t ⟨.d0, .d0, .d6⟩), none⟩,
    ⟨some ⟨.d0, .d1, .d0⟩, .fieldAddr 0 (.t ⟨.d0, .d0, .d1⟩), some (⟨.d0, .d0, .d7⟩, false)⟩,
    ⟨some ⟨.d0, .d1, .d1⟩, .load false 1 (.t ⟨.d0, .d1, .d0⟩), some (⟨.d0, .d0, .d7⟩, false)⟩,
    ⟨some ⟨.d0, .d1, .d2⟩, .bin .rem (.t ⟨.d0, .d1, .d1⟩) (.c (.int .i64 64)), some (⟨.d0, .d0, .d7⟩, false)⟩,
    ⟨some ⟨.d0, .d1, .d3⟩, .bin .neq (.t ⟨.d0, .d1, .d2⟩) (.c (.int .i64 0)), some (⟨.d0, .d0, .d7⟩, false)⟩,
    ⟨some ⟨.d0, .d1, .d4⟩, .pick (.t ⟨.d0, .d0, .d7⟩) (.c (.bool true)) (.t ⟨.d0, .d1, .d3⟩), none⟩])
  (.cond (.t ⟨.d0, .d1, .d4⟩)
    (.seq (.region [⟨some ⟨.d0, .d0, .d2⟩, .move (.c (.int .i64 1)), none⟩])
    (.ret))
    (.skip)))
  (.seq (.region [⟨some ⟨.d0, .d0, .d2⟩, .move (.c (.int .i64 0)), none⟩])
  (.ret)))
def r_custref_PortsRight : List XR := [.tmp ⟨.d0, .d0, .d2⟩]
theorem ok_custref_PortsRight : okC Tryd.prog Tryd.f26.ntmps (bodyOf Tryd.f26) x_custref_PortsRight = true := by kernel_rfl
theorem okr_custref_PortsRight : okRs Tryd.prog Tryd.f26.results.toList r_custref_PortsRight = true := by kernel_rfl

/-- custref.NatTaken -/
def x_custref_NatTaken : XC :=
  .seq (.region [⟨some ⟨.d0, .d0, .d1⟩, .box 0 2 (.t ⟨.d0, .d0, .d0⟩), none⟩,
    ⟨some ⟨.d0, .d0, .d2⟩, .move (.c (.slice none 0 0)), none⟩])
  (.seq (.region [⟨some ⟨.d0, .d0, .d3⟩, .move (.c (.slice none 0 0)), none⟩])
  (.seq (.seq (.region [⟨some ⟨.d0, .d0, .d5⟩, .move (.c (.int .i64 0)), none⟩])
  (.block 0
    (.loop
      (.seq (.region [⟨some ⟨.d0, .d0, .d6⟩, .bin .lss (.t ⟨.d0, .d0, .d5⟩) (.c (.int .i64 64)), none⟩])
      (.seq (.cond (.t ⟨.d0, .d0, .d6⟩)
        (.skip)
        (.exit 0))
      (.seq (.block 1
        (.seq (.region [⟨some ⟨.d0, .d0, .d7⟩, .move (.t ⟨.d0, .d0, .d5⟩), none⟩,
          ⟨some ⟨.d0, .d0, .d4⟩, .move (.t ⟨.d0, .d0, .d7⟩), none⟩])
        (.seq (.regionD [0, 1, 0, 4, 0, 28, 63, 127] [⟨some ⟨.d0, .d1, .d0⟩, .load true 2 (.t ⟨.d0, .d0, .d1⟩), none⟩,
          ⟨some ⟨.d0, .d1, .d1⟩, .call 36 [(.t ⟨.d0, .d1, .d0⟩)], none⟩,
          ⟨some ⟨.d0, .d1, .d2⟩, .fieldAddr 0 (.t ⟨.d0, .d0, .d1⟩), none⟩,
          ⟨some ⟨.d0, .d1, .d3⟩, .load false 1 (.t ⟨.d0, .d1, .d2⟩), none⟩,
          ⟨some ⟨.d0, .d1, .d4⟩, .move (.t ⟨.d0, .d0, .d4⟩), none⟩,
          ⟨some ⟨.d0, .d1, .d5⟩, .bin .add (.t ⟨.d0, .d1, .d3⟩) (.t ⟨.d0, .d1, .d4⟩), none⟩,
          ⟨some ⟨.d0, .d1, .d6⟩, .call 39 [(.t ⟨.d0, .d1, .d1⟩), (.t ⟨.d0, .d1, .d5⟩)], none⟩,
          ⟨some ⟨.d0, .d1, .d7⟩, .un .not (.t ⟨.d0, .d1, .d6⟩), none⟩])
        (.cond (.t ⟨.d0, .d1, .d7⟩)
          (.region [⟨some ⟨.d0, .d2, .d0⟩, .move (.t ⟨.d0, .d0, .d3⟩), none⟩,
            ⟨some ⟨.d0, .d2, .d1⟩, .fieldAddr 0 (.t ⟨.d0, .d0, .d1⟩), none⟩,
            ⟨some ⟨.d0, .d2, .d2⟩, .load false 1 (.t ⟨.d0, .d2, .d1⟩), none⟩,
            ⟨some ⟨.d0, .d2, .d3⟩, .move (.t ⟨.d0, .d0, .d4⟩), none⟩,
            ⟨some ⟨.d0, .d2, .d4⟩, .bin .add (.t ⟨.d0, .d2, .d2⟩) (.t ⟨.d0, .d2, .d3⟩), none⟩,
            ⟨some ⟨.d0, .d2, .d5⟩, .buildSlice 1 1 [.int .i64 0] [(0, (.t ⟨.d0, .d2, .d4⟩))], none⟩,
            ⟨some ⟨.d0, .d2, .d6⟩, .append 2 1 8 (.t ⟨.d0, .d2, .d0⟩) (.t ⟨.d0, .d2, .d5⟩), none⟩,
            ⟨some ⟨.d0, .d0, .d3⟩, .move (.t ⟨.d0, .d2, .d6⟩), none⟩])
          (.skip)))))
      (.region [⟨some ⟨.d0, .d2, .d7⟩, .bin .add (.t ⟨.d0, .d0, .d5⟩) (.c (.int .i64 1)), none⟩,
        ⟨some ⟨.d0, .d0, .d5⟩, .move (.t ⟨.d0, .d2, .d7⟩), none⟩])))))))
  (.seq (.region [⟨some ⟨.d0, .d3, .d0⟩, .move (.t ⟨.d0, .d0, .d3⟩), none⟩,
    ⟨some ⟨.d0, .d0, .d2⟩, .move (.t ⟨.d0, .d3, .d0⟩), none⟩])
  (.ret))))
def r_custref_NatTaken : List XR := [.tmp ⟨.d0, .d0, .d2⟩]
theorem ok_custref_NatTaken : okC Tryd.prog Tryd.f27.ntmps (bodyOf Tryd.f27) x_custref_NatTaken = true := by kernel_rfl
theorem okr_custref_NatTaken : okRs Tryd.prog Tryd.f27.results.toList r_custref_NatTaken = true := by kernel_rfl

/-- slices.Equal -/
def x_slices_Equal_api_Map : XC :=
  .seq (.region [⟨some ⟨.d0, .d0, .d4⟩, .move (.c (.bool false)), none⟩])
  (.seq (.seq (.region [⟨some ⟨.d0, .d0, .d6⟩, .move (.t ⟨.d0, .d0, .d0⟩), none⟩,
    ⟨some ⟨.d0, .d0, .d7⟩, .len (.t ⟨.d0, .d0, .d6⟩), none⟩,
    ⟨some ⟨.d0, .d1, .d0⟩, .move (.t ⟨.d0, .d0, .d1⟩), none⟩,
    ⟨some ⟨.d0, .d1, .d1⟩, .len (.t ⟨.d0, .d1, .d0⟩), none⟩,
    ⟨some ⟨.d0, .d1, .d2⟩, .bin .neq (.t ⟨.d0, .d0, .d7⟩) (.t ⟨.d0, .d1, .d1⟩), none⟩])
  (.cond (.t ⟨.d0, .d1, .d2⟩)
    (.seq (.region [⟨some ⟨.d0, .d0, .d4⟩, .move (.c (.bool false)), none⟩])
    (.ret))
    (.skip)))
  (.seq (.seq (.region [⟨some ⟨.d0, .d1, .d3⟩, .move (.t ⟨.d0, .d0, .d0⟩), none⟩,
    ⟨some ⟨.d0, .d1, .d4⟩, .len (.t ⟨.d0, .d1, .d3⟩), none⟩,
    ⟨some ⟨.d0, .d1, .d5⟩, .move (.c (.int .i64 0)), none⟩])
  (.block 0
    (.loop
      (.seq (.region [⟨some ⟨.d0, .d1, .d6⟩, .bin .lss (.t ⟨.d0, .d1, .d5⟩) (.t ⟨.d0, .d1, .d4⟩), none⟩])
      (.seq (.cond (.t ⟨.d0, .d1, .d6⟩)
        (.skip)
        (.exit 0))
      (.seq (.block 1
        (.seq (.region [⟨some ⟨.d0, .d1, .d7⟩, .move (.t ⟨.d0, .d1, .d5⟩), none⟩,
          ⟨some ⟨.d0, .d0, .d5⟩, .move (.t ⟨.d0, .d1, .d7⟩), none⟩])
        (.seq (.regionD [0, 0, 3, 7, 0, 0, 48, 112, 255] [⟨some ⟨.d0, .d2, .d0⟩, .move (.t ⟨.d0, .d0, .d0⟩), none⟩,
          ⟨some ⟨.d0, .d2, .d1⟩, .move (.t ⟨.d0, .d0, .d5⟩), none⟩,
          ⟨some ⟨.d0, .d2, .d2⟩, .indexSl 5 (.t ⟨.d0, .d2, .d0⟩) (.t ⟨.d0, .d2, .d1⟩), none⟩,
          ⟨some ⟨.d0, .d2, .d3⟩, .load true 5 (.t ⟨.d0, .d2, .d2⟩), none⟩,
          ⟨some ⟨.d0, .d2, .d4⟩, .move (.t ⟨.d0, .d0, .d1⟩), none⟩,
          ⟨some ⟨.d0, .d2, .d5⟩, .move (.t ⟨.d0, .d0, .d5⟩), none⟩,
          ⟨some ⟨.d0, .d2, .d6⟩, .indexSl 5 (.t ⟨.d0, .d2, .d4⟩) (.t ⟨.d0, .d2, .d5⟩), none⟩,
          ⟨some ⟨.d0, .d2, .d7⟩, .load true 5 (.t ⟨.d0, .d2, .d6⟩), none⟩,
          ⟨some ⟨.d0, .d3, .d0⟩, .eqs true [0, 0, 0, 0, 0] (.t ⟨.d0, .d2, .d3⟩) (.t ⟨.d0, .d2, .d7⟩), none⟩])
        (.cond (.t ⟨.d0, .d3, .d0⟩)
          (.seq (.region [⟨some ⟨.d0, .d0, .d4⟩, .move (.c (.bool false)), none⟩])
          (.ret))
          (.skip)))))
      (.region [⟨some ⟨.d0, .d3, .d1⟩, .bin .add (.t ⟨.d0, .d1, .d5⟩) (.c (.int .i64 1)), none⟩,
        ⟨some ⟨.d0, .d1, .d5⟩, .move (.t ⟨.d0, .d3, .d1⟩), none⟩])))))))
  (.seq (.region [⟨some ⟨.d0, .d0, .d4⟩, .move (.c (.bool true)), none⟩])
  (.ret))))
def r_slices_Equal_api_Map : List XR := [.tmp ⟨.d0, .d0, .d4⟩]
theorem ok_slices_Equal_api_Map : okC Tryd.prog Tryd.f28.ntmps (bodyOf Tryd.f28) x_slices_Equal_api_Map = true := by kernel_rfl
theorem okr_slices_Equal_api_Map : okRs Tryd.prog Tryd.f28.results.toList r_slices_Equal_api_Map = true := by kernel_rfl

/-- slices.IndexFunc -/
def x_slices_IndexFunc_api_Map : XC :=
  .seq (.region [⟨some ⟨.d0, .d0, .d4⟩, .move (.c (.int .i64 0)), none⟩])
  (.seq (.seq (.region [⟨some ⟨.d0, .d0, .d6⟩, .move (.t ⟨.d0, .d0, .d0⟩), none⟩,
    ⟨some ⟨.d0, .d0, .d7⟩, .len (.t ⟨.d0, .d0, .d6⟩), none⟩,
    ⟨some ⟨.d0, .d1, .d0⟩, .move (.c (.int .i64 0)), none⟩])
  (.block 0
    (.loop
      (.seq (.region [⟨some ⟨.d0, .d1, .d1⟩, .bin .lss (.t ⟨.d0, .d1, .d0⟩) (.t ⟨.d0, .d0, .d7⟩), none⟩])
      (.seq (.cond (.t ⟨.d0, .d1, .d1⟩)
        (.skip)
        (.exit 0))
      (.seq (.block 1
        (.seq (.region [⟨some ⟨.d0, .d1, .d2⟩, .move (.t ⟨.d0, .d1, .d0⟩), none⟩,
          ⟨some ⟨.d0, .d0, .d5⟩, .move (.t ⟨.d0, .d1, .d2⟩), none⟩])
        (.seq (.region [⟨some ⟨.d0, .d1, .d3⟩, .move (.t ⟨.d0, .d0, .d1⟩), none⟩,
          ⟨some ⟨.d0, .d1, .d4⟩, .move (.t ⟨.d0, .d0, .d0⟩), none⟩,
          ⟨some ⟨.d0, .d1, .d5⟩, .move (.t ⟨.d0, .d0, .d5⟩), none⟩,
          ⟨some ⟨.d0, .d1, .d6⟩, .indexSl 5 (.t ⟨.d0, .d1, .d4⟩) (.t ⟨.d0, .d1, .d5⟩), none⟩,
          ⟨some ⟨.d0, .d1, .d7⟩, .load true 5 (.t ⟨.d0, .d1, .d6⟩), none⟩,
          ⟨some ⟨.d0, .d2, .d0⟩, .callv (.t ⟨.d0, .d1, .d3⟩) [(.t ⟨.d0, .d1, .d7⟩)], none⟩])
        (.cond (.t ⟨.d0, .d2, .d0⟩)
          (.seq (.region [⟨some ⟨.d0, .d2, .d1⟩, .move (.t ⟨.d0, .d0, .d5⟩), none⟩,
            ⟨some ⟨.d0, .d0, .d4⟩, .move (.t ⟨.d0, .d2, .d1⟩), none⟩])
          (.ret))
          (.skip)))))
      (.region [⟨some ⟨.d0, .d2, .d2⟩, .bin .add (.t ⟨.d0, .d1, .d0⟩) (.c (.int .i64 1)), none⟩,
        ⟨some ⟨.d0, .d1, .d0⟩, .move (.t ⟨.d0, .d2, .d2⟩), none⟩])))))))
  (.seq (.region [⟨some ⟨.d0, .d0, .d4⟩, .move (.c (.int .i64 (-1))), none⟩])
  (.ret)))
def r_slices_IndexFunc_api_Map : List XR := [.tmp ⟨.d0, .d0, .d4⟩]
theorem ok_slices_IndexFunc_api_Map : okC Tryd.prog Tryd.f33.ntmps (bodyOf Tryd.f33) x_slices_IndexFunc_api_Map = true := by kernel_rfl
theorem okr_slices_IndexFunc_api_Map : okRs Tryd.prog Tryd.f33.results.toList r_slices_IndexFunc_api_Map = true := by kernel_rfl

/-- nat.within-1 -/
def x_nat_within_1 : XC :=
  .seq (.region [⟨some ⟨.d0, .d0, .d4⟩, .box 0 5 (.t ⟨.d0, .d0, .d0⟩), none⟩,
    ⟨some ⟨.d0, .d0, .d5⟩, .move (.c (.bool false)), none⟩])
  (.seq (.region [⟨some ⟨.d0, .d0, .d6⟩, .fieldAddr 0 (.t ⟨.d0, .d0, .d4⟩), none⟩,
    ⟨some ⟨.d0, .d0, .d7⟩, .load false 1 (.t ⟨.d0, .d0, .d6⟩), none⟩,
    ⟨some ⟨.d0, .d1, .d0⟩, .load false 1 (.t ⟨.d0, .d0, .d1⟩), none⟩,
    ⟨some ⟨.d0, .d1, .d1⟩, .bin .eql (.t ⟨.d0, .d0, .d7⟩) (.t ⟨.d0, .d1, .d0⟩), none⟩,
    ⟨some ⟨.d0, .d1, .d2⟩, .move (.t ⟨.d0, .d1, .d1⟩), none⟩,
    ⟨some ⟨.d0, .d1, .d3⟩, .fieldAddr 1 (.t ⟨.d0, .d0, .d4⟩), some (⟨.d0, .d1, .d2⟩, true)⟩,
    ⟨some ⟨.d0, .d1, .d4⟩, .load false 1 (.t ⟨.d0, .d1, .d3⟩), some (⟨.d0, .d1, .d2⟩, true)⟩,
    ⟨some ⟨.d0, .d1, .d5⟩, .load false 1 (.t ⟨.d0, .d0, .d2⟩), some (⟨.d0, .d1, .d2⟩, true)⟩,
    ⟨some ⟨.d0, .d1, .d6⟩, .bin .eql (.t ⟨.d0, .d1, .d4⟩) (.t ⟨.d0, .d1, .d5⟩), some (⟨.d0, .d1, .d2⟩, true)⟩,
    ⟨some ⟨.d0, .d1, .d7⟩, .pick (.t ⟨.d0, .d1, .d2⟩) (.t ⟨.d0, .d1, .d6⟩) (.c (.bool false)), none⟩,
    ⟨some ⟨.d0, .d2, .d0⟩, .move (.t ⟨.d0, .d1, .d7⟩), none⟩,
    ⟨some ⟨.d0, .d2, .d1⟩, .fieldAddr 2 (.t ⟨.d0, .d0, .d4⟩), some (⟨.d0, .d2, .d0⟩, true)⟩,
    ⟨some ⟨.d0, .d2, .d2⟩, .load false 1 (.t ⟨.d0, .d2, .d1⟩), some (⟨.d0, .d2, .d0⟩, true)⟩,
    ⟨some ⟨.d0, .d2, .d3⟩, .load false 1 (.t ⟨.d0, .d0, .d3⟩), some (⟨.d0, .d2, .d0⟩, true)⟩,
    ⟨some ⟨.d0, .d2, .d4⟩, .bin .eql (.t ⟨.d0, .d2, .d2⟩) (.t ⟨.d0, .d2, .d3⟩), some (⟨.d0, .d2, .d0⟩, true)⟩,
    ⟨some ⟨.d0, .d2, .d5⟩, .pick (.t ⟨.d0, .d2, .d0⟩) (.t ⟨.d0, .d2, .d4⟩) (.c (.bool false)), none⟩,
    ⟨some ⟨.d0, .d0, .d5⟩, .move (.t ⟨.d0, .d2, .d5⟩), none⟩])
  (.ret))
def r_nat_within_1 : List XR := [.tmp ⟨.d0, .d0, .d5⟩]
theorem ok_nat_within_1 : okC Tryd.prog Tryd.f34.ntmps (bodyOf Tryd.f34) x_nat_within_1 = true := by kernel_rfl
theorem okr_nat_within_1 : okRs Tryd.prog Tryd.f34.results.toList r_nat_within_1 = true := by kernel_rfl

/-- bits.TrailingZeros64 -/
def x_bits_TrailingZeros64 : XC :=
  .seq (.region [⟨some ⟨.d0, .d0, .d2⟩, .move (.c (.int .i64 0)), none⟩])
  (.seq (.seq (.region [⟨some ⟨.d0, .d0, .d3⟩, .move (.t ⟨.d0, .d0, .d0⟩), none⟩,
    ⟨some ⟨.d0, .d0, .d4⟩, .bin .eql (.t ⟨.d0, .d0, .d3⟩) (.c (.int .u64 0)), none⟩])
  (.cond (.t ⟨.d0, .d0, .d4⟩)
    (.seq (.region [⟨some ⟨.d0, .d0, .d2⟩, .move (.c (.int .i64 64)), none⟩])
    (.ret))
    (.skip)))
  (.seq (.region [⟨some ⟨.d0, .d0, .d5⟩, .move (.t ⟨.d0, .d0, .d0⟩), none⟩,
    ⟨some ⟨.d0, .d0, .d6⟩, .move (.t ⟨.d0, .d0, .d0⟩), none⟩,
    ⟨some ⟨.d0, .d0, .d7⟩, .un .neg (.t ⟨.d0, .d0, .d6⟩), none⟩,
    ⟨some ⟨.d0, .d1, .d0⟩, .bin .and (.t ⟨.d0, .d0, .d5⟩) (.t ⟨.d0, .d0, .d7⟩), none⟩,
    ⟨some ⟨.d0, .d1, .d1⟩, .bin .mul (.t ⟨.d0, .d1, .d0⟩) (.c (.int .u64 285870213051353865)), none⟩,
    ⟨some ⟨.d0, .d1, .d2⟩, .bin .shr (.t ⟨.d0, .d1, .d1⟩) (.c (.int .u64 58)), none⟩,
    ⟨some ⟨.d0, .d1, .d3⟩, .gidx 1 64 0 (.t ⟨.d0, .d1, .d2⟩), none⟩,
    ⟨some ⟨.d0, .d1, .d4⟩, .load false 1 (.t ⟨.d0, .d1, .d3⟩), none⟩,
    ⟨some ⟨.d0, .d1, .d5⟩, .convInt .i64 (.t ⟨.d0, .d1, .d4⟩), none⟩,
    ⟨some ⟨.d0, .d0, .d2⟩, .move (.t ⟨.d0, .d1, .d5⟩), none⟩])
  (.ret)))
def r_bits_TrailingZeros64 : List XR := [.tmp ⟨.d0, .d0, .d2⟩]
theorem ok_bits_TrailingZeros64 : okC Tryd.prog Tryd.f35.ntmps (bodyOf Tryd.f35) x_bits_TrailingZeros64 = true := by kernel_rfl
theorem okr_bits_TrailingZeros64 : okRs Tryd.prog Tryd.f35.results.toList r_bits_TrailingZeros64 = true := by kernel_rfl

/-- custref.FreePorts -/
def x_custref_FreePorts : XC :=
  .seq (.region [⟨some ⟨.d0, .d0, .d1⟩, .box 0 2 (.t ⟨.d0, .d0, .d0⟩), none⟩,
    ⟨some ⟨.d0, .d0, .d2⟩, .move (.c (.slice none 0 0)), none⟩])
  (.seq (.region [⟨some ⟨.d0, .d0, .d3⟩, .move (.c (.slice none 0 0)), none⟩])
  (.seq (.region [⟨some ⟨.d0, .d0, .d6⟩, .fieldAddr 1 (.t ⟨.d0, .d0, .d1⟩), none⟩,
    ⟨some ⟨.d0, .d0, .d7⟩, .load false 1 (.t ⟨.d0, .d0, .d6⟩), none⟩,
    ⟨some ⟨.d0, .d0, .d4⟩, .move (.t ⟨.d0, .d0, .d7⟩), none⟩])
  (.seq (.seq (.region [⟨some ⟨.d0, .d1, .d0⟩, .move (.c (.int .i64 0)), none⟩])
  (.block 0
    (.loop
      (.seq (.region [⟨some ⟨.d0, .d1, .d1⟩, .bin .lss (.t ⟨.d0, .d1, .d0⟩) (.c (.int .i64 64)), none⟩])
      (.seq (.cond (.t ⟨.d0, .d1, .d1⟩)
        (.skip)
        (.exit 0))
      (.seq (.block 1
        (.seq (.region [⟨some ⟨.d0, .d1, .d2⟩, .move (.t ⟨.d0, .d1, .d0⟩), none⟩,
          ⟨some ⟨.d0, .d0, .d5⟩, .move (.t ⟨.d0, .d1, .d2⟩), none⟩])
        (.seq (.seq (.region [⟨some ⟨.d0, .d1, .d3⟩, .move (.t ⟨.d0, .d0, .d4⟩), none⟩,
          ⟨some ⟨.d0, .d1, .d4⟩, .bin .rem (.t ⟨.d0, .d1, .d3⟩) (.c (.int .u64 2)), none⟩,
          ⟨some ⟨.d0, .d1, .d5⟩, .bin .eql (.t ⟨.d0, .d1, .d4⟩) (.c (.int .u64 0)), none⟩])
        (.cond (.t ⟨.d0, .d1, .d5⟩)
          (.region [⟨some ⟨.d0, .d1, .d6⟩, .move (.t ⟨.d0, .d0, .d3⟩), none⟩,
            ⟨some ⟨.d0, .d1, .d7⟩, .fieldAddr 0 (.t ⟨.d0, .d0, .d1⟩), none⟩,
            ⟨some ⟨.d0, .d2, .d0⟩, .load false 1 (.t ⟨.d0, .d1, .d7⟩), none⟩,
            ⟨some ⟨.d0, .d2, .d1⟩, .move (.t ⟨.d0, .d0, .d5⟩), none⟩,
            ⟨some ⟨.d0, .d2, .d2⟩, .bin .add (.t ⟨.d0, .d2, .d0⟩) (.t ⟨.d0, .d2, .d1⟩), none⟩,
            ⟨some ⟨.d0, .d2, .d3⟩, .buildSlice 1 1 [.int .i64 0] [(0, (.t ⟨.d0, .d2, .d2⟩))], none⟩,
            ⟨some ⟨.d0, .d2, .d4⟩, .append 2 1 8 (.t ⟨.d0, .d1, .d6⟩) (.t ⟨.d0, .d2, .d3⟩), none⟩,
            ⟨some ⟨.d0, .d0, .d3⟩, .move (.t ⟨.d0, .d2, .d4⟩), none⟩])
          (.skip)))
        (.region [⟨some ⟨.d0, .d2, .d5⟩, .move (.t ⟨.d0, .d0, .d4⟩), none⟩,
          ⟨some ⟨.d0, .d2, .d6⟩, .bin .quo (.t ⟨.d0, .d2, .d5⟩) (.c (.int .u64 2)), none⟩,
          ⟨some ⟨.d0, .d0, .d4⟩, .move (.t ⟨.d0, .d2, .d6⟩), none⟩]))))
      (.region [⟨some ⟨.d0, .d2, .d7⟩, .bin .add (.t ⟨.d0, .d1, .d0⟩) (.c (.int .i64 1)), none⟩,
        ⟨some ⟨.d0, .d1, .d0⟩, .move (.t ⟨.d0, .d2, .d7⟩), none⟩])))))))
  (.seq (.region [⟨some ⟨.d0, .d3, .d0⟩, .move (.t ⟨.d0, .d0, .d3⟩), none⟩,
    ⟨some ⟨.d0, .d0, .d2⟩, .move (.t ⟨.d0, .d3, .d0⟩), none⟩])
  (.ret)))))
def r_custref_FreePorts : List XR := [.tmp ⟨.d0, .d0, .d2⟩]
theorem ok_custref_FreePorts : okC Tryd.prog Tryd.f36.ntmps (bodyOf Tryd.f36) x_custref_FreePorts = true := by kernel_rfl
theorem okr_custref_FreePorts : okRs Tryd.prog Tryd.f36.results.toList r_custref_FreePorts = true := by kernel_rfl

/-- slices.IndexFunc -/
def x_slices_IndexFunc_int : XC :=
  .seq (.region [⟨some ⟨.d0, .d0, .d4⟩, .move (.c (.int .i64 0)), none⟩])
  (.seq (.seq (.region [⟨some ⟨.d0, .d0, .d6⟩, .move (.t ⟨.d0, .d0, .d0⟩), none⟩,
    ⟨some ⟨.d0, .d0, .d7⟩, .len (.t ⟨.d0, .d0, .d6⟩), none⟩,
    ⟨some ⟨.d0, .d1, .d0⟩, .move (.c (.int .i64 0)), none⟩])
  (.block 0
    (.loop
      (.seq (.region [⟨some ⟨.d0, .d1, .d1⟩, .bin .lss (.t ⟨.d0, .d1, .d0⟩) (.t ⟨.d0, .d0, .d7⟩), none⟩])
      (.seq (.cond (.t ⟨.d0, .d1, .d1⟩)
        (.skip)
        (.exit 0))
      (.seq (.block 1
        (.seq (.region [⟨some ⟨.d0, .d1, .d2⟩, .move (.t ⟨.d0, .d1, .d0⟩), none⟩,
          ⟨some ⟨.d0, .d0, .d5⟩, .move (.t ⟨.d0, .d1, .d2⟩), none⟩])
        (.seq (.region [⟨some ⟨.d0, .d1, .d3⟩, .move (.t ⟨.d0, .d0, .d1⟩), none⟩,
          ⟨some ⟨.d0, .d1, .d4⟩, .move (.t ⟨.d0, .d0, .d0⟩), none⟩,
          ⟨some ⟨.d0, .d1, .d5⟩, .move (.t ⟨.d0, .d0, .d5⟩), none⟩,
          ⟨some ⟨.d0, .d1, .d6⟩, .indexSl 1 (.t ⟨.d0, .d1, .d4⟩) (.t ⟨.d0, .d1, .d5⟩), none⟩,
          ⟨some ⟨.d0, .d1, .d7⟩, .load false 1 (.t ⟨.d0, .d1, .d6⟩), none⟩,
          ⟨some ⟨.d0, .d2, .d0⟩, .callv (.t ⟨.d0, .d1, .d3⟩) [(.t ⟨.d0, .d1, .d7⟩)], none⟩])
        (.cond (.t ⟨.d0, .d2, .d0⟩)
          (.seq (.region [⟨some ⟨.d0, .d2, .d1⟩, .move (.t ⟨.d0, .d0, .d5⟩), none⟩,
            ⟨some ⟨.d0, .d0, .d4⟩, .move (.t ⟨.d0, .d2, .d1⟩), none⟩])
          (.ret))
          (.skip)))))
      (.region [⟨some ⟨.d0, .d2, .d2⟩, .bin .add (.t ⟨.d0, .d1, .d0⟩) (.c (.int .i64 1)), none⟩,
        ⟨some ⟨.d0, .d1, .d0⟩, .move (.t ⟨.d0, .d2, .d2⟩), none⟩])))))))
  (.seq (.region [⟨some ⟨.d0, .d0, .d4⟩, .move (.c (.int .i64 (-1))), none⟩])
  (.ret)))
def r_slices_IndexFunc_int : List XR := [.tmp ⟨.d0, .d0, .d4⟩]
theorem ok_slices_IndexFunc_int : okC Tryd.prog Tryd.f37.ntmps (bodyOf Tryd.f37) x_slices_IndexFunc_int = true := by kernel_rfl
theorem okr_slices_IndexFunc_int : okRs Tryd.prog Tryd.f37.results.toList r_slices_IndexFunc_int = true := by kernel_rfl

/-- custref.PortsLet-1 -/
def x_custref_PortsLet_1 : XC :=
  .seq (.region [⟨some ⟨.d0, .d0, .d3⟩, .move (.c (.bool false)), none⟩])
  (.seq (.region [⟨some ⟨.d0, .d0, .d4⟩, .move (.t ⟨.d0, .d0, .d0⟩), none⟩,
    ⟨some ⟨.d0, .d0, .d5⟩, .bin .rem (.t ⟨.d0, .d0, .d4⟩) (.c (.int .i64 2)), none⟩,
    ⟨some ⟨.d0, .d0, .d6⟩, .load false 1 (.t ⟨.d0, .d0, .d1⟩), none⟩,
    ⟨some ⟨.d0, .d0, .d7⟩, .bin .rem (.t ⟨.d0, .d0, .d6⟩) (.c (.int .i64 2)), none⟩,
    ⟨some ⟨.d0, .d1, .d0⟩, .bin .eql (.t ⟨.d0, .d0, .d5⟩) (.t ⟨.d0, .d0, .d7⟩), none⟩,
    ⟨some ⟨.d0, .d0, .d3⟩, .move (.t ⟨.d0, .d1, .d0⟩), none⟩])
  (.ret))
def r_custref_PortsLet_1 : List XR := [.tmp ⟨.d0, .d0, .d3⟩]
theorem ok_custref_PortsLet_1 : okC Tryd.prog Tryd.f38.ntmps (bodyOf Tryd.f38) x_custref_PortsLet_1 = true := by kernel_rfl
theorem okr_custref_PortsLet_1 : okRs Tryd.prog Tryd.f38.results.toList r_custref_PortsLet_1 = true := by kernel_rfl

/-- slices.Contains -/
def x_slices_Contains_int : XC :=
  .seq (.region [⟨some ⟨.d0, .d0, .d4⟩, .move (.c (.bool false)), none⟩])
  (.seq (.region [⟨some ⟨.d0, .d0, .d5⟩, .move (.t ⟨.d0, .d0, .d0⟩), none⟩,
    ⟨some ⟨.d0, .d0, .d6⟩, .move (.t ⟨.d0, .d0, .d1⟩), none⟩,
    ⟨some ⟨.d0, .d0, .d7⟩, .call 45 [(.t ⟨.d0, .d0, .d5⟩), (.t ⟨.d0, .d0, .d6⟩)], none⟩,
    ⟨some ⟨.d0, .d1, .d0⟩, .bin .geq (.t ⟨.d0, .d0, .d7⟩) (.c (.int .i64 0)), none⟩,
    ⟨some ⟨.d0, .d0, .d4⟩, .move (.t ⟨.d0, .d1, .d0⟩), none⟩])
  (.ret))
def r_slices_Contains_int : List XR := [.tmp ⟨.d0, .d0, .d4⟩]
theorem ok_slices_Contains_int : okC Tryd.prog Tryd.f39.ntmps (bodyOf Tryd.f39) x_slices_Contains_int = true := by kernel_rfl
theorem okr_slices_Contains_int : okRs Tryd.prog Tryd.f39.results.toList r_slices_Contains_int = true := by kernel_rfl

/-- slices.Index -/
def x_slices_Index_int : XC :=
  .seq (.region [⟨some ⟨.d0, .d0, .d4⟩, .move (.c (.int .i64 0)), none⟩])
  (.seq (.seq (.region [⟨some ⟨.d0, .d0, .d6⟩, .move (.t ⟨.d0, .d0, .d0⟩), none⟩,
    ⟨some ⟨.d0, .d0, .d7⟩, .len (.t ⟨.d0, .d0, .d6⟩), none⟩,
    ⟨some ⟨.d0, .d1, .d0⟩, .move (.c (.int .i64 0)), none⟩])
  (.block 0
    (.loop
      (.seq (.region [⟨some ⟨.d0, .d1, .d1⟩, .bin .lss (.t ⟨.d0, .d1, .d0⟩) (.t ⟨.d0, .d0, .d7⟩), none⟩])
      (.seq (.cond (.t ⟨.d0, .d1, .d1⟩)
        (.skip)
        (.exit 0))
      (.seq (.block 1
        (.seq (.region [⟨some ⟨.d0, .d1, .d2⟩, .move (.t ⟨.d0, .d1, .d0⟩), none⟩,
          ⟨some ⟨.d0, .d0, .d5⟩, .move (.t ⟨.d0, .d1, .d2⟩), none⟩])
        (.seq (.region [⟨some ⟨.d0, .d1, .d3⟩, .move (.t ⟨.d0, .d0, .d1⟩), none⟩,
          ⟨some ⟨.d0, .d1, .d4⟩, .move (.t ⟨.d0, .d0, .d0⟩), none⟩,
          ⟨some ⟨.d0, .d1, .d5⟩, .move (.t ⟨.d0, .d0, .d5⟩), none⟩,
          ⟨some ⟨.d0, .d1, .d6⟩, .indexSl 1 (.t ⟨.d0, .d1, .d4⟩) (.t ⟨.d0, .d1, .d5⟩), none⟩,
          ⟨some ⟨.d0, .d1, .d7⟩, .load false 1 (.t ⟨.d0, .d1, .d6⟩), none⟩,
          ⟨some ⟨.d0, .d2, .d0⟩, .bin .eql (.t ⟨.d0, .d1, .d3⟩) (.t ⟨.d0, .d1, .d7⟩), none⟩])
        (.cond (.t ⟨.d0, .d2, .d0⟩)
          (.seq (.region [⟨some ⟨.d0, .d2, .d1⟩, .move (.t ⟨.d0, .d0, .d5⟩), none⟩,
            ⟨some ⟨.d0, .d0, .d4⟩, .move (.t ⟨.d0, .d2, .d1⟩), none⟩])
          (.ret))
          (.skip)))))
      (.region [⟨some ⟨.d0, .d2, .d2⟩, .bin .add (.t ⟨.d0, .d1, .d0⟩) (.c (.int .i64 1)), none⟩,
        ⟨some ⟨.d0, .d1, .d0⟩, .move (.t ⟨.d0, .d2, .d2⟩), none⟩])))))))
  (.seq (.region [⟨some ⟨.d0, .d0, .d4⟩, .move (.c (.int .i64 (-1))), none⟩])
  (.ret)))
def r_slices_Index_int : List XR := [.tmp ⟨.d0, .d0, .d4⟩]
theorem ok_slices_Index_int : okC Tryd.prog Tryd.f45.ntmps (bodyOf Tryd.f45) x_slices_Index_int = true := by kernel_rfl
theorem okr_slices_Index_int : okRs Tryd.prog Tryd.f45.results.toList r_slices_Index_int = true := by kernel_rfl
end Go.Proofs.YtegnfpmbmbbaiaaDoor
