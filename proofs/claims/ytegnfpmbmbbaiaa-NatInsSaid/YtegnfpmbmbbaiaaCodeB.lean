/-
  The functions of the program in short form, and that the model's code is what they stand for. Printed by xgen.py.
-/
import Derived.Test.YtegnfpmbmbbaiaaFw
import Derived.Test.YtegnfpmbmbbaiaaProg
import Derived.KernelRfl
namespace Go.Proofs.Ytegnfpmbmbbaiaa
set_option linter.unusedVariables false
set_option maxRecDepth 100000

/-- custlaw.NatIns -/
def x_custlaw_NatIns : XC :=
  .seq (.region [⟨some ⟨.d0, .d0, .d4⟩, .box 0 6 (.t ⟨.d0, .d0, .d0⟩), none⟩,
    ⟨some ⟨.d0, .d1, .d0⟩, .move (.c (.bool false)), none⟩])
  (.seq (.region [⟨some ⟨.d0, .d2, .d0⟩, .load true 6 (.t ⟨.d0, .d0, .d4⟩), none⟩,
    ⟨some ⟨.d0, .d2, .d1⟩, .move (.t ⟨.d0, .d0, .d1⟩), none⟩,
    ⟨some ⟨.d0, .d2, .d2⟩, .move (.t ⟨.d0, .d0, .d2⟩), none⟩,
    ⟨some ⟨.d0, .d2, .d3⟩, .move (.t ⟨.d0, .d0, .d3⟩), none⟩,
    ⟨some ⟨.d0, .d2, .d4⟩, .call 7 [(.t ⟨.d0, .d2, .d0⟩), (.t ⟨.d0, .d2, .d1⟩), (.t ⟨.d0, .d2, .d2⟩), (.t ⟨.d0, .d2, .d3⟩)], none⟩,
    ⟨some ⟨.d0, .d1, .d7⟩, .move (.t ⟨.d0, .d2, .d4⟩), none⟩,
    ⟨some ⟨.d0, .d2, .d5⟩, .extract 0 (.t ⟨.d0, .d1, .d7⟩), none⟩,
    ⟨some ⟨.d0, .d2, .d6⟩, .extract 1 (.t ⟨.d0, .d1, .d7⟩), none⟩,
    ⟨some ⟨.d0, .d2, .d7⟩, .extract 2 (.t ⟨.d0, .d1, .d7⟩), none⟩,
    ⟨some ⟨.d0, .d1, .d1⟩, .move (.t ⟨.d0, .d2, .d5⟩), none⟩,
    ⟨some ⟨.d0, .d1, .d2⟩, .move (.t ⟨.d0, .d2, .d6⟩), none⟩,
    ⟨some ⟨.d0, .d1, .d3⟩, .move (.t ⟨.d0, .d2, .d7⟩), none⟩])
  (.seq (.region [⟨some ⟨.d0, .d3, .d1⟩, .load true 6 (.t ⟨.d0, .d0, .d4⟩), none⟩,
    ⟨some ⟨.d0, .d3, .d2⟩, .move (.t ⟨.d0, .d0, .d1⟩), none⟩,
    ⟨some ⟨.d0, .d3, .d3⟩, .move (.t ⟨.d0, .d0, .d2⟩), none⟩,
    ⟨some ⟨.d0, .d3, .d4⟩, .move (.t ⟨.d0, .d0, .d3⟩), none⟩,
    ⟨some ⟨.d0, .d3, .d5⟩, .call 8 [(.t ⟨.d0, .d3, .d1⟩), (.t ⟨.d0, .d3, .d2⟩), (.t ⟨.d0, .d3, .d3⟩), (.t ⟨.d0, .d3, .d4⟩)], none⟩,
    ⟨some ⟨.d0, .d3, .d0⟩, .move (.t ⟨.d0, .d3, .d5⟩), none⟩,
    ⟨some ⟨.d0, .d3, .d6⟩, .extract 0 (.t ⟨.d0, .d3, .d0⟩), none⟩,
    ⟨some ⟨.d0, .d3, .d7⟩, .extract 1 (.t ⟨.d0, .d3, .d0⟩), none⟩,
    ⟨some ⟨.d0, .d4, .d0⟩, .extract 2 (.t ⟨.d0, .d3, .d0⟩), none⟩,
    ⟨some ⟨.d0, .d1, .d4⟩, .move (.t ⟨.d0, .d3, .d6⟩), none⟩,
    ⟨some ⟨.d0, .d1, .d5⟩, .move (.t ⟨.d0, .d3, .d7⟩), none⟩,
    ⟨some ⟨.d0, .d1, .d6⟩, .move (.t ⟨.d0, .d4, .d0⟩), none⟩])
  (.seq (.region [⟨some ⟨.d0, .d4, .d1⟩, .move (.t ⟨.d0, .d1, .d1⟩), none⟩,
    ⟨some ⟨.d0, .d4, .d2⟩, .move (.t ⟨.d0, .d1, .d4⟩), none⟩,
    ⟨some ⟨.d0, .d4, .d3⟩, .bin .eql (.t ⟨.d0, .d4, .d1⟩) (.t ⟨.d0, .d4, .d2⟩), none⟩,
    ⟨some ⟨.d0, .d4, .d4⟩, .move (.t ⟨.d0, .d4, .d3⟩), none⟩,
    ⟨some ⟨.d0, .d4, .d5⟩, .move (.t ⟨.d0, .d1, .d2⟩), some (⟨.d0, .d4, .d4⟩, true)⟩,
    ⟨some ⟨.d0, .d4, .d6⟩, .move (.t ⟨.d0, .d1, .d5⟩), some (⟨.d0, .d4, .d4⟩, true)⟩,
    ⟨some ⟨.d0, .d4, .d7⟩, .bin .eql (.t ⟨.d0, .d4, .d5⟩) (.t ⟨.d0, .d4, .d6⟩), some (⟨.d0, .d4, .d4⟩, true)⟩,
    ⟨some ⟨.d0, .d5, .d0⟩, .pick (.t ⟨.d0, .d4, .d4⟩) (.t ⟨.d0, .d4, .d7⟩) (.c (.bool false)), none⟩,
    ⟨some ⟨.d0, .d5, .d1⟩, .move (.t ⟨.d0, .d5, .d0⟩), none⟩,
    ⟨some ⟨.d0, .d5, .d2⟩, .move (.t ⟨.d0, .d1, .d3⟩), some (⟨.d0, .d5, .d1⟩, true)⟩,
    ⟨some ⟨.d0, .d5, .d3⟩, .move (.t ⟨.d0, .d1, .d6⟩), some (⟨.d0, .d5, .d1⟩, true)⟩,
    ⟨some ⟨.d0, .d5, .d4⟩, .bin .eql (.t ⟨.d0, .d5, .d2⟩) (.t ⟨.d0, .d5, .d3⟩), some (⟨.d0, .d5, .d1⟩, true)⟩,
    ⟨some ⟨.d0, .d5, .d5⟩, .pick (.t ⟨.d0, .d5, .d1⟩) (.t ⟨.d0, .d5, .d4⟩) (.c (.bool false)), none⟩,
    ⟨some ⟨.d0, .d1, .d0⟩, .move (.t ⟨.d0, .d5, .d5⟩), none⟩])
  (.ret))))
def r_custlaw_NatIns : List XR := [.tmp ⟨.d0, .d1, .d0⟩]
theorem ok_custlaw_NatIns : okC Try.prog Try.f3.ntmps (bodyOf Try.f3) x_custlaw_NatIns = true := by kernel_rfl
theorem okr_custlaw_NatIns : okRs Try.prog Try.f3.results.toList r_custlaw_NatIns = true := by kernel_rfl

/-- custlaw.BridgeHears -/
def x_custlaw_BridgeHears : XC :=
  .seq (.region [⟨some ⟨.d0, .d0, .d4⟩, .box 0 3 (.t ⟨.d0, .d0, .d0⟩), none⟩,
    ⟨some ⟨.d0, .d1, .d0⟩, .move (.c (.bool false)), none⟩])
  (.seq (.region [⟨some ⟨.d0, .d2, .d0⟩, .load true 3 (.t ⟨.d0, .d0, .d4⟩), none⟩,
    ⟨some ⟨.d0, .d2, .d1⟩, .move (.t ⟨.d0, .d0, .d1⟩), none⟩,
    ⟨some ⟨.d0, .d2, .d2⟩, .move (.t ⟨.d0, .d0, .d2⟩), none⟩,
    ⟨some ⟨.d0, .d2, .d3⟩, .move (.t ⟨.d0, .d0, .d3⟩), none⟩,
    ⟨some ⟨.d0, .d2, .d4⟩, .call 17 [(.t ⟨.d0, .d2, .d0⟩), (.t ⟨.d0, .d2, .d1⟩), (.t ⟨.d0, .d2, .d2⟩), (.t ⟨.d0, .d2, .d3⟩)], none⟩,
    ⟨some ⟨.d0, .d1, .d7⟩, .move (.t ⟨.d0, .d2, .d4⟩), none⟩,
    ⟨some ⟨.d0, .d2, .d5⟩, .extract 0 (.t ⟨.d0, .d1, .d7⟩), none⟩,
    ⟨some ⟨.d0, .d2, .d6⟩, .extract 1 (.t ⟨.d0, .d1, .d7⟩), none⟩,
    ⟨some ⟨.d0, .d2, .d7⟩, .extract 2 (.t ⟨.d0, .d1, .d7⟩), none⟩,
    ⟨some ⟨.d0, .d1, .d1⟩, .alloc 1 [.int .i64 0, .int .i64 0, .slice none 0 0], none⟩,
    ⟨none, .store 3 (.t ⟨.d0, .d1, .d1⟩) (.t ⟨.d0, .d2, .d5⟩), none⟩,
    ⟨some ⟨.d0, .d1, .d2⟩, .move (.t ⟨.d0, .d2, .d6⟩), none⟩,
    ⟨some ⟨.d0, .d1, .d3⟩, .move (.t ⟨.d0, .d2, .d7⟩), none⟩])
  (.seq (.region [⟨some ⟨.d0, .d3, .d1⟩, .load true 3 (.t ⟨.d0, .d0, .d4⟩), none⟩,
    ⟨some ⟨.d0, .d3, .d2⟩, .move (.t ⟨.d0, .d0, .d1⟩), none⟩,
    ⟨some ⟨.d0, .d3, .d3⟩, .move (.t ⟨.d0, .d0, .d2⟩), none⟩,
    ⟨some ⟨.d0, .d3, .d4⟩, .move (.t ⟨.d0, .d0, .d3⟩), none⟩,
    ⟨some ⟨.d0, .d3, .d5⟩, .call 18 [(.t ⟨.d0, .d3, .d1⟩), (.t ⟨.d0, .d3, .d2⟩), (.t ⟨.d0, .d3, .d3⟩), (.t ⟨.d0, .d3, .d4⟩)], none⟩,
    ⟨some ⟨.d0, .d3, .d0⟩, .move (.t ⟨.d0, .d3, .d5⟩), none⟩,
    ⟨some ⟨.d0, .d3, .d6⟩, .extract 0 (.t ⟨.d0, .d3, .d0⟩), none⟩,
    ⟨some ⟨.d0, .d3, .d7⟩, .extract 1 (.t ⟨.d0, .d3, .d0⟩), none⟩,
    ⟨some ⟨.d0, .d4, .d0⟩, .extract 2 (.t ⟨.d0, .d3, .d0⟩), none⟩,
    ⟨some ⟨.d0, .d1, .d4⟩, .alloc 2 [.int .i64 0, .int .i64 0, .slice none 0 0], none⟩,
    ⟨none, .store 3 (.t ⟨.d0, .d1, .d4⟩) (.t ⟨.d0, .d3, .d6⟩), none⟩,
    ⟨some ⟨.d0, .d1, .d5⟩, .move (.t ⟨.d0, .d3, .d7⟩), none⟩,
    ⟨some ⟨.d0, .d1, .d6⟩, .move (.t ⟨.d0, .d4, .d0⟩), none⟩])
  (.seq (.regionD [0, 1, 0, 7, 15, 31, 63, 63, 255, 511, 1023, 2047, 2047, 8191, 16383, 32767, 65535, 65535, 262143, 524287, 1048575] [⟨some ⟨.d0, .d4, .d1⟩, .load true 3 (.t ⟨.d0, .d0, .d4⟩), none⟩,
    ⟨some ⟨.d0, .d4, .d2⟩, .call 19 [(.t ⟨.d0, .d4, .d1⟩)], none⟩,
    ⟨some ⟨.d0, .d4, .d3⟩, .load true 3 (.t ⟨.d0, .d0, .d4⟩), none⟩,
    ⟨some ⟨.d0, .d4, .d4⟩, .call 20 [(.t ⟨.d0, .d4, .d3⟩)], none⟩,
    ⟨some ⟨.d0, .d4, .d5⟩, .bin .eql (.t ⟨.d0, .d4, .d2⟩) (.t ⟨.d0, .d4, .d4⟩), none⟩,
    ⟨some ⟨.d0, .d4, .d6⟩, .move (.t ⟨.d0, .d4, .d5⟩), none⟩,
    ⟨some ⟨.d0, .d4, .d7⟩, .load true 3 (.t ⟨.d0, .d1, .d1⟩), some (⟨.d0, .d4, .d6⟩, true)⟩,
    ⟨some ⟨.d0, .d5, .d0⟩, .load true 3 (.t ⟨.d0, .d1, .d4⟩), some (⟨.d0, .d4, .d6⟩, true)⟩,
    ⟨some ⟨.d0, .d5, .d1⟩, .call 21 [(.t ⟨.d0, .d4, .d7⟩), (.t ⟨.d0, .d5, .d0⟩)], some (⟨.d0, .d4, .d6⟩, true)⟩,
    ⟨some ⟨.d0, .d5, .d2⟩, .pick (.t ⟨.d0, .d4, .d6⟩) (.t ⟨.d0, .d5, .d1⟩) (.c (.bool false)), none⟩,
    ⟨some ⟨.d0, .d5, .d3⟩, .move (.t ⟨.d0, .d5, .d2⟩), none⟩,
    ⟨some ⟨.d0, .d5, .d4⟩, .move (.t ⟨.d0, .d1, .d2⟩), some (⟨.d0, .d5, .d3⟩, true)⟩,
    ⟨some ⟨.d0, .d5, .d5⟩, .move (.t ⟨.d0, .d1, .d5⟩), some (⟨.d0, .d5, .d3⟩, true)⟩,
    ⟨some ⟨.d0, .d5, .d6⟩, .call 22 [(.t ⟨.d0, .d5, .d4⟩), (.t ⟨.d0, .d5, .d5⟩)], some (⟨.d0, .d5, .d3⟩, true)⟩,
    ⟨some ⟨.d0, .d5, .d7⟩, .pick (.t ⟨.d0, .d5, .d3⟩) (.t ⟨.d0, .d5, .d6⟩) (.c (.bool false)), none⟩,
    ⟨some ⟨.d0, .d6, .d0⟩, .move (.t ⟨.d0, .d5, .d7⟩), none⟩,
    ⟨some ⟨.d0, .d6, .d1⟩, .move (.t ⟨.d0, .d1, .d3⟩), some (⟨.d0, .d6, .d0⟩, true)⟩,
    ⟨some ⟨.d0, .d6, .d2⟩, .move (.t ⟨.d0, .d1, .d6⟩), some (⟨.d0, .d6, .d0⟩, true)⟩,
    ⟨some ⟨.d0, .d6, .d3⟩, .bin .eql (.t ⟨.d0, .d6, .d1⟩) (.t ⟨.d0, .d6, .d2⟩), some (⟨.d0, .d6, .d0⟩, true)⟩,
    ⟨some ⟨.d0, .d6, .d4⟩, .pick (.t ⟨.d0, .d6, .d0⟩) (.t ⟨.d0, .d6, .d3⟩) (.c (.bool false)), none⟩,
    ⟨some ⟨.d0, .d1, .d0⟩, .move (.t ⟨.d0, .d6, .d4⟩), none⟩])
  (.ret))))
def r_custlaw_BridgeHears : List XR := [.tmp ⟨.d0, .d1, .d0⟩]
theorem ok_custlaw_BridgeHears : okC Try.prog Try.f6.ntmps (bodyOf Try.f6) x_custlaw_BridgeHears = true := by kernel_rfl
theorem okr_custlaw_BridgeHears : okRs Try.prog Try.f6.results.toList r_custlaw_BridgeHears = true := by kernel_rfl

/-- nat.In -/
def x_nat_In : XC :=
  .seq (.region [⟨some ⟨.d0, .d0, .d4⟩, .box 0 6 (.t ⟨.d0, .d0, .d0⟩), none⟩,
    ⟨some ⟨.d0, .d1, .d0⟩, .move (.c (.int .u32 0)), none⟩,
    ⟨some ⟨.d0, .d1, .d1⟩, .move (.c (.int .i64 0)), none⟩,
    ⟨some ⟨.d0, .d1, .d2⟩, .move (.c (.int .i64 0)), none⟩])
  (.seq (.seq (.region [⟨some ⟨.d0, .d1, .d6⟩, .load true 6 (.t ⟨.d0, .d0, .d4⟩), none⟩,
    ⟨some ⟨.d0, .d1, .d7⟩, .call 23 [(.t ⟨.d0, .d1, .d6⟩)], none⟩,
    ⟨some ⟨.d0, .d1, .d3⟩, .move (.t ⟨.d0, .d1, .d7⟩), none⟩])
  (.seq (.region [⟨some ⟨.d0, .d2, .d0⟩, .move (.t ⟨.d0, .d1, .d3⟩), none⟩,
    ⟨some ⟨.d0, .d2, .d1⟩, .bin .neq (.t ⟨.d0, .d2, .d0⟩) (.c (.int .i64 0)), none⟩])
  (.cond (.t ⟨.d0, .d2, .d1⟩)
    (.seq (.region [⟨some ⟨.d0, .d2, .d2⟩, .move (.t ⟨.d0, .d1, .d3⟩), none⟩,
      ⟨some ⟨.d0, .d1, .d0⟩, .move (.c (.int .u32 0)), none⟩,
      ⟨some ⟨.d0, .d1, .d1⟩, .move (.c (.int .i64 0)), none⟩,
      ⟨some ⟨.d0, .d1, .d2⟩, .move (.t ⟨.d0, .d2, .d2⟩), none⟩])
    (.ret))
    (.skip))))
  (.seq (.seq (.region [⟨some ⟨.d0, .d2, .d3⟩, .move (.t ⟨.d0, .d0, .d1⟩), none⟩,
    ⟨some ⟨.d0, .d2, .d4⟩, .bin .neq (.t ⟨.d0, .d2, .d3⟩) (.c (.int .i64 6)), none⟩,
    ⟨some ⟨.d0, .d2, .d5⟩, .move (.t ⟨.d0, .d2, .d4⟩), none⟩,
    ⟨some ⟨.d0, .d2, .d6⟩, .move (.t ⟨.d0, .d0, .d1⟩), some (⟨.d0, .d2, .d5⟩, true)⟩,
    ⟨some ⟨.d0, .d2, .d7⟩, .bin .neq (.t ⟨.d0, .d2, .d6⟩) (.c (.int .i64 17)), some (⟨.d0, .d2, .d5⟩, true)⟩,
    ⟨some ⟨.d0, .d3, .d0⟩, .pick (.t ⟨.d0, .d2, .d5⟩) (.t ⟨.d0, .d2, .d7⟩) (.c (.bool false)), none⟩])
  (.cond (.t ⟨.d0, .d3, .d0⟩)
    (.seq (.region [⟨some ⟨.d0, .d1, .d0⟩, .move (.c (.int .u32 0)), none⟩,
      ⟨some ⟨.d0, .d1, .d1⟩, .move (.c (.int .i64 0)), none⟩,
      ⟨some ⟨.d0, .d1, .d2⟩, .move (.c (.int .i64 7)), none⟩])
    (.ret))
    (.skip)))
  (.seq (.seq (.region [⟨some ⟨.d0, .d3, .d1⟩, .move (.t ⟨.d0, .d0, .d3⟩), none⟩,
    ⟨some ⟨.d0, .d3, .d2⟩, .bin .lss (.t ⟨.d0, .d3, .d1⟩) (.c (.int .i64 0)), none⟩,
    ⟨some ⟨.d0, .d3, .d3⟩, .move (.t ⟨.d0, .d3, .d2⟩), none⟩,
    ⟨some ⟨.d0, .d3, .d4⟩, .move (.t ⟨.d0, .d0, .d3⟩), some (⟨.d0, .d3, .d3⟩, false)⟩,
    ⟨some ⟨.d0, .d3, .d5⟩, .bin .gtr (.t ⟨.d0, .d3, .d4⟩) (.c (.int .i64 1099511627776)), some (⟨.d0, .d3, .d3⟩, false)⟩,
    ⟨some ⟨.d0, .d3, .d6⟩, .pick (.t ⟨.d0, .d3, .d3⟩) (.c (.bool true)) (.t ⟨.d0, .d3, .d5⟩), none⟩])
  (.cond (.t ⟨.d0, .d3, .d6⟩)
    (.seq (.region [⟨some ⟨.d0, .d1, .d0⟩, .move (.c (.int .u32 0)), none⟩,
      ⟨some ⟨.d0, .d1, .d1⟩, .move (.c (.int .i64 0)), none⟩,
      ⟨some ⟨.d0, .d1, .d2⟩, .move (.c (.int .i64 1)), none⟩])
    (.ret))
    (.skip)))
  (.seq (.seq (.region [⟨some ⟨.d0, .d3, .d7⟩, .fieldAddr 5 (.t ⟨.d0, .d0, .d4⟩), none⟩,
    ⟨some ⟨.d0, .d4, .d0⟩, .load false 1 (.t ⟨.d0, .d3, .d7⟩), none⟩,
    ⟨some ⟨.d0, .d4, .d1⟩, .len (.t ⟨.d0, .d4, .d0⟩), none⟩,
    ⟨some ⟨.d0, .d4, .d2⟩, .move (.c (.int .i64 0)), none⟩])
  (.block 0
    (.loop
      (.seq (.region [⟨some ⟨.d0, .d4, .d3⟩, .bin .lss (.t ⟨.d0, .d4, .d2⟩) (.t ⟨.d0, .d4, .d1⟩), none⟩])
      (.seq (.cond (.t ⟨.d0, .d4, .d3⟩)
        (.skip)
        (.exit 0))
      (.seq (.block 1
        (.seq (.region [⟨some ⟨.d0, .d4, .d4⟩, .indexSl 5 (.t ⟨.d0, .d4, .d0⟩) (.t ⟨.d0, .d4, .d2⟩), none⟩,
          ⟨some ⟨.d0, .d4, .d5⟩, .load true 5 (.t ⟨.d0, .d4, .d4⟩), none⟩,
          ⟨some ⟨.d0, .d1, .d5⟩, .alloc 1 [.int .i64 0, .int .u32 0, .int .i64 0, .int .i64 0, .int .i64 0], none⟩,
          ⟨none, .store 5 (.t ⟨.d0, .d1, .d5⟩) (.t ⟨.d0, .d4, .d5⟩), none⟩])
        (.seq (.region [⟨some ⟨.d0, .d4, .d6⟩, .fieldAddr 0 (.t ⟨.d0, .d1, .d5⟩), none⟩,
          ⟨some ⟨.d0, .d4, .d7⟩, .load false 1 (.t ⟨.d0, .d4, .d6⟩), none⟩,
          ⟨some ⟨.d0, .d5, .d0⟩, .move (.t ⟨.d0, .d0, .d1⟩), none⟩,
          ⟨some ⟨.d0, .d5, .d1⟩, .bin .eql (.t ⟨.d0, .d4, .d7⟩) (.t ⟨.d0, .d5, .d0⟩), none⟩,
          ⟨some ⟨.d0, .d5, .d2⟩, .move (.t ⟨.d0, .d5, .d1⟩), none⟩,
          ⟨some ⟨.d0, .d5, .d3⟩, .fieldAddr 3 (.t ⟨.d0, .d1, .d5⟩), some (⟨.d0, .d5, .d2⟩, true)⟩,
          ⟨some ⟨.d0, .d5, .d4⟩, .load false 1 (.t ⟨.d0, .d5, .d3⟩), some (⟨.d0, .d5, .d2⟩, true)⟩,
          ⟨some ⟨.d0, .d5, .d5⟩, .move (.t ⟨.d0, .d0, .d2⟩), some (⟨.d0, .d5, .d2⟩, true)⟩,
          ⟨some ⟨.d0, .d5, .d6⟩, .bin .eql (.t ⟨.d0, .d5, .d4⟩) (.t ⟨.d0, .d5, .d5⟩), some (⟨.d0, .d5, .d2⟩, true)⟩,
          ⟨some ⟨.d0, .d5, .d7⟩, .pick (.t ⟨.d0, .d5, .d2⟩) (.t ⟨.d0, .d5, .d6⟩) (.c (.bool false)), none⟩,
          ⟨some ⟨.d0, .d6, .d0⟩, .move (.t ⟨.d0, .d5, .d7⟩), none⟩,
          ⟨some ⟨.d0, .d6, .d1⟩, .move (.t ⟨.d0, .d0, .d3⟩), some (⟨.d0, .d6, .d0⟩, true)⟩,
          ⟨some ⟨.d0, .d6, .d2⟩, .fieldAddr 4 (.t ⟨.d0, .d1, .d5⟩), some (⟨.d0, .d6, .d0⟩, true)⟩,
          ⟨some ⟨.d0, .d6, .d3⟩, .load false 1 (.t ⟨.d0, .d6, .d2⟩), some (⟨.d0, .d6, .d0⟩, true)⟩,
          ⟨some ⟨.d0, .d6, .d4⟩, .bin .sub (.t ⟨.d0, .d6, .d1⟩) (.t ⟨.d0, .d6, .d3⟩), some (⟨.d0, .d6, .d0⟩, true)⟩,
          ⟨some ⟨.d0, .d6, .d5⟩, .fieldAddr 0 (.t ⟨.d0, .d0, .d4⟩), some (⟨.d0, .d6, .d0⟩, true)⟩,
          ⟨some ⟨.d0, .d6, .d6⟩, .load false 1 (.t ⟨.d0, .d6, .d5⟩), some (⟨.d0, .d6, .d0⟩, true)⟩,
          ⟨some ⟨.d0, .d6, .d7⟩, .bin .leq (.t ⟨.d0, .d6, .d4⟩) (.t ⟨.d0, .d6, .d6⟩), some (⟨.d0, .d6, .d0⟩, true)⟩,
          ⟨some ⟨.d0, .d7, .d0⟩, .pick (.t ⟨.d0, .d6, .d0⟩) (.t ⟨.d0, .d6, .d7⟩) (.c (.bool false)), none⟩])
        (.cond (.t ⟨.d0, .d7, .d0⟩)
          (.seq (.regionD [0, 1, 0, 4, 3, 31, 63] [⟨some ⟨.d0, .d7, .d1⟩, .fieldAddr 1 (.t ⟨.d0, .d1, .d5⟩), none⟩,
            ⟨some ⟨.d0, .d7, .d2⟩, .load false 1 (.t ⟨.d0, .d7, .d1⟩), none⟩,
            ⟨some ⟨.d0, .d7, .d3⟩, .fieldAddr 2 (.t ⟨.d0, .d1, .d5⟩), none⟩,
            ⟨some ⟨.d0, .d7, .d4⟩, .load false 1 (.t ⟨.d0, .d7, .d3⟩), none⟩,
            ⟨some ⟨.d0, .d1, .d0⟩, .move (.t ⟨.d0, .d7, .d2⟩), none⟩,
            ⟨some ⟨.d0, .d1, .d1⟩, .move (.t ⟨.d0, .d7, .d4⟩), none⟩,
            ⟨some ⟨.d0, .d1, .d2⟩, .move (.c (.int .i64 0)), none⟩])
          (.ret))
          (.skip)))))
      (.region [⟨some ⟨.d0, .d7, .d5⟩, .bin .add (.t ⟨.d0, .d4, .d2⟩) (.c (.int .i64 1)), none⟩,
        ⟨some ⟨.d0, .d4, .d2⟩, .move (.t ⟨.d0, .d7, .d5⟩), none⟩])))))))
  (.seq (.region [⟨some ⟨.d0, .d1, .d0⟩, .move (.c (.int .u32 0)), none⟩,
    ⟨some ⟨.d0, .d1, .d1⟩, .move (.c (.int .i64 0)), none⟩,
    ⟨some ⟨.d0, .d1, .d2⟩, .move (.c (.int .i64 7)), none⟩])
  (.ret))))))
def r_nat_In : List XR := [.tmp ⟨.d0, .d1, .d0⟩, .tmp ⟨.d0, .d1, .d1⟩, .tmp ⟨.d0, .d1, .d2⟩]
theorem ok_nat_In : okC Try.prog Try.f7.ntmps (bodyOf Try.f7) x_nat_In = true := by kernel_rfl
theorem okr_nat_In : okRs Try.prog Try.f7.results.toList r_nat_In = true := by kernel_rfl

/-- custref.NatIn -/
def x_custref_NatIn : XC :=
  .seq (.region [⟨some ⟨.d0, .d0, .d4⟩, .box 0 6 (.t ⟨.d0, .d0, .d0⟩), none⟩,
    ⟨some ⟨.d0, .d0, .d5⟩, .box 1 1 (.t ⟨.d0, .d0, .d1⟩), none⟩,
    ⟨some ⟨.d0, .d0, .d6⟩, .box 2 1 (.t ⟨.d0, .d0, .d2⟩), none⟩,
    ⟨some ⟨.d0, .d0, .d7⟩, .box 3 1 (.t ⟨.d0, .d0, .d3⟩), none⟩,
    ⟨some ⟨.d0, .d1, .d0⟩, .move (.c (.int .u32 0)), none⟩,
    ⟨some ⟨.d0, .d1, .d1⟩, .move (.c (.int .i64 0)), none⟩,
    ⟨some ⟨.d0, .d1, .d2⟩, .move (.c (.int .i64 0)), none⟩])
  (.seq (.seq (.region [⟨some ⟨.d0, .d1, .d5⟩, .load true 6 (.t ⟨.d0, .d0, .d4⟩), none⟩,
    ⟨some ⟨.d0, .d1, .d6⟩, .call 24 [(.t ⟨.d0, .d1, .d5⟩)], none⟩,
    ⟨some ⟨.d0, .d1, .d3⟩, .move (.t ⟨.d0, .d1, .d6⟩), none⟩])
  (.seq (.region [⟨some ⟨.d0, .d1, .d7⟩, .move (.t ⟨.d0, .d1, .d3⟩), none⟩,
    ⟨some ⟨.d0, .d2, .d0⟩, .bin .neq (.t ⟨.d0, .d1, .d7⟩) (.c (.int .i64 0)), none⟩])
  (.cond (.t ⟨.d0, .d2, .d0⟩)
    (.seq (.region [⟨some ⟨.d0, .d2, .d1⟩, .move (.t ⟨.d0, .d1, .d3⟩), none⟩,
      ⟨some ⟨.d0, .d1, .d0⟩, .move (.c (.int .u32 0)), none⟩,
      ⟨some ⟨.d0, .d1, .d1⟩, .move (.c (.int .i64 0)), none⟩,
      ⟨some ⟨.d0, .d1, .d2⟩, .move (.t ⟨.d0, .d2, .d1⟩), none⟩])
    (.ret))
    (.skip))))
  (.seq (.seq (.region [⟨some ⟨.d0, .d2, .d2⟩, .load false 1 (.t ⟨.d0, .d0, .d5⟩), none⟩,
    ⟨some ⟨.d0, .d2, .d3⟩, .bin .neq (.t ⟨.d0, .d2, .d2⟩) (.c (.int .i64 17)), none⟩,
    ⟨some ⟨.d0, .d2, .d4⟩, .move (.t ⟨.d0, .d2, .d3⟩), none⟩,
    ⟨some ⟨.d0, .d2, .d5⟩, .load false 1 (.t ⟨.d0, .d0, .d5⟩), some (⟨.d0, .d2, .d4⟩, true)⟩,
    ⟨some ⟨.d0, .d2, .d6⟩, .bin .neq (.t ⟨.d0, .d2, .d5⟩) (.c (.int .i64 6)), some (⟨.d0, .d2, .d4⟩, true)⟩,
    ⟨some ⟨.d0, .d2, .d7⟩, .pick (.t ⟨.d0, .d2, .d4⟩) (.t ⟨.d0, .d2, .d6⟩) (.c (.bool false)), none⟩])
  (.cond (.t ⟨.d0, .d2, .d7⟩)
    (.seq (.region [⟨some ⟨.d0, .d1, .d0⟩, .move (.c (.int .u32 0)), none⟩,
      ⟨some ⟨.d0, .d1, .d1⟩, .move (.c (.int .i64 0)), none⟩,
      ⟨some ⟨.d0, .d1, .d2⟩, .move (.c (.int .i64 7)), none⟩])
    (.ret))
    (.skip)))
  (.seq (.seq (.region [⟨some ⟨.d0, .d3, .d0⟩, .load false 1 (.t ⟨.d0, .d0, .d7⟩), none⟩,
    ⟨some ⟨.d0, .d3, .d1⟩, .call 25 [(.t ⟨.d0, .d3, .d0⟩), (.c (.int .i64 0)), (.c (.int .i64 1099511627776))], none⟩,
    ⟨some ⟨.d0, .d3, .d2⟩, .un .not (.t ⟨.d0, .d3, .d1⟩), none⟩])
  (.cond (.t ⟨.d0, .d3, .d2⟩)
    (.seq (.region [⟨some ⟨.d0, .d1, .d0⟩, .move (.c (.int .u32 0)), none⟩,
      ⟨some ⟨.d0, .d1, .d1⟩, .move (.c (.int .i64 0)), none⟩,
      ⟨some ⟨.d0, .d1, .d2⟩, .move (.c (.int .i64 1)), none⟩])
    (.ret))
    (.skip)))
  (.seq (.region [⟨some ⟨.d0, .d3, .d3⟩, .fieldAddr 5 (.t ⟨.d0, .d0, .d4⟩), none⟩,
    ⟨some ⟨.d0, .d3, .d4⟩, .load false 1 (.t ⟨.d0, .d3, .d3⟩), none⟩,
    ⟨some ⟨.d0, .d3, .d5⟩, .mkfn 27 [] [(.t ⟨.d0, .d0, .d5⟩), (.t ⟨.d0, .d0, .d6⟩), (.t ⟨.d0, .d0, .d7⟩), (.t ⟨.d0, .d0, .d4⟩)], none⟩,
    ⟨some ⟨.d0, .d3, .d6⟩, .call 26 [(.t ⟨.d0, .d3, .d4⟩), (.t ⟨.d0, .d3, .d5⟩)], none⟩,
    ⟨some ⟨.d0, .d1, .d4⟩, .move (.t ⟨.d0, .d3, .d6⟩), none⟩])
  (.seq (.seq (.region [⟨some ⟨.d0, .d3, .d7⟩, .move (.t ⟨.d0, .d1, .d4⟩), none⟩,
    ⟨some ⟨.d0, .d4, .d0⟩, .bin .lss (.t ⟨.d0, .d3, .d7⟩) (.c (.int .i64 0)), none⟩])
  (.cond (.t ⟨.d0, .d4, .d0⟩)
    (.seq (.region [⟨some ⟨.d0, .d1, .d0⟩, .move (.c (.int .u32 0)), none⟩,
      ⟨some ⟨.d0, .d1, .d1⟩, .move (.c (.int .i64 0)), none⟩,
      ⟨some ⟨.d0, .d1, .d2⟩, .move (.c (.int .i64 7)), none⟩])
    (.ret))
    (.skip)))
  (.seq (.regionD [0, 1, 0, 7, 15, 31, 0, 64, 0, 448, 960, 1984, 63, 8191, 16383] [⟨some ⟨.d0, .d4, .d1⟩, .fieldAddr 5 (.t ⟨.d0, .d0, .d4⟩), none⟩,
    ⟨some ⟨.d0, .d4, .d2⟩, .load false 1 (.t ⟨.d0, .d4, .d1⟩), none⟩,
    ⟨some ⟨.d0, .d4, .d3⟩, .move (.t ⟨.d0, .d1, .d4⟩), none⟩,
    ⟨some ⟨.d0, .d4, .d4⟩, .indexSl 5 (.t ⟨.d0, .d4, .d2⟩) (.t ⟨.d0, .d4, .d3⟩), none⟩,
    ⟨some ⟨.d0, .d4, .d5⟩, .fieldAddr 1 (.t ⟨.d0, .d4, .d4⟩), none⟩,
    ⟨some ⟨.d0, .d4, .d6⟩, .load false 1 (.t ⟨.d0, .d4, .d5⟩), none⟩,
    ⟨some ⟨.d0, .d4, .d7⟩, .fieldAddr 5 (.t ⟨.d0, .d0, .d4⟩), none⟩,
    ⟨some ⟨.d0, .d5, .d0⟩, .load false 1 (.t ⟨.d0, .d4, .d7⟩), none⟩,
    ⟨some ⟨.d0, .d5, .d1⟩, .move (.t ⟨.d0, .d1, .d4⟩), none⟩,
    ⟨some ⟨.d0, .d5, .d2⟩, .indexSl 5 (.t ⟨.d0, .d5, .d0⟩) (.t ⟨.d0, .d5, .d1⟩), none⟩,
    ⟨some ⟨.d0, .d5, .d3⟩, .fieldAddr 2 (.t ⟨.d0, .d5, .d2⟩), none⟩,
    ⟨some ⟨.d0, .d5, .d4⟩, .load false 1 (.t ⟨.d0, .d5, .d3⟩), none⟩,
    ⟨some ⟨.d0, .d1, .d0⟩, .move (.t ⟨.d0, .d4, .d6⟩), none⟩,
    ⟨some ⟨.d0, .d1, .d1⟩, .move (.t ⟨.d0, .d5, .d4⟩), none⟩,
    ⟨some ⟨.d0, .d1, .d2⟩, .move (.c (.int .i64 0)), none⟩])
  (.ret)))))))
def r_custref_NatIn : List XR := [.tmp ⟨.d0, .d1, .d0⟩, .tmp ⟨.d0, .d1, .d1⟩, .tmp ⟨.d0, .d1, .d2⟩]
theorem ok_custref_NatIn : okC Try.prog Try.f8.ntmps (bodyOf Try.f8) x_custref_NatIn = true := by kernel_rfl
theorem okr_custref_NatIn : okRs Try.prog Try.f8.results.toList r_custref_NatIn = true := by kernel_rfl

/-- bridge.Hear -/
def x_bridge_Hear : XC :=
  .seq (.region [⟨some ⟨.d0, .d0, .d4⟩, .box 0 3 (.t ⟨.d0, .d0, .d0⟩), none⟩,
    ⟨some ⟨.d0, .d1, .d0⟩, .alloc 1 [.int .i64 0, .int .i64 0, .slice none 0 0], none⟩,
    ⟨some ⟨.d0, .d1, .d1⟩, .move (.c (.slice none 0 0)), none⟩,
    ⟨some ⟨.d0, .d1, .d2⟩, .move (.c (.int .i64 0)), none⟩])
  (.seq (.region [⟨some ⟨.d0, .d2, .d2⟩, .fieldAddr 2 (.t ⟨.d0, .d0, .d4⟩), none⟩,
    ⟨some ⟨.d0, .d2, .d3⟩, .load false 1 (.t ⟨.d0, .d2, .d2⟩), none⟩,
    ⟨some ⟨.d0, .d2, .d4⟩, .call 40 [(.t ⟨.d0, .d2, .d3⟩)], none⟩,
    ⟨some ⟨.d0, .d2, .d5⟩, .fieldAddr 2 (.t ⟨.d0, .d0, .d4⟩), none⟩,
    ⟨none, .store 1 (.t ⟨.d0, .d2, .d5⟩) (.t ⟨.d0, .d2, .d4⟩), none⟩])
  (.seq (.seq (.region [⟨some ⟨.d0, .d2, .d6⟩, .load true 3 (.t ⟨.d0, .d0, .d4⟩), none⟩,
    ⟨some ⟨.d0, .d2, .d7⟩, .call 19 [(.t ⟨.d0, .d2, .d6⟩)], none⟩,
    ⟨some ⟨.d0, .d1, .d3⟩, .move (.t ⟨.d0, .d2, .d7⟩), none⟩])
  (.seq (.region [⟨some ⟨.d0, .d3, .d0⟩, .move (.t ⟨.d0, .d1, .d3⟩), none⟩,
    ⟨some ⟨.d0, .d3, .d1⟩, .bin .neq (.t ⟨.d0, .d3, .d0⟩) (.c (.int .i64 0)), none⟩])
  (.cond (.t ⟨.d0, .d3, .d1⟩)
    (.seq (.region [⟨some ⟨.d0, .d3, .d2⟩, .load true 3 (.t ⟨.d0, .d0, .d4⟩), none⟩,
      ⟨some ⟨.d0, .d3, .d3⟩, .move (.t ⟨.d0, .d1, .d3⟩), none⟩,
      ⟨none, .store 3 (.t ⟨.d0, .d1, .d0⟩) (.t ⟨.d0, .d3, .d2⟩), none⟩,
      ⟨some ⟨.d0, .d1, .d1⟩, .move (.c (.slice none 0 0)), none⟩,
      ⟨some ⟨.d0, .d1, .d2⟩, .move (.t ⟨.d0, .d3, .d3⟩), none⟩])
    (.ret))
    (.skip))))
  (.seq (.seq (.region [⟨some ⟨.d0, .d3, .d4⟩, .move (.t ⟨.d0, .d0, .d1⟩), none⟩,
    ⟨some ⟨.d0, .d3, .d5⟩, .bin .lss (.t ⟨.d0, .d3, .d4⟩) (.c (.int .i64 0)), none⟩,
    ⟨some ⟨.d0, .d3, .d6⟩, .move (.t ⟨.d0, .d3, .d5⟩), none⟩,
    ⟨some ⟨.d0, .d3, .d7⟩, .move (.t ⟨.d0, .d0, .d1⟩), some (⟨.d0, .d3, .d6⟩, false)⟩,
    ⟨some ⟨.d0, .d4, .d0⟩, .fieldAddr 0 (.t ⟨.d0, .d0, .d4⟩), some (⟨.d0, .d3, .d6⟩, false)⟩,
    ⟨some ⟨.d0, .d4, .d1⟩, .load false 1 (.t ⟨.d0, .d4, .d0⟩), some (⟨.d0, .d3, .d6⟩, false)⟩,
    ⟨some ⟨.d0, .d4, .d2⟩, .bin .geq (.t ⟨.d0, .d3, .d7⟩) (.t ⟨.d0, .d4, .d1⟩), some (⟨.d0, .d3, .d6⟩, false)⟩,
    ⟨some ⟨.d0, .d4, .d3⟩, .pick (.t ⟨.d0, .d3, .d6⟩) (.c (.bool true)) (.t ⟨.d0, .d4, .d2⟩), none⟩])
  (.cond (.t ⟨.d0, .d4, .d3⟩)
    (.seq (.region [⟨some ⟨.d0, .d4, .d4⟩, .load true 3 (.t ⟨.d0, .d0, .d4⟩), none⟩,
      ⟨none, .store 3 (.t ⟨.d0, .d1, .d0⟩) (.t ⟨.d0, .d4, .d4⟩), none⟩,
      ⟨some ⟨.d0, .d1, .d1⟩, .move (.c (.slice none 0 0)), none⟩,
      ⟨some ⟨.d0, .d1, .d2⟩, .move (.c (.int .i64 7)), none⟩])
    (.ret))
    (.skip)))
  (.seq (.seq (.region [⟨some ⟨.d0, .d4, .d5⟩, .move (.t ⟨.d0, .d0, .d2⟩), none⟩,
    ⟨some ⟨.d0, .d4, .d6⟩, .load true 3 (.t ⟨.d0, .d0, .d4⟩), none⟩,
    ⟨some ⟨.d0, .d4, .d7⟩, .call 41 [(.t ⟨.d0, .d4, .d6⟩)], none⟩,
    ⟨some ⟨.d0, .d5, .d0⟩, .bin .lss (.t ⟨.d0, .d4, .d5⟩) (.t ⟨.d0, .d4, .d7⟩), none⟩,
    ⟨some ⟨.d0, .d5, .d1⟩, .move (.t ⟨.d0, .d5, .d0⟩), none⟩,
    ⟨some ⟨.d0, .d5, .d2⟩, .move (.t ⟨.d0, .d0, .d2⟩), some (⟨.d0, .d5, .d1⟩, false)⟩,
    ⟨some ⟨.d0, .d5, .d3⟩, .bin .gtr (.t ⟨.d0, .d5, .d2⟩) (.c (.int .i64 1099511627776)), some (⟨.d0, .d5, .d1⟩, false)⟩,
    ⟨some ⟨.d0, .d5, .d4⟩, .pick (.t ⟨.d0, .d5, .d1⟩) (.c (.bool true)) (.t ⟨.d0, .d5, .d3⟩), none⟩])
  (.cond (.t ⟨.d0, .d5, .d4⟩)
    (.seq (.region [⟨some ⟨.d0, .d5, .d5⟩, .load true 3 (.t ⟨.d0, .d0, .d4⟩), none⟩,
      ⟨none, .store 3 (.t ⟨.d0, .d1, .d0⟩) (.t ⟨.d0, .d5, .d5⟩), none⟩,
      ⟨some ⟨.d0, .d1, .d1⟩, .move (.c (.slice none 0 0)), none⟩,
      ⟨some ⟨.d0, .d1, .d2⟩, .move (.c (.int .i64 1)), none⟩])
    (.ret))
    (.skip)))
  (.seq (.region [⟨some ⟨.d0, .d5, .d7⟩, .move (.t ⟨.d0, .d0, .d3⟩), none⟩,
    ⟨some ⟨.d0, .d6, .d0⟩, .call 42 [(.t ⟨.d0, .d5, .d7⟩)], none⟩,
    ⟨some ⟨.d0, .d5, .d6⟩, .move (.t ⟨.d0, .d6, .d0⟩), none⟩,
    ⟨some ⟨.d0, .d6, .d1⟩, .extract 0 (.t ⟨.d0, .d5, .d6⟩), none⟩,
    ⟨some ⟨.d0, .d6, .d2⟩, .extract 1 (.t ⟨.d0, .d5, .d6⟩), none⟩,
    ⟨some ⟨.d0, .d1, .d4⟩, .alloc 2 [.int .u8 0, .int .u8 0, .int .u8 0, .int .u8 0, .int .u8 0, .int .u8 0, .int .u8 0, .int .u8 0, .int .u8 0, .int .u8 0, .int .u8 0, .int .u8 0, .int .i64 0, .int .i64 0, .string { data := #[] }], none⟩,
    ⟨none, .store 15 (.t ⟨.d0, .d1, .d4⟩) (.t ⟨.d0, .d6, .d1⟩), none⟩,
    ⟨some ⟨.d0, .d1, .d5⟩, .move (.t ⟨.d0, .d6, .d2⟩), none⟩])
  (.seq (.seq (.region [⟨some ⟨.d0, .d6, .d3⟩, .move (.t ⟨.d0, .d1, .d5⟩), none⟩,
    ⟨some ⟨.d0, .d6, .d4⟩, .bin .neq (.t ⟨.d0, .d6, .d3⟩) (.c (.int .i64 0)), none⟩])
  (.cond (.t ⟨.d0, .d6, .d4⟩)
    (.seq (.region [⟨some ⟨.d0, .d6, .d5⟩, .load true 3 (.t ⟨.d0, .d0, .d4⟩), none⟩,
      ⟨some ⟨.d0, .d6, .d6⟩, .move (.t ⟨.d0, .d1, .d5⟩), none⟩,
      ⟨none, .store 3 (.t ⟨.d0, .d1, .d0⟩) (.t ⟨.d0, .d6, .d5⟩), none⟩,
      ⟨some ⟨.d0, .d1, .d1⟩, .move (.c (.slice none 0 0)), none⟩,
      ⟨some ⟨.d0, .d1, .d2⟩, .move (.t ⟨.d0, .d6, .d6⟩), none⟩])
    (.ret))
    (.skip)))
  (.seq (.seq (.region [⟨some ⟨.d0, .d6, .d7⟩, .fieldAddr 6 (.t ⟨.d0, .d1, .d4⟩), none⟩,
    ⟨some ⟨.d0, .d7, .d0⟩, .load true 6 (.t ⟨.d0, .d6, .d7⟩), none⟩,
    ⟨some ⟨.d0, .d7, .d1⟩, .call 43 [(.t ⟨.d0, .d7, .d0⟩)], none⟩])
  (.cond (.t ⟨.d0, .d7, .d1⟩)
    (.seq (.region [⟨some ⟨.d0, .d7, .d2⟩, .load true 3 (.t ⟨.d0, .d0, .d4⟩), none⟩,
      ⟨none, .store 3 (.t ⟨.d0, .d1, .d0⟩) (.t ⟨.d0, .d7, .d2⟩), none⟩,
      ⟨some ⟨.d0, .d1, .d1⟩, .move (.c (.slice none 0 0)), none⟩,
      ⟨some ⟨.d0, .d1, .d2⟩, .move (.c (.int .i64 4)), none⟩])
    (.ret))
    (.skip)))
  (.seq (.region [⟨some ⟨.d0, .d7, .d3⟩, .load true 3 (.t ⟨.d0, .d0, .d4⟩), none⟩,
    ⟨some ⟨.d0, .d7, .d4⟩, .fieldAddr 6 (.t ⟨.d0, .d1, .d4⟩), none⟩,
    ⟨some ⟨.d0, .d7, .d5⟩, .load true 6 (.t ⟨.d0, .d7, .d4⟩), none⟩,
    ⟨some ⟨.d0, .d7, .d6⟩, .move (.t ⟨.d0, .d0, .d1⟩), none⟩,
    ⟨some ⟨.d0, .d7, .d7⟩, .move (.t ⟨.d0, .d0, .d2⟩), none⟩,
    ⟨some ⟨.d1, .d0, .d0⟩, .build [.int .u8 0, .int .u8 0, .int .u8 0, .int .u8 0, .int .u8 0, .int .u8 0, .int .i64 0, .int .i64 0] [(0, 6, (.t ⟨.d0, .d7, .d5⟩)), (6, 1, (.t ⟨.d0, .d7, .d6⟩)), (7, 1, (.t ⟨.d0, .d7, .d7⟩))], none⟩,
    ⟨some ⟨.d1, .d0, .d1⟩, .call 44 [(.t ⟨.d0, .d7, .d3⟩), (.t ⟨.d1, .d0, .d0⟩)], none⟩,
    ⟨none, .store 3 (.t ⟨.d0, .d0, .d4⟩) (.t ⟨.d1, .d0, .d1⟩), none⟩])
  (.seq (.seq (.region [⟨some ⟨.d1, .d0, .d3⟩, .load true 3 (.t ⟨.d0, .d0, .d4⟩), none⟩,
    ⟨some ⟨.d1, .d0, .d4⟩, .fieldAddr 0 (.t ⟨.d0, .d1, .d4⟩), none⟩,
    ⟨some ⟨.d1, .d0, .d5⟩, .load true 6 (.t ⟨.d1, .d0, .d4⟩), none⟩,
    ⟨some ⟨.d1, .d0, .d6⟩, .move (.t ⟨.d0, .d0, .d2⟩), none⟩,
    ⟨some ⟨.d1, .d0, .d7⟩, .call 45 [(.t ⟨.d1, .d0, .d3⟩), (.t ⟨.d1, .d0, .d5⟩), (.t ⟨.d1, .d0, .d6⟩)], none⟩,
    ⟨some ⟨.d1, .d0, .d2⟩, .move (.t ⟨.d1, .d0, .d7⟩), none⟩,
    ⟨some ⟨.d1, .d1, .d0⟩, .extract 0 (.t ⟨.d1, .d0, .d2⟩), none⟩,
    ⟨some ⟨.d1, .d1, .d1⟩, .extract 1 (.t ⟨.d1, .d0, .d2⟩), none⟩,
    ⟨some ⟨.d0, .d1, .d6⟩, .move (.t ⟨.d1, .d1, .d0⟩), none⟩,
    ⟨some ⟨.d0, .d1, .d7⟩, .move (.t ⟨.d1, .d1, .d1⟩), none⟩])
  (.seq (.region [⟨some ⟨.d1, .d1, .d2⟩, .move (.t ⟨.d0, .d1, .d7⟩), none⟩,
    ⟨some ⟨.d1, .d1, .d3⟩, .move (.t ⟨.d1, .d1, .d2⟩), none⟩,
    ⟨some ⟨.d1, .d1, .d4⟩, .fieldAddr 0 (.t ⟨.d0, .d1, .d4⟩), some (⟨.d1, .d1, .d3⟩, true)⟩,
    ⟨some ⟨.d1, .d1, .d5⟩, .load true 6 (.t ⟨.d1, .d1, .d4⟩), some (⟨.d1, .d1, .d3⟩, true)⟩,
    ⟨some ⟨.d1, .d1, .d6⟩, .call 43 [(.t ⟨.d1, .d1, .d5⟩)], some (⟨.d1, .d1, .d3⟩, true)⟩,
    ⟨some ⟨.d1, .d1, .d7⟩, .un .not (.t ⟨.d1, .d1, .d6⟩), some (⟨.d1, .d1, .d3⟩, true)⟩,
    ⟨some ⟨.d1, .d2, .d0⟩, .pick (.t ⟨.d1, .d1, .d3⟩) (.t ⟨.d1, .d1, .d7⟩) (.c (.bool false)), none⟩])
  (.cond (.t ⟨.d1, .d2, .d0⟩)
    (.seq (.seq (.region [⟨some ⟨.d1, .d2, .d1⟩, .move (.t ⟨.d0, .d1, .d6⟩), none⟩,
      ⟨some ⟨.d1, .d2, .d2⟩, .move (.t ⟨.d0, .d0, .d1⟩), none⟩,
      ⟨some ⟨.d1, .d2, .d3⟩, .bin .eql (.t ⟨.d1, .d2, .d1⟩) (.t ⟨.d1, .d2, .d2⟩), none⟩])
    (.cond (.t ⟨.d1, .d2, .d3⟩)
      (.seq (.region [⟨some ⟨.d1, .d2, .d4⟩, .load true 3 (.t ⟨.d0, .d0, .d4⟩), none⟩,
        ⟨none, .store 3 (.t ⟨.d0, .d1, .d0⟩) (.t ⟨.d1, .d2, .d4⟩), none⟩,
        ⟨some ⟨.d0, .d1, .d1⟩, .move (.c (.slice none 0 0)), none⟩,
        ⟨some ⟨.d0, .d1, .d2⟩, .move (.c (.int .i64 0)), none⟩])
      (.ret))
      (.skip)))
    (.seq (.region [⟨some ⟨.d1, .d2, .d5⟩, .load true 3 (.t ⟨.d0, .d0, .d4⟩), none⟩,
      ⟨some ⟨.d1, .d2, .d6⟩, .move (.t ⟨.d0, .d1, .d6⟩), none⟩,
      ⟨some ⟨.d1, .d2, .d7⟩, .buildSlice 3 1 [.int .i64 0] [(0, (.t ⟨.d1, .d2, .d6⟩))], none⟩,
      ⟨none, .store 3 (.t ⟨.d0, .d1, .d0⟩) (.t ⟨.d1, .d2, .d5⟩), none⟩,
      ⟨some ⟨.d0, .d1, .d1⟩, .move (.t ⟨.d1, .d2, .d7⟩), none⟩,
      ⟨some ⟨.d0, .d1, .d2⟩, .move (.c (.int .i64 0)), none⟩])
    (.ret)))
    (.skip))))
  (.seq (.region [⟨some ⟨.d0, .d2, .d0⟩, .move (.c (.slice none 0 0)), none⟩])
  (.seq (.seq (.region [⟨some ⟨.d1, .d3, .d0⟩, .fieldAddr 0 (.t ⟨.d0, .d0, .d4⟩), none⟩,
    ⟨some ⟨.d1, .d3, .d1⟩, .load false 1 (.t ⟨.d1, .d3, .d0⟩), none⟩,
    ⟨some ⟨.d1, .d3, .d2⟩, .move (.c (.int .i64 0)), none⟩])
  (.block 0
    (.loop
      (.seq (.region [⟨some ⟨.d1, .d3, .d3⟩, .bin .lss (.t ⟨.d1, .d3, .d2⟩) (.t ⟨.d1, .d3, .d1⟩), none⟩])
      (.seq (.cond (.t ⟨.d1, .d3, .d3⟩)
        (.skip)
        (.exit 0))
      (.seq (.block 1
        (.seq (.region [⟨some ⟨.d1, .d3, .d4⟩, .move (.t ⟨.d1, .d3, .d2⟩), none⟩,
          ⟨some ⟨.d0, .d2, .d1⟩, .move (.t ⟨.d1, .d3, .d4⟩), none⟩])
        (.seq (.region [⟨some ⟨.d1, .d3, .d5⟩, .move (.t ⟨.d0, .d2, .d1⟩), none⟩,
          ⟨some ⟨.d1, .d3, .d6⟩, .move (.t ⟨.d0, .d0, .d1⟩), none⟩,
          ⟨some ⟨.d1, .d3, .d7⟩, .bin .neq (.t ⟨.d1, .d3, .d5⟩) (.t ⟨.d1, .d3, .d6⟩), none⟩])
        (.cond (.t ⟨.d1, .d3, .d7⟩)
          (.region [⟨some ⟨.d1, .d4, .d0⟩, .move (.t ⟨.d0, .d2, .d0⟩), none⟩,
            ⟨some ⟨.d1, .d4, .d1⟩, .move (.t ⟨.d0, .d2, .d1⟩), none⟩,
            ⟨some ⟨.d1, .d4, .d2⟩, .buildSlice 4 1 [.int .i64 0] [(0, (.t ⟨.d1, .d4, .d1⟩))], none⟩,
            ⟨some ⟨.d1, .d4, .d3⟩, .append 5 1 8 (.t ⟨.d1, .d4, .d0⟩) (.t ⟨.d1, .d4, .d2⟩), none⟩,
            ⟨some ⟨.d0, .d2, .d0⟩, .move (.t ⟨.d1, .d4, .d3⟩), none⟩])
          (.skip)))))
      (.region [⟨some ⟨.d1, .d4, .d4⟩, .bin .add (.t ⟨.d1, .d3, .d2⟩) (.c (.int .i64 1)), none⟩,
        ⟨some ⟨.d1, .d3, .d2⟩, .move (.t ⟨.d1, .d4, .d4⟩), none⟩])))))))
  (.seq (.region [⟨some ⟨.d1, .d4, .d5⟩, .load true 3 (.t ⟨.d0, .d0, .d4⟩), none⟩,
    ⟨some ⟨.d1, .d4, .d6⟩, .move (.t ⟨.d0, .d2, .d0⟩), none⟩,
    ⟨none, .store 3 (.t ⟨.d0, .d1, .d0⟩) (.t ⟨.d1, .d4, .d5⟩), none⟩,
    ⟨some ⟨.d0, .d1, .d1⟩, .move (.t ⟨.d1, .d4, .d6⟩), none⟩,
    ⟨some ⟨.d0, .d1, .d2⟩, .move (.c (.int .i64 0)), none⟩])
  (.ret)))))))))))))
def r_bridge_Hear : List XR := [.cell ⟨.d0, .d1, .d0⟩ true 3, .tmp ⟨.d0, .d1, .d1⟩, .tmp ⟨.d0, .d1, .d2⟩]
theorem ok_bridge_Hear : okC Try.prog Try.f17.ntmps (bodyOf Try.f17) x_bridge_Hear = true := by kernel_rfl
theorem okr_bridge_Hear : okRs Try.prog Try.f17.results.toList r_bridge_Hear = true := by kernel_rfl

/-- custref.BridgeHeard -/
def x_custref_BridgeHeard : XC :=
  .seq (.region [⟨some ⟨.d0, .d0, .d4⟩, .box 0 3 (.t ⟨.d0, .d0, .d0⟩), none⟩,
    ⟨some ⟨.d0, .d1, .d0⟩, .alloc 1 [.int .i64 0, .int .i64 0, .slice none 0 0], none⟩,
    ⟨some ⟨.d0, .d1, .d1⟩, .move (.c (.slice none 0 0)), none⟩,
    ⟨some ⟨.d0, .d1, .d2⟩, .move (.c (.int .i64 0)), none⟩])
  (.seq (.seq (.region [⟨some ⟨.d0, .d2, .d7⟩, .load true 3 (.t ⟨.d0, .d0, .d4⟩), none⟩,
    ⟨some ⟨.d0, .d3, .d0⟩, .call 20 [(.t ⟨.d0, .d2, .d7⟩)], none⟩,
    ⟨some ⟨.d0, .d1, .d3⟩, .move (.t ⟨.d0, .d3, .d0⟩), none⟩])
  (.seq (.region [⟨some ⟨.d0, .d3, .d1⟩, .move (.t ⟨.d0, .d1, .d3⟩), none⟩,
    ⟨some ⟨.d0, .d3, .d2⟩, .bin .neq (.t ⟨.d0, .d3, .d1⟩) (.c (.int .i64 0)), none⟩])
  (.cond (.t ⟨.d0, .d3, .d2⟩)
    (.seq (.region [⟨some ⟨.d0, .d3, .d3⟩, .load true 3 (.t ⟨.d0, .d0, .d4⟩), none⟩,
      ⟨some ⟨.d0, .d3, .d4⟩, .move (.t ⟨.d0, .d1, .d3⟩), none⟩,
      ⟨none, .store 3 (.t ⟨.d0, .d1, .d0⟩) (.t ⟨.d0, .d3, .d3⟩), none⟩,
      ⟨some ⟨.d0, .d1, .d1⟩, .move (.c (.slice none 0 0)), none⟩,
      ⟨some ⟨.d0, .d1, .d2⟩, .move (.t ⟨.d0, .d3, .d4⟩), none⟩])
    (.ret))
    (.skip))))
  (.seq (.seq (.region [⟨some ⟨.d0, .d3, .d5⟩, .move (.t ⟨.d0, .d0, .d1⟩), none⟩,
    ⟨some ⟨.d0, .d3, .d6⟩, .fieldAddr 0 (.t ⟨.d0, .d0, .d4⟩), none⟩,
    ⟨some ⟨.d0, .d3, .d7⟩, .load false 1 (.t ⟨.d0, .d3, .d6⟩), none⟩,
    ⟨some ⟨.d0, .d4, .d0⟩, .bin .sub (.t ⟨.d0, .d3, .d7⟩) (.c (.int .i64 1)), none⟩,
    ⟨some ⟨.d0, .d4, .d1⟩, .call 25 [(.t ⟨.d0, .d3, .d5⟩), (.c (.int .i64 0)), (.t ⟨.d0, .d4, .d0⟩)], none⟩,
    ⟨some ⟨.d0, .d4, .d2⟩, .un .not (.t ⟨.d0, .d4, .d1⟩), none⟩])
  (.cond (.t ⟨.d0, .d4, .d2⟩)
    (.seq (.region [⟨some ⟨.d0, .d4, .d3⟩, .load true 3 (.t ⟨.d0, .d0, .d4⟩), none⟩,
      ⟨none, .store 3 (.t ⟨.d0, .d1, .d0⟩) (.t ⟨.d0, .d4, .d3⟩), none⟩,
      ⟨some ⟨.d0, .d1, .d1⟩, .move (.c (.slice none 0 0)), none⟩,
      ⟨some ⟨.d0, .d1, .d2⟩, .move (.c (.int .i64 7)), none⟩])
    (.ret))
    (.skip)))
  (.seq (.region [⟨some ⟨.d0, .d1, .d4⟩, .move (.c (.int .i64 0)), none⟩])
  (.seq (.seq (.region [⟨some ⟨.d0, .d4, .d4⟩, .fieldAddr 2 (.t ⟨.d0, .d0, .d4⟩), none⟩,
    ⟨some ⟨.d0, .d4, .d5⟩, .load false 1 (.t ⟨.d0, .d4, .d4⟩), none⟩,
    ⟨some ⟨.d0, .d4, .d6⟩, .len (.t ⟨.d0, .d4, .d5⟩), none⟩,
    ⟨some ⟨.d0, .d4, .d7⟩, .move (.c (.int .i64 0)), none⟩])
  (.block 0
    (.loop
      (.seq (.region [⟨some ⟨.d0, .d5, .d0⟩, .bin .lss (.t ⟨.d0, .d4, .d7⟩) (.t ⟨.d0, .d4, .d6⟩), none⟩])
      (.seq (.cond (.t ⟨.d0, .d5, .d0⟩)
        (.skip)
        (.exit 0))
      (.seq (.block 1
        (.seq (.region [⟨some ⟨.d0, .d5, .d1⟩, .indexSl 8 (.t ⟨.d0, .d4, .d5⟩) (.t ⟨.d0, .d4, .d7⟩), none⟩,
          ⟨some ⟨.d0, .d5, .d2⟩, .load true 8 (.t ⟨.d0, .d5, .d1⟩), none⟩,
          ⟨some ⟨.d0, .d1, .d6⟩, .alloc 2 [.int .u8 0, .int .u8 0, .int .u8 0, .int .u8 0, .int .u8 0, .int .u8 0, .int .i64 0, .int .i64 0], none⟩,
          ⟨none, .store 8 (.t ⟨.d0, .d1, .d6⟩) (.t ⟨.d0, .d5, .d2⟩), none⟩])
        (.region [⟨some ⟨.d0, .d5, .d3⟩, .fieldAddr 7 (.t ⟨.d0, .d1, .d6⟩), none⟩,
          ⟨some ⟨.d0, .d5, .d4⟩, .load false 1 (.t ⟨.d0, .d5, .d3⟩), none⟩,
          ⟨some ⟨.d0, .d1, .d4⟩, .move (.t ⟨.d0, .d5, .d4⟩), none⟩])))
      (.region [⟨some ⟨.d0, .d5, .d5⟩, .bin .add (.t ⟨.d0, .d4, .d7⟩) (.c (.int .i64 1)), none⟩,
        ⟨some ⟨.d0, .d4, .d7⟩, .move (.t ⟨.d0, .d5, .d5⟩), none⟩])))))))
  (.seq (.seq (.region [⟨some ⟨.d0, .d5, .d6⟩, .move (.t ⟨.d0, .d0, .d2⟩), none⟩,
    ⟨some ⟨.d0, .d5, .d7⟩, .move (.t ⟨.d0, .d1, .d4⟩), none⟩,
    ⟨some ⟨.d0, .d6, .d0⟩, .call 25 [(.t ⟨.d0, .d5, .d6⟩), (.t ⟨.d0, .d5, .d7⟩), (.c (.int .i64 1099511627776))], none⟩,
    ⟨some ⟨.d0, .d6, .d1⟩, .un .not (.t ⟨.d0, .d6, .d0⟩), none⟩])
  (.cond (.t ⟨.d0, .d6, .d1⟩)
    (.seq (.region [⟨some ⟨.d0, .d6, .d2⟩, .load true 3 (.t ⟨.d0, .d0, .d4⟩), none⟩,
      ⟨none, .store 3 (.t ⟨.d0, .d1, .d0⟩) (.t ⟨.d0, .d6, .d2⟩), none⟩,
      ⟨some ⟨.d0, .d1, .d1⟩, .move (.c (.slice none 0 0)), none⟩,
      ⟨some ⟨.d0, .d1, .d2⟩, .move (.c (.int .i64 1)), none⟩])
    (.ret))
    (.skip)))
  (.seq (.region [⟨some ⟨.d0, .d6, .d4⟩, .move (.t ⟨.d0, .d0, .d3⟩), none⟩,
    ⟨some ⟨.d0, .d6, .d5⟩, .call 46 [(.t ⟨.d0, .d6, .d4⟩)], none⟩,
    ⟨some ⟨.d0, .d6, .d3⟩, .move (.t ⟨.d0, .d6, .d5⟩), none⟩,
    ⟨some ⟨.d0, .d6, .d6⟩, .extract 0 (.t ⟨.d0, .d6, .d3⟩), none⟩,
    ⟨some ⟨.d0, .d6, .d7⟩, .extract 1 (.t ⟨.d0, .d6, .d3⟩), none⟩,
    ⟨some ⟨.d0, .d1, .d7⟩, .alloc 3 [.int .u8 0, .int .u8 0, .int .u8 0, .int .u8 0, .int .u8 0, .int .u8 0, .int .u8 0, .int .u8 0, .int .u8 0, .int .u8 0, .int .u8 0, .int .u8 0, .int .i64 0, .int .i64 0, .string { data := #[] }], none⟩,
    ⟨none, .store 15 (.t ⟨.d0, .d1, .d7⟩) (.t ⟨.d0, .d6, .d6⟩), none⟩,
    ⟨some ⟨.d0, .d2, .d0⟩, .move (.t ⟨.d0, .d6, .d7⟩), none⟩])
  (.seq (.seq (.region [⟨some ⟨.d0, .d7, .d0⟩, .move (.t ⟨.d0, .d2, .d0⟩), none⟩,
    ⟨some ⟨.d0, .d7, .d1⟩, .bin .neq (.t ⟨.d0, .d7, .d0⟩) (.c (.int .i64 0)), none⟩])
  (.cond (.t ⟨.d0, .d7, .d1⟩)
    (.seq (.region [⟨some ⟨.d0, .d7, .d2⟩, .load true 3 (.t ⟨.d0, .d0, .d4⟩), none⟩,
      ⟨some ⟨.d0, .d7, .d3⟩, .move (.t ⟨.d0, .d2, .d0⟩), none⟩,
      ⟨none, .store 3 (.t ⟨.d0, .d1, .d0⟩) (.t ⟨.d0, .d7, .d2⟩), none⟩,
      ⟨some ⟨.d0, .d1, .d1⟩, .move (.c (.slice none 0 0)), none⟩,
      ⟨some ⟨.d0, .d1, .d2⟩, .move (.t ⟨.d0, .d7, .d3⟩), none⟩])
    (.ret))
    (.skip)))
  (.seq (.seq (.region [⟨some ⟨.d0, .d7, .d4⟩, .fieldAddr 6 (.t ⟨.d0, .d1, .d7⟩), none⟩,
    ⟨some ⟨.d0, .d7, .d5⟩, .indexArr 1 6 (.t ⟨.d0, .d7, .d4⟩) (.c (.int .i64 0)), none⟩,
    ⟨some ⟨.d0, .d7, .d6⟩, .load false 1 (.t ⟨.d0, .d7, .d5⟩), none⟩,
    ⟨some ⟨.d0, .d7, .d7⟩, .bin .rem (.t ⟨.d0, .d7, .d6⟩) (.c (.int .u8 2)), none⟩,
    ⟨some ⟨.d1, .d0, .d0⟩, .bin .eql (.t ⟨.d0, .d7, .d7⟩) (.c (.int .u8 1)), none⟩])
  (.cond (.t ⟨.d1, .d0, .d0⟩)
    (.seq (.region [⟨some ⟨.d1, .d0, .d1⟩, .load true 3 (.t ⟨.d0, .d0, .d4⟩), none⟩,
      ⟨none, .store 3 (.t ⟨.d0, .d1, .d0⟩) (.t ⟨.d1, .d0, .d1⟩), none⟩,
      ⟨some ⟨.d0, .d1, .d1⟩, .move (.c (.slice none 0 0)), none⟩,
      ⟨some ⟨.d0, .d1, .d2⟩, .move (.c (.int .i64 4)), none⟩])
    (.ret))
    (.skip)))
  (.seq (.region [⟨some ⟨.d0, .d2, .d1⟩, .move (.c (.slice none 0 0)), none⟩])
  (.seq (.seq (.region [⟨some ⟨.d1, .d0, .d2⟩, .fieldAddr 2 (.t ⟨.d0, .d0, .d4⟩), none⟩,
    ⟨some ⟨.d1, .d0, .d3⟩, .load false 1 (.t ⟨.d1, .d0, .d2⟩), none⟩,
    ⟨some ⟨.d1, .d0, .d4⟩, .len (.t ⟨.d1, .d0, .d3⟩), none⟩,
    ⟨some ⟨.d1, .d0, .d5⟩, .move (.c (.int .i64 0)), none⟩])
  (.block 2
    (.loop
      (.seq (.region [⟨some ⟨.d1, .d0, .d6⟩, .bin .lss (.t ⟨.d1, .d0, .d5⟩) (.t ⟨.d1, .d0, .d4⟩), none⟩])
      (.seq (.cond (.t ⟨.d1, .d0, .d6⟩)
        (.skip)
        (.exit 2))
      (.seq (.block 3
        (.seq (.region [⟨some ⟨.d1, .d0, .d7⟩, .indexSl 8 (.t ⟨.d1, .d0, .d3⟩) (.t ⟨.d1, .d0, .d5⟩), none⟩,
          ⟨some ⟨.d1, .d1, .d0⟩, .load true 8 (.t ⟨.d1, .d0, .d7⟩), none⟩,
          ⟨some ⟨.d0, .d2, .d3⟩, .alloc 4 [.int .u8 0, .int .u8 0, .int .u8 0, .int .u8 0, .int .u8 0, .int .u8 0, .int .i64 0, .int .i64 0], none⟩,
          ⟨none, .store 8 (.t ⟨.d0, .d2, .d3⟩) (.t ⟨.d1, .d1, .d0⟩), none⟩])
        (.seq (.region [⟨some ⟨.d1, .d1, .d1⟩, .fieldAddr 0 (.t ⟨.d0, .d2, .d3⟩), none⟩,
          ⟨some ⟨.d1, .d1, .d2⟩, .load true 6 (.t ⟨.d1, .d1, .d1⟩), none⟩,
          ⟨some ⟨.d1, .d1, .d3⟩, .fieldAddr 6 (.t ⟨.d0, .d1, .d7⟩), none⟩,
          ⟨some ⟨.d1, .d1, .d4⟩, .load true 6 (.t ⟨.d1, .d1, .d3⟩), none⟩,
          ⟨some ⟨.d1, .d1, .d5⟩, .eqs true [0, 0, 0, 0, 0, 0] (.t ⟨.d1, .d1, .d2⟩) (.t ⟨.d1, .d1, .d4⟩), none⟩,
          ⟨some ⟨.d1, .d1, .d6⟩, .move (.t ⟨.d1, .d1, .d5⟩), none⟩,
          ⟨some ⟨.d1, .d1, .d7⟩, .fieldAddr 7 (.t ⟨.d0, .d2, .d3⟩), some (⟨.d1, .d1, .d6⟩, true)⟩,
          ⟨some ⟨.d1, .d2, .d0⟩, .load false 1 (.t ⟨.d1, .d1, .d7⟩), some (⟨.d1, .d1, .d6⟩, true)⟩,
          ⟨some ⟨.d1, .d2, .d1⟩, .fieldAddr 1 (.t ⟨.d0, .d0, .d4⟩), some (⟨.d1, .d1, .d6⟩, true)⟩,
          ⟨some ⟨.d1, .d2, .d2⟩, .load false 1 (.t ⟨.d1, .d2, .d1⟩), some (⟨.d1, .d1, .d6⟩, true)⟩,
          ⟨some ⟨.d1, .d2, .d3⟩, .bin .add (.t ⟨.d1, .d2, .d0⟩) (.t ⟨.d1, .d2, .d2⟩), some (⟨.d1, .d1, .d6⟩, true)⟩,
          ⟨some ⟨.d1, .d2, .d4⟩, .move (.t ⟨.d0, .d0, .d2⟩), some (⟨.d1, .d1, .d6⟩, true)⟩,
          ⟨some ⟨.d1, .d2, .d5⟩, .bin .geq (.t ⟨.d1, .d2, .d3⟩) (.t ⟨.d1, .d2, .d4⟩), some (⟨.d1, .d1, .d6⟩, true)⟩,
          ⟨some ⟨.d1, .d2, .d6⟩, .pick (.t ⟨.d1, .d1, .d6⟩) (.t ⟨.d1, .d2, .d5⟩) (.c (.bool false)), none⟩])
        (.cond (.t ⟨.d1, .d2, .d6⟩)
          (.region [⟨some ⟨.d1, .d2, .d7⟩, .move (.t ⟨.d0, .d2, .d1⟩), none⟩,
            ⟨some ⟨.d1, .d3, .d0⟩, .load true 8 (.t ⟨.d0, .d2, .d3⟩), none⟩,
            ⟨some ⟨.d1, .d3, .d1⟩, .buildSlice 5 1 [.int .u8 0, .int .u8 0, .int .u8 0, .int .u8 0, .int .u8 0, .int .u8 0, .int .i64 0, .int .i64 0] [(0, (.t ⟨.d1, .d3, .d0⟩))], none⟩,
            ⟨some ⟨.d1, .d3, .d2⟩, .append 6 8 24 (.t ⟨.d1, .d2, .d7⟩) (.t ⟨.d1, .d3, .d1⟩), none⟩,
            ⟨some ⟨.d0, .d2, .d1⟩, .move (.t ⟨.d1, .d3, .d2⟩), none⟩])
          (.skip)))))
      (.region [⟨some ⟨.d1, .d3, .d3⟩, .bin .add (.t ⟨.d1, .d0, .d5⟩) (.c (.int .i64 1)), none⟩,
        ⟨some ⟨.d1, .d0, .d5⟩, .move (.t ⟨.d1, .d3, .d3⟩), none⟩])))))))
  (.seq (.region [⟨some ⟨.d1, .d3, .d4⟩, .move (.t ⟨.d0, .d2, .d1⟩), none⟩,
    ⟨some ⟨.d1, .d3, .d5⟩, .move (.t ⟨.d0, .d2, .d1⟩), none⟩,
    ⟨some ⟨.d1, .d3, .d6⟩, .len (.t ⟨.d1, .d3, .d5⟩), none⟩,
    ⟨some ⟨.d1, .d3, .d7⟩, .bin .sub (.t ⟨.d1, .d3, .d6⟩) (.c (.int .i64 63)), none⟩,
    ⟨some ⟨.d1, .d4, .d0⟩, .maxI (.c (.int .i64 0)) (.t ⟨.d1, .d3, .d7⟩), none⟩,
    ⟨some ⟨.d1, .d4, .d1⟩, .slice 8 (.t ⟨.d1, .d3, .d4⟩) (some (.t ⟨.d1, .d4, .d0⟩)) none none, none⟩,
    ⟨some ⟨.d0, .d2, .d1⟩, .move (.t ⟨.d1, .d4, .d1⟩), none⟩])
  (.seq (.regionD [0, 1, 0, 4, 0, 0, 60, 124, 255, 511, 1023] [⟨some ⟨.d1, .d4, .d2⟩, .move (.t ⟨.d0, .d2, .d1⟩), none⟩,
    ⟨some ⟨.d1, .d4, .d3⟩, .call 40 [(.t ⟨.d1, .d4, .d2⟩)], none⟩,
    ⟨some ⟨.d1, .d4, .d4⟩, .fieldAddr 6 (.t ⟨.d0, .d1, .d7⟩), none⟩,
    ⟨some ⟨.d1, .d4, .d5⟩, .load true 6 (.t ⟨.d1, .d4, .d4⟩), none⟩,
    ⟨some ⟨.d1, .d4, .d6⟩, .move (.t ⟨.d0, .d0, .d1⟩), none⟩,
    ⟨some ⟨.d1, .d4, .d7⟩, .move (.t ⟨.d0, .d0, .d2⟩), none⟩,
    ⟨some ⟨.d1, .d5, .d0⟩, .build [.int .u8 0, .int .u8 0, .int .u8 0, .int .u8 0, .int .u8 0, .int .u8 0, .int .i64 0, .int .i64 0] [(0, 6, (.t ⟨.d1, .d4, .d5⟩)), (6, 1, (.t ⟨.d1, .d4, .d6⟩)), (7, 1, (.t ⟨.d1, .d4, .d7⟩))], none⟩,
    ⟨some ⟨.d1, .d5, .d1⟩, .buildSlice 7 1 [.int .u8 0, .int .u8 0, .int .u8 0, .int .u8 0, .int .u8 0, .int .u8 0, .int .i64 0, .int .i64 0] [(0, (.t ⟨.d1, .d5, .d0⟩))], none⟩,
    ⟨some ⟨.d1, .d5, .d2⟩, .append 8 8 24 (.t ⟨.d1, .d4, .d3⟩) (.t ⟨.d1, .d5, .d1⟩), none⟩,
    ⟨some ⟨.d1, .d5, .d3⟩, .fieldAddr 2 (.t ⟨.d0, .d0, .d4⟩), none⟩,
    ⟨none, .store 1 (.t ⟨.d1, .d5, .d3⟩) (.t ⟨.d1, .d5, .d2⟩), none⟩])
  (.seq (.region [⟨some ⟨.d1, .d5, .d4⟩, .load true 3 (.t ⟨.d0, .d0, .d4⟩), none⟩,
    ⟨some ⟨.d1, .d5, .d5⟩, .fieldAddr 0 (.t ⟨.d0, .d1, .d7⟩), none⟩,
    ⟨some ⟨.d1, .d5, .d6⟩, .load true 6 (.t ⟨.d1, .d5, .d5⟩), none⟩,
    ⟨some ⟨.d1, .d5, .d7⟩, .move (.t ⟨.d0, .d0, .d2⟩), none⟩,
    ⟨some ⟨.d1, .d6, .d0⟩, .call 47 [(.t ⟨.d1, .d5, .d4⟩), (.t ⟨.d1, .d5, .d6⟩), (.t ⟨.d1, .d5, .d7⟩)], none⟩,
    ⟨some ⟨.d0, .d2, .d4⟩, .move (.t ⟨.d1, .d6, .d0⟩), none⟩])
  (.seq (.region [⟨some ⟨.d0, .d2, .d5⟩, .move (.c (.slice none 0 0)), none⟩])
  (.seq (.seq (.region [⟨some ⟨.d1, .d6, .d1⟩, .fieldAddr 0 (.t ⟨.d0, .d0, .d4⟩), none⟩,
    ⟨some ⟨.d1, .d6, .d2⟩, .load false 1 (.t ⟨.d1, .d6, .d1⟩), none⟩,
    ⟨some ⟨.d1, .d6, .d3⟩, .move (.c (.int .i64 0)), none⟩])
  (.block 4
    (.loop
      (.seq (.region [⟨some ⟨.d1, .d6, .d4⟩, .bin .lss (.t ⟨.d1, .d6, .d3⟩) (.t ⟨.d1, .d6, .d2⟩), none⟩])
      (.seq (.cond (.t ⟨.d1, .d6, .d4⟩)
        (.skip)
        (.exit 4))
      (.seq (.block 5
        (.seq (.region [⟨some ⟨.d1, .d6, .d5⟩, .move (.t ⟨.d1, .d6, .d3⟩), none⟩,
          ⟨some ⟨.d0, .d2, .d6⟩, .move (.t ⟨.d1, .d6, .d5⟩), none⟩])
        (.seq (.region [⟨some ⟨.d1, .d6, .d6⟩, .move (.t ⟨.d0, .d2, .d6⟩), none⟩,
          ⟨some ⟨.d1, .d6, .d7⟩, .move (.t ⟨.d0, .d0, .d1⟩), none⟩,
          ⟨some ⟨.d1, .d7, .d0⟩, .bin .neq (.t ⟨.d1, .d6, .d6⟩) (.t ⟨.d1, .d6, .d7⟩), none⟩,
          ⟨some ⟨.d1, .d7, .d1⟩, .move (.t ⟨.d1, .d7, .d0⟩), none⟩,
          ⟨some ⟨.d1, .d7, .d2⟩, .move (.t ⟨.d0, .d2, .d4⟩), some (⟨.d1, .d7, .d1⟩, true)⟩,
          ⟨some ⟨.d1, .d7, .d3⟩, .bin .lss (.t ⟨.d1, .d7, .d2⟩) (.c (.int .i64 0)), some (⟨.d1, .d7, .d1⟩, true)⟩,
          ⟨some ⟨.d1, .d7, .d4⟩, .move (.t ⟨.d1, .d7, .d3⟩), some (⟨.d1, .d7, .d1⟩, true)⟩,
          ⟨some ⟨.d1, .d7, .d5⟩, .move (.t ⟨.d0, .d2, .d6⟩), some (⟨.d1, .d7, .d4⟩, false)⟩,
          ⟨some ⟨.d1, .d7, .d6⟩, .move (.t ⟨.d0, .d2, .d4⟩), some (⟨.d1, .d7, .d4⟩, false)⟩,
          ⟨some ⟨.d1, .d7, .d7⟩, .bin .eql (.t ⟨.d1, .d7, .d5⟩) (.t ⟨.d1, .d7, .d6⟩), some (⟨.d1, .d7, .d4⟩, false)⟩,
          ⟨some ⟨.d2, .d0, .d0⟩, .pick (.t ⟨.d1, .d7, .d4⟩) (.c (.bool true)) (.t ⟨.d1, .d7, .d7⟩), some (⟨.d1, .d7, .d1⟩, true)⟩,
          ⟨some ⟨.d2, .d0, .d1⟩, .move (.t ⟨.d2, .d0, .d0⟩), some (⟨.d1, .d7, .d1⟩, true)⟩,
          ⟨some ⟨.d2, .d0, .d2⟩, .fieldAddr 0 (.t ⟨.d0, .d1, .d7⟩), some (⟨.d2, .d0, .d1⟩, false)⟩,
          ⟨some ⟨.d2, .d0, .d3⟩, .indexArr 1 6 (.t ⟨.d2, .d0, .d2⟩) (.c (.int .i64 0)), some (⟨.d2, .d0, .d1⟩, false)⟩,
          ⟨some ⟨.d2, .d0, .d4⟩, .load false 1 (.t ⟨.d2, .d0, .d3⟩), some (⟨.d2, .d0, .d1⟩, false)⟩,
          ⟨some ⟨.d2, .d0, .d5⟩, .bin .rem (.t ⟨.d2, .d0, .d4⟩) (.c (.int .u8 2)), some (⟨.d2, .d0, .d1⟩, false)⟩,
          ⟨some ⟨.d2, .d0, .d6⟩, .bin .eql (.t ⟨.d2, .d0, .d5⟩) (.c (.int .u8 1)), some (⟨.d2, .d0, .d1⟩, false)⟩,
          ⟨some ⟨.d2, .d0, .d7⟩, .pick (.t ⟨.d2, .d0, .d1⟩) (.c (.bool true)) (.t ⟨.d2, .d0, .d6⟩), some (⟨.d1, .d7, .d1⟩, true)⟩,
          ⟨some ⟨.d2, .d1, .d0⟩, .pick (.t ⟨.d1, .d7, .d1⟩) (.t ⟨.d2, .d0, .d7⟩) (.c (.bool false)), none⟩])
        (.cond (.t ⟨.d2, .d1, .d0⟩)
          (.region [⟨some ⟨.d2, .d1, .d1⟩, .move (.t ⟨.d0, .d2, .d5⟩), none⟩,
            ⟨some ⟨.d2, .d1, .d2⟩, .move (.t ⟨.d0, .d2, .d6⟩), none⟩,
            ⟨some ⟨.d2, .d1, .d3⟩, .buildSlice 9 1 [.int .i64 0] [(0, (.t ⟨.d2, .d1, .d2⟩))], none⟩,
            ⟨some ⟨.d2, .d1, .d4⟩, .append 10 1 8 (.t ⟨.d2, .d1, .d1⟩) (.t ⟨.d2, .d1, .d3⟩), none⟩,
            ⟨some ⟨.d0, .d2, .d5⟩, .move (.t ⟨.d2, .d1, .d4⟩), none⟩])
          (.skip)))))
      (.region [⟨some ⟨.d2, .d1, .d5⟩, .bin .add (.t ⟨.d1, .d6, .d3⟩) (.c (.int .i64 1)), none⟩,
        ⟨some ⟨.d1, .d6, .d3⟩, .move (.t ⟨.d2, .d1, .d5⟩), none⟩])))))))
  (.seq (.region [⟨some ⟨.d2, .d1, .d6⟩, .load true 3 (.t ⟨.d0, .d0, .d4⟩), none⟩,
    ⟨some ⟨.d2, .d1, .d7⟩, .move (.t ⟨.d0, .d2, .d5⟩), none⟩,
    ⟨none, .store 3 (.t ⟨.d0, .d1, .d0⟩) (.t ⟨.d2, .d1, .d6⟩), none⟩,
    ⟨some ⟨.d0, .d1, .d1⟩, .move (.t ⟨.d2, .d1, .d7⟩), none⟩,
    ⟨some ⟨.d0, .d1, .d2⟩, .move (.c (.int .i64 0)), none⟩])
  (.ret)))))))))))))))))
def r_custref_BridgeHeard : List XR := [.cell ⟨.d0, .d1, .d0⟩ true 3, .tmp ⟨.d0, .d1, .d1⟩, .tmp ⟨.d0, .d1, .d2⟩]
theorem ok_custref_BridgeHeard : okC Try.prog Try.f18.ntmps (bodyOf Try.f18) x_custref_BridgeHeard = true := by kernel_rfl
theorem okr_custref_BridgeHeard : okRs Try.prog Try.f18.results.toList r_custref_BridgeHeard = true := by kernel_rfl

/-- bridge.Check -/
def x_bridge_Check : XC :=
  .seq (.region [⟨some ⟨.d0, .d0, .d1⟩, .box 0 3 (.t ⟨.d0, .d0, .d0⟩), none⟩,
    ⟨some ⟨.d0, .d0, .d2⟩, .move (.c (.int .i64 0)), none⟩])
  (.seq (.seq (.region [⟨some ⟨.d0, .d0, .d7⟩, .fieldAddr 0 (.t ⟨.d0, .d0, .d1⟩), none⟩,
    ⟨some ⟨.d0, .d1, .d0⟩, .load false 1 (.t ⟨.d0, .d0, .d7⟩), none⟩,
    ⟨some ⟨.d0, .d1, .d1⟩, .bin .lss (.t ⟨.d0, .d1, .d0⟩) (.c (.int .i64 2)), none⟩,
    ⟨some ⟨.d0, .d1, .d2⟩, .move (.t ⟨.d0, .d1, .d1⟩), none⟩,
    ⟨some ⟨.d0, .d1, .d3⟩, .fieldAddr 0 (.t ⟨.d0, .d0, .d1⟩), some (⟨.d0, .d1, .d2⟩, false)⟩,
    ⟨some ⟨.d0, .d1, .d4⟩, .load false 1 (.t ⟨.d0, .d1, .d3⟩), some (⟨.d0, .d1, .d2⟩, false)⟩,
    ⟨some ⟨.d0, .d1, .d5⟩, .bin .gtr (.t ⟨.d0, .d1, .d4⟩) (.c (.int .i64 16)), some (⟨.d0, .d1, .d2⟩, false)⟩,
    ⟨some ⟨.d0, .d1, .d6⟩, .pick (.t ⟨.d0, .d1, .d2⟩) (.c (.bool true)) (.t ⟨.d0, .d1, .d5⟩), none⟩,
    ⟨some ⟨.d0, .d1, .d7⟩, .move (.t ⟨.d0, .d1, .d6⟩), none⟩,
    ⟨some ⟨.d0, .d2, .d0⟩, .fieldAddr 1 (.t ⟨.d0, .d0, .d1⟩), some (⟨.d0, .d1, .d7⟩, false)⟩,
    ⟨some ⟨.d0, .d2, .d1⟩, .load false 1 (.t ⟨.d0, .d2, .d0⟩), some (⟨.d0, .d1, .d7⟩, false)⟩,
    ⟨some ⟨.d0, .d2, .d2⟩, .bin .lss (.t ⟨.d0, .d2, .d1⟩) (.c (.int .i64 1)), some (⟨.d0, .d1, .d7⟩, false)⟩,
    ⟨some ⟨.d0, .d2, .d3⟩, .pick (.t ⟨.d0, .d1, .d7⟩) (.c (.bool true)) (.t ⟨.d0, .d2, .d2⟩), none⟩,
    ⟨some ⟨.d0, .d2, .d4⟩, .move (.t ⟨.d0, .d2, .d3⟩), none⟩,
    ⟨some ⟨.d0, .d2, .d5⟩, .fieldAddr 1 (.t ⟨.d0, .d0, .d1⟩), some (⟨.d0, .d2, .d4⟩, false)⟩,
    ⟨some ⟨.d0, .d2, .d6⟩, .load false 1 (.t ⟨.d0, .d2, .d5⟩), some (⟨.d0, .d2, .d4⟩, false)⟩,
    ⟨some ⟨.d0, .d2, .d7⟩, .bin .gtr (.t ⟨.d0, .d2, .d6⟩) (.c (.int .i64 1000000)), some (⟨.d0, .d2, .d4⟩, false)⟩,
    ⟨some ⟨.d0, .d3, .d0⟩, .pick (.t ⟨.d0, .d2, .d4⟩) (.c (.bool true)) (.t ⟨.d0, .d2, .d7⟩), none⟩])
  (.cond (.t ⟨.d0, .d3, .d0⟩)
    (.seq (.region [⟨some ⟨.d0, .d0, .d2⟩, .move (.c (.int .i64 1)), none⟩])
    (.ret))
    (.skip)))
  (.seq (.seq (.region [⟨some ⟨.d0, .d3, .d1⟩, .fieldAddr 2 (.t ⟨.d0, .d0, .d1⟩), none⟩,
    ⟨some ⟨.d0, .d3, .d2⟩, .load false 1 (.t ⟨.d0, .d3, .d1⟩), none⟩,
    ⟨some ⟨.d0, .d3, .d3⟩, .len (.t ⟨.d0, .d3, .d2⟩), none⟩,
    ⟨some ⟨.d0, .d3, .d4⟩, .bin .gtr (.t ⟨.d0, .d3, .d3⟩) (.c (.int .i64 64)), none⟩])
  (.cond (.t ⟨.d0, .d3, .d4⟩)
    (.seq (.region [⟨some ⟨.d0, .d0, .d2⟩, .move (.c (.int .i64 2)), none⟩])
    (.ret))
    (.skip)))
  (.seq (.region [⟨some ⟨.d0, .d0, .d3⟩, .move (.c (.int .i64 0)), none⟩])
  (.seq (.region [⟨some ⟨.d0, .d3, .d5⟩, .makeMapL 1 (.cells [.u8, .u8, .u8, .u8, .u8, .u8]) (.int .i64 0) (.agg [.int .u8 0, .int .u8 0, .int .u8 0, .int .u8 0, .int .u8 0, .int .u8 0].toArray), none⟩,
    ⟨some ⟨.d0, .d0, .d4⟩, .move (.t ⟨.d0, .d3, .d5⟩), none⟩])
  (.seq (.seq (.region [⟨some ⟨.d0, .d3, .d6⟩, .fieldAddr 2 (.t ⟨.d0, .d0, .d1⟩), none⟩,
    ⟨some ⟨.d0, .d3, .d7⟩, .load false 1 (.t ⟨.d0, .d3, .d6⟩), none⟩,
    ⟨some ⟨.d0, .d4, .d0⟩, .len (.t ⟨.d0, .d3, .d7⟩), none⟩,
    ⟨some ⟨.d0, .d4, .d1⟩, .move (.c (.int .i64 0)), none⟩])
  (.block 0
    (.loop
      (.seq (.region [⟨some ⟨.d0, .d4, .d2⟩, .bin .lss (.t ⟨.d0, .d4, .d1⟩) (.t ⟨.d0, .d4, .d0⟩), none⟩])
      (.seq (.cond (.t ⟨.d0, .d4, .d2⟩)
        (.skip)
        (.exit 0))
      (.seq (.block 1
        (.seq (.region [⟨some ⟨.d0, .d4, .d3⟩, .indexSl 8 (.t ⟨.d0, .d3, .d7⟩) (.t ⟨.d0, .d4, .d1⟩), none⟩,
          ⟨some ⟨.d0, .d4, .d4⟩, .load true 8 (.t ⟨.d0, .d4, .d3⟩), none⟩,
          ⟨some ⟨.d0, .d0, .d6⟩, .alloc 2 [.int .u8 0, .int .u8 0, .int .u8 0, .int .u8 0, .int .u8 0, .int .u8 0, .int .i64 0, .int .i64 0], none⟩,
          ⟨none, .store 8 (.t ⟨.d0, .d0, .d6⟩) (.t ⟨.d0, .d4, .d4⟩), none⟩])
        (.seq (.seq (.regionD [0, 0, 2, 7, 15, 7, 39, 127] [⟨some ⟨.d0, .d4, .d5⟩, .move (.t ⟨.d0, .d0, .d4⟩), none⟩,
          ⟨some ⟨.d0, .d4, .d6⟩, .fieldAddr 0 (.t ⟨.d0, .d0, .d6⟩), none⟩,
          ⟨some ⟨.d0, .d4, .d7⟩, .load true 6 (.t ⟨.d0, .d4, .d6⟩), none⟩,
          ⟨some ⟨.d0, .d5, .d0⟩, .mgetL (.cells [.u8, .u8, .u8, .u8, .u8, .u8]) (.int .i64 0) (.t ⟨.d0, .d4, .d5⟩) (.t ⟨.d0, .d4, .d7⟩), none⟩,
          ⟨some ⟨.d0, .d5, .d1⟩, .bin .add (.t ⟨.d0, .d5, .d0⟩) (.c (.int .i64 1)), none⟩,
          ⟨some ⟨.d0, .d5, .d2⟩, .mentry (.cells [.u8, .u8, .u8, .u8, .u8, .u8]) (.int .i64 0) (.t ⟨.d0, .d4, .d5⟩) (.t ⟨.d0, .d4, .d7⟩), none⟩,
          ⟨some ⟨.d0, .d5, .d3⟩, .extract 1 (.t ⟨.d0, .d5, .d2⟩), none⟩,
          ⟨none, .estore (.cells [.u8, .u8, .u8, .u8, .u8, .u8]) (.t ⟨.d0, .d4, .d5⟩) (.t ⟨.d0, .d5, .d3⟩) (.t ⟨.d0, .d5, .d1⟩), none⟩])
        (.seq (.region [⟨some ⟨.d0, .d5, .d4⟩, .fieldAddr 6 (.t ⟨.d0, .d0, .d6⟩), none⟩,
          ⟨some ⟨.d0, .d5, .d5⟩, .load false 1 (.t ⟨.d0, .d5, .d4⟩), none⟩,
          ⟨some ⟨.d0, .d5, .d6⟩, .bin .lss (.t ⟨.d0, .d5, .d5⟩) (.c (.int .i64 0)), none⟩,
          ⟨some ⟨.d0, .d5, .d7⟩, .move (.t ⟨.d0, .d5, .d6⟩), none⟩,
          ⟨some ⟨.d0, .d6, .d0⟩, .fieldAddr 6 (.t ⟨.d0, .d0, .d6⟩), some (⟨.d0, .d5, .d7⟩, false)⟩,
          ⟨some ⟨.d0, .d6, .d1⟩, .load false 1 (.t ⟨.d0, .d6, .d0⟩), some (⟨.d0, .d5, .d7⟩, false)⟩,
          ⟨some ⟨.d0, .d6, .d2⟩, .fieldAddr 0 (.t ⟨.d0, .d0, .d1⟩), some (⟨.d0, .d5, .d7⟩, false)⟩,
          ⟨some ⟨.d0, .d6, .d3⟩, .load false 1 (.t ⟨.d0, .d6, .d2⟩), some (⟨.d0, .d5, .d7⟩, false)⟩,
          ⟨some ⟨.d0, .d6, .d4⟩, .bin .geq (.t ⟨.d0, .d6, .d1⟩) (.t ⟨.d0, .d6, .d3⟩), some (⟨.d0, .d5, .d7⟩, false)⟩,
          ⟨some ⟨.d0, .d6, .d5⟩, .pick (.t ⟨.d0, .d5, .d7⟩) (.c (.bool true)) (.t ⟨.d0, .d6, .d4⟩), none⟩,
          ⟨some ⟨.d0, .d6, .d6⟩, .move (.t ⟨.d0, .d6, .d5⟩), none⟩,
          ⟨some ⟨.d0, .d6, .d7⟩, .fieldAddr 7 (.t ⟨.d0, .d0, .d6⟩), some (⟨.d0, .d6, .d6⟩, false)⟩,
          ⟨some ⟨.d0, .d7, .d0⟩, .load false 1 (.t ⟨.d0, .d6, .d7⟩), some (⟨.d0, .d6, .d6⟩, false)⟩,
          ⟨some ⟨.d0, .d7, .d1⟩, .move (.t ⟨.d0, .d0, .d3⟩), some (⟨.d0, .d6, .d6⟩, false)⟩,
          ⟨some ⟨.d0, .d7, .d2⟩, .bin .lss (.t ⟨.d0, .d7, .d0⟩) (.t ⟨.d0, .d7, .d1⟩), some (⟨.d0, .d6, .d6⟩, false)⟩,
          ⟨some ⟨.d0, .d7, .d3⟩, .pick (.t ⟨.d0, .d6, .d6⟩) (.c (.bool true)) (.t ⟨.d0, .d7, .d2⟩), none⟩,
          ⟨some ⟨.d0, .d7, .d4⟩, .move (.t ⟨.d0, .d7, .d3⟩), none⟩,
          ⟨some ⟨.d0, .d7, .d5⟩, .fieldAddr 7 (.t ⟨.d0, .d0, .d6⟩), some (⟨.d0, .d7, .d4⟩, false)⟩,
          ⟨some ⟨.d0, .d7, .d6⟩, .load false 1 (.t ⟨.d0, .d7, .d5⟩), some (⟨.d0, .d7, .d4⟩, false)⟩,
          ⟨some ⟨.d0, .d7, .d7⟩, .bin .gtr (.t ⟨.d0, .d7, .d6⟩) (.c (.int .i64 1099511627776)), some (⟨.d0, .d7, .d4⟩, false)⟩,
          ⟨some ⟨.d1, .d0, .d0⟩, .pick (.t ⟨.d0, .d7, .d4⟩) (.c (.bool true)) (.t ⟨.d0, .d7, .d7⟩), none⟩,
          ⟨some ⟨.d1, .d0, .d1⟩, .move (.t ⟨.d1, .d0, .d0⟩), none⟩,
          ⟨some ⟨.d1, .d0, .d2⟩, .fieldAddr 0 (.t ⟨.d0, .d0, .d6⟩), some (⟨.d1, .d0, .d1⟩, false)⟩,
          ⟨some ⟨.d1, .d0, .d3⟩, .load true 6 (.t ⟨.d1, .d0, .d2⟩), some (⟨.d1, .d0, .d1⟩, false)⟩,
          ⟨some ⟨.d1, .d0, .d4⟩, .call 43 [(.t ⟨.d1, .d0, .d3⟩)], some (⟨.d1, .d0, .d1⟩, false)⟩,
          ⟨some ⟨.d1, .d0, .d5⟩, .pick (.t ⟨.d1, .d0, .d1⟩) (.c (.bool true)) (.t ⟨.d1, .d0, .d4⟩), none⟩,
          ⟨some ⟨.d1, .d0, .d6⟩, .move (.t ⟨.d1, .d0, .d5⟩), none⟩,
          ⟨some ⟨.d1, .d0, .d7⟩, .move (.t ⟨.d0, .d0, .d4⟩), some (⟨.d1, .d0, .d6⟩, false)⟩,
          ⟨some ⟨.d1, .d1, .d0⟩, .fieldAddr 0 (.t ⟨.d0, .d0, .d6⟩), some (⟨.d1, .d0, .d6⟩, false)⟩,
          ⟨some ⟨.d1, .d1, .d1⟩, .load true 6 (.t ⟨.d1, .d1, .d0⟩), some (⟨.d1, .d0, .d6⟩, false)⟩,
          ⟨some ⟨.d1, .d1, .d2⟩, .mgetL (.cells [.u8, .u8, .u8, .u8, .u8, .u8]) (.int .i64 0) (.t ⟨.d1, .d0, .d7⟩) (.t ⟨.d1, .d1, .d1⟩), some (⟨.d1, .d0, .d6⟩, false)⟩,
          ⟨some ⟨.d1, .d1, .d3⟩, .bin .gtr (.t ⟨.d1, .d1, .d2⟩) (.c (.int .i64 1)), some (⟨.d1, .d0, .d6⟩, false)⟩,
          ⟨some ⟨.d1, .d1, .d4⟩, .pick (.t ⟨.d1, .d0, .d6⟩) (.c (.bool true)) (.t ⟨.d1, .d1, .d3⟩), none⟩])
        (.cond (.t ⟨.d1, .d1, .d4⟩)
          (.seq (.region [⟨some ⟨.d0, .d0, .d2⟩, .move (.c (.int .i64 4)), none⟩])
          (.ret))
          (.skip))))
        (.region [⟨some ⟨.d1, .d1, .d5⟩, .fieldAddr 7 (.t ⟨.d0, .d0, .d6⟩), none⟩,
          ⟨some ⟨.d1, .d1, .d6⟩, .load false 1 (.t ⟨.d1, .d1, .d5⟩), none⟩,
          ⟨some ⟨.d0, .d0, .d3⟩, .move (.t ⟨.d1, .d1, .d6⟩), none⟩]))))
      (.region [⟨some ⟨.d1, .d1, .d7⟩, .bin .add (.t ⟨.d0, .d4, .d1⟩) (.c (.int .i64 1)), none⟩,
        ⟨some ⟨.d0, .d4, .d1⟩, .move (.t ⟨.d1, .d1, .d7⟩), none⟩])))))))
  (.seq (.region [⟨some ⟨.d0, .d0, .d2⟩, .move (.c (.int .i64 0)), none⟩])
  (.ret)))))))
def r_bridge_Check : List XR := [.tmp ⟨.d0, .d0, .d2⟩]
theorem ok_bridge_Check : okC Try.prog Try.f19.ntmps (bodyOf Try.f19) x_bridge_Check = true := by kernel_rfl
theorem okr_bridge_Check : okRs Try.prog Try.f19.results.toList r_bridge_Check = true := by kernel_rfl

/-- custref.BridgeRight -/
def x_custref_BridgeRight : XC :=
  .seq (.region [⟨some ⟨.d0, .d0, .d1⟩, .box 0 3 (.t ⟨.d0, .d0, .d0⟩), none⟩,
    ⟨some ⟨.d0, .d0, .d2⟩, .move (.c (.int .i64 0)), none⟩])
  (.seq (.seq (.region [⟨some ⟨.d0, .d0, .d7⟩, .fieldAddr 0 (.t ⟨.d0, .d0, .d1⟩), none⟩,
    ⟨some ⟨.d0, .d1, .d0⟩, .load false 1 (.t ⟨.d0, .d0, .d7⟩), none⟩,
    ⟨some ⟨.d0, .d1, .d1⟩, .call 25 [(.t ⟨.d0, .d1, .d0⟩), (.c (.int .i64 2)), (.c (.int .i64 16))], none⟩,
    ⟨some ⟨.d0, .d1, .d2⟩, .un .not (.t ⟨.d0, .d1, .d1⟩), none⟩,
    ⟨some ⟨.d0, .d1, .d3⟩, .move (.t ⟨.d0, .d1, .d2⟩), none⟩,
    ⟨some ⟨.d0, .d1, .d4⟩, .fieldAddr 1 (.t ⟨.d0, .d0, .d1⟩), some (⟨.d0, .d1, .d3⟩, false)⟩,
    ⟨some ⟨.d0, .d1, .d5⟩, .load false 1 (.t ⟨.d0, .d1, .d4⟩), some (⟨.d0, .d1, .d3⟩, false)⟩,
    ⟨some ⟨.d0, .d1, .d6⟩, .call 25 [(.t ⟨.d0, .d1, .d5⟩), (.c (.int .i64 1)), (.c (.int .i64 1000000))], some (⟨.d0, .d1, .d3⟩, false)⟩,
    ⟨some ⟨.d0, .d1, .d7⟩, .un .not (.t ⟨.d0, .d1, .d6⟩), some (⟨.d0, .d1, .d3⟩, false)⟩,
    ⟨some ⟨.d0, .d2, .d0⟩, .pick (.t ⟨.d0, .d1, .d3⟩) (.c (.bool true)) (.t ⟨.d0, .d1, .d7⟩), none⟩])
  (.cond (.t ⟨.d0, .d2, .d0⟩)
    (.seq (.region [⟨some ⟨.d0, .d0, .d2⟩, .move (.c (.int .i64 1)), none⟩])
    (.ret))
    (.skip)))
  (.seq (.seq (.region [⟨some ⟨.d0, .d2, .d1⟩, .fieldAddr 2 (.t ⟨.d0, .d0, .d1⟩), none⟩,
    ⟨some ⟨.d0, .d2, .d2⟩, .load false 1 (.t ⟨.d0, .d2, .d1⟩), none⟩,
    ⟨some ⟨.d0, .d2, .d3⟩, .len (.t ⟨.d0, .d2, .d2⟩), none⟩,
    ⟨some ⟨.d0, .d2, .d4⟩, .bin .gtr (.t ⟨.d0, .d2, .d3⟩) (.c (.int .i64 64)), none⟩])
  (.cond (.t ⟨.d0, .d2, .d4⟩)
    (.seq (.region [⟨some ⟨.d0, .d0, .d2⟩, .move (.c (.int .i64 2)), none⟩])
    (.ret))
    (.skip)))
  (.seq (.seq (.region [⟨some ⟨.d0, .d2, .d5⟩, .fieldAddr 2 (.t ⟨.d0, .d0, .d1⟩), none⟩,
    ⟨some ⟨.d0, .d2, .d6⟩, .load false 1 (.t ⟨.d0, .d2, .d5⟩), none⟩,
    ⟨some ⟨.d0, .d2, .d7⟩, .len (.t ⟨.d0, .d2, .d6⟩), none⟩,
    ⟨some ⟨.d0, .d3, .d0⟩, .move (.c (.int .i64 0)), none⟩])
  (.block 0
    (.loop
      (.seq (.region [⟨some ⟨.d0, .d3, .d1⟩, .bin .lss (.t ⟨.d0, .d3, .d0⟩) (.t ⟨.d0, .d2, .d7⟩), none⟩])
      (.seq (.cond (.t ⟨.d0, .d3, .d1⟩)
        (.skip)
        (.exit 0))
      (.seq (.block 1
        (.seq (.region [⟨some ⟨.d0, .d3, .d2⟩, .move (.t ⟨.d0, .d3, .d0⟩), none⟩,
          ⟨some ⟨.d0, .d3, .d3⟩, .indexSl 8 (.t ⟨.d0, .d2, .d6⟩) (.t ⟨.d0, .d3, .d0⟩), none⟩,
          ⟨some ⟨.d0, .d3, .d4⟩, .load true 8 (.t ⟨.d0, .d3, .d3⟩), none⟩,
          ⟨some ⟨.d0, .d0, .d4⟩, .alloc 1 [.int .u8 0, .int .u8 0, .int .u8 0, .int .u8 0, .int .u8 0, .int .u8 0, .int .i64 0, .int .i64 0], none⟩,
          ⟨some ⟨.d0, .d0, .d3⟩, .move (.t ⟨.d0, .d3, .d2⟩), none⟩,
          ⟨none, .store 8 (.t ⟨.d0, .d0, .d4⟩) (.t ⟨.d0, .d3, .d4⟩), none⟩])
        (.seq (.seq (.region [⟨some ⟨.d0, .d3, .d5⟩, .fieldAddr 6 (.t ⟨.d0, .d0, .d4⟩), none⟩,
          ⟨some ⟨.d0, .d3, .d6⟩, .load false 1 (.t ⟨.d0, .d3, .d5⟩), none⟩,
          ⟨some ⟨.d0, .d3, .d7⟩, .fieldAddr 0 (.t ⟨.d0, .d0, .d1⟩), none⟩,
          ⟨some ⟨.d0, .d4, .d0⟩, .load false 1 (.t ⟨.d0, .d3, .d7⟩), none⟩,
          ⟨some ⟨.d0, .d4, .d1⟩, .bin .sub (.t ⟨.d0, .d4, .d0⟩) (.c (.int .i64 1)), none⟩,
          ⟨some ⟨.d0, .d4, .d2⟩, .call 25 [(.t ⟨.d0, .d3, .d6⟩), (.c (.int .i64 0)), (.t ⟨.d0, .d4, .d1⟩)], none⟩,
          ⟨some ⟨.d0, .d4, .d3⟩, .un .not (.t ⟨.d0, .d4, .d2⟩), none⟩,
          ⟨some ⟨.d0, .d4, .d4⟩, .move (.t ⟨.d0, .d4, .d3⟩), none⟩,
          ⟨some ⟨.d0, .d4, .d5⟩, .fieldAddr 7 (.t ⟨.d0, .d0, .d4⟩), some (⟨.d0, .d4, .d4⟩, false)⟩,
          ⟨some ⟨.d0, .d4, .d6⟩, .load false 1 (.t ⟨.d0, .d4, .d5⟩), some (⟨.d0, .d4, .d4⟩, false)⟩,
          ⟨some ⟨.d0, .d4, .d7⟩, .call 25 [(.t ⟨.d0, .d4, .d6⟩), (.c (.int .i64 0)), (.c (.int .i64 1099511627776))], some (⟨.d0, .d4, .d4⟩, false)⟩,
          ⟨some ⟨.d0, .d5, .d0⟩, .un .not (.t ⟨.d0, .d4, .d7⟩), some (⟨.d0, .d4, .d4⟩, false)⟩,
          ⟨some ⟨.d0, .d5, .d1⟩, .pick (.t ⟨.d0, .d4, .d4⟩) (.c (.bool true)) (.t ⟨.d0, .d5, .d0⟩), none⟩,
          ⟨some ⟨.d0, .d5, .d2⟩, .move (.t ⟨.d0, .d5, .d1⟩), none⟩,
          ⟨some ⟨.d0, .d5, .d3⟩, .fieldAddr 0 (.t ⟨.d0, .d0, .d4⟩), some (⟨.d0, .d5, .d2⟩, false)⟩,
          ⟨some ⟨.d0, .d5, .d4⟩, .indexArr 1 6 (.t ⟨.d0, .d5, .d3⟩) (.c (.int .i64 0)), some (⟨.d0, .d5, .d2⟩, false)⟩,
          ⟨some ⟨.d0, .d5, .d5⟩, .load false 1 (.t ⟨.d0, .d5, .d4⟩), some (⟨.d0, .d5, .d2⟩, false)⟩,
          ⟨some ⟨.d0, .d5, .d6⟩, .bin .rem (.t ⟨.d0, .d5, .d5⟩) (.c (.int .u8 2)), some (⟨.d0, .d5, .d2⟩, false)⟩,
          ⟨some ⟨.d0, .d5, .d7⟩, .bin .eql (.t ⟨.d0, .d5, .d6⟩) (.c (.int .u8 1)), some (⟨.d0, .d5, .d2⟩, false)⟩,
          ⟨some ⟨.d0, .d6, .d0⟩, .pick (.t ⟨.d0, .d5, .d2⟩) (.c (.bool true)) (.t ⟨.d0, .d5, .d7⟩), none⟩])
        (.cond (.t ⟨.d0, .d6, .d0⟩)
          (.seq (.region [⟨some ⟨.d0, .d0, .d2⟩, .move (.c (.int .i64 4)), none⟩])
          (.ret))
          (.skip)))
        (.seq (.region [⟨some ⟨.d0, .d6, .d1⟩, .fieldAddr 2 (.t ⟨.d0, .d0, .d1⟩), none⟩,
          ⟨some ⟨.d0, .d6, .d2⟩, .load false 1 (.t ⟨.d0, .d6, .d1⟩), none⟩,
          ⟨some ⟨.d0, .d6, .d3⟩, .move (.t ⟨.d0, .d0, .d3⟩), none⟩,
          ⟨some ⟨.d0, .d6, .d4⟩, .slice 8 (.t ⟨.d0, .d6, .d2⟩) none (some (.t ⟨.d0, .d6, .d3⟩)) none, none⟩,
          ⟨some ⟨.d0, .d6, .d5⟩, .len (.t ⟨.d0, .d6, .d4⟩), none⟩,
          ⟨some ⟨.d0, .d6, .d6⟩, .move (.c (.int .i64 0)), none⟩])
        (.block 2
          (.loop
            (.seq (.region [⟨some ⟨.d0, .d6, .d7⟩, .bin .lss (.t ⟨.d0, .d6, .d6⟩) (.t ⟨.d0, .d6, .d5⟩), none⟩])
            (.seq (.cond (.t ⟨.d0, .d6, .d7⟩)
              (.skip)
              (.exit 2))
            (.seq (.block 3
              (.seq (.region [⟨some ⟨.d0, .d7, .d0⟩, .indexSl 8 (.t ⟨.d0, .d6, .d4⟩) (.t ⟨.d0, .d6, .d6⟩), none⟩,
                ⟨some ⟨.d0, .d7, .d1⟩, .load true 8 (.t ⟨.d0, .d7, .d0⟩), none⟩,
                ⟨some ⟨.d0, .d0, .d6⟩, .alloc 2 [.int .u8 0, .int .u8 0, .int .u8 0, .int .u8 0, .int .u8 0, .int .u8 0, .int .i64 0, .int .i64 0], none⟩,
                ⟨none, .store 8 (.t ⟨.d0, .d0, .d6⟩) (.t ⟨.d0, .d7, .d1⟩), none⟩])
              (.seq (.region [⟨some ⟨.d0, .d7, .d2⟩, .fieldAddr 0 (.t ⟨.d0, .d0, .d6⟩), none⟩,
                ⟨some ⟨.d0, .d7, .d3⟩, .load true 6 (.t ⟨.d0, .d7, .d2⟩), none⟩,
                ⟨some ⟨.d0, .d7, .d4⟩, .fieldAddr 0 (.t ⟨.d0, .d0, .d4⟩), none⟩,
                ⟨some ⟨.d0, .d7, .d5⟩, .load true 6 (.t ⟨.d0, .d7, .d4⟩), none⟩,
                ⟨some ⟨.d0, .d7, .d6⟩, .eqs false [0, 0, 0, 0, 0, 0] (.t ⟨.d0, .d7, .d3⟩) (.t ⟨.d0, .d7, .d5⟩), none⟩,
                ⟨some ⟨.d0, .d7, .d7⟩, .move (.t ⟨.d0, .d7, .d6⟩), none⟩,
                ⟨some ⟨.d1, .d0, .d0⟩, .fieldAddr 7 (.t ⟨.d0, .d0, .d6⟩), some (⟨.d0, .d7, .d7⟩, false)⟩,
                ⟨some ⟨.d1, .d0, .d1⟩, .load false 1 (.t ⟨.d1, .d0, .d0⟩), some (⟨.d0, .d7, .d7⟩, false)⟩,
                ⟨some ⟨.d1, .d0, .d2⟩, .fieldAddr 7 (.t ⟨.d0, .d0, .d4⟩), some (⟨.d0, .d7, .d7⟩, false)⟩,
                ⟨some ⟨.d1, .d0, .d3⟩, .load false 1 (.t ⟨.d1, .d0, .d2⟩), some (⟨.d0, .d7, .d7⟩, false)⟩,
                ⟨some ⟨.d1, .d0, .d4⟩, .bin .gtr (.t ⟨.d1, .d0, .d1⟩) (.t ⟨.d1, .d0, .d3⟩), some (⟨.d0, .d7, .d7⟩, false)⟩,
                ⟨some ⟨.d1, .d0, .d5⟩, .pick (.t ⟨.d0, .d7, .d7⟩) (.c (.bool true)) (.t ⟨.d1, .d0, .d4⟩), none⟩])
              (.cond (.t ⟨.d1, .d0, .d5⟩)
                (.seq (.region [⟨some ⟨.d0, .d0, .d2⟩, .move (.c (.int .i64 4)), none⟩])
                (.ret))
                (.skip)))))
            (.region [⟨some ⟨.d1, .d0, .d6⟩, .bin .add (.t ⟨.d0, .d6, .d6⟩) (.c (.int .i64 1)), none⟩,
              ⟨some ⟨.d0, .d6, .d6⟩, .move (.t ⟨.d1, .d0, .d6⟩), none⟩]))))))))))
      (.region [⟨some ⟨.d1, .d0, .d7⟩, .bin .add (.t ⟨.d0, .d3, .d0⟩) (.c (.int .i64 1)), none⟩,
        ⟨some ⟨.d0, .d3, .d0⟩, .move (.t ⟨.d1, .d0, .d7⟩), none⟩])))))))
  (.seq (.region [⟨some ⟨.d0, .d0, .d2⟩, .move (.c (.int .i64 0)), none⟩])
  (.ret)))))
def r_custref_BridgeRight : List XR := [.tmp ⟨.d0, .d0, .d2⟩]
theorem ok_custref_BridgeRight : okC Try.prog Try.f20.ntmps (bodyOf Try.f20) x_custref_BridgeRight = true := by kernel_rfl
theorem okr_custref_BridgeRight : okRs Try.prog Try.f20.results.toList r_custref_BridgeRight = true := by kernel_rfl

/-- custref.SameBridge -/
def x_custref_SameBridge : XC :=
  .seq (.region [⟨some ⟨.d0, .d0, .d2⟩, .box 0 3 (.t ⟨.d0, .d0, .d0⟩), none⟩,
    ⟨some ⟨.d0, .d0, .d3⟩, .box 1 3 (.t ⟨.d0, .d0, .d1⟩), none⟩,
    ⟨some ⟨.d0, .d0, .d4⟩, .move (.c (.bool false)), none⟩])
  (.seq (.region [⟨some ⟨.d0, .d0, .d5⟩, .fieldAddr 0 (.t ⟨.d0, .d0, .d2⟩), none⟩,
    ⟨some ⟨.d0, .d0, .d6⟩, .load false 1 (.t ⟨.d0, .d0, .d5⟩), none⟩,
    ⟨some ⟨.d0, .d0, .d7⟩, .fieldAddr 0 (.t ⟨.d0, .d0, .d3⟩), none⟩,
    ⟨some ⟨.d0, .d1, .d0⟩, .load false 1 (.t ⟨.d0, .d0, .d7⟩), none⟩,
    ⟨some ⟨.d0, .d1, .d1⟩, .bin .eql (.t ⟨.d0, .d0, .d6⟩) (.t ⟨.d0, .d1, .d0⟩), none⟩,
    ⟨some ⟨.d0, .d1, .d2⟩, .move (.t ⟨.d0, .d1, .d1⟩), none⟩,
    ⟨some ⟨.d0, .d1, .d3⟩, .fieldAddr 1 (.t ⟨.d0, .d0, .d2⟩), some (⟨.d0, .d1, .d2⟩, true)⟩,
    ⟨some ⟨.d0, .d1, .d4⟩, .load false 1 (.t ⟨.d0, .d1, .d3⟩), some (⟨.d0, .d1, .d2⟩, true)⟩,
    ⟨some ⟨.d0, .d1, .d5⟩, .fieldAddr 1 (.t ⟨.d0, .d0, .d3⟩), some (⟨.d0, .d1, .d2⟩, true)⟩,
    ⟨some ⟨.d0, .d1, .d6⟩, .load false 1 (.t ⟨.d0, .d1, .d5⟩), some (⟨.d0, .d1, .d2⟩, true)⟩,
    ⟨some ⟨.d0, .d1, .d7⟩, .bin .eql (.t ⟨.d0, .d1, .d4⟩) (.t ⟨.d0, .d1, .d6⟩), some (⟨.d0, .d1, .d2⟩, true)⟩,
    ⟨some ⟨.d0, .d2, .d0⟩, .pick (.t ⟨.d0, .d1, .d2⟩) (.t ⟨.d0, .d1, .d7⟩) (.c (.bool false)), none⟩,
    ⟨some ⟨.d0, .d2, .d1⟩, .move (.t ⟨.d0, .d2, .d0⟩), none⟩,
    ⟨some ⟨.d0, .d2, .d2⟩, .fieldAddr 2 (.t ⟨.d0, .d0, .d2⟩), some (⟨.d0, .d2, .d1⟩, true)⟩,
    ⟨some ⟨.d0, .d2, .d3⟩, .load false 1 (.t ⟨.d0, .d2, .d2⟩), some (⟨.d0, .d2, .d1⟩, true)⟩,
    ⟨some ⟨.d0, .d2, .d4⟩, .fieldAddr 2 (.t ⟨.d0, .d0, .d3⟩), some (⟨.d0, .d2, .d1⟩, true)⟩,
    ⟨some ⟨.d0, .d2, .d5⟩, .load false 1 (.t ⟨.d0, .d2, .d4⟩), some (⟨.d0, .d2, .d1⟩, true)⟩,
    ⟨some ⟨.d0, .d2, .d6⟩, .call 48 [(.t ⟨.d0, .d2, .d3⟩), (.t ⟨.d0, .d2, .d5⟩)], some (⟨.d0, .d2, .d1⟩, true)⟩,
    ⟨some ⟨.d0, .d2, .d7⟩, .pick (.t ⟨.d0, .d2, .d1⟩) (.t ⟨.d0, .d2, .d6⟩) (.c (.bool false)), none⟩,
    ⟨some ⟨.d0, .d0, .d4⟩, .move (.t ⟨.d0, .d2, .d7⟩), none⟩])
  (.ret))
def r_custref_SameBridge : List XR := [.tmp ⟨.d0, .d0, .d4⟩]
theorem ok_custref_SameBridge : okC Try.prog Try.f21.ntmps (bodyOf Try.f21) x_custref_SameBridge = true := by kernel_rfl
theorem okr_custref_SameBridge : okRs Try.prog Try.f21.results.toList r_custref_SameBridge = true := by kernel_rfl

/-- slices.Equal -/
def x_slices_Equal_int : XC :=
  .seq (.region [⟨some ⟨.d0, .d0, .d4⟩, .move (.c (.bool false)), none⟩])
  (.seq (.seq (.region [⟨some ⟨.d0, .d0, .d6⟩, .move (.t ⟨.d0, .d0, .d0⟩), none⟩,
    ⟨some ⟨.d0, .d0, .d7⟩, .len (.t ⟨.d0, .d0, .d6⟩), none⟩,
    ⟨some ⟨.d0, .d1, .d0⟩, .move (.t ⟨.d0, .d0, .d1⟩), none⟩,
    ⟨some ⟨.d0, .d1, .d1⟩, .len (.t ⟨.d0, .d1, .d0⟩), none⟩,
    ⟨some ⟨.d0, .d1, .d2⟩, .bin .neq (.t ⟨.d0, .d0, .d7⟩) (.t ⟨.d0, .d1, .d1⟩), none⟩])
  (.cond (.t ⟨.d0, .d1, .d2⟩)
    (.seq (.region [⟨some ⟨.d0, .d0, .d4⟩, .move (.c (.bool false)), none⟩])
    (.ret))
    (.skip)))
  (.seq (.seq (.region [⟨some ⟨.d0, .d1, .d3⟩, .move (.t ⟨.d0, .d0, .d0⟩), none⟩,
    ⟨some ⟨.d0, .d1, .d4⟩, .len (.t ⟨.d0, .d1, .d3⟩), none⟩,
    ⟨some ⟨.d0, .d1, .d5⟩, .move (.c (.int .i64 0)), none⟩])
  (.block 0
    (.loop
      (.seq (.region [⟨some ⟨.d0, .d1, .d6⟩, .bin .lss (.t ⟨.d0, .d1, .d5⟩) (.t ⟨.d0, .d1, .d4⟩), none⟩])
      (.seq (.cond (.t ⟨.d0, .d1, .d6⟩)
        (.skip)
        (.exit 0))
      (.seq (.block 1
        (.seq (.region [⟨some ⟨.d0, .d1, .d7⟩, .move (.t ⟨.d0, .d1, .d5⟩), none⟩,
          ⟨some ⟨.d0, .d0, .d5⟩, .move (.t ⟨.d0, .d1, .d7⟩), none⟩])
        (.seq (.regionD [0, 0, 3, 7, 0, 0, 48, 112, 255] [⟨some ⟨.d0, .d2, .d0⟩, .move (.t ⟨.d0, .d0, .d0⟩), none⟩,
          ⟨some ⟨.d0, .d2, .d1⟩, .move (.t ⟨.d0, .d0, .d5⟩), none⟩,
          ⟨some ⟨.d0, .d2, .d2⟩, .indexSl 1 (.t ⟨.d0, .d2, .d0⟩) (.t ⟨.d0, .d2, .d1⟩), none⟩,
          ⟨some ⟨.d0, .d2, .d3⟩, .load false 1 (.t ⟨.d0, .d2, .d2⟩), none⟩,
          ⟨some ⟨.d0, .d2, .d4⟩, .move (.t ⟨.d0, .d0, .d1⟩), none⟩,
          ⟨some ⟨.d0, .d2, .d5⟩, .move (.t ⟨.d0, .d0, .d5⟩), none⟩,
          ⟨some ⟨.d0, .d2, .d6⟩, .indexSl 1 (.t ⟨.d0, .d2, .d4⟩) (.t ⟨.d0, .d2, .d5⟩), none⟩,
          ⟨some ⟨.d0, .d2, .d7⟩, .load false 1 (.t ⟨.d0, .d2, .d6⟩), none⟩,
          ⟨some ⟨.d0, .d3, .d0⟩, .bin .neq (.t ⟨.d0, .d2, .d3⟩) (.t ⟨.d0, .d2, .d7⟩), none⟩])
        (.cond (.t ⟨.d0, .d3, .d0⟩)
          (.seq (.region [⟨some ⟨.d0, .d0, .d4⟩, .move (.c (.bool false)), none⟩])
          (.ret))
          (.skip)))))
      (.region [⟨some ⟨.d0, .d3, .d1⟩, .bin .add (.t ⟨.d0, .d1, .d5⟩) (.c (.int .i64 1)), none⟩,
        ⟨some ⟨.d0, .d1, .d5⟩, .move (.t ⟨.d0, .d3, .d1⟩), none⟩])))))))
  (.seq (.region [⟨some ⟨.d0, .d0, .d4⟩, .move (.c (.bool true)), none⟩])
  (.ret))))
def r_slices_Equal_int : List XR := [.tmp ⟨.d0, .d0, .d4⟩]
theorem ok_slices_Equal_int : okC Try.prog Try.f22.ntmps (bodyOf Try.f22) x_slices_Equal_int = true := by kernel_rfl
theorem okr_slices_Equal_int : okRs Try.prog Try.f22.results.toList r_slices_Equal_int = true := by kernel_rfl

/-- nat.Check -/
def x_nat_Check : XC :=
  .seq (.region [⟨some ⟨.d0, .d0, .d1⟩, .box 0 6 (.t ⟨.d0, .d0, .d0⟩), none⟩,
    ⟨some ⟨.d0, .d0, .d2⟩, .move (.c (.int .i64 0)), none⟩])
  (.seq (.seq (.region [⟨some ⟨.d0, .d1, .d3⟩, .fieldAddr 0 (.t ⟨.d0, .d0, .d1⟩), none⟩,
    ⟨some ⟨.d0, .d1, .d4⟩, .load false 1 (.t ⟨.d0, .d1, .d3⟩), none⟩,
    ⟨some ⟨.d0, .d1, .d5⟩, .bin .lss (.t ⟨.d0, .d1, .d4⟩) (.c (.int .i64 1)), none⟩,
    ⟨some ⟨.d0, .d1, .d6⟩, .move (.t ⟨.d0, .d1, .d5⟩), none⟩,
    ⟨some ⟨.d0, .d1, .d7⟩, .fieldAddr 0 (.t ⟨.d0, .d0, .d1⟩), some (⟨.d0, .d1, .d6⟩, false)⟩,
    ⟨some ⟨.d0, .d2, .d0⟩, .load false 1 (.t ⟨.d0, .d1, .d7⟩), some (⟨.d0, .d1, .d6⟩, false)⟩,
    ⟨some ⟨.d0, .d2, .d1⟩, .bin .gtr (.t ⟨.d0, .d2, .d0⟩) (.c (.int .i64 1000000)), some (⟨.d0, .d1, .d6⟩, false)⟩,
    ⟨some ⟨.d0, .d2, .d2⟩, .pick (.t ⟨.d0, .d1, .d6⟩) (.c (.bool true)) (.t ⟨.d0, .d2, .d1⟩), none⟩])
  (.cond (.t ⟨.d0, .d2, .d2⟩)
    (.seq (.region [⟨some ⟨.d0, .d0, .d2⟩, .move (.c (.int .i64 1)), none⟩])
    (.ret))
    (.skip)))
  (.seq (.seq (.regionD [0, 1, 3, 0, 8, 31, 63, 127] [⟨some ⟨.d0, .d2, .d3⟩, .fieldAddr 1 (.t ⟨.d0, .d0, .d1⟩), none⟩,
    ⟨some ⟨.d0, .d2, .d4⟩, .load true 2 (.t ⟨.d0, .d2, .d3⟩), none⟩,
    ⟨some ⟨.d0, .d2, .d5⟩, .call 49 [(.t ⟨.d0, .d2, .d4⟩)], none⟩,
    ⟨some ⟨.d0, .d2, .d6⟩, .fieldAddr 3 (.t ⟨.d0, .d0, .d1⟩), none⟩,
    ⟨some ⟨.d0, .d2, .d7⟩, .load true 2 (.t ⟨.d0, .d2, .d6⟩), none⟩,
    ⟨some ⟨.d0, .d3, .d0⟩, .call 49 [(.t ⟨.d0, .d2, .d7⟩)], none⟩,
    ⟨some ⟨.d0, .d3, .d1⟩, .maxI (.t ⟨.d0, .d2, .d5⟩) (.t ⟨.d0, .d3, .d0⟩), none⟩,
    ⟨some ⟨.d0, .d0, .d3⟩, .move (.t ⟨.d0, .d3, .d1⟩), none⟩])
  (.seq (.region [⟨some ⟨.d0, .d3, .d2⟩, .move (.t ⟨.d0, .d0, .d3⟩), none⟩,
    ⟨some ⟨.d0, .d3, .d3⟩, .bin .neq (.t ⟨.d0, .d3, .d2⟩) (.c (.int .i64 0)), none⟩])
  (.cond (.t ⟨.d0, .d3, .d3⟩)
    (.seq (.region [⟨some ⟨.d0, .d3, .d4⟩, .move (.t ⟨.d0, .d0, .d3⟩), none⟩,
      ⟨some ⟨.d0, .d0, .d2⟩, .move (.t ⟨.d0, .d3, .d4⟩), none⟩])
    (.ret))
    (.skip))))
  (.seq (.region [⟨some ⟨.d0, .d3, .d5⟩, .load true 6 (.t ⟨.d0, .d0, .d1⟩), none⟩,
    ⟨some ⟨.d0, .d0, .d4⟩, .alloc 1 [.int .i64 0, .int .i64 0, .int .u64 0, .int .i64 0, .int .u64 0, .slice none 0 0], none⟩,
    ⟨none, .store 6 (.t ⟨.d0, .d0, .d4⟩) (.t ⟨.d0, .d3, .d5⟩), none⟩])
  (.seq (.region [⟨some ⟨.d0, .d0, .d5⟩, .move (.c (.int .i64 0)), none⟩])
  (.seq (.seq (.region [⟨some ⟨.d0, .d3, .d6⟩, .fieldAddr 5 (.t ⟨.d0, .d0, .d1⟩), none⟩,
    ⟨some ⟨.d0, .d3, .d7⟩, .load false 1 (.t ⟨.d0, .d3, .d6⟩), none⟩,
    ⟨some ⟨.d0, .d4, .d0⟩, .len (.t ⟨.d0, .d3, .d7⟩), none⟩,
    ⟨some ⟨.d0, .d4, .d1⟩, .move (.c (.int .i64 0)), none⟩])
  (.block 0
    (.loop
      (.seq (.region [⟨some ⟨.d0, .d4, .d2⟩, .bin .lss (.t ⟨.d0, .d4, .d1⟩) (.t ⟨.d0, .d4, .d0⟩), none⟩])
      (.seq (.cond (.t ⟨.d0, .d4, .d2⟩)
        (.skip)
        (.exit 0))
      (.seq (.block 1
        (.seq (.region [⟨some ⟨.d0, .d4, .d3⟩, .move (.t ⟨.d0, .d4, .d1⟩), none⟩,
          ⟨some ⟨.d0, .d4, .d4⟩, .indexSl 5 (.t ⟨.d0, .d3, .d7⟩) (.t ⟨.d0, .d4, .d1⟩), none⟩,
          ⟨some ⟨.d0, .d4, .d5⟩, .load true 5 (.t ⟨.d0, .d4, .d4⟩), none⟩,
          ⟨some ⟨.d0, .d0, .d7⟩, .alloc 2 [.int .i64 0, .int .u32 0, .int .i64 0, .int .i64 0, .int .i64 0], none⟩,
          ⟨some ⟨.d0, .d0, .d6⟩, .move (.t ⟨.d0, .d4, .d3⟩), none⟩,
          ⟨none, .store 5 (.t ⟨.d0, .d0, .d7⟩) (.t ⟨.d0, .d4, .d5⟩), none⟩])
        (.seq (.region [⟨some ⟨.d0, .d4, .d6⟩, .fieldAddr 0 (.t ⟨.d0, .d0, .d7⟩), none⟩,
          ⟨some ⟨.d0, .d4, .d7⟩, .load false 1 (.t ⟨.d0, .d4, .d6⟩), none⟩,
          ⟨some ⟨.d0, .d5, .d0⟩, .call 50 [(.t ⟨.d0, .d0, .d4⟩), (.t ⟨.d0, .d4, .d7⟩)], none⟩,
          ⟨some ⟨.d0, .d1, .d0⟩, .move (.t ⟨.d0, .d5, .d0⟩), none⟩])
        (.seq (.seq (.region [⟨some ⟨.d0, .d5, .d1⟩, .move (.t ⟨.d0, .d1, .d0⟩), none⟩,
          ⟨some ⟨.d0, .d5, .d2⟩, .isnilP false (.t ⟨.d0, .d5, .d1⟩), none⟩,
          ⟨some ⟨.d0, .d5, .d3⟩, .move (.t ⟨.d0, .d5, .d2⟩), none⟩,
          ⟨some ⟨.d0, .d5, .d4⟩, .fieldAddr 2 (.t ⟨.d0, .d0, .d7⟩), some (⟨.d0, .d5, .d3⟩, false)⟩,
          ⟨some ⟨.d0, .d5, .d5⟩, .load false 1 (.t ⟨.d0, .d5, .d4⟩), some (⟨.d0, .d5, .d3⟩, false)⟩,
          ⟨some ⟨.d0, .d5, .d6⟩, .bin .lss (.t ⟨.d0, .d5, .d5⟩) (.c (.int .i64 0)), some (⟨.d0, .d5, .d3⟩, false)⟩,
          ⟨some ⟨.d0, .d5, .d7⟩, .pick (.t ⟨.d0, .d5, .d3⟩) (.c (.bool true)) (.t ⟨.d0, .d5, .d6⟩), none⟩,
          ⟨some ⟨.d0, .d6, .d0⟩, .move (.t ⟨.d0, .d5, .d7⟩), none⟩,
          ⟨some ⟨.d0, .d6, .d1⟩, .fieldAddr 2 (.t ⟨.d0, .d0, .d7⟩), some (⟨.d0, .d6, .d0⟩, false)⟩,
          ⟨some ⟨.d0, .d6, .d2⟩, .load false 1 (.t ⟨.d0, .d6, .d1⟩), some (⟨.d0, .d6, .d0⟩, false)⟩,
          ⟨some ⟨.d0, .d6, .d3⟩, .bin .gtr (.t ⟨.d0, .d6, .d2⟩) (.c (.int .i64 65535)), some (⟨.d0, .d6, .d0⟩, false)⟩,
          ⟨some ⟨.d0, .d6, .d4⟩, .pick (.t ⟨.d0, .d6, .d0⟩) (.c (.bool true)) (.t ⟨.d0, .d6, .d3⟩), none⟩,
          ⟨some ⟨.d0, .d6, .d5⟩, .move (.t ⟨.d0, .d6, .d4⟩), none⟩,
          ⟨some ⟨.d0, .d6, .d6⟩, .fieldAddr 4 (.t ⟨.d0, .d0, .d7⟩), some (⟨.d0, .d6, .d5⟩, false)⟩,
          ⟨some ⟨.d0, .d6, .d7⟩, .load false 1 (.t ⟨.d0, .d6, .d6⟩), some (⟨.d0, .d6, .d5⟩, false)⟩,
          ⟨some ⟨.d0, .d7, .d0⟩, .move (.t ⟨.d0, .d0, .d5⟩), some (⟨.d0, .d6, .d5⟩, false)⟩,
          ⟨some ⟨.d0, .d7, .d1⟩, .bin .lss (.t ⟨.d0, .d6, .d7⟩) (.t ⟨.d0, .d7, .d0⟩), some (⟨.d0, .d6, .d5⟩, false)⟩,
          ⟨some ⟨.d0, .d7, .d2⟩, .pick (.t ⟨.d0, .d6, .d5⟩) (.c (.bool true)) (.t ⟨.d0, .d7, .d1⟩), none⟩,
          ⟨some ⟨.d0, .d7, .d3⟩, .move (.t ⟨.d0, .d7, .d2⟩), none⟩,
          ⟨some ⟨.d0, .d7, .d4⟩, .fieldAddr 4 (.t ⟨.d0, .d0, .d7⟩), some (⟨.d0, .d7, .d3⟩, false)⟩,
          ⟨some ⟨.d0, .d7, .d5⟩, .load false 1 (.t ⟨.d0, .d7, .d4⟩), some (⟨.d0, .d7, .d3⟩, false)⟩,
          ⟨some ⟨.d0, .d7, .d6⟩, .bin .gtr (.t ⟨.d0, .d7, .d5⟩) (.c (.int .i64 1099511627776)), some (⟨.d0, .d7, .d3⟩, false)⟩,
          ⟨some ⟨.d0, .d7, .d7⟩, .pick (.t ⟨.d0, .d7, .d3⟩) (.c (.bool true)) (.t ⟨.d0, .d7, .d6⟩), none⟩,
          ⟨some ⟨.d1, .d0, .d0⟩, .move (.t ⟨.d0, .d7, .d7⟩), none⟩,
          ⟨some ⟨.d1, .d0, .d1⟩, .load true 6 (.t ⟨.d0, .d0, .d1⟩), some (⟨.d1, .d0, .d0⟩, false)⟩,
          ⟨some ⟨.d1, .d0, .d2⟩, .fieldAddr 0 (.t ⟨.d0, .d0, .d7⟩), some (⟨.d1, .d0, .d0⟩, false)⟩,
          ⟨some ⟨.d1, .d0, .d3⟩, .load false 1 (.t ⟨.d1, .d0, .d2⟩), some (⟨.d1, .d0, .d0⟩, false)⟩,
          ⟨some ⟨.d1, .d0, .d4⟩, .fieldAddr 1 (.t ⟨.d0, .d0, .d7⟩), some (⟨.d1, .d0, .d0⟩, false)⟩,
          ⟨some ⟨.d1, .d0, .d5⟩, .load false 1 (.t ⟨.d1, .d0, .d4⟩), some (⟨.d1, .d0, .d0⟩, false)⟩,
          ⟨some ⟨.d1, .d0, .d6⟩, .fieldAddr 2 (.t ⟨.d0, .d0, .d7⟩), some (⟨.d1, .d0, .d0⟩, false)⟩,
          ⟨some ⟨.d1, .d0, .d7⟩, .load false 1 (.t ⟨.d1, .d0, .d6⟩), some (⟨.d1, .d0, .d0⟩, false)⟩,
          ⟨some ⟨.d1, .d1, .d0⟩, .call 51 [(.t ⟨.d1, .d0, .d1⟩), (.t ⟨.d1, .d0, .d3⟩), (.t ⟨.d1, .d0, .d5⟩), (.t ⟨.d1, .d0, .d7⟩)], some (⟨.d1, .d0, .d0⟩, false)⟩,
          ⟨some ⟨.d1, .d1, .d1⟩, .move (.t ⟨.d0, .d0, .d6⟩), some (⟨.d1, .d0, .d0⟩, false)⟩,
          ⟨some ⟨.d1, .d1, .d2⟩, .bin .neq (.t ⟨.d1, .d1, .d0⟩) (.t ⟨.d1, .d1, .d1⟩), some (⟨.d1, .d0, .d0⟩, false)⟩,
          ⟨some ⟨.d1, .d1, .d3⟩, .pick (.t ⟨.d1, .d0, .d0⟩) (.c (.bool true)) (.t ⟨.d1, .d1, .d2⟩), none⟩])
        (.cond (.t ⟨.d1, .d1, .d3⟩)
          (.seq (.region [⟨some ⟨.d0, .d0, .d2⟩, .move (.c (.int .i64 4)), none⟩])
          (.ret))
          (.skip)))
        (.seq (.regionD [0, 1, 3, 0, 8, 31, 63, 127, 127, 0, 767, 2047] [⟨some ⟨.d1, .d1, .d5⟩, .move (.t ⟨.d0, .d1, .d0⟩), none⟩,
          ⟨some ⟨.d1, .d1, .d6⟩, .nilCheck (.t ⟨.d1, .d1, .d5⟩), none⟩,
          ⟨some ⟨.d1, .d1, .d7⟩, .load true 2 (.t ⟨.d1, .d1, .d6⟩), none⟩,
          ⟨some ⟨.d1, .d2, .d0⟩, .fieldAddr 3 (.t ⟨.d0, .d0, .d7⟩), none⟩,
          ⟨some ⟨.d1, .d2, .d1⟩, .load false 1 (.t ⟨.d1, .d2, .d0⟩), none⟩,
          ⟨some ⟨.d1, .d2, .d2⟩, .call 52 [(.t ⟨.d1, .d1, .d7⟩), (.t ⟨.d1, .d2, .d1⟩)], none⟩,
          ⟨some ⟨.d1, .d1, .d4⟩, .move (.t ⟨.d1, .d2, .d2⟩), none⟩,
          ⟨some ⟨.d1, .d2, .d3⟩, .extract 0 (.t ⟨.d1, .d1, .d4⟩), none⟩,
          ⟨some ⟨.d1, .d2, .d4⟩, .extract 1 (.t ⟨.d1, .d1, .d4⟩), none⟩,
          ⟨some ⟨.d0, .d1, .d1⟩, .alloc 3 [.int .i64 0, .int .u64 0], none⟩,
          ⟨none, .store 2 (.t ⟨.d0, .d1, .d1⟩) (.t ⟨.d1, .d2, .d3⟩), none⟩,
          ⟨some ⟨.d0, .d1, .d2⟩, .move (.t ⟨.d1, .d2, .d4⟩), none⟩])
        (.seq (.seq (.region [⟨some ⟨.d1, .d2, .d5⟩, .move (.t ⟨.d0, .d1, .d2⟩), none⟩,
          ⟨some ⟨.d1, .d2, .d6⟩, .bin .neq (.t ⟨.d1, .d2, .d5⟩) (.c (.int .i64 0)), none⟩])
        (.cond (.t ⟨.d1, .d2, .d6⟩)
          (.seq (.region [⟨some ⟨.d0, .d0, .d2⟩, .move (.c (.int .i64 4)), none⟩])
          (.ret))
          (.skip)))
        (.regionD [0, 0, 0, 4, 3, 19, 63] [⟨some ⟨.d1, .d2, .d7⟩, .move (.t ⟨.d0, .d1, .d0⟩), none⟩,
          ⟨some ⟨.d1, .d3, .d0⟩, .load true 2 (.t ⟨.d0, .d1, .d1⟩), none⟩,
          ⟨some ⟨.d1, .d3, .d1⟩, .fieldAddr 4 (.t ⟨.d0, .d0, .d7⟩), none⟩,
          ⟨some ⟨.d1, .d3, .d2⟩, .load false 1 (.t ⟨.d1, .d3, .d1⟩), none⟩,
          ⟨some ⟨.d1, .d3, .d3⟩, .nilCheck (.t ⟨.d1, .d2, .d7⟩), none⟩,
          ⟨none, .store 2 (.t ⟨.d1, .d3, .d3⟩) (.t ⟨.d1, .d3, .d0⟩), none⟩,
          ⟨some ⟨.d0, .d0, .d5⟩, .move (.t ⟨.d1, .d3, .d2⟩), none⟩])))))))
      (.region [⟨some ⟨.d1, .d3, .d4⟩, .bin .add (.t ⟨.d0, .d4, .d1⟩) (.c (.int .i64 1)), none⟩,
        ⟨some ⟨.d0, .d4, .d1⟩, .move (.t ⟨.d1, .d3, .d4⟩), none⟩])))))))
  (.seq (.seq (.region [⟨some ⟨.d1, .d3, .d5⟩, .fieldAddr 1 (.t ⟨.d0, .d0, .d4⟩), none⟩,
    ⟨some ⟨.d1, .d3, .d6⟩, .fieldAddr 1 (.t ⟨.d1, .d3, .d5⟩), none⟩,
    ⟨some ⟨.d1, .d3, .d7⟩, .load false 1 (.t ⟨.d1, .d3, .d6⟩), none⟩,
    ⟨some ⟨.d1, .d4, .d0⟩, .bin .neq (.t ⟨.d1, .d3, .d7⟩) (.c (.int .u64 0)), none⟩,
    ⟨some ⟨.d1, .d4, .d1⟩, .move (.t ⟨.d1, .d4, .d0⟩), none⟩,
    ⟨some ⟨.d1, .d4, .d2⟩, .fieldAddr 3 (.t ⟨.d0, .d0, .d4⟩), some (⟨.d1, .d4, .d1⟩, false)⟩,
    ⟨some ⟨.d1, .d4, .d3⟩, .fieldAddr 1 (.t ⟨.d1, .d4, .d2⟩), some (⟨.d1, .d4, .d1⟩, false)⟩,
    ⟨some ⟨.d1, .d4, .d4⟩, .load false 1 (.t ⟨.d1, .d4, .d3⟩), some (⟨.d1, .d4, .d1⟩, false)⟩,
    ⟨some ⟨.d1, .d4, .d5⟩, .bin .neq (.t ⟨.d1, .d4, .d4⟩) (.c (.int .u64 0)), some (⟨.d1, .d4, .d1⟩, false)⟩,
    ⟨some ⟨.d1, .d4, .d6⟩, .pick (.t ⟨.d1, .d4, .d1⟩) (.c (.bool true)) (.t ⟨.d1, .d4, .d5⟩), none⟩])
  (.cond (.t ⟨.d1, .d4, .d6⟩)
    (.seq (.region [⟨some ⟨.d0, .d0, .d2⟩, .move (.c (.int .i64 4)), none⟩])
    (.ret))
    (.skip)))
  (.seq (.region [⟨some ⟨.d0, .d0, .d2⟩, .move (.c (.int .i64 0)), none⟩])
  (.ret))))))))
def r_nat_Check : List XR := [.tmp ⟨.d0, .d0, .d2⟩]
theorem ok_nat_Check : okC Try.prog Try.f23.ntmps (bodyOf Try.f23) x_nat_Check = true := by kernel_rfl
theorem okr_nat_Check : okRs Try.prog Try.f23.results.toList r_nat_Check = true := by kernel_rfl

/-- custref.NatRight -/
def x_custref_NatRight : XC :=
  .seq (.region [⟨some ⟨.d0, .d0, .d1⟩, .box 0 6 (.t ⟨.d0, .d0, .d0⟩), none⟩,
    ⟨some ⟨.d0, .d0, .d2⟩, .move (.c (.int .i64 0)), none⟩])
  (.seq (.seq (.region [⟨some ⟨.d0, .d1, .d6⟩, .fieldAddr 0 (.t ⟨.d0, .d0, .d1⟩), none⟩,
    ⟨some ⟨.d0, .d1, .d7⟩, .load false 1 (.t ⟨.d0, .d1, .d6⟩), none⟩,
    ⟨some ⟨.d0, .d2, .d0⟩, .call 25 [(.t ⟨.d0, .d1, .d7⟩), (.c (.int .i64 1)), (.c (.int .i64 1000000))], none⟩,
    ⟨some ⟨.d0, .d2, .d1⟩, .un .not (.t ⟨.d0, .d2, .d0⟩), none⟩,
    ⟨some ⟨.d0, .d2, .d2⟩, .move (.t ⟨.d0, .d2, .d1⟩), none⟩,
    ⟨some ⟨.d0, .d2, .d3⟩, .fieldAddr 1 (.t ⟨.d0, .d0, .d1⟩), some (⟨.d0, .d2, .d2⟩, false)⟩,
    ⟨some ⟨.d0, .d2, .d4⟩, .load true 2 (.t ⟨.d0, .d2, .d3⟩), some (⟨.d0, .d2, .d2⟩, false)⟩,
    ⟨some ⟨.d0, .d2, .d5⟩, .call 53 [(.t ⟨.d0, .d2, .d4⟩)], some (⟨.d0, .d2, .d2⟩, false)⟩,
    ⟨some ⟨.d0, .d2, .d6⟩, .bin .neq (.t ⟨.d0, .d2, .d5⟩) (.c (.int .i64 0)), some (⟨.d0, .d2, .d2⟩, false)⟩,
    ⟨some ⟨.d0, .d2, .d7⟩, .pick (.t ⟨.d0, .d2, .d2⟩) (.c (.bool true)) (.t ⟨.d0, .d2, .d6⟩), none⟩,
    ⟨some ⟨.d0, .d3, .d0⟩, .move (.t ⟨.d0, .d2, .d7⟩), none⟩,
    ⟨some ⟨.d0, .d3, .d1⟩, .fieldAddr 3 (.t ⟨.d0, .d0, .d1⟩), some (⟨.d0, .d3, .d0⟩, false)⟩,
    ⟨some ⟨.d0, .d3, .d2⟩, .load true 2 (.t ⟨.d0, .d3, .d1⟩), some (⟨.d0, .d3, .d0⟩, false)⟩,
    ⟨some ⟨.d0, .d3, .d3⟩, .call 53 [(.t ⟨.d0, .d3, .d2⟩)], some (⟨.d0, .d3, .d0⟩, false)⟩,
    ⟨some ⟨.d0, .d3, .d4⟩, .bin .neq (.t ⟨.d0, .d3, .d3⟩) (.c (.int .i64 0)), some (⟨.d0, .d3, .d0⟩, false)⟩,
    ⟨some ⟨.d0, .d3, .d5⟩, .pick (.t ⟨.d0, .d3, .d0⟩) (.c (.bool true)) (.t ⟨.d0, .d3, .d4⟩), none⟩])
  (.cond (.t ⟨.d0, .d3, .d5⟩)
    (.seq (.region [⟨some ⟨.d0, .d0, .d2⟩, .move (.c (.int .i64 1)), none⟩])
    (.ret))
    (.skip)))
  (.seq (.region [⟨some ⟨.d0, .d3, .d6⟩, .makeMap 1, none⟩,
    ⟨some ⟨.d0, .d0, .d3⟩, .move (.t ⟨.d0, .d3, .d6⟩), none⟩])
  (.seq (.seq (.region [⟨some ⟨.d0, .d3, .d7⟩, .fieldAddr 5 (.t ⟨.d0, .d0, .d1⟩), none⟩,
    ⟨some ⟨.d0, .d4, .d0⟩, .load false 1 (.t ⟨.d0, .d3, .d7⟩), none⟩,
    ⟨some ⟨.d0, .d4, .d1⟩, .len (.t ⟨.d0, .d4, .d0⟩), none⟩,
    ⟨some ⟨.d0, .d4, .d2⟩, .move (.c (.int .i64 0)), none⟩])
  (.block 0
    (.loop
      (.seq (.region [⟨some ⟨.d0, .d4, .d3⟩, .bin .lss (.t ⟨.d0, .d4, .d2⟩) (.t ⟨.d0, .d4, .d1⟩), none⟩])
      (.seq (.cond (.t ⟨.d0, .d4, .d3⟩)
        (.skip)
        (.exit 0))
      (.seq (.block 1
        (.seq (.region [⟨some ⟨.d0, .d4, .d4⟩, .move (.t ⟨.d0, .d4, .d2⟩), none⟩,
          ⟨some ⟨.d0, .d4, .d5⟩, .indexSl 5 (.t ⟨.d0, .d4, .d0⟩) (.t ⟨.d0, .d4, .d2⟩), none⟩,
          ⟨some ⟨.d0, .d4, .d6⟩, .load true 5 (.t ⟨.d0, .d4, .d5⟩), none⟩,
          ⟨some ⟨.d0, .d0, .d5⟩, .alloc 2 [.int .i64 0, .int .u32 0, .int .i64 0, .int .i64 0, .int .i64 0], none⟩,
          ⟨some ⟨.d0, .d0, .d4⟩, .move (.t ⟨.d0, .d4, .d4⟩), none⟩,
          ⟨none, .store 5 (.t ⟨.d0, .d0, .d5⟩) (.t ⟨.d0, .d4, .d6⟩), none⟩])
        (.seq (.seq (.region [⟨some ⟨.d0, .d4, .d7⟩, .fieldAddr 0 (.t ⟨.d0, .d0, .d5⟩), none⟩,
          ⟨some ⟨.d0, .d5, .d0⟩, .load false 1 (.t ⟨.d0, .d4, .d7⟩), none⟩,
          ⟨some ⟨.d0, .d5, .d1⟩, .bin .neq (.t ⟨.d0, .d5, .d0⟩) (.c (.int .i64 17)), none⟩,
          ⟨some ⟨.d0, .d5, .d2⟩, .move (.t ⟨.d0, .d5, .d1⟩), none⟩,
          ⟨some ⟨.d0, .d5, .d3⟩, .fieldAddr 0 (.t ⟨.d0, .d0, .d5⟩), some (⟨.d0, .d5, .d2⟩, true)⟩,
          ⟨some ⟨.d0, .d5, .d4⟩, .load false 1 (.t ⟨.d0, .d5, .d3⟩), some (⟨.d0, .d5, .d2⟩, true)⟩,
          ⟨some ⟨.d0, .d5, .d5⟩, .bin .neq (.t ⟨.d0, .d5, .d4⟩) (.c (.int .i64 6)), some (⟨.d0, .d5, .d2⟩, true)⟩,
          ⟨some ⟨.d0, .d5, .d6⟩, .pick (.t ⟨.d0, .d5, .d2⟩) (.t ⟨.d0, .d5, .d5⟩) (.c (.bool false)), none⟩,
          ⟨some ⟨.d0, .d5, .d7⟩, .move (.t ⟨.d0, .d5, .d6⟩), none⟩,
          ⟨some ⟨.d0, .d6, .d0⟩, .fieldAddr 2 (.t ⟨.d0, .d0, .d5⟩), some (⟨.d0, .d5, .d7⟩, false)⟩,
          ⟨some ⟨.d0, .d6, .d1⟩, .load false 1 (.t ⟨.d0, .d6, .d0⟩), some (⟨.d0, .d5, .d7⟩, false)⟩,
          ⟨some ⟨.d0, .d6, .d2⟩, .call 25 [(.t ⟨.d0, .d6, .d1⟩), (.c (.int .i64 0)), (.c (.int .i64 65535))], some (⟨.d0, .d5, .d7⟩, false)⟩,
          ⟨some ⟨.d0, .d6, .d3⟩, .un .not (.t ⟨.d0, .d6, .d2⟩), some (⟨.d0, .d5, .d7⟩, false)⟩,
          ⟨some ⟨.d0, .d6, .d4⟩, .pick (.t ⟨.d0, .d5, .d7⟩) (.c (.bool true)) (.t ⟨.d0, .d6, .d3⟩), none⟩,
          ⟨some ⟨.d0, .d6, .d5⟩, .move (.t ⟨.d0, .d6, .d4⟩), none⟩,
          ⟨some ⟨.d0, .d6, .d6⟩, .fieldAddr 4 (.t ⟨.d0, .d0, .d5⟩), some (⟨.d0, .d6, .d5⟩, false)⟩,
          ⟨some ⟨.d0, .d6, .d7⟩, .load false 1 (.t ⟨.d0, .d6, .d6⟩), some (⟨.d0, .d6, .d5⟩, false)⟩,
          ⟨some ⟨.d0, .d7, .d0⟩, .call 25 [(.t ⟨.d0, .d6, .d7⟩), (.c (.int .i64 0)), (.c (.int .i64 1099511627776))], some (⟨.d0, .d6, .d5⟩, false)⟩,
          ⟨some ⟨.d0, .d7, .d1⟩, .un .not (.t ⟨.d0, .d7, .d0⟩), some (⟨.d0, .d6, .d5⟩, false)⟩,
          ⟨some ⟨.d0, .d7, .d2⟩, .pick (.t ⟨.d0, .d6, .d5⟩) (.c (.bool true)) (.t ⟨.d0, .d7, .d1⟩), none⟩])
        (.cond (.t ⟨.d0, .d7, .d2⟩)
          (.seq (.region [⟨some ⟨.d0, .d0, .d2⟩, .move (.c (.int .i64 4)), none⟩])
          (.ret))
          (.skip)))
        (.seq (.seq (.region [⟨some ⟨.d0, .d7, .d3⟩, .fieldAddr 5 (.t ⟨.d0, .d0, .d1⟩), none⟩,
          ⟨some ⟨.d0, .d7, .d4⟩, .load false 1 (.t ⟨.d0, .d7, .d3⟩), none⟩,
          ⟨some ⟨.d0, .d7, .d5⟩, .move (.t ⟨.d0, .d0, .d4⟩), none⟩,
          ⟨some ⟨.d0, .d7, .d6⟩, .slice 5 (.t ⟨.d0, .d7, .d4⟩) none (some (.t ⟨.d0, .d7, .d5⟩)) none, none⟩,
          ⟨some ⟨.d0, .d7, .d7⟩, .len (.t ⟨.d0, .d7, .d6⟩), none⟩,
          ⟨some ⟨.d1, .d0, .d0⟩, .move (.c (.int .i64 0)), none⟩])
        (.block 2
          (.loop
            (.seq (.region [⟨some ⟨.d1, .d0, .d1⟩, .bin .lss (.t ⟨.d1, .d0, .d0⟩) (.t ⟨.d0, .d7, .d7⟩), none⟩])
            (.seq (.cond (.t ⟨.d1, .d0, .d1⟩)
              (.skip)
              (.exit 2))
            (.seq (.block 3
              (.seq (.region [⟨some ⟨.d1, .d0, .d2⟩, .indexSl 5 (.t ⟨.d0, .d7, .d6⟩) (.t ⟨.d1, .d0, .d0⟩), none⟩,
                ⟨some ⟨.d1, .d0, .d3⟩, .load true 5 (.t ⟨.d1, .d0, .d2⟩), none⟩,
                ⟨some ⟨.d0, .d0, .d7⟩, .alloc 3 [.int .i64 0, .int .u32 0, .int .i64 0, .int .i64 0, .int .i64 0], none⟩,
                ⟨none, .store 5 (.t ⟨.d0, .d0, .d7⟩) (.t ⟨.d1, .d0, .d3⟩), none⟩])
              (.seq (.region [⟨some ⟨.d1, .d0, .d4⟩, .fieldAddr 4 (.t ⟨.d0, .d0, .d7⟩), none⟩,
                ⟨some ⟨.d1, .d0, .d5⟩, .load false 1 (.t ⟨.d1, .d0, .d4⟩), none⟩,
                ⟨some ⟨.d1, .d0, .d6⟩, .fieldAddr 4 (.t ⟨.d0, .d0, .d5⟩), none⟩,
                ⟨some ⟨.d1, .d0, .d7⟩, .load false 1 (.t ⟨.d1, .d0, .d6⟩), none⟩,
                ⟨some ⟨.d1, .d1, .d0⟩, .bin .gtr (.t ⟨.d1, .d0, .d5⟩) (.t ⟨.d1, .d0, .d7⟩), none⟩,
                ⟨some ⟨.d1, .d1, .d1⟩, .move (.t ⟨.d1, .d1, .d0⟩), none⟩,
                ⟨some ⟨.d1, .d1, .d2⟩, .fieldAddr 0 (.t ⟨.d0, .d0, .d7⟩), some (⟨.d1, .d1, .d1⟩, false)⟩,
                ⟨some ⟨.d1, .d1, .d3⟩, .load false 1 (.t ⟨.d1, .d1, .d2⟩), some (⟨.d1, .d1, .d1⟩, false)⟩,
                ⟨some ⟨.d1, .d1, .d4⟩, .fieldAddr 0 (.t ⟨.d0, .d0, .d5⟩), some (⟨.d1, .d1, .d1⟩, false)⟩,
                ⟨some ⟨.d1, .d1, .d5⟩, .load false 1 (.t ⟨.d1, .d1, .d4⟩), some (⟨.d1, .d1, .d1⟩, false)⟩,
                ⟨some ⟨.d1, .d1, .d6⟩, .bin .eql (.t ⟨.d1, .d1, .d3⟩) (.t ⟨.d1, .d1, .d5⟩), some (⟨.d1, .d1, .d1⟩, false)⟩,
                ⟨some ⟨.d1, .d1, .d7⟩, .move (.t ⟨.d1, .d1, .d6⟩), some (⟨.d1, .d1, .d1⟩, false)⟩,
                ⟨some ⟨.d1, .d2, .d0⟩, .fieldAddr 3 (.t ⟨.d0, .d0, .d7⟩), some (⟨.d1, .d1, .d7⟩, true)⟩,
                ⟨some ⟨.d1, .d2, .d1⟩, .load false 1 (.t ⟨.d1, .d2, .d0⟩), some (⟨.d1, .d1, .d7⟩, true)⟩,
                ⟨some ⟨.d1, .d2, .d2⟩, .fieldAddr 3 (.t ⟨.d0, .d0, .d5⟩), some (⟨.d1, .d1, .d7⟩, true)⟩,
                ⟨some ⟨.d1, .d2, .d3⟩, .load false 1 (.t ⟨.d1, .d2, .d2⟩), some (⟨.d1, .d1, .d7⟩, true)⟩,
                ⟨some ⟨.d1, .d2, .d4⟩, .bin .eql (.t ⟨.d1, .d2, .d1⟩) (.t ⟨.d1, .d2, .d3⟩), some (⟨.d1, .d1, .d7⟩, true)⟩,
                ⟨some ⟨.d1, .d2, .d5⟩, .move (.t ⟨.d1, .d2, .d4⟩), some (⟨.d1, .d1, .d7⟩, true)⟩,
                ⟨some ⟨.d1, .d2, .d6⟩, .fieldAddr 1 (.t ⟨.d0, .d0, .d7⟩), some (⟨.d1, .d2, .d5⟩, false)⟩,
                ⟨some ⟨.d1, .d2, .d7⟩, .load false 1 (.t ⟨.d1, .d2, .d6⟩), some (⟨.d1, .d2, .d5⟩, false)⟩,
                ⟨some ⟨.d1, .d3, .d0⟩, .fieldAddr 1 (.t ⟨.d0, .d0, .d5⟩), some (⟨.d1, .d2, .d5⟩, false)⟩,
                ⟨some ⟨.d1, .d3, .d1⟩, .load false 1 (.t ⟨.d1, .d3, .d0⟩), some (⟨.d1, .d2, .d5⟩, false)⟩,
                ⟨some ⟨.d1, .d3, .d2⟩, .bin .eql (.t ⟨.d1, .d2, .d7⟩) (.t ⟨.d1, .d3, .d1⟩), some (⟨.d1, .d2, .d5⟩, false)⟩,
                ⟨some ⟨.d1, .d3, .d3⟩, .move (.t ⟨.d1, .d3, .d2⟩), some (⟨.d1, .d2, .d5⟩, false)⟩,
                ⟨some ⟨.d1, .d3, .d4⟩, .fieldAddr 2 (.t ⟨.d0, .d0, .d7⟩), some (⟨.d1, .d3, .d3⟩, true)⟩,
                ⟨some ⟨.d1, .d3, .d5⟩, .load false 1 (.t ⟨.d1, .d3, .d4⟩), some (⟨.d1, .d3, .d3⟩, true)⟩,
                ⟨some ⟨.d1, .d3, .d6⟩, .fieldAddr 2 (.t ⟨.d0, .d0, .d5⟩), some (⟨.d1, .d3, .d3⟩, true)⟩,
                ⟨some ⟨.d1, .d3, .d7⟩, .load false 1 (.t ⟨.d1, .d3, .d6⟩), some (⟨.d1, .d3, .d3⟩, true)⟩,
                ⟨some ⟨.d1, .d4, .d0⟩, .bin .eql (.t ⟨.d1, .d3, .d5⟩) (.t ⟨.d1, .d3, .d7⟩), some (⟨.d1, .d3, .d3⟩, true)⟩,
                ⟨some ⟨.d1, .d4, .d1⟩, .pick (.t ⟨.d1, .d3, .d3⟩) (.t ⟨.d1, .d4, .d0⟩) (.c (.bool false)), some (⟨.d1, .d2, .d5⟩, false)⟩,
                ⟨some ⟨.d1, .d4, .d2⟩, .pick (.t ⟨.d1, .d2, .d5⟩) (.c (.bool true)) (.t ⟨.d1, .d4, .d1⟩), some (⟨.d1, .d1, .d7⟩, true)⟩,
                ⟨some ⟨.d1, .d4, .d3⟩, .pick (.t ⟨.d1, .d1, .d7⟩) (.t ⟨.d1, .d4, .d2⟩) (.c (.bool false)), some (⟨.d1, .d1, .d1⟩, false)⟩,
                ⟨some ⟨.d1, .d4, .d4⟩, .pick (.t ⟨.d1, .d1, .d1⟩) (.c (.bool true)) (.t ⟨.d1, .d4, .d3⟩), none⟩])
              (.cond (.t ⟨.d1, .d4, .d4⟩)
                (.seq (.region [⟨some ⟨.d0, .d0, .d2⟩, .move (.c (.int .i64 4)), none⟩])
                (.ret))
                (.skip)))))
            (.region [⟨some ⟨.d1, .d4, .d5⟩, .bin .add (.t ⟨.d1, .d0, .d0⟩) (.c (.int .i64 1)), none⟩,
              ⟨some ⟨.d1, .d0, .d0⟩, .move (.t ⟨.d1, .d4, .d5⟩), none⟩])))))))
        (.region [⟨some ⟨.d1, .d4, .d6⟩, .move (.t ⟨.d0, .d0, .d3⟩), none⟩,
          ⟨some ⟨.d1, .d4, .d7⟩, .fieldAddr 0 (.t ⟨.d0, .d0, .d5⟩), none⟩,
          ⟨some ⟨.d1, .d5, .d0⟩, .load false 1 (.t ⟨.d1, .d4, .d7⟩), none⟩,
          ⟨some ⟨.d1, .d5, .d1⟩, .fieldAddr 3 (.t ⟨.d0, .d0, .d5⟩), none⟩,
          ⟨some ⟨.d1, .d5, .d2⟩, .load false 1 (.t ⟨.d1, .d5, .d1⟩), none⟩,
          ⟨some ⟨.d1, .d5, .d3⟩, .build [.int .i64 0, .int .u32 0, .int .i64 0, .int .i64 0, .int .i64 0] [(0, 1, (.t ⟨.d1, .d5, .d0⟩)), (3, 1, (.t ⟨.d1, .d5, .d2⟩))], none⟩,
          ⟨none, .mput (.cells [.i64, .u32, .i64, .i64, .i64]) (.t ⟨.d1, .d4, .d6⟩) (.t ⟨.d1, .d5, .d3⟩) (.c (.int .i64 1)), none⟩])))))
      (.region [⟨some ⟨.d1, .d5, .d4⟩, .bin .add (.t ⟨.d0, .d4, .d2⟩) (.c (.int .i64 1)), none⟩,
        ⟨some ⟨.d0, .d4, .d2⟩, .move (.t ⟨.d1, .d5, .d4⟩), none⟩])))))))
  (.seq (.regionD [0, 1, 3, 0, 8, 31, 63, 127] [⟨some ⟨.d1, .d5, .d5⟩, .fieldAddr 1 (.t ⟨.d0, .d0, .d1⟩), none⟩,
    ⟨some ⟨.d1, .d5, .d6⟩, .load true 2 (.t ⟨.d1, .d5, .d5⟩), none⟩,
    ⟨some ⟨.d1, .d5, .d7⟩, .call 54 [(.t ⟨.d1, .d5, .d6⟩)], none⟩,
    ⟨some ⟨.d1, .d6, .d0⟩, .fieldAddr 3 (.t ⟨.d0, .d0, .d1⟩), none⟩,
    ⟨some ⟨.d1, .d6, .d1⟩, .load true 2 (.t ⟨.d1, .d6, .d0⟩), none⟩,
    ⟨some ⟨.d1, .d6, .d2⟩, .call 54 [(.t ⟨.d1, .d6, .d1⟩)], none⟩,
    ⟨some ⟨.d0, .d1, .d0⟩, .move (.t ⟨.d1, .d5, .d7⟩), none⟩,
    ⟨some ⟨.d0, .d1, .d1⟩, .move (.t ⟨.d1, .d6, .d2⟩), none⟩])
  (.seq (.seq (.region [⟨some ⟨.d1, .d6, .d3⟩, .move (.t ⟨.d0, .d0, .d3⟩), none⟩,
    ⟨some ⟨.d1, .d6, .d4⟩, .mlen (.cells [.i64, .u32, .i64, .i64, .i64]) (.t ⟨.d1, .d6, .d3⟩), none⟩,
    ⟨some ⟨.d1, .d6, .d5⟩, .move (.t ⟨.d0, .d1, .d0⟩), none⟩,
    ⟨some ⟨.d1, .d6, .d6⟩, .len (.t ⟨.d1, .d6, .d5⟩), none⟩,
    ⟨some ⟨.d1, .d6, .d7⟩, .move (.t ⟨.d0, .d1, .d1⟩), none⟩,
    ⟨some ⟨.d1, .d7, .d0⟩, .len (.t ⟨.d1, .d6, .d7⟩), none⟩,
    ⟨some ⟨.d1, .d7, .d1⟩, .bin .add (.t ⟨.d1, .d6, .d6⟩) (.t ⟨.d1, .d7, .d0⟩), none⟩,
    ⟨some ⟨.d1, .d7, .d2⟩, .bin .neq (.t ⟨.d1, .d6, .d4⟩) (.t ⟨.d1, .d7, .d1⟩), none⟩,
    ⟨some ⟨.d1, .d7, .d3⟩, .move (.t ⟨.d1, .d7, .d2⟩), none⟩,
    ⟨some ⟨.d1, .d7, .d4⟩, .fieldAddr 5 (.t ⟨.d0, .d0, .d1⟩), some (⟨.d1, .d7, .d3⟩, false)⟩,
    ⟨some ⟨.d1, .d7, .d5⟩, .load false 1 (.t ⟨.d1, .d7, .d4⟩), some (⟨.d1, .d7, .d3⟩, false)⟩,
    ⟨some ⟨.d1, .d7, .d6⟩, .len (.t ⟨.d1, .d7, .d5⟩), some (⟨.d1, .d7, .d3⟩, false)⟩,
    ⟨some ⟨.d1, .d7, .d7⟩, .move (.t ⟨.d0, .d0, .d3⟩), some (⟨.d1, .d7, .d3⟩, false)⟩,
    ⟨some ⟨.d2, .d0, .d0⟩, .mlen (.cells [.i64, .u32, .i64, .i64, .i64]) (.t ⟨.d1, .d7, .d7⟩), some (⟨.d1, .d7, .d3⟩, false)⟩,
    ⟨some ⟨.d2, .d0, .d1⟩, .bin .neq (.t ⟨.d1, .d7, .d6⟩) (.t ⟨.d2, .d0, .d0⟩), some (⟨.d1, .d7, .d3⟩, false)⟩,
    ⟨some ⟨.d2, .d0, .d2⟩, .pick (.t ⟨.d1, .d7, .d3⟩) (.c (.bool true)) (.t ⟨.d2, .d0, .d1⟩), none⟩])
  (.cond (.t ⟨.d2, .d0, .d2⟩)
    (.seq (.region [⟨some ⟨.d0, .d0, .d2⟩, .move (.c (.int .i64 4)), none⟩])
    (.ret))
    (.skip)))
  (.seq (.seq (.region [⟨some ⟨.d2, .d0, .d3⟩, .move (.t ⟨.d0, .d1, .d0⟩), none⟩,
    ⟨some ⟨.d2, .d0, .d4⟩, .len (.t ⟨.d2, .d0, .d3⟩), none⟩,
    ⟨some ⟨.d2, .d0, .d5⟩, .move (.c (.int .i64 0)), none⟩])
  (.block 4
    (.loop
      (.seq (.region [⟨some ⟨.d2, .d0, .d6⟩, .bin .lss (.t ⟨.d2, .d0, .d5⟩) (.t ⟨.d2, .d0, .d4⟩), none⟩])
      (.seq (.cond (.t ⟨.d2, .d0, .d6⟩)
        (.skip)
        (.exit 4))
      (.seq (.block 5
        (.seq (.region [⟨some ⟨.d2, .d0, .d7⟩, .indexSl 1 (.t ⟨.d2, .d0, .d3⟩) (.t ⟨.d2, .d0, .d5⟩), none⟩,
          ⟨some ⟨.d2, .d1, .d0⟩, .load false 1 (.t ⟨.d2, .d0, .d7⟩), none⟩,
          ⟨some ⟨.d0, .d1, .d3⟩, .move (.t ⟨.d2, .d1, .d0⟩), none⟩])
        (.seq (.region [⟨some ⟨.d2, .d1, .d1⟩, .move (.t ⟨.d0, .d0, .d3⟩), none⟩,
          ⟨some ⟨.d2, .d1, .d2⟩, .move (.t ⟨.d0, .d1, .d3⟩), none⟩,
          ⟨some ⟨.d2, .d1, .d3⟩, .build [.int .i64 0, .int .u32 0, .int .i64 0, .int .i64 0, .int .i64 0] [(0, 1, (.c (.int .i64 17))), (3, 1, (.t ⟨.d2, .d1, .d2⟩))], none⟩,
          ⟨some ⟨.d2, .d1, .d4⟩, .mget (.cells [.i64, .u32, .i64, .i64, .i64]) (.int .i64 0) (.t ⟨.d2, .d1, .d1⟩) (.t ⟨.d2, .d1, .d3⟩), none⟩,
          ⟨some ⟨.d2, .d1, .d5⟩, .bin .neq (.t ⟨.d2, .d1, .d4⟩) (.c (.int .i64 1)), none⟩])
        (.cond (.t ⟨.d2, .d1, .d5⟩)
          (.seq (.region [⟨some ⟨.d0, .d0, .d2⟩, .move (.c (.int .i64 4)), none⟩])
          (.ret))
          (.skip)))))
      (.region [⟨some ⟨.d2, .d1, .d6⟩, .bin .add (.t ⟨.d2, .d0, .d5⟩) (.c (.int .i64 1)), none⟩,
        ⟨some ⟨.d2, .d0, .d5⟩, .move (.t ⟨.d2, .d1, .d6⟩), none⟩])))))))
  (.seq (.seq (.region [⟨some ⟨.d2, .d1, .d7⟩, .move (.t ⟨.d0, .d1, .d1⟩), none⟩,
    ⟨some ⟨.d2, .d2, .d0⟩, .len (.t ⟨.d2, .d1, .d7⟩), none⟩,
    ⟨some ⟨.d2, .d2, .d1⟩, .move (.c (.int .i64 0)), none⟩])
  (.block 6
    (.loop
      (.seq (.region [⟨some ⟨.d2, .d2, .d2⟩, .bin .lss (.t ⟨.d2, .d2, .d1⟩) (.t ⟨.d2, .d2, .d0⟩), none⟩])
      (.seq (.cond (.t ⟨.d2, .d2, .d2⟩)
        (.skip)
        (.exit 6))
      (.seq (.block 7
        (.seq (.region [⟨some ⟨.d2, .d2, .d3⟩, .indexSl 1 (.t ⟨.d2, .d1, .d7⟩) (.t ⟨.d2, .d2, .d1⟩), none⟩,
          ⟨some ⟨.d2, .d2, .d4⟩, .load false 1 (.t ⟨.d2, .d2, .d3⟩), none⟩,
          ⟨some ⟨.d0, .d1, .d5⟩, .move (.t ⟨.d2, .d2, .d4⟩), none⟩])
        (.seq (.region [⟨some ⟨.d2, .d2, .d5⟩, .move (.t ⟨.d0, .d0, .d3⟩), none⟩,
          ⟨some ⟨.d2, .d2, .d6⟩, .move (.t ⟨.d0, .d1, .d5⟩), none⟩,
          ⟨some ⟨.d2, .d2, .d7⟩, .build [.int .i64 0, .int .u32 0, .int .i64 0, .int .i64 0, .int .i64 0] [(0, 1, (.c (.int .i64 6))), (3, 1, (.t ⟨.d2, .d2, .d6⟩))], none⟩,
          ⟨some ⟨.d2, .d3, .d0⟩, .mget (.cells [.i64, .u32, .i64, .i64, .i64]) (.int .i64 0) (.t ⟨.d2, .d2, .d5⟩) (.t ⟨.d2, .d2, .d7⟩), none⟩,
          ⟨some ⟨.d2, .d3, .d1⟩, .bin .neq (.t ⟨.d2, .d3, .d0⟩) (.c (.int .i64 1)), none⟩])
        (.cond (.t ⟨.d2, .d3, .d1⟩)
          (.seq (.region [⟨some ⟨.d0, .d0, .d2⟩, .move (.c (.int .i64 4)), none⟩])
          (.ret))
          (.skip)))))
      (.region [⟨some ⟨.d2, .d3, .d2⟩, .bin .add (.t ⟨.d2, .d2, .d1⟩) (.c (.int .i64 1)), none⟩,
        ⟨some ⟨.d2, .d2, .d1⟩, .move (.t ⟨.d2, .d3, .d2⟩), none⟩])))))))
  (.seq (.region [⟨some ⟨.d0, .d0, .d2⟩, .move (.c (.int .i64 0)), none⟩])
  (.ret)))))))))
def r_custref_NatRight : List XR := [.tmp ⟨.d0, .d0, .d2⟩]
theorem ok_custref_NatRight : okC Try.prog Try.f24.ntmps (bodyOf Try.f24) x_custref_NatRight = true := by kernel_rfl
theorem okr_custref_NatRight : okRs Try.prog Try.f24.results.toList r_custref_NatRight = true := by kernel_rfl

/-- custref.Between -/
def x_custref_Between : XC :=
  .seq (.region [⟨some ⟨.d0, .d0, .d6⟩, .move (.c (.bool false)), none⟩])
  (.seq (.region [⟨some ⟨.d0, .d0, .d7⟩, .move (.t ⟨.d0, .d0, .d1⟩), none⟩,
    ⟨some ⟨.d0, .d1, .d0⟩, .move (.t ⟨.d0, .d0, .d0⟩), none⟩,
    ⟨some ⟨.d0, .d1, .d1⟩, .bin .leq (.t ⟨.d0, .d0, .d7⟩) (.t ⟨.d0, .d1, .d0⟩), none⟩,
    ⟨some ⟨.d0, .d1, .d2⟩, .move (.t ⟨.d0, .d1, .d1⟩), none⟩,
    ⟨some ⟨.d0, .d1, .d3⟩, .move (.t ⟨.d0, .d0, .d0⟩), some (⟨.d0, .d1, .d2⟩, true)⟩,
    ⟨some ⟨.d0, .d1, .d4⟩, .move (.t ⟨.d0, .d0, .d2⟩), some (⟨.d0, .d1, .d2⟩, true)⟩,
    ⟨some ⟨.d0, .d1, .d5⟩, .bin .leq (.t ⟨.d0, .d1, .d3⟩) (.t ⟨.d0, .d1, .d4⟩), some (⟨.d0, .d1, .d2⟩, true)⟩,
    ⟨some ⟨.d0, .d1, .d6⟩, .pick (.t ⟨.d0, .d1, .d2⟩) (.t ⟨.d0, .d1, .d5⟩) (.c (.bool false)), none⟩,
    ⟨some ⟨.d0, .d0, .d6⟩, .move (.t ⟨.d0, .d1, .d6⟩), none⟩])
  (.ret))
def r_custref_Between : List XR := [.tmp ⟨.d0, .d0, .d6⟩]
theorem ok_custref_Between : okC Try.prog Try.f25.ntmps (bodyOf Try.f25) x_custref_Between = true := by kernel_rfl
theorem okr_custref_Between : okRs Try.prog Try.f25.results.toList r_custref_Between = true := by kernel_rfl

/-- slices.IndexFunc -/
def x_slices_IndexFunc_api_Map : XC :=
  .seq (.region [⟨some ⟨.d0, .d0, .d4⟩, .move (.c (.int .i64 0)), none⟩])
  (.seq (.seq (.region [⟨some ⟨.d0, .d0, .d6⟩, .move (.t ⟨.d0, .d0, .d0⟩), none⟩,
    ⟨some ⟨.d0, .d0, .d7⟩, .len (.t ⟨.d0, .d0, .d6⟩), none⟩,
    ⟨some ⟨.d0, .d1, .d0⟩, .move (.c (.int .i64 0)), none⟩])
  (.block 0
    (.loop
      (.seq (.region [⟨some ⟨.d0, .d1, .d1⟩, .bin .lss (.t ⟨.d0, .d1, .d0⟩) (.t ⟨.d0, .d0, .d7⟩), none⟩])
      (.seq (.cond (.t ⟨.d0, .d1, .d1⟩)
        (.skip)
        (.exit 0))
      (.seq (.block 1
        (.seq (.region [⟨some ⟨.d0, .d1, .d2⟩, .move (.t ⟨.d0, .d1, .d0⟩), none⟩,
          ⟨some ⟨.d0, .d0, .d5⟩, .move (.t ⟨.d0, .d1, .d2⟩), none⟩])
        (.seq (.region [⟨some ⟨.d0, .d1, .d3⟩, .move (.t ⟨.d0, .d0, .d1⟩), none⟩,
          ⟨some ⟨.d0, .d1, .d4⟩, .move (.t ⟨.d0, .d0, .d0⟩), none⟩,
          ⟨some ⟨.d0, .d1, .d5⟩, .move (.t ⟨.d0, .d0, .d5⟩), none⟩,
          ⟨some ⟨.d0, .d1, .d6⟩, .indexSl 5 (.t ⟨.d0, .d1, .d4⟩) (.t ⟨.d0, .d1, .d5⟩), none⟩,
          ⟨some ⟨.d0, .d1, .d7⟩, .load true 5 (.t ⟨.d0, .d1, .d6⟩), none⟩,
          ⟨some ⟨.d0, .d2, .d0⟩, .callv (.t ⟨.d0, .d1, .d3⟩) [(.t ⟨.d0, .d1, .d7⟩)], none⟩])
        (.cond (.t ⟨.d0, .d2, .d0⟩)
          (.seq (.region [⟨some ⟨.d0, .d2, .d1⟩, .move (.t ⟨.d0, .d0, .d5⟩), none⟩,
            ⟨some ⟨.d0, .d0, .d4⟩, .move (.t ⟨.d0, .d2, .d1⟩), none⟩])
          (.ret))
          (.skip)))))
      (.region [⟨some ⟨.d0, .d2, .d2⟩, .bin .add (.t ⟨.d0, .d1, .d0⟩) (.c (.int .i64 1)), none⟩,
        ⟨some ⟨.d0, .d1, .d0⟩, .move (.t ⟨.d0, .d2, .d2⟩), none⟩])))))))
  (.seq (.region [⟨some ⟨.d0, .d0, .d4⟩, .move (.c (.int .i64 (-1))), none⟩])
  (.ret)))
def r_slices_IndexFunc_api_Map : List XR := [.tmp ⟨.d0, .d0, .d4⟩]
theorem ok_slices_IndexFunc_api_Map : okC Try.prog Try.f26.ntmps (bodyOf Try.f26) x_slices_IndexFunc_api_Map = true := by kernel_rfl
theorem okr_slices_IndexFunc_api_Map : okRs Try.prog Try.f26.results.toList r_slices_IndexFunc_api_Map = true := by kernel_rfl

/-- custref.NatIn-1 -/
def x_custref_NatIn_1 : XC :=
  .seq (.region [⟨some ⟨.d0, .d0, .d5⟩, .box 0 5 (.t ⟨.d0, .d0, .d0⟩), none⟩,
    ⟨some ⟨.d0, .d0, .d6⟩, .move (.c (.bool false)), none⟩])
  (.seq (.region [⟨some ⟨.d0, .d0, .d7⟩, .fieldAddr 0 (.t ⟨.d0, .d0, .d5⟩), none⟩,
    ⟨some ⟨.d0, .d1, .d0⟩, .load false 1 (.t ⟨.d0, .d0, .d7⟩), none⟩,
    ⟨some ⟨.d0, .d1, .d1⟩, .load false 1 (.t ⟨.d0, .d0, .d1⟩), none⟩,
    ⟨some ⟨.d0, .d1, .d2⟩, .bin .eql (.t ⟨.d0, .d1, .d0⟩) (.t ⟨.d0, .d1, .d1⟩), none⟩,
    ⟨some ⟨.d0, .d1, .d3⟩, .move (.t ⟨.d0, .d1, .d2⟩), none⟩,
    ⟨some ⟨.d0, .d1, .d4⟩, .fieldAddr 3 (.t ⟨.d0, .d0, .d5⟩), some (⟨.d0, .d1, .d3⟩, true)⟩,
    ⟨some ⟨.d0, .d1, .d5⟩, .load false 1 (.t ⟨.d0, .d1, .d4⟩), some (⟨.d0, .d1, .d3⟩, true)⟩,
    ⟨some ⟨.d0, .d1, .d6⟩, .load false 1 (.t ⟨.d0, .d0, .d2⟩), some (⟨.d0, .d1, .d3⟩, true)⟩,
    ⟨some ⟨.d0, .d1, .d7⟩, .bin .eql (.t ⟨.d0, .d1, .d5⟩) (.t ⟨.d0, .d1, .d6⟩), some (⟨.d0, .d1, .d3⟩, true)⟩,
    ⟨some ⟨.d0, .d2, .d0⟩, .pick (.t ⟨.d0, .d1, .d3⟩) (.t ⟨.d0, .d1, .d7⟩) (.c (.bool false)), none⟩,
    ⟨some ⟨.d0, .d2, .d1⟩, .move (.t ⟨.d0, .d2, .d0⟩), none⟩,
    ⟨some ⟨.d0, .d2, .d2⟩, .load false 1 (.t ⟨.d0, .d0, .d3⟩), some (⟨.d0, .d2, .d1⟩, true)⟩,
    ⟨some ⟨.d0, .d2, .d3⟩, .fieldAddr 4 (.t ⟨.d0, .d0, .d5⟩), some (⟨.d0, .d2, .d1⟩, true)⟩,
    ⟨some ⟨.d0, .d2, .d4⟩, .load false 1 (.t ⟨.d0, .d2, .d3⟩), some (⟨.d0, .d2, .d1⟩, true)⟩,
    ⟨some ⟨.d0, .d2, .d5⟩, .fieldAddr 0 (.t ⟨.d0, .d0, .d4⟩), some (⟨.d0, .d2, .d1⟩, true)⟩,
    ⟨some ⟨.d0, .d2, .d6⟩, .load false 1 (.t ⟨.d0, .d2, .d5⟩), some (⟨.d0, .d2, .d1⟩, true)⟩,
    ⟨some ⟨.d0, .d2, .d7⟩, .bin .add (.t ⟨.d0, .d2, .d4⟩) (.t ⟨.d0, .d2, .d6⟩), some (⟨.d0, .d2, .d1⟩, true)⟩,
    ⟨some ⟨.d0, .d3, .d0⟩, .bin .leq (.t ⟨.d0, .d2, .d2⟩) (.t ⟨.d0, .d2, .d7⟩), some (⟨.d0, .d2, .d1⟩, true)⟩,
    ⟨some ⟨.d0, .d3, .d1⟩, .pick (.t ⟨.d0, .d2, .d1⟩) (.t ⟨.d0, .d3, .d0⟩) (.c (.bool false)), none⟩,
    ⟨some ⟨.d0, .d0, .d6⟩, .move (.t ⟨.d0, .d3, .d1⟩), none⟩])
  (.ret))
def r_custref_NatIn_1 : List XR := [.tmp ⟨.d0, .d0, .d6⟩]
theorem ok_custref_NatIn_1 : okC Try.prog Try.f27.ntmps (bodyOf Try.f27) x_custref_NatIn_1 = true := by kernel_rfl
theorem okr_custref_NatIn_1 : okRs Try.prog Try.f27.results.toList r_custref_NatIn_1 = true := by kernel_rfl

/-- slices.Clone -/
def x_slices_Clone_api_Station : XC :=
  .seq (.region [⟨some ⟨.d0, .d0, .d2⟩, .move (.c (.slice none 0 0)), none⟩])
  (.seq (.seq (.region [⟨some ⟨.d0, .d0, .d3⟩, .move (.t ⟨.d0, .d0, .d0⟩), none⟩,
    ⟨some ⟨.d0, .d0, .d4⟩, .isnil false (.t ⟨.d0, .d0, .d3⟩), none⟩])
  (.cond (.t ⟨.d0, .d0, .d4⟩)
    (.seq (.region [⟨some ⟨.d0, .d0, .d2⟩, .move (.c (.slice none 0 0)), none⟩])
    (.ret))
    (.skip)))
  (.seq (.region [⟨some ⟨.d0, .d0, .d5⟩, .buildSlice 0 0 [.int .u8 0, .int .u8 0, .int .u8 0, .int .u8 0, .int .u8 0, .int .u8 0, .int .i64 0, .int .i64 0] [], none⟩,
    ⟨some ⟨.d0, .d0, .d6⟩, .move (.t ⟨.d0, .d0, .d0⟩), none⟩,
    ⟨some ⟨.d0, .d0, .d7⟩, .append 1 8 24 (.t ⟨.d0, .d0, .d5⟩) (.t ⟨.d0, .d0, .d6⟩), none⟩,
    ⟨some ⟨.d0, .d0, .d2⟩, .move (.t ⟨.d0, .d0, .d7⟩), none⟩])
  (.ret)))
def r_slices_Clone_api_Station : List XR := [.tmp ⟨.d0, .d0, .d2⟩]
theorem ok_slices_Clone_api_Station : okC Try.prog Try.f40.ntmps (bodyOf Try.f40) x_slices_Clone_api_Station = true := by kernel_rfl
theorem okr_slices_Clone_api_Station : okRs Try.prog Try.f40.results.toList r_slices_Clone_api_Station = true := by kernel_rfl

/-- bridge.last -/
def x_bridge_last : XC :=
  .seq (.region [⟨some ⟨.d0, .d0, .d1⟩, .box 0 3 (.t ⟨.d0, .d0, .d0⟩), none⟩,
    ⟨some ⟨.d0, .d0, .d2⟩, .move (.c (.int .i64 0)), none⟩])
  (.seq (.seq (.region [⟨some ⟨.d0, .d0, .d4⟩, .fieldAddr 2 (.t ⟨.d0, .d0, .d1⟩), none⟩,
    ⟨some ⟨.d0, .d0, .d5⟩, .load false 1 (.t ⟨.d0, .d0, .d4⟩), none⟩,
    ⟨some ⟨.d0, .d0, .d6⟩, .len (.t ⟨.d0, .d0, .d5⟩), none⟩,
    ⟨some ⟨.d0, .d0, .d3⟩, .move (.t ⟨.d0, .d0, .d6⟩), none⟩])
  (.seq (.region [⟨some ⟨.d0, .d0, .d7⟩, .move (.t ⟨.d0, .d0, .d3⟩), none⟩,
    ⟨some ⟨.d0, .d1, .d0⟩, .bin .gtr (.t ⟨.d0, .d0, .d7⟩) (.c (.int .i64 0)), none⟩])
  (.cond (.t ⟨.d0, .d1, .d0⟩)
    (.seq (.region [⟨some ⟨.d0, .d1, .d1⟩, .fieldAddr 2 (.t ⟨.d0, .d0, .d1⟩), none⟩,
      ⟨some ⟨.d0, .d1, .d2⟩, .load false 1 (.t ⟨.d0, .d1, .d1⟩), none⟩,
      ⟨some ⟨.d0, .d1, .d3⟩, .move (.t ⟨.d0, .d0, .d3⟩), none⟩,
      ⟨some ⟨.d0, .d1, .d4⟩, .bin .sub (.t ⟨.d0, .d1, .d3⟩) (.c (.int .i64 1)), none⟩,
      ⟨some ⟨.d0, .d1, .d5⟩, .indexSl 8 (.t ⟨.d0, .d1, .d2⟩) (.t ⟨.d0, .d1, .d4⟩), none⟩,
      ⟨some ⟨.d0, .d1, .d6⟩, .fieldAddr 7 (.t ⟨.d0, .d1, .d5⟩), none⟩,
      ⟨some ⟨.d0, .d1, .d7⟩, .load false 1 (.t ⟨.d0, .d1, .d6⟩), none⟩,
      ⟨some ⟨.d0, .d0, .d2⟩, .move (.t ⟨.d0, .d1, .d7⟩), none⟩])
    (.ret))
    (.skip))))
  (.seq (.region [⟨some ⟨.d0, .d0, .d2⟩, .move (.c (.int .i64 0)), none⟩])
  (.ret)))
def r_bridge_last : List XR := [.tmp ⟨.d0, .d0, .d2⟩]
theorem ok_bridge_last : okC Try.prog Try.f41.ntmps (bodyOf Try.f41) x_bridge_last = true := by kernel_rfl
theorem okr_bridge_last : okRs Try.prog Try.f41.results.toList r_bridge_last = true := by kernel_rfl

/-- eth.Read -/
def x_eth_Read : XC :=
  .seq (.region [⟨some ⟨.d0, .d0, .d2⟩, .alloc 0 [.int .u8 0, .int .u8 0, .int .u8 0, .int .u8 0, .int .u8 0, .int .u8 0, .int .u8 0, .int .u8 0, .int .u8 0, .int .u8 0, .int .u8 0, .int .u8 0, .int .i64 0, .int .i64 0, .string { data := #[] }], none⟩,
    ⟨some ⟨.d0, .d0, .d3⟩, .move (.c (.int .i64 0)), none⟩])
  (.seq (.seq (.region [⟨some ⟨.d0, .d0, .d6⟩, .move (.t ⟨.d0, .d0, .d0⟩), none⟩,
    ⟨some ⟨.d0, .d0, .d7⟩, .slen (.t ⟨.d0, .d0, .d6⟩), none⟩,
    ⟨some ⟨.d0, .d1, .d0⟩, .bin .lss (.t ⟨.d0, .d0, .d7⟩) (.c (.int .i64 14)), none⟩])
  (.cond (.t ⟨.d0, .d1, .d0⟩)
    (.seq (.region [⟨some ⟨.d0, .d1, .d1⟩, .build [.int .u8 0, .int .u8 0, .int .u8 0, .int .u8 0, .int .u8 0, .int .u8 0, .int .u8 0, .int .u8 0, .int .u8 0, .int .u8 0, .int .u8 0, .int .u8 0, .int .i64 0, .int .i64 0, .string { data := #[] }] [], none⟩,
      ⟨none, .store 15 (.t ⟨.d0, .d0, .d2⟩) (.t ⟨.d0, .d1, .d1⟩), none⟩,
      ⟨some ⟨.d0, .d0, .d3⟩, .move (.c (.int .i64 3)), none⟩])
    (.ret))
    (.skip)))
  (.seq (.regionD [0, 1, 3, 7, 15, 0, 32, 96, 224, 480, 1023, 0, 4095] [⟨some ⟨.d0, .d1, .d2⟩, .move (.t ⟨.d0, .d0, .d0⟩), none⟩,
    ⟨some ⟨.d0, .d1, .d3⟩, .substr (.t ⟨.d0, .d1, .d2⟩) none (some (.c (.int .i64 6))), none⟩,
    ⟨some ⟨.d0, .d1, .d4⟩, .s2b (.t ⟨.d0, .d1, .d3⟩), none⟩,
    ⟨some ⟨.d0, .d1, .d5⟩, .arrp 6 (.t ⟨.d0, .d1, .d4⟩), none⟩,
    ⟨some ⟨.d0, .d1, .d6⟩, .load true 6 (.t ⟨.d0, .d1, .d5⟩), none⟩,
    ⟨some ⟨.d0, .d1, .d7⟩, .move (.t ⟨.d0, .d0, .d0⟩), none⟩,
    ⟨some ⟨.d0, .d2, .d0⟩, .substr (.t ⟨.d0, .d1, .d7⟩) (some (.c (.int .i64 6))) (some (.c (.int .i64 12))), none⟩,
    ⟨some ⟨.d0, .d2, .d1⟩, .s2b (.t ⟨.d0, .d2, .d0⟩), none⟩,
    ⟨some ⟨.d0, .d2, .d2⟩, .arrp 6 (.t ⟨.d0, .d2, .d1⟩), none⟩,
    ⟨some ⟨.d0, .d2, .d3⟩, .load true 6 (.t ⟨.d0, .d2, .d2⟩), none⟩,
    ⟨some ⟨.d0, .d2, .d4⟩, .build [.int .u8 0, .int .u8 0, .int .u8 0, .int .u8 0, .int .u8 0, .int .u8 0, .int .u8 0, .int .u8 0, .int .u8 0, .int .u8 0, .int .u8 0, .int .u8 0, .int .i64 0, .int .i64 0, .string { data := #[] }] [(0, 6, (.t ⟨.d0, .d1, .d6⟩)), (6, 6, (.t ⟨.d0, .d2, .d3⟩)), (12, 1, (.c (.int .i64 (-1))))], none⟩,
    ⟨some ⟨.d0, .d0, .d4⟩, .alloc 1 [.int .u8 0, .int .u8 0, .int .u8 0, .int .u8 0, .int .u8 0, .int .u8 0, .int .u8 0, .int .u8 0, .int .u8 0, .int .u8 0, .int .u8 0, .int .u8 0, .int .i64 0, .int .i64 0, .string { data := #[] }], none⟩,
    ⟨none, .store 15 (.t ⟨.d0, .d0, .d4⟩) (.t ⟨.d0, .d2, .d4⟩), none⟩])
  (.seq (.region [⟨some ⟨.d0, .d2, .d5⟩, .move (.t ⟨.d0, .d0, .d0⟩), none⟩,
    ⟨some ⟨.d0, .d2, .d6⟩, .substr (.t ⟨.d0, .d2, .d5⟩) (some (.c (.int .i64 12))) none, none⟩,
    ⟨some ⟨.d0, .d0, .d5⟩, .move (.t ⟨.d0, .d2, .d6⟩), none⟩])
  (.seq (.seq (.region [⟨some ⟨.d0, .d2, .d7⟩, .move (.t ⟨.d0, .d0, .d5⟩), none⟩,
    ⟨some ⟨.d0, .d3, .d0⟩, .call 60 [(.t ⟨.d0, .d2, .d7⟩), (.c (.int .i64 0))], none⟩,
    ⟨some ⟨.d0, .d3, .d1⟩, .bin .eql (.t ⟨.d0, .d3, .d0⟩) (.c (.int .i64 33024)), none⟩])
  (.cond (.t ⟨.d0, .d3, .d1⟩)
    (.seq (.seq (.region [⟨some ⟨.d0, .d3, .d2⟩, .move (.t ⟨.d0, .d0, .d5⟩), none⟩,
      ⟨some ⟨.d0, .d3, .d3⟩, .slen (.t ⟨.d0, .d3, .d2⟩), none⟩,
      ⟨some ⟨.d0, .d3, .d4⟩, .bin .lss (.t ⟨.d0, .d3, .d3⟩) (.c (.int .i64 6)), none⟩])
    (.cond (.t ⟨.d0, .d3, .d4⟩)
      (.seq (.region [⟨some ⟨.d0, .d3, .d5⟩, .build [.int .u8 0, .int .u8 0, .int .u8 0, .int .u8 0, .int .u8 0, .int .u8 0, .int .u8 0, .int .u8 0, .int .u8 0, .int .u8 0, .int .u8 0, .int .u8 0, .int .i64 0, .int .i64 0, .string { data := #[] }] [], none⟩,
        ⟨none, .store 15 (.t ⟨.d0, .d0, .d2⟩) (.t ⟨.d0, .d3, .d5⟩), none⟩,
        ⟨some ⟨.d0, .d0, .d3⟩, .move (.c (.int .i64 3)), none⟩])
      (.ret))
      (.skip)))
    (.regionD [0, 1, 0, 4, 3, 19, 63] [⟨some ⟨.d0, .d3, .d6⟩, .move (.t ⟨.d0, .d0, .d5⟩), none⟩,
      ⟨some ⟨.d0, .d3, .d7⟩, .call 60 [(.t ⟨.d0, .d3, .d6⟩), (.c (.int .i64 2))], none⟩,
      ⟨some ⟨.d0, .d4, .d0⟩, .move (.t ⟨.d0, .d0, .d5⟩), none⟩,
      ⟨some ⟨.d0, .d4, .d1⟩, .substr (.t ⟨.d0, .d4, .d0⟩) (some (.c (.int .i64 4))) none, none⟩,
      ⟨some ⟨.d0, .d4, .d2⟩, .fieldAddr 12 (.t ⟨.d0, .d0, .d4⟩), none⟩,
      ⟨none, .store 1 (.t ⟨.d0, .d4, .d2⟩) (.t ⟨.d0, .d3, .d7⟩), none⟩,
      ⟨some ⟨.d0, .d0, .d5⟩, .move (.t ⟨.d0, .d4, .d1⟩), none⟩]))
    (.skip)))
  (.seq (.regionD [0, 1, 0, 4, 3, 19, 63, 127] [⟨some ⟨.d0, .d4, .d3⟩, .move (.t ⟨.d0, .d0, .d5⟩), none⟩,
    ⟨some ⟨.d0, .d4, .d4⟩, .call 60 [(.t ⟨.d0, .d4, .d3⟩), (.c (.int .i64 0))], none⟩,
    ⟨some ⟨.d0, .d4, .d5⟩, .move (.t ⟨.d0, .d0, .d5⟩), none⟩,
    ⟨some ⟨.d0, .d4, .d6⟩, .substr (.t ⟨.d0, .d4, .d5⟩) (some (.c (.int .i64 2))) none, none⟩,
    ⟨some ⟨.d0, .d4, .d7⟩, .fieldAddr 13 (.t ⟨.d0, .d0, .d4⟩), none⟩,
    ⟨none, .store 1 (.t ⟨.d0, .d4, .d7⟩) (.t ⟨.d0, .d4, .d4⟩), none⟩,
    ⟨some ⟨.d0, .d5, .d0⟩, .fieldAddr 14 (.t ⟨.d0, .d0, .d4⟩), none⟩,
    ⟨none, .store 1 (.t ⟨.d0, .d5, .d0⟩) (.t ⟨.d0, .d4, .d6⟩), none⟩])
  (.seq (.block 0
    (.seq (.region [⟨some ⟨.d0, .d5, .d2⟩, .fieldAddr 12 (.t ⟨.d0, .d0, .d4⟩), none⟩,
      ⟨some ⟨.d0, .d5, .d3⟩, .load false 1 (.t ⟨.d0, .d5, .d2⟩), none⟩,
      ⟨some ⟨.d0, .d5, .d4⟩, .bin .gtr (.t ⟨.d0, .d5, .d3⟩) (.c (.int .i64 4095)), none⟩,
      ⟨some ⟨.d0, .d5, .d1⟩, .move (.t ⟨.d0, .d5, .d4⟩), none⟩])
    (.cond (.t ⟨.d0, .d5, .d1⟩)
      (.seq (.region [⟨some ⟨.d0, .d5, .d5⟩, .build [.int .u8 0, .int .u8 0, .int .u8 0, .int .u8 0, .int .u8 0, .int .u8 0, .int .u8 0, .int .u8 0, .int .u8 0, .int .u8 0, .int .u8 0, .int .u8 0, .int .i64 0, .int .i64 0, .string { data := #[] }] [], none⟩,
        ⟨none, .store 15 (.t ⟨.d0, .d0, .d2⟩) (.t ⟨.d0, .d5, .d5⟩), none⟩,
        ⟨some ⟨.d0, .d0, .d3⟩, .move (.c (.int .i64 4)), none⟩])
      (.ret))
      (.seq (.region [⟨some ⟨.d0, .d5, .d7⟩, .fieldAddr 14 (.t ⟨.d0, .d0, .d4⟩), none⟩,
        ⟨some ⟨.d0, .d6, .d0⟩, .load false 1 (.t ⟨.d0, .d5, .d7⟩), none⟩,
        ⟨some ⟨.d0, .d6, .d1⟩, .slen (.t ⟨.d0, .d6, .d0⟩), none⟩,
        ⟨some ⟨.d0, .d6, .d2⟩, .bin .gtr (.t ⟨.d0, .d6, .d1⟩) (.c (.int .i64 65535)), none⟩,
        ⟨some ⟨.d0, .d5, .d6⟩, .move (.t ⟨.d0, .d6, .d2⟩), none⟩])
      (.cond (.t ⟨.d0, .d5, .d6⟩)
        (.seq (.region [⟨some ⟨.d0, .d6, .d3⟩, .build [.int .u8 0, .int .u8 0, .int .u8 0, .int .u8 0, .int .u8 0, .int .u8 0, .int .u8 0, .int .u8 0, .int .u8 0, .int .u8 0, .int .u8 0, .int .u8 0, .int .i64 0, .int .i64 0, .string { data := #[] }] [], none⟩,
          ⟨none, .store 15 (.t ⟨.d0, .d0, .d2⟩) (.t ⟨.d0, .d6, .d3⟩), none⟩,
          ⟨some ⟨.d0, .d0, .d3⟩, .move (.c (.int .i64 2)), none⟩])
        (.ret))
        (.skip))))))
  (.seq (.region [⟨some ⟨.d0, .d6, .d4⟩, .load true 15 (.t ⟨.d0, .d0, .d4⟩), none⟩,
    ⟨none, .store 15 (.t ⟨.d0, .d0, .d2⟩) (.t ⟨.d0, .d6, .d4⟩), none⟩,
    ⟨some ⟨.d0, .d0, .d3⟩, .move (.c (.int .i64 0)), none⟩])
  (.ret))))))))
def r_eth_Read : List XR := [.cell ⟨.d0, .d0, .d2⟩ true 15, .tmp ⟨.d0, .d0, .d3⟩]
theorem ok_eth_Read : okC Try.prog Try.f42.ntmps (bodyOf Try.f42) x_eth_Read = true := by kernel_rfl
theorem okr_eth_Read : okRs Try.prog Try.f42.results.toList r_eth_Read = true := by kernel_rfl

/-- eth.Many -/
def x_eth_Many : XC :=
  .seq (.region [⟨some ⟨.d0, .d0, .d1⟩, .box 0 6 (.t ⟨.d0, .d0, .d0⟩), none⟩,
    ⟨some ⟨.d0, .d0, .d2⟩, .move (.c (.bool false)), none⟩])
  (.seq (.region [⟨some ⟨.d0, .d0, .d3⟩, .indexArr 1 6 (.t ⟨.d0, .d0, .d1⟩) (.c (.int .i64 0)), none⟩,
    ⟨some ⟨.d0, .d0, .d4⟩, .load false 1 (.t ⟨.d0, .d0, .d3⟩), none⟩,
    ⟨some ⟨.d0, .d0, .d5⟩, .bin .and (.t ⟨.d0, .d0, .d4⟩) (.c (.int .u8 1)), none⟩,
    ⟨some ⟨.d0, .d0, .d6⟩, .bin .eql (.t ⟨.d0, .d0, .d5⟩) (.c (.int .u8 1)), none⟩,
    ⟨some ⟨.d0, .d0, .d2⟩, .move (.t ⟨.d0, .d0, .d6⟩), none⟩])
  (.ret))
def r_eth_Many : List XR := [.tmp ⟨.d0, .d0, .d2⟩]
theorem ok_eth_Many : okC Try.prog Try.f43.ntmps (bodyOf Try.f43) x_eth_Many = true := by kernel_rfl
theorem okr_eth_Many : okRs Try.prog Try.f43.results.toList r_eth_Many = true := by kernel_rfl

/-- bridge.learn -/
def x_bridge_learn : XC :=
  .seq (.region [⟨some ⟨.d0, .d0, .d2⟩, .box 1 3 (.t ⟨.d0, .d0, .d0⟩), none⟩,
    ⟨some ⟨.d0, .d0, .d3⟩, .box 2 8 (.t ⟨.d0, .d0, .d1⟩), none⟩,
    ⟨some ⟨.d0, .d0, .d4⟩, .alloc 3 [.int .i64 0, .int .i64 0, .slice none 0 0], none⟩])
  (.seq (.region [⟨some ⟨.d0, .d0, .d5⟩, .fieldAddr 2 (.t ⟨.d0, .d0, .d2⟩), none⟩,
    ⟨some ⟨.d0, .d0, .d6⟩, .load false 1 (.t ⟨.d0, .d0, .d5⟩), none⟩,
    ⟨some ⟨.d0, .d0, .d7⟩, .mkfn 62 [] [(.t ⟨.d0, .d0, .d3⟩), (.t ⟨.d0, .d0, .d2⟩)], none⟩,
    ⟨some ⟨.d0, .d1, .d0⟩, .call 61 [(.t ⟨.d0, .d0, .d6⟩), (.t ⟨.d0, .d0, .d7⟩)], none⟩,
    ⟨some ⟨.d0, .d1, .d1⟩, .fieldAddr 2 (.t ⟨.d0, .d0, .d2⟩), none⟩,
    ⟨none, .store 1 (.t ⟨.d0, .d1, .d1⟩) (.t ⟨.d0, .d1, .d0⟩), none⟩])
  (.seq (.seq (.region [⟨some ⟨.d0, .d1, .d2⟩, .fieldAddr 2 (.t ⟨.d0, .d0, .d2⟩), none⟩,
    ⟨some ⟨.d0, .d1, .d3⟩, .load false 1 (.t ⟨.d0, .d1, .d2⟩), none⟩,
    ⟨some ⟨.d0, .d1, .d4⟩, .len (.t ⟨.d0, .d1, .d3⟩), none⟩,
    ⟨some ⟨.d0, .d1, .d5⟩, .bin .eql (.t ⟨.d0, .d1, .d4⟩) (.c (.int .i64 64)), none⟩])
  (.cond (.t ⟨.d0, .d1, .d5⟩)
    (.region [⟨some ⟨.d0, .d1, .d6⟩, .fieldAddr 2 (.t ⟨.d0, .d0, .d2⟩), none⟩,
      ⟨some ⟨.d0, .d1, .d7⟩, .load false 1 (.t ⟨.d0, .d1, .d6⟩), none⟩,
      ⟨some ⟨.d0, .d2, .d0⟩, .call 63 [(.t ⟨.d0, .d1, .d7⟩), (.c (.int .i64 0)), (.c (.int .i64 1))], none⟩,
      ⟨some ⟨.d0, .d2, .d1⟩, .fieldAddr 2 (.t ⟨.d0, .d0, .d2⟩), none⟩,
      ⟨none, .store 1 (.t ⟨.d0, .d2, .d1⟩) (.t ⟨.d0, .d2, .d0⟩), none⟩])
    (.skip)))
  (.seq (.region [⟨some ⟨.d0, .d2, .d2⟩, .fieldAddr 2 (.t ⟨.d0, .d0, .d2⟩), none⟩,
    ⟨some ⟨.d0, .d2, .d3⟩, .load false 1 (.t ⟨.d0, .d2, .d2⟩), none⟩,
    ⟨some ⟨.d0, .d2, .d4⟩, .load true 8 (.t ⟨.d0, .d0, .d3⟩), none⟩,
    ⟨some ⟨.d0, .d2, .d5⟩, .buildSlice 4 1 [.int .u8 0, .int .u8 0, .int .u8 0, .int .u8 0, .int .u8 0, .int .u8 0, .int .i64 0, .int .i64 0] [(0, (.t ⟨.d0, .d2, .d4⟩))], none⟩,
    ⟨some ⟨.d0, .d2, .d6⟩, .append 5 8 24 (.t ⟨.d0, .d2, .d3⟩) (.t ⟨.d0, .d2, .d5⟩), none⟩,
    ⟨some ⟨.d0, .d2, .d7⟩, .fieldAddr 2 (.t ⟨.d0, .d0, .d2⟩), none⟩,
    ⟨none, .store 1 (.t ⟨.d0, .d2, .d7⟩) (.t ⟨.d0, .d2, .d6⟩), none⟩])
  (.seq (.region [⟨some ⟨.d0, .d3, .d0⟩, .load true 3 (.t ⟨.d0, .d0, .d2⟩), none⟩,
    ⟨none, .store 3 (.t ⟨.d0, .d0, .d4⟩) (.t ⟨.d0, .d3, .d0⟩), none⟩])
  (.ret)))))
def r_bridge_learn : List XR := [.cell ⟨.d0, .d0, .d4⟩ true 3]
theorem ok_bridge_learn : okC Try.prog Try.f44.ntmps (bodyOf Try.f44) x_bridge_learn = true := by kernel_rfl
theorem okr_bridge_learn : okRs Try.prog Try.f44.results.toList r_bridge_learn = true := by kernel_rfl

/-- bridge.find -/
def x_bridge_find : XC :=
  .seq (.region [⟨some ⟨.d0, .d0, .d3⟩, .box 0 3 (.t ⟨.d0, .d0, .d0⟩), none⟩,
    ⟨some ⟨.d0, .d0, .d4⟩, .box 1 6 (.t ⟨.d0, .d0, .d1⟩), none⟩,
    ⟨some ⟨.d0, .d0, .d6⟩, .move (.c (.int .i64 0)), none⟩,
    ⟨some ⟨.d0, .d0, .d7⟩, .move (.c (.bool false)), none⟩])
  (.seq (.seq (.region [⟨some ⟨.d0, .d1, .d2⟩, .fieldAddr 2 (.t ⟨.d0, .d0, .d3⟩), none⟩,
    ⟨some ⟨.d0, .d1, .d3⟩, .load false 1 (.t ⟨.d0, .d1, .d2⟩), none⟩,
    ⟨some ⟨.d0, .d1, .d4⟩, .len (.t ⟨.d0, .d1, .d3⟩), none⟩,
    ⟨some ⟨.d0, .d1, .d5⟩, .move (.c (.int .i64 0)), none⟩])
  (.block 0
    (.loop
      (.seq (.region [⟨some ⟨.d0, .d1, .d6⟩, .bin .lss (.t ⟨.d0, .d1, .d5⟩) (.t ⟨.d0, .d1, .d4⟩), none⟩])
      (.seq (.cond (.t ⟨.d0, .d1, .d6⟩)
        (.skip)
        (.exit 0))
      (.seq (.block 1
        (.seq (.region [⟨some ⟨.d0, .d1, .d7⟩, .indexSl 8 (.t ⟨.d0, .d1, .d3⟩) (.t ⟨.d0, .d1, .d5⟩), none⟩,
          ⟨some ⟨.d0, .d2, .d0⟩, .load true 8 (.t ⟨.d0, .d1, .d7⟩), none⟩,
          ⟨some ⟨.d0, .d1, .d1⟩, .alloc 2 [.int .u8 0, .int .u8 0, .int .u8 0, .int .u8 0, .int .u8 0, .int .u8 0, .int .i64 0, .int .i64 0], none⟩,
          ⟨none, .store 8 (.t ⟨.d0, .d1, .d1⟩) (.t ⟨.d0, .d2, .d0⟩), none⟩])
        (.seq (.region [⟨some ⟨.d0, .d2, .d1⟩, .fieldAddr 0 (.t ⟨.d0, .d1, .d1⟩), none⟩,
          ⟨some ⟨.d0, .d2, .d2⟩, .load true 6 (.t ⟨.d0, .d2, .d1⟩), none⟩,
          ⟨some ⟨.d0, .d2, .d3⟩, .load true 6 (.t ⟨.d0, .d0, .d4⟩), none⟩,
          ⟨some ⟨.d0, .d2, .d4⟩, .eqs false [0, 0, 0, 0, 0, 0] (.t ⟨.d0, .d2, .d2⟩) (.t ⟨.d0, .d2, .d3⟩), none⟩,
          ⟨some ⟨.d0, .d2, .d5⟩, .move (.t ⟨.d0, .d2, .d4⟩), none⟩,
          ⟨some ⟨.d0, .d2, .d6⟩, .move (.t ⟨.d0, .d0, .d2⟩), some (⟨.d0, .d2, .d5⟩, true)⟩,
          ⟨some ⟨.d0, .d2, .d7⟩, .fieldAddr 7 (.t ⟨.d0, .d1, .d1⟩), some (⟨.d0, .d2, .d5⟩, true)⟩,
          ⟨some ⟨.d0, .d3, .d0⟩, .load false 1 (.t ⟨.d0, .d2, .d7⟩), some (⟨.d0, .d2, .d5⟩, true)⟩,
          ⟨some ⟨.d0, .d3, .d1⟩, .bin .sub (.t ⟨.d0, .d2, .d6⟩) (.t ⟨.d0, .d3, .d0⟩), some (⟨.d0, .d2, .d5⟩, true)⟩,
          ⟨some ⟨.d0, .d3, .d2⟩, .fieldAddr 1 (.t ⟨.d0, .d0, .d3⟩), some (⟨.d0, .d2, .d5⟩, true)⟩,
          ⟨some ⟨.d0, .d3, .d3⟩, .load false 1 (.t ⟨.d0, .d3, .d2⟩), some (⟨.d0, .d2, .d5⟩, true)⟩,
          ⟨some ⟨.d0, .d3, .d4⟩, .bin .leq (.t ⟨.d0, .d3, .d1⟩) (.t ⟨.d0, .d3, .d3⟩), some (⟨.d0, .d2, .d5⟩, true)⟩,
          ⟨some ⟨.d0, .d3, .d5⟩, .pick (.t ⟨.d0, .d2, .d5⟩) (.t ⟨.d0, .d3, .d4⟩) (.c (.bool false)), none⟩])
        (.cond (.t ⟨.d0, .d3, .d5⟩)
          (.seq (.region [⟨some ⟨.d0, .d3, .d6⟩, .fieldAddr 6 (.t ⟨.d0, .d1, .d1⟩), none⟩,
            ⟨some ⟨.d0, .d3, .d7⟩, .load false 1 (.t ⟨.d0, .d3, .d6⟩), none⟩,
            ⟨some ⟨.d0, .d0, .d6⟩, .move (.t ⟨.d0, .d3, .d7⟩), none⟩,
            ⟨some ⟨.d0, .d0, .d7⟩, .move (.c (.bool true)), none⟩])
          (.ret))
          (.skip)))))
      (.region [⟨some ⟨.d0, .d4, .d0⟩, .bin .add (.t ⟨.d0, .d1, .d5⟩) (.c (.int .i64 1)), none⟩,
        ⟨some ⟨.d0, .d1, .d5⟩, .move (.t ⟨.d0, .d4, .d0⟩), none⟩])))))))
  (.seq (.region [⟨some ⟨.d0, .d0, .d6⟩, .move (.c (.int .i64 0)), none⟩,
    ⟨some ⟨.d0, .d0, .d7⟩, .move (.c (.bool false)), none⟩])
  (.ret)))
def r_bridge_find : List XR := [.tmp ⟨.d0, .d0, .d6⟩, .tmp ⟨.d0, .d0, .d7⟩]
theorem ok_bridge_find : okC Try.prog Try.f45.ntmps (bodyOf Try.f45) x_bridge_find = true := by kernel_rfl
theorem okr_bridge_find : okRs Try.prog Try.f45.results.toList r_bridge_find = true := by kernel_rfl

/-- custref.TextFrame -/
def x_custref_TextFrame : XC :=
  .seq (.region [⟨some ⟨.d0, .d0, .d2⟩, .alloc 0 [.int .u8 0, .int .u8 0, .int .u8 0, .int .u8 0, .int .u8 0, .int .u8 0, .int .u8 0, .int .u8 0, .int .u8 0, .int .u8 0, .int .u8 0, .int .u8 0, .int .i64 0, .int .i64 0, .string { data := #[] }], none⟩,
    ⟨some ⟨.d0, .d0, .d3⟩, .move (.c (.int .i64 0)), none⟩])
  (.seq (.region [⟨some ⟨.d0, .d1, .d0⟩, .build [.int .u8 0, .int .u8 0, .int .u8 0, .int .u8 0, .int .u8 0, .int .u8 0, .int .u8 0, .int .u8 0, .int .u8 0, .int .u8 0, .int .u8 0, .int .u8 0, .int .i64 0, .int .i64 0, .string { data := #[] }] [], none⟩,
    ⟨some ⟨.d0, .d0, .d4⟩, .alloc 1 [.int .u8 0, .int .u8 0, .int .u8 0, .int .u8 0, .int .u8 0, .int .u8 0, .int .u8 0, .int .u8 0, .int .u8 0, .int .u8 0, .int .u8 0, .int .u8 0, .int .i64 0, .int .i64 0, .string { data := #[] }], none⟩,
    ⟨none, .store 15 (.t ⟨.d0, .d0, .d4⟩) (.t ⟨.d0, .d1, .d0⟩), none⟩])
  (.seq (.region [⟨some ⟨.d0, .d1, .d1⟩, .move (.t ⟨.d0, .d0, .d0⟩), none⟩,
    ⟨some ⟨.d0, .d1, .d2⟩, .slen (.t ⟨.d0, .d1, .d1⟩), none⟩,
    ⟨some ⟨.d0, .d1, .d3⟩, .bin .geq (.t ⟨.d0, .d1, .d2⟩) (.c (.int .i64 14)), none⟩,
    ⟨some ⟨.d0, .d1, .d4⟩, .move (.t ⟨.d0, .d1, .d3⟩), none⟩,
    ⟨some ⟨.d0, .d1, .d5⟩, .move (.t ⟨.d0, .d0, .d0⟩), some (⟨.d0, .d1, .d4⟩, true)⟩,
    ⟨some ⟨.d0, .d1, .d6⟩, .call 64 [(.t ⟨.d0, .d1, .d5⟩), (.c (.int .i64 12))], some (⟨.d0, .d1, .d4⟩, true)⟩,
    ⟨some ⟨.d0, .d1, .d7⟩, .bin .eql (.t ⟨.d0, .d1, .d6⟩) (.c (.int .i64 33024)), some (⟨.d0, .d1, .d4⟩, true)⟩,
    ⟨some ⟨.d0, .d2, .d0⟩, .pick (.t ⟨.d0, .d1, .d4⟩) (.t ⟨.d0, .d1, .d7⟩) (.c (.bool false)), none⟩,
    ⟨some ⟨.d0, .d0, .d5⟩, .move (.t ⟨.d0, .d2, .d0⟩), none⟩])
  (.seq (.region [⟨some ⟨.d0, .d0, .d6⟩, .move (.c (.int .i64 12)), none⟩])
  (.seq (.seq (.region [⟨some ⟨.d0, .d2, .d1⟩, .move (.t ⟨.d0, .d0, .d5⟩), none⟩])
  (.cond (.t ⟨.d0, .d2, .d1⟩)
    (.region [⟨some ⟨.d0, .d0, .d6⟩, .move (.c (.int .i64 16)), none⟩])
    (.skip)))
  (.seq (.seq (.region [⟨some ⟨.d0, .d2, .d2⟩, .move (.t ⟨.d0, .d0, .d0⟩), none⟩,
    ⟨some ⟨.d0, .d2, .d3⟩, .slen (.t ⟨.d0, .d2, .d2⟩), none⟩,
    ⟨some ⟨.d0, .d2, .d4⟩, .move (.t ⟨.d0, .d0, .d6⟩), none⟩,
    ⟨some ⟨.d0, .d2, .d5⟩, .bin .add (.t ⟨.d0, .d2, .d4⟩) (.c (.int .i64 2)), none⟩,
    ⟨some ⟨.d0, .d2, .d6⟩, .bin .lss (.t ⟨.d0, .d2, .d3⟩) (.t ⟨.d0, .d2, .d5⟩), none⟩])
  (.cond (.t ⟨.d0, .d2, .d6⟩)
    (.seq (.region [⟨some ⟨.d0, .d2, .d7⟩, .load true 15 (.t ⟨.d0, .d0, .d4⟩), none⟩,
      ⟨none, .store 15 (.t ⟨.d0, .d0, .d2⟩) (.t ⟨.d0, .d2, .d7⟩), none⟩,
      ⟨some ⟨.d0, .d0, .d3⟩, .move (.c (.int .i64 3)), none⟩])
    (.ret))
    (.skip)))
  (.seq (.regionD [0, 1, 0, 7, 0, 0, 63, 0, 0, 256, 896, 2047, 0, 8191] [⟨some ⟨.d0, .d3, .d0⟩, .move (.t ⟨.d0, .d0, .d0⟩), none⟩,
    ⟨some ⟨.d0, .d3, .d1⟩, .call 65 [(.t ⟨.d0, .d3, .d0⟩), (.c (.int .i64 0))], none⟩,
    ⟨some ⟨.d0, .d3, .d2⟩, .move (.t ⟨.d0, .d0, .d0⟩), none⟩,
    ⟨some ⟨.d0, .d3, .d3⟩, .call 65 [(.t ⟨.d0, .d3, .d2⟩), (.c (.int .i64 6))], none⟩,
    ⟨some ⟨.d0, .d3, .d4⟩, .move (.t ⟨.d0, .d0, .d0⟩), none⟩,
    ⟨some ⟨.d0, .d3, .d5⟩, .move (.t ⟨.d0, .d0, .d6⟩), none⟩,
    ⟨some ⟨.d0, .d3, .d6⟩, .call 64 [(.t ⟨.d0, .d3, .d4⟩), (.t ⟨.d0, .d3, .d5⟩)], none⟩,
    ⟨some ⟨.d0, .d3, .d7⟩, .move (.t ⟨.d0, .d0, .d0⟩), none⟩,
    ⟨some ⟨.d0, .d4, .d0⟩, .move (.t ⟨.d0, .d0, .d6⟩), none⟩,
    ⟨some ⟨.d0, .d4, .d1⟩, .bin .add (.t ⟨.d0, .d4, .d0⟩) (.c (.int .i64 2)), none⟩,
    ⟨some ⟨.d0, .d4, .d2⟩, .substr (.t ⟨.d0, .d3, .d7⟩) (some (.t ⟨.d0, .d4, .d1⟩)) none, none⟩,
    ⟨some ⟨.d0, .d4, .d3⟩, .build [.int .u8 0, .int .u8 0, .int .u8 0, .int .u8 0, .int .u8 0, .int .u8 0, .int .u8 0, .int .u8 0, .int .u8 0, .int .u8 0, .int .u8 0, .int .u8 0, .int .i64 0, .int .i64 0, .string { data := #[] }] [(0, 6, (.t ⟨.d0, .d3, .d1⟩)), (6, 6, (.t ⟨.d0, .d3, .d3⟩)), (12, 1, (.c (.int .i64 (-1)))), (13, 1, (.t ⟨.d0, .d3, .d6⟩)), (14, 1, (.t ⟨.d0, .d4, .d2⟩))], none⟩,
    ⟨some ⟨.d0, .d0, .d7⟩, .alloc 2 [.int .u8 0, .int .u8 0, .int .u8 0, .int .u8 0, .int .u8 0, .int .u8 0, .int .u8 0, .int .u8 0, .int .u8 0, .int .u8 0, .int .u8 0, .int .u8 0, .int .i64 0, .int .i64 0, .string { data := #[] }], none⟩,
    ⟨none, .store 15 (.t ⟨.d0, .d0, .d7⟩) (.t ⟨.d0, .d4, .d3⟩), none⟩])
  (.seq (.seq (.region [⟨some ⟨.d0, .d4, .d4⟩, .move (.t ⟨.d0, .d0, .d5⟩), none⟩])
  (.cond (.t ⟨.d0, .d4, .d4⟩)
    (.seq (.region [⟨some ⟨.d0, .d4, .d5⟩, .move (.t ⟨.d0, .d0, .d0⟩), none⟩,
      ⟨some ⟨.d0, .d4, .d6⟩, .call 64 [(.t ⟨.d0, .d4, .d5⟩), (.c (.int .i64 14))], none⟩,
      ⟨some ⟨.d0, .d4, .d7⟩, .fieldAddr 12 (.t ⟨.d0, .d0, .d7⟩), none⟩,
      ⟨none, .store 1 (.t ⟨.d0, .d4, .d7⟩) (.t ⟨.d0, .d4, .d6⟩), none⟩])
    (.seq (.region [⟨some ⟨.d0, .d5, .d0⟩, .fieldAddr 12 (.t ⟨.d0, .d0, .d7⟩), none⟩,
      ⟨some ⟨.d0, .d5, .d1⟩, .load false 1 (.t ⟨.d0, .d5, .d0⟩), none⟩,
      ⟨some ⟨.d0, .d5, .d2⟩, .bin .gtr (.t ⟨.d0, .d5, .d1⟩) (.c (.int .i64 4095)), none⟩])
    (.cond (.t ⟨.d0, .d5, .d2⟩)
      (.seq (.region [⟨some ⟨.d0, .d5, .d3⟩, .load true 15 (.t ⟨.d0, .d0, .d4⟩), none⟩,
        ⟨none, .store 15 (.t ⟨.d0, .d0, .d2⟩) (.t ⟨.d0, .d5, .d3⟩), none⟩,
        ⟨some ⟨.d0, .d0, .d3⟩, .move (.c (.int .i64 4)), none⟩])
      (.ret))
      (.skip))))
    (.skip)))
  (.seq (.seq (.region [⟨some ⟨.d0, .d5, .d4⟩, .fieldAddr 14 (.t ⟨.d0, .d0, .d7⟩), none⟩,
    ⟨some ⟨.d0, .d5, .d5⟩, .load false 1 (.t ⟨.d0, .d5, .d4⟩), none⟩,
    ⟨some ⟨.d0, .d5, .d6⟩, .slen (.t ⟨.d0, .d5, .d5⟩), none⟩,
    ⟨some ⟨.d0, .d5, .d7⟩, .bin .gtr (.t ⟨.d0, .d5, .d6⟩) (.c (.int .i64 65535)), none⟩])
  (.cond (.t ⟨.d0, .d5, .d7⟩)
    (.seq (.region [⟨some ⟨.d0, .d6, .d0⟩, .load true 15 (.t ⟨.d0, .d0, .d4⟩), none⟩,
      ⟨none, .store 15 (.t ⟨.d0, .d0, .d2⟩) (.t ⟨.d0, .d6, .d0⟩), none⟩,
      ⟨some ⟨.d0, .d0, .d3⟩, .move (.c (.int .i64 2)), none⟩])
    (.ret))
    (.skip)))
  (.seq (.region [⟨some ⟨.d0, .d6, .d1⟩, .load true 15 (.t ⟨.d0, .d0, .d7⟩), none⟩,
    ⟨none, .store 15 (.t ⟨.d0, .d0, .d2⟩) (.t ⟨.d0, .d6, .d1⟩), none⟩,
    ⟨some ⟨.d0, .d0, .d3⟩, .move (.c (.int .i64 0)), none⟩])
  (.ret))))))))))
def r_custref_TextFrame : List XR := [.cell ⟨.d0, .d0, .d2⟩ true 15, .tmp ⟨.d0, .d0, .d3⟩]
theorem ok_custref_TextFrame : okC Try.prog Try.f46.ntmps (bodyOf Try.f46) x_custref_TextFrame = true := by kernel_rfl
theorem okr_custref_TextFrame : okRs Try.prog Try.f46.results.toList r_custref_TextFrame = true := by kernel_rfl

/-- custref.PortOf -/
def x_custref_PortOf : XC :=
  .seq (.region [⟨some ⟨.d0, .d0, .d3⟩, .box 0 3 (.t ⟨.d0, .d0, .d0⟩), none⟩,
    ⟨some ⟨.d0, .d0, .d4⟩, .box 1 6 (.t ⟨.d0, .d0, .d1⟩), none⟩,
    ⟨some ⟨.d0, .d0, .d6⟩, .move (.c (.int .i64 0)), none⟩])
  (.seq (.region [⟨some ⟨.d0, .d0, .d7⟩, .move (.c (.int .i64 (-1))), none⟩])
  (.seq (.seq (.region [⟨some ⟨.d0, .d1, .d2⟩, .fieldAddr 2 (.t ⟨.d0, .d0, .d3⟩), none⟩,
    ⟨some ⟨.d0, .d1, .d3⟩, .load false 1 (.t ⟨.d0, .d1, .d2⟩), none⟩,
    ⟨some ⟨.d0, .d1, .d4⟩, .len (.t ⟨.d0, .d1, .d3⟩), none⟩,
    ⟨some ⟨.d0, .d1, .d5⟩, .move (.c (.int .i64 0)), none⟩])
  (.block 0
    (.loop
      (.seq (.region [⟨some ⟨.d0, .d1, .d6⟩, .bin .lss (.t ⟨.d0, .d1, .d5⟩) (.t ⟨.d0, .d1, .d4⟩), none⟩])
      (.seq (.cond (.t ⟨.d0, .d1, .d6⟩)
        (.skip)
        (.exit 0))
      (.seq (.block 1
        (.seq (.region [⟨some ⟨.d0, .d1, .d7⟩, .indexSl 8 (.t ⟨.d0, .d1, .d3⟩) (.t ⟨.d0, .d1, .d5⟩), none⟩,
          ⟨some ⟨.d0, .d2, .d0⟩, .load true 8 (.t ⟨.d0, .d1, .d7⟩), none⟩,
          ⟨some ⟨.d0, .d1, .d1⟩, .alloc 2 [.int .u8 0, .int .u8 0, .int .u8 0, .int .u8 0, .int .u8 0, .int .u8 0, .int .i64 0, .int .i64 0], none⟩,
          ⟨none, .store 8 (.t ⟨.d0, .d1, .d1⟩) (.t ⟨.d0, .d2, .d0⟩), none⟩])
        (.seq (.region [⟨some ⟨.d0, .d2, .d1⟩, .fieldAddr 0 (.t ⟨.d0, .d1, .d1⟩), none⟩,
          ⟨some ⟨.d0, .d2, .d2⟩, .load true 6 (.t ⟨.d0, .d2, .d1⟩), none⟩,
          ⟨some ⟨.d0, .d2, .d3⟩, .load true 6 (.t ⟨.d0, .d0, .d4⟩), none⟩,
          ⟨some ⟨.d0, .d2, .d4⟩, .eqs false [0, 0, 0, 0, 0, 0] (.t ⟨.d0, .d2, .d2⟩) (.t ⟨.d0, .d2, .d3⟩), none⟩,
          ⟨some ⟨.d0, .d2, .d5⟩, .move (.t ⟨.d0, .d2, .d4⟩), none⟩,
          ⟨some ⟨.d0, .d2, .d6⟩, .fieldAddr 7 (.t ⟨.d0, .d1, .d1⟩), some (⟨.d0, .d2, .d5⟩, true)⟩,
          ⟨some ⟨.d0, .d2, .d7⟩, .load false 1 (.t ⟨.d0, .d2, .d6⟩), some (⟨.d0, .d2, .d5⟩, true)⟩,
          ⟨some ⟨.d0, .d3, .d0⟩, .fieldAddr 1 (.t ⟨.d0, .d0, .d3⟩), some (⟨.d0, .d2, .d5⟩, true)⟩,
          ⟨some ⟨.d0, .d3, .d1⟩, .load false 1 (.t ⟨.d0, .d3, .d0⟩), some (⟨.d0, .d2, .d5⟩, true)⟩,
          ⟨some ⟨.d0, .d3, .d2⟩, .bin .add (.t ⟨.d0, .d2, .d7⟩) (.t ⟨.d0, .d3, .d1⟩), some (⟨.d0, .d2, .d5⟩, true)⟩,
          ⟨some ⟨.d0, .d3, .d3⟩, .move (.t ⟨.d0, .d0, .d2⟩), some (⟨.d0, .d2, .d5⟩, true)⟩,
          ⟨some ⟨.d0, .d3, .d4⟩, .bin .geq (.t ⟨.d0, .d3, .d2⟩) (.t ⟨.d0, .d3, .d3⟩), some (⟨.d0, .d2, .d5⟩, true)⟩,
          ⟨some ⟨.d0, .d3, .d5⟩, .pick (.t ⟨.d0, .d2, .d5⟩) (.t ⟨.d0, .d3, .d4⟩) (.c (.bool false)), none⟩])
        (.cond (.t ⟨.d0, .d3, .d5⟩)
          (.region [⟨some ⟨.d0, .d3, .d6⟩, .fieldAddr 6 (.t ⟨.d0, .d1, .d1⟩), none⟩,
            ⟨some ⟨.d0, .d3, .d7⟩, .load false 1 (.t ⟨.d0, .d3, .d6⟩), none⟩,
            ⟨some ⟨.d0, .d0, .d7⟩, .move (.t ⟨.d0, .d3, .d7⟩), none⟩])
          (.skip)))))
      (.region [⟨some ⟨.d0, .d4, .d0⟩, .bin .add (.t ⟨.d0, .d1, .d5⟩) (.c (.int .i64 1)), none⟩,
        ⟨some ⟨.d0, .d1, .d5⟩, .move (.t ⟨.d0, .d4, .d0⟩), none⟩])))))))
  (.seq (.region [⟨some ⟨.d0, .d4, .d1⟩, .move (.t ⟨.d0, .d0, .d7⟩), none⟩,
    ⟨some ⟨.d0, .d0, .d6⟩, .move (.t ⟨.d0, .d4, .d1⟩), none⟩])
  (.ret))))
def r_custref_PortOf : List XR := [.tmp ⟨.d0, .d0, .d6⟩]
theorem ok_custref_PortOf : okC Try.prog Try.f47.ntmps (bodyOf Try.f47) x_custref_PortOf = true := by kernel_rfl
theorem okr_custref_PortOf : okRs Try.prog Try.f47.results.toList r_custref_PortOf = true := by kernel_rfl

/-- slices.Equal -/
def x_slices_Equal_api_Station : XC :=
  .seq (.region [⟨some ⟨.d0, .d0, .d4⟩, .move (.c (.bool false)), none⟩])
  (.seq (.seq (.region [⟨some ⟨.d0, .d0, .d6⟩, .move (.t ⟨.d0, .d0, .d0⟩), none⟩,
    ⟨some ⟨.d0, .d0, .d7⟩, .len (.t ⟨.d0, .d0, .d6⟩), none⟩,
    ⟨some ⟨.d0, .d1, .d0⟩, .move (.t ⟨.d0, .d0, .d1⟩), none⟩,
    ⟨some ⟨.d0, .d1, .d1⟩, .len (.t ⟨.d0, .d1, .d0⟩), none⟩,
    ⟨some ⟨.d0, .d1, .d2⟩, .bin .neq (.t ⟨.d0, .d0, .d7⟩) (.t ⟨.d0, .d1, .d1⟩), none⟩])
  (.cond (.t ⟨.d0, .d1, .d2⟩)
    (.seq (.region [⟨some ⟨.d0, .d0, .d4⟩, .move (.c (.bool false)), none⟩])
    (.ret))
    (.skip)))
  (.seq (.seq (.region [⟨some ⟨.d0, .d1, .d3⟩, .move (.t ⟨.d0, .d0, .d0⟩), none⟩,
    ⟨some ⟨.d0, .d1, .d4⟩, .len (.t ⟨.d0, .d1, .d3⟩), none⟩,
    ⟨some ⟨.d0, .d1, .d5⟩, .move (.c (.int .i64 0)), none⟩])
  (.block 0
    (.loop
      (.seq (.region [⟨some ⟨.d0, .d1, .d6⟩, .bin .lss (.t ⟨.d0, .d1, .d5⟩) (.t ⟨.d0, .d1, .d4⟩), none⟩])
      (.seq (.cond (.t ⟨.d0, .d1, .d6⟩)
        (.skip)
        (.exit 0))
      (.seq (.block 1
        (.seq (.region [⟨some ⟨.d0, .d1, .d7⟩, .move (.t ⟨.d0, .d1, .d5⟩), none⟩,
          ⟨some ⟨.d0, .d0, .d5⟩, .move (.t ⟨.d0, .d1, .d7⟩), none⟩])
        (.seq (.regionD [0, 0, 3, 7, 0, 0, 48, 112, 255] [⟨some ⟨.d0, .d2, .d0⟩, .move (.t ⟨.d0, .d0, .d0⟩), none⟩,
          ⟨some ⟨.d0, .d2, .d1⟩, .move (.t ⟨.d0, .d0, .d5⟩), none⟩,
          ⟨some ⟨.d0, .d2, .d2⟩, .indexSl 8 (.t ⟨.d0, .d2, .d0⟩) (.t ⟨.d0, .d2, .d1⟩), none⟩,
          ⟨some ⟨.d0, .d2, .d3⟩, .load true 8 (.t ⟨.d0, .d2, .d2⟩), none⟩,
          ⟨some ⟨.d0, .d2, .d4⟩, .move (.t ⟨.d0, .d0, .d1⟩), none⟩,
          ⟨some ⟨.d0, .d2, .d5⟩, .move (.t ⟨.d0, .d0, .d5⟩), none⟩,
          ⟨some ⟨.d0, .d2, .d6⟩, .indexSl 8 (.t ⟨.d0, .d2, .d4⟩) (.t ⟨.d0, .d2, .d5⟩), none⟩,
          ⟨some ⟨.d0, .d2, .d7⟩, .load true 8 (.t ⟨.d0, .d2, .d6⟩), none⟩,
          ⟨some ⟨.d0, .d3, .d0⟩, .eqs true [0, 0, 0, 0, 0, 0, 0, 0] (.t ⟨.d0, .d2, .d3⟩) (.t ⟨.d0, .d2, .d7⟩), none⟩])
        (.cond (.t ⟨.d0, .d3, .d0⟩)
          (.seq (.region [⟨some ⟨.d0, .d0, .d4⟩, .move (.c (.bool false)), none⟩])
          (.ret))
          (.skip)))))
      (.region [⟨some ⟨.d0, .d3, .d1⟩, .bin .add (.t ⟨.d0, .d1, .d5⟩) (.c (.int .i64 1)), none⟩,
        ⟨some ⟨.d0, .d1, .d5⟩, .move (.t ⟨.d0, .d3, .d1⟩), none⟩])))))))
  (.seq (.region [⟨some ⟨.d0, .d0, .d4⟩, .move (.c (.bool true)), none⟩])
  (.ret))))
def r_slices_Equal_api_Station : List XR := [.tmp ⟨.d0, .d0, .d4⟩]
theorem ok_slices_Equal_api_Station : okC Try.prog Try.f48.ntmps (bodyOf Try.f48) x_slices_Equal_api_Station = true := by kernel_rfl
theorem okr_slices_Equal_api_Station : okRs Try.prog Try.f48.results.toList r_slices_Equal_api_Station = true := by kernel_rfl

/-- ports.Check -/
def x_ports_Check : XC :=
  .seq (.region [⟨some ⟨.d0, .d0, .d1⟩, .box 0 2 (.t ⟨.d0, .d0, .d0⟩), none⟩,
    ⟨some ⟨.d0, .d0, .d2⟩, .move (.c (.int .i64 0)), none⟩])
  (.seq (.seq (.region [⟨some ⟨.d0, .d0, .d3⟩, .fieldAddr 0 (.t ⟨.d0, .d0, .d1⟩), none⟩,
    ⟨some ⟨.d0, .d0, .d4⟩, .load false 1 (.t ⟨.d0, .d0, .d3⟩), none⟩,
    ⟨some ⟨.d0, .d0, .d5⟩, .bin .lss (.t ⟨.d0, .d0, .d4⟩) (.c (.int .i64 64)), none⟩,
    ⟨some ⟨.d0, .d0, .d6⟩, .move (.t ⟨.d0, .d0, .d5⟩), none⟩,
    ⟨some ⟨.d0, .d0, .d7⟩, .fieldAddr 0 (.t ⟨.d0, .d0, .d1⟩), some (⟨.d0, .d0, .d6⟩, false)⟩,
    ⟨some ⟨.d0, .d1, .d0⟩, .load false 1 (.t ⟨.d0, .d0, .d7⟩), some (⟨.d0, .d0, .d6⟩, false)⟩,
    ⟨some ⟨.d0, .d1, .d1⟩, .bin .gtr (.t ⟨.d0, .d1, .d0⟩) (.c (.int .i64 65472)), some (⟨.d0, .d0, .d6⟩, false)⟩,
    ⟨some ⟨.d0, .d1, .d2⟩, .pick (.t ⟨.d0, .d0, .d6⟩) (.c (.bool true)) (.t ⟨.d0, .d1, .d1⟩), none⟩,
    ⟨some ⟨.d0, .d1, .d3⟩, .move (.t ⟨.d0, .d1, .d2⟩), none⟩,
    ⟨some ⟨.d0, .d1, .d4⟩, .fieldAddr 0 (.t ⟨.d0, .d0, .d1⟩), some (⟨.d0, .d1, .d3⟩, false)⟩,
    ⟨some ⟨.d0, .d1, .d5⟩, .load false 1 (.t ⟨.d0, .d1, .d4⟩), some (⟨.d0, .d1, .d3⟩, false)⟩,
    ⟨some ⟨.d0, .d1, .d6⟩, .bin .rem (.t ⟨.d0, .d1, .d5⟩) (.c (.int .i64 64)), some (⟨.d0, .d1, .d3⟩, false)⟩,
    ⟨some ⟨.d0, .d1, .d7⟩, .bin .neq (.t ⟨.d0, .d1, .d6⟩) (.c (.int .i64 0)), some (⟨.d0, .d1, .d3⟩, false)⟩,
    ⟨some ⟨.d0, .d2, .d0⟩, .pick (.t ⟨.d0, .d1, .d3⟩) (.c (.bool true)) (.t ⟨.d0, .d1, .d7⟩), none⟩])
  (.cond (.t ⟨.d0, .d2, .d0⟩)
    (.seq (.region [⟨some ⟨.d0, .d0, .d2⟩, .move (.c (.int .i64 1)), none⟩])
    (.ret))
    (.skip)))
  (.seq (.region [⟨some ⟨.d0, .d0, .d2⟩, .move (.c (.int .i64 0)), none⟩])
  (.ret)))
def r_ports_Check : List XR := [.tmp ⟨.d0, .d0, .d2⟩]
theorem ok_ports_Check : okC Try.prog Try.f49.ntmps (bodyOf Try.f49) x_ports_Check = true := by kernel_rfl
theorem okr_ports_Check : okRs Try.prog Try.f49.results.toList r_ports_Check = true := by kernel_rfl

/-- nat.place -/
def x_nat_place : XC :=
  .seq (.region [⟨some ⟨.d0, .d0, .d4⟩, .move (.c (.pointer none)), none⟩])
  (.seq (.seq (.region [⟨some ⟨.d0, .d0, .d5⟩, .move (.t ⟨.d0, .d0, .d1⟩), none⟩])
  (.block 0
    (.seq (.region [⟨some ⟨.d0, .d0, .d7⟩, .bin .eql (.t ⟨.d0, .d0, .d5⟩) (.c (.int .i64 17)), none⟩,
      ⟨some ⟨.d0, .d0, .d6⟩, .move (.t ⟨.d0, .d0, .d7⟩), none⟩])
    (.cond (.t ⟨.d0, .d0, .d6⟩)
      (.seq (.region [⟨some ⟨.d0, .d1, .d0⟩, .move (.t ⟨.d0, .d0, .d0⟩), none⟩,
        ⟨some ⟨.d0, .d1, .d1⟩, .nilCheck (.t ⟨.d0, .d1, .d0⟩), none⟩,
        ⟨some ⟨.d0, .d1, .d2⟩, .fieldAddr 1 (.t ⟨.d0, .d1, .d1⟩), none⟩,
        ⟨some ⟨.d0, .d0, .d4⟩, .move (.t ⟨.d0, .d1, .d2⟩), none⟩])
      (.ret))
      (.seq (.region [⟨some ⟨.d0, .d1, .d4⟩, .bin .eql (.t ⟨.d0, .d0, .d5⟩) (.c (.int .i64 6)), none⟩,
        ⟨some ⟨.d0, .d1, .d3⟩, .move (.t ⟨.d0, .d1, .d4⟩), none⟩])
      (.cond (.t ⟨.d0, .d1, .d3⟩)
        (.seq (.region [⟨some ⟨.d0, .d1, .d5⟩, .move (.t ⟨.d0, .d0, .d0⟩), none⟩,
          ⟨some ⟨.d0, .d1, .d6⟩, .nilCheck (.t ⟨.d0, .d1, .d5⟩), none⟩,
          ⟨some ⟨.d0, .d1, .d7⟩, .fieldAddr 3 (.t ⟨.d0, .d1, .d6⟩), none⟩,
          ⟨some ⟨.d0, .d0, .d4⟩, .move (.t ⟨.d0, .d1, .d7⟩), none⟩])
        (.ret))
        (.skip)))))))
  (.seq (.region [⟨some ⟨.d0, .d0, .d4⟩, .move (.c (.pointer none)), none⟩])
  (.ret)))
def r_nat_place : List XR := [.tmp ⟨.d0, .d0, .d4⟩]
theorem ok_nat_place : okC Try.prog Try.f50.ntmps (bodyOf Try.f50) x_nat_place = true := by kernel_rfl
theorem okr_nat_place : okRs Try.prog Try.f50.results.toList r_nat_place = true := by kernel_rfl

/-- nat.within -/
def x_nat_within : XC :=
  .seq (.region [⟨some ⟨.d0, .d0, .d4⟩, .box 0 6 (.t ⟨.d0, .d0, .d0⟩), none⟩,
    ⟨some ⟨.d0, .d0, .d5⟩, .box 1 1 (.t ⟨.d0, .d0, .d1⟩), none⟩,
    ⟨some ⟨.d0, .d0, .d6⟩, .box 2 1 (.t ⟨.d0, .d0, .d2⟩), none⟩,
    ⟨some ⟨.d0, .d0, .d7⟩, .box 3 1 (.t ⟨.d0, .d0, .d3⟩), none⟩,
    ⟨some ⟨.d0, .d1, .d0⟩, .move (.c (.int .i64 0)), none⟩])
  (.seq (.region [⟨some ⟨.d0, .d1, .d1⟩, .fieldAddr 5 (.t ⟨.d0, .d0, .d4⟩), none⟩,
    ⟨some ⟨.d0, .d1, .d2⟩, .load false 1 (.t ⟨.d0, .d1, .d1⟩), none⟩,
    ⟨some ⟨.d0, .d1, .d3⟩, .mkfn 66 [] [(.t ⟨.d0, .d0, .d5⟩), (.t ⟨.d0, .d0, .d6⟩), (.t ⟨.d0, .d0, .d7⟩)], none⟩,
    ⟨some ⟨.d0, .d1, .d4⟩, .call 26 [(.t ⟨.d0, .d1, .d2⟩), (.t ⟨.d0, .d1, .d3⟩)], none⟩,
    ⟨some ⟨.d0, .d1, .d0⟩, .move (.t ⟨.d0, .d1, .d4⟩), none⟩])
  (.ret))
def r_nat_within : List XR := [.tmp ⟨.d0, .d1, .d0⟩]
theorem ok_nat_within : okC Try.prog Try.f51.ntmps (bodyOf Try.f51) x_nat_within = true := by kernel_rfl
theorem okr_nat_within : okRs Try.prog Try.f51.results.toList r_nat_within = true := by kernel_rfl

/-- ports.End -/
def x_ports_End : XC :=
  .seq (.region [⟨some ⟨.d0, .d0, .d2⟩, .box 0 2 (.t ⟨.d0, .d0, .d0⟩), none⟩,
    ⟨some ⟨.d0, .d0, .d4⟩, .alloc 1 [.int .i64 0, .int .u64 0], none⟩,
    ⟨some ⟨.d0, .d0, .d5⟩, .move (.c (.int .i64 0)), none⟩])
  (.seq (.seq (.region [⟨some ⟨.d0, .d0, .d7⟩, .load true 2 (.t ⟨.d0, .d0, .d2⟩), none⟩,
    ⟨some ⟨.d0, .d1, .d0⟩, .call 49 [(.t ⟨.d0, .d0, .d7⟩)], none⟩,
    ⟨some ⟨.d0, .d0, .d6⟩, .move (.t ⟨.d0, .d1, .d0⟩), none⟩])
  (.seq (.region [⟨some ⟨.d0, .d1, .d1⟩, .move (.t ⟨.d0, .d0, .d6⟩), none⟩,
    ⟨some ⟨.d0, .d1, .d2⟩, .bin .neq (.t ⟨.d0, .d1, .d1⟩) (.c (.int .i64 0)), none⟩])
  (.cond (.t ⟨.d0, .d1, .d2⟩)
    (.seq (.region [⟨some ⟨.d0, .d1, .d3⟩, .build [.int .i64 0, .int .u64 0] [], none⟩,
      ⟨some ⟨.d0, .d1, .d4⟩, .move (.t ⟨.d0, .d0, .d6⟩), none⟩,
      ⟨none, .store 2 (.t ⟨.d0, .d0, .d4⟩) (.t ⟨.d0, .d1, .d3⟩), none⟩,
      ⟨some ⟨.d0, .d0, .d5⟩, .move (.t ⟨.d0, .d1, .d4⟩), none⟩])
    (.ret))
    (.skip))))
  (.seq (.seq (.region [⟨some ⟨.d0, .d1, .d5⟩, .move (.t ⟨.d0, .d0, .d1⟩), none⟩,
    ⟨some ⟨.d0, .d1, .d6⟩, .fieldAddr 0 (.t ⟨.d0, .d0, .d2⟩), none⟩,
    ⟨some ⟨.d0, .d1, .d7⟩, .load false 1 (.t ⟨.d0, .d1, .d6⟩), none⟩,
    ⟨some ⟨.d0, .d2, .d0⟩, .bin .lss (.t ⟨.d0, .d1, .d5⟩) (.t ⟨.d0, .d1, .d7⟩), none⟩,
    ⟨some ⟨.d0, .d2, .d1⟩, .move (.t ⟨.d0, .d2, .d0⟩), none⟩,
    ⟨some ⟨.d0, .d2, .d2⟩, .move (.t ⟨.d0, .d0, .d1⟩), some (⟨.d0, .d2, .d1⟩, false)⟩,
    ⟨some ⟨.d0, .d2, .d3⟩, .fieldAddr 0 (.t ⟨.d0, .d0, .d2⟩), some (⟨.d0, .d2, .d1⟩, false)⟩,
    ⟨some ⟨.d0, .d2, .d4⟩, .load false 1 (.t ⟨.d0, .d2, .d3⟩), some (⟨.d0, .d2, .d1⟩, false)⟩,
    ⟨some ⟨.d0, .d2, .d5⟩, .bin .add (.t ⟨.d0, .d2, .d4⟩) (.c (.int .i64 63)), some (⟨.d0, .d2, .d1⟩, false)⟩,
    ⟨some ⟨.d0, .d2, .d6⟩, .bin .gtr (.t ⟨.d0, .d2, .d2⟩) (.t ⟨.d0, .d2, .d5⟩), some (⟨.d0, .d2, .d1⟩, false)⟩,
    ⟨some ⟨.d0, .d2, .d7⟩, .pick (.t ⟨.d0, .d2, .d1⟩) (.c (.bool true)) (.t ⟨.d0, .d2, .d6⟩), none⟩,
    ⟨some ⟨.d0, .d3, .d0⟩, .move (.t ⟨.d0, .d2, .d7⟩), none⟩,
    ⟨some ⟨.d0, .d3, .d1⟩, .fieldAddr 1 (.t ⟨.d0, .d0, .d2⟩), some (⟨.d0, .d3, .d0⟩, false)⟩,
    ⟨some ⟨.d0, .d3, .d2⟩, .load false 1 (.t ⟨.d0, .d3, .d1⟩), some (⟨.d0, .d3, .d0⟩, false)⟩,
    ⟨some ⟨.d0, .d3, .d3⟩, .move (.t ⟨.d0, .d0, .d1⟩), some (⟨.d0, .d3, .d0⟩, false)⟩,
    ⟨some ⟨.d0, .d3, .d4⟩, .fieldAddr 0 (.t ⟨.d0, .d0, .d2⟩), some (⟨.d0, .d3, .d0⟩, false)⟩,
    ⟨some ⟨.d0, .d3, .d5⟩, .load false 1 (.t ⟨.d0, .d3, .d4⟩), some (⟨.d0, .d3, .d0⟩, false)⟩,
    ⟨some ⟨.d0, .d3, .d6⟩, .bin .sub (.t ⟨.d0, .d3, .d3⟩) (.t ⟨.d0, .d3, .d5⟩), some (⟨.d0, .d3, .d0⟩, false)⟩,
    ⟨some ⟨.d0, .d3, .d7⟩, .bin .shr (.t ⟨.d0, .d3, .d2⟩) (.t ⟨.d0, .d3, .d6⟩), some (⟨.d0, .d3, .d0⟩, false)⟩,
    ⟨some ⟨.d0, .d4, .d0⟩, .bin .and (.t ⟨.d0, .d3, .d7⟩) (.c (.int .u64 1)), some (⟨.d0, .d3, .d0⟩, false)⟩,
    ⟨some ⟨.d0, .d4, .d1⟩, .bin .eql (.t ⟨.d0, .d4, .d0⟩) (.c (.int .u64 0)), some (⟨.d0, .d3, .d0⟩, false)⟩,
    ⟨some ⟨.d0, .d4, .d2⟩, .pick (.t ⟨.d0, .d3, .d0⟩) (.c (.bool true)) (.t ⟨.d0, .d4, .d1⟩), none⟩])
  (.cond (.t ⟨.d0, .d4, .d2⟩)
    (.seq (.region [⟨some ⟨.d0, .d4, .d3⟩, .build [.int .i64 0, .int .u64 0] [], none⟩,
      ⟨none, .store 2 (.t ⟨.d0, .d0, .d4⟩) (.t ⟨.d0, .d4, .d3⟩), none⟩,
      ⟨some ⟨.d0, .d0, .d5⟩, .move (.c (.int .i64 7)), none⟩])
    (.ret))
    (.skip)))
  (.seq (.regionD [0, 1, 0, 0, 8, 28, 60, 127, 255, 511] [⟨some ⟨.d0, .d4, .d4⟩, .fieldAddr 1 (.t ⟨.d0, .d0, .d2⟩), none⟩,
    ⟨some ⟨.d0, .d4, .d5⟩, .load false 1 (.t ⟨.d0, .d4, .d4⟩), none⟩,
    ⟨some ⟨.d0, .d4, .d6⟩, .move (.t ⟨.d0, .d0, .d1⟩), none⟩,
    ⟨some ⟨.d0, .d4, .d7⟩, .fieldAddr 0 (.t ⟨.d0, .d0, .d2⟩), none⟩,
    ⟨some ⟨.d0, .d5, .d0⟩, .load false 1 (.t ⟨.d0, .d4, .d7⟩), none⟩,
    ⟨some ⟨.d0, .d5, .d1⟩, .bin .sub (.t ⟨.d0, .d4, .d6⟩) (.t ⟨.d0, .d5, .d0⟩), none⟩,
    ⟨some ⟨.d0, .d5, .d2⟩, .bin .shl (.c (.int .u64 1)) (.t ⟨.d0, .d5, .d1⟩), none⟩,
    ⟨some ⟨.d0, .d5, .d3⟩, .bin .xor (.t ⟨.d0, .d4, .d5⟩) (.t ⟨.d0, .d5, .d2⟩), none⟩,
    ⟨some ⟨.d0, .d5, .d4⟩, .fieldAddr 1 (.t ⟨.d0, .d0, .d2⟩), none⟩,
    ⟨none, .store 1 (.t ⟨.d0, .d5, .d4⟩) (.t ⟨.d0, .d5, .d3⟩), none⟩])
  (.seq (.region [⟨some ⟨.d0, .d5, .d5⟩, .load true 2 (.t ⟨.d0, .d0, .d2⟩), none⟩,
    ⟨none, .store 2 (.t ⟨.d0, .d0, .d4⟩) (.t ⟨.d0, .d5, .d5⟩), none⟩,
    ⟨some ⟨.d0, .d0, .d5⟩, .move (.c (.int .i64 0)), none⟩])
  (.ret)))))
def r_ports_End : List XR := [.cell ⟨.d0, .d0, .d4⟩ true 2, .tmp ⟨.d0, .d0, .d5⟩]
theorem ok_ports_End : okC Try.prog Try.f52.ntmps (bodyOf Try.f52) x_ports_End = true := by kernel_rfl
theorem okr_ports_End : okRs Try.prog Try.f52.results.toList r_ports_End = true := by kernel_rfl

/-- custref.PortsRight -/
def x_custref_PortsRight : XC :=
  .seq (.region [⟨some ⟨.d0, .d0, .d1⟩, .box 0 2 (.t ⟨.d0, .d0, .d0⟩), none⟩,
    ⟨some ⟨.d0, .d0, .d2⟩, .move (.c (.int .i64 0)), none⟩])
  (.seq (.seq (.region [⟨some ⟨.d0, .d0, .d3⟩, .fieldAddr 0 (.t ⟨.d0, .d0, .d1⟩), none⟩,
    ⟨some ⟨.d0, .d0, .d4⟩, .load false 1 (.t ⟨.d0, .d0, .d3⟩), none⟩,
    ⟨some ⟨.d0, .d0, .d5⟩, .call 25 [(.t ⟨.d0, .d0, .d4⟩), (.c (.int .i64 64)), (.c (.int .i64 65472))], none⟩,
    ⟨some ⟨.d0, .d0, .d6⟩, .un .not (.t ⟨.d0, .d0, .d5⟩), none⟩,
    ⟨some ⟨.d0, .d0, .d7⟩, .move (.t ⟨.d0, .d0, .d6⟩), none⟩,
    ⟨some ⟨.d0, .d1, .d0⟩, .fieldAddr 0 (.t ⟨.d0, .d0, .d1⟩), some (⟨.d0, .d0, .d7⟩, false)⟩,
    ⟨some ⟨.d0, .d1, .d1⟩, .load false 1 (.t ⟨.d0, .d1, .d0⟩), some (⟨.d0, .d0, .d7⟩, false)⟩,
    ⟨some ⟨.d0, .d1, .d2⟩, .bin .rem (.t ⟨.d0, .d1, .d1⟩) (.c (.int .i64 64)), some (⟨.d0, .d0, .d7⟩, false)⟩,
    ⟨some ⟨.d0, .d1, .d3⟩, .bin .neq (.t ⟨.d0, .d1, .d2⟩) (.c (.int .i64 0)), some (⟨.d0, .d0, .d7⟩, false)⟩,
    ⟨some ⟨.d0, .d1, .d4⟩, .pick (.t ⟨.d0, .d0, .d7⟩) (.c (.bool true)) (.t ⟨.d0, .d1, .d3⟩), none⟩])
  (.cond (.t ⟨.d0, .d1, .d4⟩)
    (.seq (.region [⟨some ⟨.d0, .d0, .d2⟩, .move (.c (.int .i64 1)), none⟩])
    (.ret))
    (.skip)))
  (.seq (.region [⟨some ⟨.d0, .d0, .d2⟩, .move (.c (.int .i64 0)), none⟩])
  (.ret)))
def r_custref_PortsRight : List XR := [.tmp ⟨.d0, .d0, .d2⟩]
theorem ok_custref_PortsRight : okC Try.prog Try.f53.ntmps (bodyOf Try.f53) x_custref_PortsRight = true := by kernel_rfl
theorem okr_custref_PortsRight : okRs Try.prog Try.f53.results.toList r_custref_PortsRight = true := by kernel_rfl

/-- custref.NatTaken -/
def x_custref_NatTaken : XC :=
  .seq (.region [⟨some ⟨.d0, .d0, .d1⟩, .box 0 2 (.t ⟨.d0, .d0, .d0⟩), none⟩,
    ⟨some ⟨.d0, .d0, .d2⟩, .move (.c (.slice none 0 0)), none⟩])
  (.seq (.region [⟨some ⟨.d0, .d0, .d3⟩, .move (.c (.slice none 0 0)), none⟩])
  (.seq (.seq (.region [⟨some ⟨.d0, .d0, .d5⟩, .move (.c (.int .i64 0)), none⟩])
  (.block 0
    (.loop
      (.seq (.region [⟨some ⟨.d0, .d0, .d6⟩, .bin .lss (.t ⟨.d0, .d0, .d5⟩) (.c (.int .i64 64)), none⟩])
      (.seq (.cond (.t ⟨.d0, .d0, .d6⟩)
        (.skip)
        (.exit 0))
      (.seq (.block 1
        (.seq (.region [⟨some ⟨.d0, .d0, .d7⟩, .move (.t ⟨.d0, .d0, .d5⟩), none⟩,
          ⟨some ⟨.d0, .d0, .d4⟩, .move (.t ⟨.d0, .d0, .d7⟩), none⟩])
        (.seq (.regionD [0, 1, 0, 4, 0, 28, 63, 127] [⟨some ⟨.d0, .d1, .d0⟩, .load true 2 (.t ⟨.d0, .d0, .d1⟩), none⟩,
          ⟨some ⟨.d0, .d1, .d1⟩, .call 68 [(.t ⟨.d0, .d1, .d0⟩)], none⟩,
          ⟨some ⟨.d0, .d1, .d2⟩, .fieldAddr 0 (.t ⟨.d0, .d0, .d1⟩), none⟩,
          ⟨some ⟨.d0, .d1, .d3⟩, .load false 1 (.t ⟨.d0, .d1, .d2⟩), none⟩,
          ⟨some ⟨.d0, .d1, .d4⟩, .move (.t ⟨.d0, .d0, .d4⟩), none⟩,
          ⟨some ⟨.d0, .d1, .d5⟩, .bin .add (.t ⟨.d0, .d1, .d3⟩) (.t ⟨.d0, .d1, .d4⟩), none⟩,
          ⟨some ⟨.d0, .d1, .d6⟩, .call 67 [(.t ⟨.d0, .d1, .d1⟩), (.t ⟨.d0, .d1, .d5⟩)], none⟩,
          ⟨some ⟨.d0, .d1, .d7⟩, .un .not (.t ⟨.d0, .d1, .d6⟩), none⟩])
        (.cond (.t ⟨.d0, .d1, .d7⟩)
          (.region [⟨some ⟨.d0, .d2, .d0⟩, .move (.t ⟨.d0, .d0, .d3⟩), none⟩,
            ⟨some ⟨.d0, .d2, .d1⟩, .fieldAddr 0 (.t ⟨.d0, .d0, .d1⟩), none⟩,
            ⟨some ⟨.d0, .d2, .d2⟩, .load false 1 (.t ⟨.d0, .d2, .d1⟩), none⟩,
            ⟨some ⟨.d0, .d2, .d3⟩, .move (.t ⟨.d0, .d0, .d4⟩), none⟩,
            ⟨some ⟨.d0, .d2, .d4⟩, .bin .add (.t ⟨.d0, .d2, .d2⟩) (.t ⟨.d0, .d2, .d3⟩), none⟩,
            ⟨some ⟨.d0, .d2, .d5⟩, .buildSlice 1 1 [.int .i64 0] [(0, (.t ⟨.d0, .d2, .d4⟩))], none⟩,
            ⟨some ⟨.d0, .d2, .d6⟩, .append 2 1 8 (.t ⟨.d0, .d2, .d0⟩) (.t ⟨.d0, .d2, .d5⟩), none⟩,
            ⟨some ⟨.d0, .d0, .d3⟩, .move (.t ⟨.d0, .d2, .d6⟩), none⟩])
          (.skip)))))
      (.region [⟨some ⟨.d0, .d2, .d7⟩, .bin .add (.t ⟨.d0, .d0, .d5⟩) (.c (.int .i64 1)), none⟩,
        ⟨some ⟨.d0, .d0, .d5⟩, .move (.t ⟨.d0, .d2, .d7⟩), none⟩])))))))
  (.seq (.region [⟨some ⟨.d0, .d3, .d0⟩, .move (.t ⟨.d0, .d0, .d3⟩), none⟩,
    ⟨some ⟨.d0, .d0, .d2⟩, .move (.t ⟨.d0, .d3, .d0⟩), none⟩])
  (.ret))))
def r_custref_NatTaken : List XR := [.tmp ⟨.d0, .d0, .d2⟩]
theorem ok_custref_NatTaken : okC Try.prog Try.f54.ntmps (bodyOf Try.f54) x_custref_NatTaken = true := by kernel_rfl
theorem okr_custref_NatTaken : okRs Try.prog Try.f54.results.toList r_custref_NatTaken = true := by kernel_rfl

/-- eth.wordAt -/
def x_eth_wordAt : XC :=
  .seq (.region [⟨some ⟨.d0, .d0, .d4⟩, .move (.c (.int .i64 0)), none⟩])
  (.seq (.regionD [0, 0, 3, 7, 15, 0, 0, 64, 224, 480, 1023, 2047] [⟨some ⟨.d0, .d0, .d5⟩, .move (.t ⟨.d0, .d0, .d0⟩), none⟩,
    ⟨some ⟨.d0, .d0, .d6⟩, .move (.t ⟨.d0, .d0, .d1⟩), none⟩,
    ⟨some ⟨.d0, .d0, .d7⟩, .strAt (.t ⟨.d0, .d0, .d5⟩) (.t ⟨.d0, .d0, .d6⟩), none⟩,
    ⟨some ⟨.d0, .d1, .d0⟩, .convInt .i64 (.t ⟨.d0, .d0, .d7⟩), none⟩,
    ⟨some ⟨.d0, .d1, .d1⟩, .bin .shl (.t ⟨.d0, .d1, .d0⟩) (.c (.int .u64 8)), none⟩,
    ⟨some ⟨.d0, .d1, .d2⟩, .move (.t ⟨.d0, .d0, .d0⟩), none⟩,
    ⟨some ⟨.d0, .d1, .d3⟩, .move (.t ⟨.d0, .d0, .d1⟩), none⟩,
    ⟨some ⟨.d0, .d1, .d4⟩, .bin .add (.t ⟨.d0, .d1, .d3⟩) (.c (.int .i64 1)), none⟩,
    ⟨some ⟨.d0, .d1, .d5⟩, .strAt (.t ⟨.d0, .d1, .d2⟩) (.t ⟨.d0, .d1, .d4⟩), none⟩,
    ⟨some ⟨.d0, .d1, .d6⟩, .convInt .i64 (.t ⟨.d0, .d1, .d5⟩), none⟩,
    ⟨some ⟨.d0, .d1, .d7⟩, .bin .or (.t ⟨.d0, .d1, .d1⟩) (.t ⟨.d0, .d1, .d6⟩), none⟩,
    ⟨some ⟨.d0, .d0, .d4⟩, .move (.t ⟨.d0, .d1, .d7⟩), none⟩])
  (.ret))
def r_eth_wordAt : List XR := [.tmp ⟨.d0, .d0, .d4⟩]
theorem ok_eth_wordAt : okC Try.prog Try.f60.ntmps (bodyOf Try.f60) x_eth_wordAt = true := by kernel_rfl
theorem okr_eth_wordAt : okRs Try.prog Try.f60.results.toList r_eth_wordAt = true := by kernel_rfl

/-- slices.DeleteFunc -/
def x_slices_DeleteFunc_api_Station : XC :=
  .seq (.region [⟨some ⟨.d0, .d0, .d4⟩, .move (.c (.slice none 0 0)), none⟩])
  (.seq (.region [⟨some ⟨.d0, .d1, .d0⟩, .move (.t ⟨.d0, .d0, .d0⟩), none⟩,
    ⟨some ⟨.d0, .d1, .d1⟩, .move (.t ⟨.d0, .d0, .d1⟩), none⟩,
    ⟨some ⟨.d0, .d1, .d2⟩, .call 71 [(.t ⟨.d0, .d1, .d0⟩), (.t ⟨.d0, .d1, .d1⟩)], none⟩,
    ⟨some ⟨.d0, .d0, .d5⟩, .move (.t ⟨.d0, .d1, .d2⟩), none⟩])
  (.seq (.seq (.region [⟨some ⟨.d0, .d1, .d3⟩, .move (.t ⟨.d0, .d0, .d5⟩), none⟩,
    ⟨some ⟨.d0, .d1, .d4⟩, .bin .eql (.t ⟨.d0, .d1, .d3⟩) (.c (.int .i64 (-1))), none⟩])
  (.cond (.t ⟨.d0, .d1, .d4⟩)
    (.seq (.region [⟨some ⟨.d0, .d1, .d5⟩, .move (.t ⟨.d0, .d0, .d0⟩), none⟩,
      ⟨some ⟨.d0, .d0, .d4⟩, .move (.t ⟨.d0, .d1, .d5⟩), none⟩])
    (.ret))
    (.skip)))
  (.seq (.seq (.region [⟨some ⟨.d0, .d1, .d6⟩, .move (.t ⟨.d0, .d0, .d5⟩), none⟩,
    ⟨some ⟨.d0, .d1, .d7⟩, .bin .add (.t ⟨.d0, .d1, .d6⟩) (.c (.int .i64 1)), none⟩,
    ⟨some ⟨.d0, .d0, .d6⟩, .move (.t ⟨.d0, .d1, .d7⟩), none⟩])
  (.block 0
    (.loop
      (.seq (.seq (.region [⟨some ⟨.d0, .d2, .d0⟩, .move (.t ⟨.d0, .d0, .d6⟩), none⟩,
        ⟨some ⟨.d0, .d2, .d1⟩, .move (.t ⟨.d0, .d0, .d0⟩), none⟩,
        ⟨some ⟨.d0, .d2, .d2⟩, .len (.t ⟨.d0, .d2, .d1⟩), none⟩,
        ⟨some ⟨.d0, .d2, .d3⟩, .bin .lss (.t ⟨.d0, .d2, .d0⟩) (.t ⟨.d0, .d2, .d2⟩), none⟩])
      (.cond (.t ⟨.d0, .d2, .d3⟩)
        (.skip)
        (.exit 0)))
      (.seq (.block 1
        (.seq (.region [⟨some ⟨.d0, .d2, .d6⟩, .move (.t ⟨.d0, .d0, .d0⟩), none⟩,
          ⟨some ⟨.d0, .d2, .d7⟩, .move (.t ⟨.d0, .d0, .d6⟩), none⟩,
          ⟨some ⟨.d0, .d3, .d0⟩, .indexSl 8 (.t ⟨.d0, .d2, .d6⟩) (.t ⟨.d0, .d2, .d7⟩), none⟩,
          ⟨some ⟨.d0, .d3, .d1⟩, .load true 8 (.t ⟨.d0, .d3, .d0⟩), none⟩,
          ⟨some ⟨.d0, .d0, .d7⟩, .alloc 1 [.int .u8 0, .int .u8 0, .int .u8 0, .int .u8 0, .int .u8 0, .int .u8 0, .int .i64 0, .int .i64 0], none⟩,
          ⟨none, .store 8 (.t ⟨.d0, .d0, .d7⟩) (.t ⟨.d0, .d3, .d1⟩), none⟩])
        (.seq (.region [⟨some ⟨.d0, .d3, .d2⟩, .move (.t ⟨.d0, .d0, .d1⟩), none⟩,
          ⟨some ⟨.d0, .d3, .d3⟩, .load true 8 (.t ⟨.d0, .d0, .d7⟩), none⟩,
          ⟨some ⟨.d0, .d3, .d4⟩, .callv (.t ⟨.d0, .d3, .d2⟩) [(.t ⟨.d0, .d3, .d3⟩)], none⟩,
          ⟨some ⟨.d0, .d3, .d5⟩, .un .not (.t ⟨.d0, .d3, .d4⟩), none⟩])
        (.cond (.t ⟨.d0, .d3, .d5⟩)
          (.seq (.region [⟨some ⟨.d0, .d3, .d6⟩, .move (.t ⟨.d0, .d0, .d0⟩), none⟩,
            ⟨some ⟨.d0, .d3, .d7⟩, .move (.t ⟨.d0, .d0, .d5⟩), none⟩,
            ⟨some ⟨.d0, .d4, .d0⟩, .load true 8 (.t ⟨.d0, .d0, .d7⟩), none⟩,
            ⟨some ⟨.d0, .d4, .d1⟩, .indexSl 8 (.t ⟨.d0, .d3, .d6⟩) (.t ⟨.d0, .d3, .d7⟩), none⟩,
            ⟨none, .store 8 (.t ⟨.d0, .d4, .d1⟩) (.t ⟨.d0, .d4, .d0⟩), none⟩])
          (.region [⟨some ⟨.d0, .d4, .d2⟩, .move (.t ⟨.d0, .d0, .d5⟩), none⟩,
            ⟨some ⟨.d0, .d4, .d3⟩, .bin .add (.t ⟨.d0, .d4, .d2⟩) (.c (.int .i64 1)), none⟩,
            ⟨some ⟨.d0, .d0, .d5⟩, .move (.t ⟨.d0, .d4, .d3⟩), none⟩]))
          (.skip)))))
      (.region [⟨some ⟨.d0, .d2, .d4⟩, .move (.t ⟨.d0, .d0, .d6⟩), none⟩,
        ⟨some ⟨.d0, .d2, .d5⟩, .bin .add (.t ⟨.d0, .d2, .d4⟩) (.c (.int .i64 1)), none⟩,
        ⟨some ⟨.d0, .d0, .d6⟩, .move (.t ⟨.d0, .d2, .d5⟩), none⟩]))))))
  (.seq (.region [⟨some ⟨.d0, .d4, .d4⟩, .move (.t ⟨.d0, .d0, .d0⟩), none⟩,
    ⟨some ⟨.d0, .d4, .d5⟩, .move (.t ⟨.d0, .d0, .d5⟩), none⟩,
    ⟨some ⟨.d0, .d4, .d6⟩, .slice 8 (.t ⟨.d0, .d4, .d4⟩) (some (.t ⟨.d0, .d4, .d5⟩)) none none, none⟩,
    ⟨none, .clear [.int .u8 0, .int .u8 0, .int .u8 0, .int .u8 0, .int .u8 0, .int .u8 0, .int .i64 0, .int .i64 0] (.t ⟨.d0, .d4, .d6⟩), none⟩])
  (.seq (.region [⟨some ⟨.d0, .d4, .d7⟩, .move (.t ⟨.d0, .d0, .d0⟩), none⟩,
    ⟨some ⟨.d0, .d5, .d0⟩, .move (.t ⟨.d0, .d0, .d5⟩), none⟩,
    ⟨some ⟨.d0, .d5, .d1⟩, .slice 8 (.t ⟨.d0, .d4, .d7⟩) none (some (.t ⟨.d0, .d5, .d0⟩)) none, none⟩,
    ⟨some ⟨.d0, .d0, .d4⟩, .move (.t ⟨.d0, .d5, .d1⟩), none⟩])
  (.ret))))))
def r_slices_DeleteFunc_api_Station : List XR := [.tmp ⟨.d0, .d0, .d4⟩]
theorem ok_slices_DeleteFunc_api_Station : okC Try.prog Try.f61.ntmps (bodyOf Try.f61) x_slices_DeleteFunc_api_Station = true := by kernel_rfl
theorem okr_slices_DeleteFunc_api_Station : okRs Try.prog Try.f61.results.toList r_slices_DeleteFunc_api_Station = true := by kernel_rfl

/-- bridge.learn-1 -/
def x_bridge_learn_1 : XC :=
  .seq (.region [⟨some ⟨.d0, .d0, .d3⟩, .box 0 8 (.t ⟨.d0, .d0, .d0⟩), none⟩,
    ⟨some ⟨.d0, .d0, .d4⟩, .move (.c (.bool false)), none⟩])
  (.seq (.region [⟨some ⟨.d0, .d0, .d5⟩, .fieldAddr 0 (.t ⟨.d0, .d0, .d3⟩), none⟩,
    ⟨some ⟨.d0, .d0, .d6⟩, .load true 6 (.t ⟨.d0, .d0, .d5⟩), none⟩,
    ⟨some ⟨.d0, .d0, .d7⟩, .fieldAddr 0 (.t ⟨.d0, .d0, .d1⟩), none⟩,
    ⟨some ⟨.d0, .d1, .d0⟩, .load true 6 (.t ⟨.d0, .d0, .d7⟩), none⟩,
    ⟨some ⟨.d0, .d1, .d1⟩, .eqs false [0, 0, 0, 0, 0, 0] (.t ⟨.d0, .d0, .d6⟩) (.t ⟨.d0, .d1, .d0⟩), none⟩,
    ⟨some ⟨.d0, .d1, .d2⟩, .move (.t ⟨.d0, .d1, .d1⟩), none⟩,
    ⟨some ⟨.d0, .d1, .d3⟩, .fieldAddr 7 (.t ⟨.d0, .d0, .d1⟩), some (⟨.d0, .d1, .d2⟩, false)⟩,
    ⟨some ⟨.d0, .d1, .d4⟩, .load false 1 (.t ⟨.d0, .d1, .d3⟩), some (⟨.d0, .d1, .d2⟩, false)⟩,
    ⟨some ⟨.d0, .d1, .d5⟩, .fieldAddr 7 (.t ⟨.d0, .d0, .d3⟩), some (⟨.d0, .d1, .d2⟩, false)⟩,
    ⟨some ⟨.d0, .d1, .d6⟩, .load false 1 (.t ⟨.d0, .d1, .d5⟩), some (⟨.d0, .d1, .d2⟩, false)⟩,
    ⟨some ⟨.d0, .d1, .d7⟩, .bin .sub (.t ⟨.d0, .d1, .d4⟩) (.t ⟨.d0, .d1, .d6⟩), some (⟨.d0, .d1, .d2⟩, false)⟩,
    ⟨some ⟨.d0, .d2, .d0⟩, .fieldAddr 1 (.t ⟨.d0, .d0, .d2⟩), some (⟨.d0, .d1, .d2⟩, false)⟩,
    ⟨some ⟨.d0, .d2, .d1⟩, .load false 1 (.t ⟨.d0, .d2, .d0⟩), some (⟨.d0, .d1, .d2⟩, false)⟩,
    ⟨some ⟨.d0, .d2, .d2⟩, .bin .gtr (.t ⟨.d0, .d1, .d7⟩) (.t ⟨.d0, .d2, .d1⟩), some (⟨.d0, .d1, .d2⟩, false)⟩,
    ⟨some ⟨.d0, .d2, .d3⟩, .pick (.t ⟨.d0, .d1, .d2⟩) (.c (.bool true)) (.t ⟨.d0, .d2, .d2⟩), none⟩,
    ⟨some ⟨.d0, .d0, .d4⟩, .move (.t ⟨.d0, .d2, .d3⟩), none⟩])
  (.ret))
def r_bridge_learn_1 : List XR := [.tmp ⟨.d0, .d0, .d4⟩]
theorem ok_bridge_learn_1 : okC Try.prog Try.f62.ntmps (bodyOf Try.f62) x_bridge_learn_1 = true := by kernel_rfl
theorem okr_bridge_learn_1 : okRs Try.prog Try.f62.results.toList r_bridge_learn_1 = true := by kernel_rfl

/-- slices.Delete -/
def x_slices_Delete_api_Station : XC :=
  .seq (.region [⟨some ⟨.d0, .d0, .d6⟩, .move (.c (.slice none 0 0)), none⟩])
  (.seq (.region [⟨some ⟨.d0, .d1, .d0⟩, .move (.t ⟨.d0, .d0, .d0⟩), none⟩,
    ⟨some ⟨.d0, .d1, .d1⟩, .move (.t ⟨.d0, .d0, .d1⟩), none⟩,
    ⟨some ⟨.d0, .d1, .d2⟩, .move (.t ⟨.d0, .d0, .d2⟩), none⟩,
    ⟨some ⟨.d0, .d1, .d3⟩, .move (.t ⟨.d0, .d0, .d0⟩), none⟩,
    ⟨some ⟨.d0, .d1, .d4⟩, .len (.t ⟨.d0, .d1, .d3⟩), none⟩,
    ⟨some ⟨.d0, .d1, .d5⟩, .sliceW 8 (.t ⟨.d0, .d1, .d0⟩) (some (.t ⟨.d0, .d1, .d1⟩)) (some (.t ⟨.d0, .d1, .d2⟩)) (some (.t ⟨.d0, .d1, .d4⟩)), none⟩])
  (.seq (.seq (.region [⟨some ⟨.d0, .d1, .d6⟩, .move (.t ⟨.d0, .d0, .d1⟩), none⟩,
    ⟨some ⟨.d0, .d1, .d7⟩, .move (.t ⟨.d0, .d0, .d2⟩), none⟩,
    ⟨some ⟨.d0, .d2, .d0⟩, .bin .eql (.t ⟨.d0, .d1, .d6⟩) (.t ⟨.d0, .d1, .d7⟩), none⟩])
  (.cond (.t ⟨.d0, .d2, .d0⟩)
    (.seq (.region [⟨some ⟨.d0, .d2, .d1⟩, .move (.t ⟨.d0, .d0, .d0⟩), none⟩,
      ⟨some ⟨.d0, .d0, .d6⟩, .move (.t ⟨.d0, .d2, .d1⟩), none⟩])
    (.ret))
    (.skip)))
  (.seq (.region [⟨some ⟨.d0, .d2, .d2⟩, .move (.t ⟨.d0, .d0, .d0⟩), none⟩,
    ⟨some ⟨.d0, .d2, .d3⟩, .len (.t ⟨.d0, .d2, .d2⟩), none⟩,
    ⟨some ⟨.d0, .d0, .d7⟩, .move (.t ⟨.d0, .d2, .d3⟩), none⟩])
  (.seq (.regionD [0, 0, 3, 0, 0, 24, 63, 127] [⟨some ⟨.d0, .d2, .d4⟩, .move (.t ⟨.d0, .d0, .d0⟩), none⟩,
    ⟨some ⟨.d0, .d2, .d5⟩, .move (.t ⟨.d0, .d0, .d1⟩), none⟩,
    ⟨some ⟨.d0, .d2, .d6⟩, .sliceW 8 (.t ⟨.d0, .d2, .d4⟩) none (some (.t ⟨.d0, .d2, .d5⟩)) none, none⟩,
    ⟨some ⟨.d0, .d2, .d7⟩, .move (.t ⟨.d0, .d0, .d0⟩), none⟩,
    ⟨some ⟨.d0, .d3, .d0⟩, .move (.t ⟨.d0, .d0, .d2⟩), none⟩,
    ⟨some ⟨.d0, .d3, .d1⟩, .slice 8 (.t ⟨.d0, .d2, .d7⟩) (some (.t ⟨.d0, .d3, .d0⟩)) none none, none⟩,
    ⟨some ⟨.d0, .d3, .d2⟩, .appendW 8 24 (.t ⟨.d0, .d2, .d6⟩) (.t ⟨.d0, .d3, .d1⟩), none⟩,
    ⟨some ⟨.d0, .d0, .d0⟩, .move (.t ⟨.d0, .d3, .d2⟩), none⟩])
  (.seq (.region [⟨some ⟨.d0, .d3, .d3⟩, .move (.t ⟨.d0, .d0, .d0⟩), none⟩,
    ⟨some ⟨.d0, .d3, .d4⟩, .move (.t ⟨.d0, .d0, .d0⟩), none⟩,
    ⟨some ⟨.d0, .d3, .d5⟩, .len (.t ⟨.d0, .d3, .d4⟩), none⟩,
    ⟨some ⟨.d0, .d3, .d6⟩, .move (.t ⟨.d0, .d0, .d7⟩), none⟩,
    ⟨some ⟨.d0, .d3, .d7⟩, .sliceW 8 (.t ⟨.d0, .d3, .d3⟩) (some (.t ⟨.d0, .d3, .d5⟩)) (some (.t ⟨.d0, .d3, .d6⟩)) none, none⟩,
    ⟨none, .clear [.int .u8 0, .int .u8 0, .int .u8 0, .int .u8 0, .int .u8 0, .int .u8 0, .int .i64 0, .int .i64 0] (.t ⟨.d0, .d3, .d7⟩), none⟩])
  (.seq (.region [⟨some ⟨.d0, .d4, .d0⟩, .move (.t ⟨.d0, .d0, .d0⟩), none⟩,
    ⟨some ⟨.d0, .d0, .d6⟩, .move (.t ⟨.d0, .d4, .d0⟩), none⟩])
  (.ret)))))))
def r_slices_Delete_api_Station : List XR := [.tmp ⟨.d0, .d0, .d6⟩]
theorem ok_slices_Delete_api_Station : okC Try.prog Try.f63.ntmps (bodyOf Try.f63) x_slices_Delete_api_Station = true := by kernel_rfl
theorem okr_slices_Delete_api_Station : okRs Try.prog Try.f63.results.toList r_slices_Delete_api_Station = true := by kernel_rfl

/-- custref.WordAt -/
def x_custref_WordAt : XC :=
  .seq (.region [⟨some ⟨.d0, .d0, .d4⟩, .move (.c (.int .i64 0)), none⟩])
  (.seq (.region [⟨some ⟨.d0, .d0, .d6⟩, .move (.t ⟨.d0, .d0, .d0⟩), none⟩,
    ⟨some ⟨.d0, .d0, .d7⟩, .move (.t ⟨.d0, .d0, .d1⟩), none⟩,
    ⟨some ⟨.d0, .d1, .d0⟩, .strAt (.t ⟨.d0, .d0, .d6⟩) (.t ⟨.d0, .d0, .d7⟩), none⟩,
    ⟨some ⟨.d0, .d1, .d1⟩, .convInt .i64 (.t ⟨.d0, .d1, .d0⟩), none⟩,
    ⟨some ⟨.d0, .d1, .d2⟩, .bin .mul (.c (.int .i64 256)) (.t ⟨.d0, .d1, .d1⟩), none⟩,
    ⟨some ⟨.d0, .d0, .d5⟩, .move (.t ⟨.d0, .d1, .d2⟩), none⟩])
  (.seq (.seq (.region [⟨some ⟨.d0, .d1, .d3⟩, .move (.t ⟨.d0, .d0, .d1⟩), none⟩,
    ⟨some ⟨.d0, .d1, .d4⟩, .bin .add (.t ⟨.d0, .d1, .d3⟩) (.c (.int .i64 1)), none⟩,
    ⟨some ⟨.d0, .d1, .d5⟩, .move (.t ⟨.d0, .d0, .d0⟩), none⟩,
    ⟨some ⟨.d0, .d1, .d6⟩, .slen (.t ⟨.d0, .d1, .d5⟩), none⟩,
    ⟨some ⟨.d0, .d1, .d7⟩, .bin .lss (.t ⟨.d0, .d1, .d4⟩) (.t ⟨.d0, .d1, .d6⟩), none⟩])
  (.cond (.t ⟨.d0, .d1, .d7⟩)
    (.region [⟨some ⟨.d0, .d2, .d0⟩, .move (.t ⟨.d0, .d0, .d5⟩), none⟩,
      ⟨some ⟨.d0, .d2, .d1⟩, .move (.t ⟨.d0, .d0, .d0⟩), none⟩,
      ⟨some ⟨.d0, .d2, .d2⟩, .move (.t ⟨.d0, .d0, .d1⟩), none⟩,
      ⟨some ⟨.d0, .d2, .d3⟩, .bin .add (.t ⟨.d0, .d2, .d2⟩) (.c (.int .i64 1)), none⟩,
      ⟨some ⟨.d0, .d2, .d4⟩, .strAt (.t ⟨.d0, .d2, .d1⟩) (.t ⟨.d0, .d2, .d3⟩), none⟩,
      ⟨some ⟨.d0, .d2, .d5⟩, .convInt .i64 (.t ⟨.d0, .d2, .d4⟩), none⟩,
      ⟨some ⟨.d0, .d2, .d6⟩, .bin .add (.t ⟨.d0, .d2, .d0⟩) (.t ⟨.d0, .d2, .d5⟩), none⟩,
      ⟨some ⟨.d0, .d0, .d5⟩, .move (.t ⟨.d0, .d2, .d6⟩), none⟩])
    (.skip)))
  (.seq (.region [⟨some ⟨.d0, .d2, .d7⟩, .move (.t ⟨.d0, .d0, .d5⟩), none⟩,
    ⟨some ⟨.d0, .d0, .d4⟩, .move (.t ⟨.d0, .d2, .d7⟩), none⟩])
  (.ret))))
def r_custref_WordAt : List XR := [.tmp ⟨.d0, .d0, .d4⟩]
theorem ok_custref_WordAt : okC Try.prog Try.f64.ntmps (bodyOf Try.f64) x_custref_WordAt = true := by kernel_rfl
theorem okr_custref_WordAt : okRs Try.prog Try.f64.results.toList r_custref_WordAt = true := by kernel_rfl

/-- custref.MacAt -/
def x_custref_MacAt : XC :=
  .seq (.region [⟨some ⟨.d0, .d0, .d4⟩, .alloc 0 [.int .u8 0, .int .u8 0, .int .u8 0, .int .u8 0, .int .u8 0, .int .u8 0], none⟩])
  (.seq (.region [⟨some ⟨.d0, .d0, .d5⟩, .alloc 1 [.int .u8 0, .int .u8 0, .int .u8 0, .int .u8 0, .int .u8 0, .int .u8 0], none⟩])
  (.seq (.seq (.region [⟨some ⟨.d0, .d0, .d7⟩, .move (.c (.int .i64 0)), none⟩])
  (.block 0
    (.loop
      (.seq (.region [⟨some ⟨.d0, .d1, .d0⟩, .bin .lss (.t ⟨.d0, .d0, .d7⟩) (.c (.int .i64 6)), none⟩])
      (.seq (.cond (.t ⟨.d0, .d1, .d0⟩)
        (.skip)
        (.exit 0))
      (.seq (.block 1
        (.seq (.region [⟨some ⟨.d0, .d1, .d1⟩, .move (.t ⟨.d0, .d0, .d7⟩), none⟩,
          ⟨some ⟨.d0, .d0, .d6⟩, .move (.t ⟨.d0, .d1, .d1⟩), none⟩])
        (.region [⟨some ⟨.d0, .d1, .d2⟩, .move (.t ⟨.d0, .d0, .d6⟩), none⟩,
          ⟨some ⟨.d0, .d1, .d3⟩, .move (.t ⟨.d0, .d0, .d0⟩), none⟩,
          ⟨some ⟨.d0, .d1, .d4⟩, .move (.t ⟨.d0, .d0, .d1⟩), none⟩,
          ⟨some ⟨.d0, .d1, .d5⟩, .move (.t ⟨.d0, .d0, .d6⟩), none⟩,
          ⟨some ⟨.d0, .d1, .d6⟩, .bin .add (.t ⟨.d0, .d1, .d4⟩) (.t ⟨.d0, .d1, .d5⟩), none⟩,
          ⟨some ⟨.d0, .d1, .d7⟩, .strAt (.t ⟨.d0, .d1, .d3⟩) (.t ⟨.d0, .d1, .d6⟩), none⟩,
          ⟨some ⟨.d0, .d2, .d0⟩, .indexArr 1 6 (.t ⟨.d0, .d0, .d5⟩) (.t ⟨.d0, .d1, .d2⟩), none⟩,
          ⟨none, .store 1 (.t ⟨.d0, .d2, .d0⟩) (.t ⟨.d0, .d1, .d7⟩), none⟩])))
      (.region [⟨some ⟨.d0, .d2, .d1⟩, .bin .add (.t ⟨.d0, .d0, .d7⟩) (.c (.int .i64 1)), none⟩,
        ⟨some ⟨.d0, .d0, .d7⟩, .move (.t ⟨.d0, .d2, .d1⟩), none⟩])))))))
  (.seq (.region [⟨some ⟨.d0, .d2, .d2⟩, .load true 6 (.t ⟨.d0, .d0, .d5⟩), none⟩,
    ⟨none, .store 6 (.t ⟨.d0, .d0, .d4⟩) (.t ⟨.d0, .d2, .d2⟩), none⟩])
  (.ret))))
def r_custref_MacAt : List XR := [.cell ⟨.d0, .d0, .d4⟩ true 6]
theorem ok_custref_MacAt : okC Try.prog Try.f65.ntmps (bodyOf Try.f65) x_custref_MacAt = true := by kernel_rfl
theorem okr_custref_MacAt : okRs Try.prog Try.f65.results.toList r_custref_MacAt = true := by kernel_rfl

/-- nat.within-1 -/
def x_nat_within_1 : XC :=
  .seq (.region [⟨some ⟨.d0, .d0, .d4⟩, .box 0 5 (.t ⟨.d0, .d0, .d0⟩), none⟩,
    ⟨some ⟨.d0, .d0, .d5⟩, .move (.c (.bool false)), none⟩])
  (.seq (.region [⟨some ⟨.d0, .d0, .d6⟩, .fieldAddr 0 (.t ⟨.d0, .d0, .d4⟩), none⟩,
    ⟨some ⟨.d0, .d0, .d7⟩, .load false 1 (.t ⟨.d0, .d0, .d6⟩), none⟩,
    ⟨some ⟨.d0, .d1, .d0⟩, .load false 1 (.t ⟨.d0, .d0, .d1⟩), none⟩,
    ⟨some ⟨.d0, .d1, .d1⟩, .bin .eql (.t ⟨.d0, .d0, .d7⟩) (.t ⟨.d0, .d1, .d0⟩), none⟩,
    ⟨some ⟨.d0, .d1, .d2⟩, .move (.t ⟨.d0, .d1, .d1⟩), none⟩,
    ⟨some ⟨.d0, .d1, .d3⟩, .fieldAddr 1 (.t ⟨.d0, .d0, .d4⟩), some (⟨.d0, .d1, .d2⟩, true)⟩,
    ⟨some ⟨.d0, .d1, .d4⟩, .load false 1 (.t ⟨.d0, .d1, .d3⟩), some (⟨.d0, .d1, .d2⟩, true)⟩,
    ⟨some ⟨.d0, .d1, .d5⟩, .load false 1 (.t ⟨.d0, .d0, .d2⟩), some (⟨.d0, .d1, .d2⟩, true)⟩,
    ⟨some ⟨.d0, .d1, .d6⟩, .bin .eql (.t ⟨.d0, .d1, .d4⟩) (.t ⟨.d0, .d1, .d5⟩), some (⟨.d0, .d1, .d2⟩, true)⟩,
    ⟨some ⟨.d0, .d1, .d7⟩, .pick (.t ⟨.d0, .d1, .d2⟩) (.t ⟨.d0, .d1, .d6⟩) (.c (.bool false)), none⟩,
    ⟨some ⟨.d0, .d2, .d0⟩, .move (.t ⟨.d0, .d1, .d7⟩), none⟩,
    ⟨some ⟨.d0, .d2, .d1⟩, .fieldAddr 2 (.t ⟨.d0, .d0, .d4⟩), some (⟨.d0, .d2, .d0⟩, true)⟩,
    ⟨some ⟨.d0, .d2, .d2⟩, .load false 1 (.t ⟨.d0, .d2, .d1⟩), some (⟨.d0, .d2, .d0⟩, true)⟩,
    ⟨some ⟨.d0, .d2, .d3⟩, .load false 1 (.t ⟨.d0, .d0, .d3⟩), some (⟨.d0, .d2, .d0⟩, true)⟩,
    ⟨some ⟨.d0, .d2, .d4⟩, .bin .eql (.t ⟨.d0, .d2, .d2⟩) (.t ⟨.d0, .d2, .d3⟩), some (⟨.d0, .d2, .d0⟩, true)⟩,
    ⟨some ⟨.d0, .d2, .d5⟩, .pick (.t ⟨.d0, .d2, .d0⟩) (.t ⟨.d0, .d2, .d4⟩) (.c (.bool false)), none⟩,
    ⟨some ⟨.d0, .d0, .d5⟩, .move (.t ⟨.d0, .d2, .d5⟩), none⟩])
  (.ret))
def r_nat_within_1 : List XR := [.tmp ⟨.d0, .d0, .d5⟩]
theorem ok_nat_within_1 : okC Try.prog Try.f66.ntmps (bodyOf Try.f66) x_nat_within_1 = true := by kernel_rfl
theorem okr_nat_within_1 : okRs Try.prog Try.f66.results.toList r_nat_within_1 = true := by kernel_rfl

/-- slices.Contains -/
def x_slices_Contains_int : XC :=
  .seq (.region [⟨some ⟨.d0, .d0, .d4⟩, .move (.c (.bool false)), none⟩])
  (.seq (.region [⟨some ⟨.d0, .d0, .d5⟩, .move (.t ⟨.d0, .d0, .d0⟩), none⟩,
    ⟨some ⟨.d0, .d0, .d6⟩, .move (.t ⟨.d0, .d0, .d1⟩), none⟩,
    ⟨some ⟨.d0, .d0, .d7⟩, .call 72 [(.t ⟨.d0, .d0, .d5⟩), (.t ⟨.d0, .d0, .d6⟩)], none⟩,
    ⟨some ⟨.d0, .d1, .d0⟩, .bin .geq (.t ⟨.d0, .d0, .d7⟩) (.c (.int .i64 0)), none⟩,
    ⟨some ⟨.d0, .d0, .d4⟩, .move (.t ⟨.d0, .d1, .d0⟩), none⟩])
  (.ret))
def r_slices_Contains_int : List XR := [.tmp ⟨.d0, .d0, .d4⟩]
theorem ok_slices_Contains_int : okC Try.prog Try.f67.ntmps (bodyOf Try.f67) x_slices_Contains_int = true := by kernel_rfl
theorem okr_slices_Contains_int : okRs Try.prog Try.f67.results.toList r_slices_Contains_int = true := by kernel_rfl

/-- custref.FreePorts -/
def x_custref_FreePorts : XC :=
  .seq (.region [⟨some ⟨.d0, .d0, .d1⟩, .box 0 2 (.t ⟨.d0, .d0, .d0⟩), none⟩,
    ⟨some ⟨.d0, .d0, .d2⟩, .move (.c (.slice none 0 0)), none⟩])
  (.seq (.region [⟨some ⟨.d0, .d0, .d3⟩, .move (.c (.slice none 0 0)), none⟩])
  (.seq (.region [⟨some ⟨.d0, .d0, .d6⟩, .fieldAddr 1 (.t ⟨.d0, .d0, .d1⟩), none⟩,
    ⟨some ⟨.d0, .d0, .d7⟩, .load false 1 (.t ⟨.d0, .d0, .d6⟩), none⟩,
    ⟨some ⟨.d0, .d0, .d4⟩, .move (.t ⟨.d0, .d0, .d7⟩), none⟩])
  (.seq (.seq (.region [⟨some ⟨.d0, .d1, .d0⟩, .move (.c (.int .i64 0)), none⟩])
  (.block 0
    (.loop
      (.seq (.region [⟨some ⟨.d0, .d1, .d1⟩, .bin .lss (.t ⟨.d0, .d1, .d0⟩) (.c (.int .i64 64)), none⟩])
      (.seq (.cond (.t ⟨.d0, .d1, .d1⟩)
        (.skip)
        (.exit 0))
      (.seq (.block 1
        (.seq (.region [⟨some ⟨.d0, .d1, .d2⟩, .move (.t ⟨.d0, .d1, .d0⟩), none⟩,
          ⟨some ⟨.d0, .d0, .d5⟩, .move (.t ⟨.d0, .d1, .d2⟩), none⟩])
        (.seq (.seq (.region [⟨some ⟨.d0, .d1, .d3⟩, .move (.t ⟨.d0, .d0, .d4⟩), none⟩,
          ⟨some ⟨.d0, .d1, .d4⟩, .bin .rem (.t ⟨.d0, .d1, .d3⟩) (.c (.int .u64 2)), none⟩,
          ⟨some ⟨.d0, .d1, .d5⟩, .bin .eql (.t ⟨.d0, .d1, .d4⟩) (.c (.int .u64 0)), none⟩])
        (.cond (.t ⟨.d0, .d1, .d5⟩)
          (.region [⟨some ⟨.d0, .d1, .d6⟩, .move (.t ⟨.d0, .d0, .d3⟩), none⟩,
            ⟨some ⟨.d0, .d1, .d7⟩, .fieldAddr 0 (.t ⟨.d0, .d0, .d1⟩), none⟩,
            ⟨some ⟨.d0, .d2, .d0⟩, .load false 1 (.t ⟨.d0, .d1, .d7⟩), none⟩,
            ⟨some ⟨.d0, .d2, .d1⟩, .move (.t ⟨.d0, .d0, .d5⟩), none⟩,
            ⟨some ⟨.d0, .d2, .d2⟩, .bin .add (.t ⟨.d0, .d2, .d0⟩) (.t ⟨.d0, .d2, .d1⟩), none⟩,
            ⟨some ⟨.d0, .d2, .d3⟩, .buildSlice 1 1 [.int .i64 0] [(0, (.t ⟨.d0, .d2, .d2⟩))], none⟩,
            ⟨some ⟨.d0, .d2, .d4⟩, .append 2 1 8 (.t ⟨.d0, .d1, .d6⟩) (.t ⟨.d0, .d2, .d3⟩), none⟩,
            ⟨some ⟨.d0, .d0, .d3⟩, .move (.t ⟨.d0, .d2, .d4⟩), none⟩])
          (.skip)))
        (.region [⟨some ⟨.d0, .d2, .d5⟩, .move (.t ⟨.d0, .d0, .d4⟩), none⟩,
          ⟨some ⟨.d0, .d2, .d6⟩, .bin .quo (.t ⟨.d0, .d2, .d5⟩) (.c (.int .u64 2)), none⟩,
          ⟨some ⟨.d0, .d0, .d4⟩, .move (.t ⟨.d0, .d2, .d6⟩), none⟩]))))
      (.region [⟨some ⟨.d0, .d2, .d7⟩, .bin .add (.t ⟨.d0, .d1, .d0⟩) (.c (.int .i64 1)), none⟩,
        ⟨some ⟨.d0, .d1, .d0⟩, .move (.t ⟨.d0, .d2, .d7⟩), none⟩])))))))
  (.seq (.region [⟨some ⟨.d0, .d3, .d0⟩, .move (.t ⟨.d0, .d0, .d3⟩), none⟩,
    ⟨some ⟨.d0, .d0, .d2⟩, .move (.t ⟨.d0, .d3, .d0⟩), none⟩])
  (.ret)))))
def r_custref_FreePorts : List XR := [.tmp ⟨.d0, .d0, .d2⟩]
theorem ok_custref_FreePorts : okC Try.prog Try.f68.ntmps (bodyOf Try.f68) x_custref_FreePorts = true := by kernel_rfl
theorem okr_custref_FreePorts : okRs Try.prog Try.f68.results.toList r_custref_FreePorts = true := by kernel_rfl

/-- slices.IndexFunc -/
def x_slices_IndexFunc_api_Station : XC :=
  .seq (.region [⟨some ⟨.d0, .d0, .d4⟩, .move (.c (.int .i64 0)), none⟩])
  (.seq (.seq (.region [⟨some ⟨.d0, .d0, .d6⟩, .move (.t ⟨.d0, .d0, .d0⟩), none⟩,
    ⟨some ⟨.d0, .d0, .d7⟩, .len (.t ⟨.d0, .d0, .d6⟩), none⟩,
    ⟨some ⟨.d0, .d1, .d0⟩, .move (.c (.int .i64 0)), none⟩])
  (.block 0
    (.loop
      (.seq (.region [⟨some ⟨.d0, .d1, .d1⟩, .bin .lss (.t ⟨.d0, .d1, .d0⟩) (.t ⟨.d0, .d0, .d7⟩), none⟩])
      (.seq (.cond (.t ⟨.d0, .d1, .d1⟩)
        (.skip)
        (.exit 0))
      (.seq (.block 1
        (.seq (.region [⟨some ⟨.d0, .d1, .d2⟩, .move (.t ⟨.d0, .d1, .d0⟩), none⟩,
          ⟨some ⟨.d0, .d0, .d5⟩, .move (.t ⟨.d0, .d1, .d2⟩), none⟩])
        (.seq (.region [⟨some ⟨.d0, .d1, .d3⟩, .move (.t ⟨.d0, .d0, .d1⟩), none⟩,
          ⟨some ⟨.d0, .d1, .d4⟩, .move (.t ⟨.d0, .d0, .d0⟩), none⟩,
          ⟨some ⟨.d0, .d1, .d5⟩, .move (.t ⟨.d0, .d0, .d5⟩), none⟩,
          ⟨some ⟨.d0, .d1, .d6⟩, .indexSl 8 (.t ⟨.d0, .d1, .d4⟩) (.t ⟨.d0, .d1, .d5⟩), none⟩,
          ⟨some ⟨.d0, .d1, .d7⟩, .load true 8 (.t ⟨.d0, .d1, .d6⟩), none⟩,
          ⟨some ⟨.d0, .d2, .d0⟩, .callv (.t ⟨.d0, .d1, .d3⟩) [(.t ⟨.d0, .d1, .d7⟩)], none⟩])
        (.cond (.t ⟨.d0, .d2, .d0⟩)
          (.seq (.region [⟨some ⟨.d0, .d2, .d1⟩, .move (.t ⟨.d0, .d0, .d5⟩), none⟩,
            ⟨some ⟨.d0, .d0, .d4⟩, .move (.t ⟨.d0, .d2, .d1⟩), none⟩])
          (.ret))
          (.skip)))))
      (.region [⟨some ⟨.d0, .d2, .d2⟩, .bin .add (.t ⟨.d0, .d1, .d0⟩) (.c (.int .i64 1)), none⟩,
        ⟨some ⟨.d0, .d1, .d0⟩, .move (.t ⟨.d0, .d2, .d2⟩), none⟩])))))))
  (.seq (.region [⟨some ⟨.d0, .d0, .d4⟩, .move (.c (.int .i64 (-1))), none⟩])
  (.ret)))
def r_slices_IndexFunc_api_Station : List XR := [.tmp ⟨.d0, .d0, .d4⟩]
theorem ok_slices_IndexFunc_api_Station : okC Try.prog Try.f71.ntmps (bodyOf Try.f71) x_slices_IndexFunc_api_Station = true := by kernel_rfl
theorem okr_slices_IndexFunc_api_Station : okRs Try.prog Try.f71.results.toList r_slices_IndexFunc_api_Station = true := by kernel_rfl

/-- slices.Index -/
def x_slices_Index_int : XC :=
  .seq (.region [⟨some ⟨.d0, .d0, .d4⟩, .move (.c (.int .i64 0)), none⟩])
  (.seq (.seq (.region [⟨some ⟨.d0, .d0, .d6⟩, .move (.t ⟨.d0, .d0, .d0⟩), none⟩,
    ⟨some ⟨.d0, .d0, .d7⟩, .len (.t ⟨.d0, .d0, .d6⟩), none⟩,
    ⟨some ⟨.d0, .d1, .d0⟩, .move (.c (.int .i64 0)), none⟩])
  (.block 0
    (.loop
      (.seq (.region [⟨some ⟨.d0, .d1, .d1⟩, .bin .lss (.t ⟨.d0, .d1, .d0⟩) (.t ⟨.d0, .d0, .d7⟩), none⟩])
      (.seq (.cond (.t ⟨.d0, .d1, .d1⟩)
        (.skip)
        (.exit 0))
      (.seq (.block 1
        (.seq (.region [⟨some ⟨.d0, .d1, .d2⟩, .move (.t ⟨.d0, .d1, .d0⟩), none⟩,
          ⟨some ⟨.d0, .d0, .d5⟩, .move (.t ⟨.d0, .d1, .d2⟩), none⟩])
        (.seq (.region [⟨some ⟨.d0, .d1, .d3⟩, .move (.t ⟨.d0, .d0, .d1⟩), none⟩,
          ⟨some ⟨.d0, .d1, .d4⟩, .move (.t ⟨.d0, .d0, .d0⟩), none⟩,
          ⟨some ⟨.d0, .d1, .d5⟩, .move (.t ⟨.d0, .d0, .d5⟩), none⟩,
          ⟨some ⟨.d0, .d1, .d6⟩, .indexSl 1 (.t ⟨.d0, .d1, .d4⟩) (.t ⟨.d0, .d1, .d5⟩), none⟩,
          ⟨some ⟨.d0, .d1, .d7⟩, .load false 1 (.t ⟨.d0, .d1, .d6⟩), none⟩,
          ⟨some ⟨.d0, .d2, .d0⟩, .bin .eql (.t ⟨.d0, .d1, .d3⟩) (.t ⟨.d0, .d1, .d7⟩), none⟩])
        (.cond (.t ⟨.d0, .d2, .d0⟩)
          (.seq (.region [⟨some ⟨.d0, .d2, .d1⟩, .move (.t ⟨.d0, .d0, .d5⟩), none⟩,
            ⟨some ⟨.d0, .d0, .d4⟩, .move (.t ⟨.d0, .d2, .d1⟩), none⟩])
          (.ret))
          (.skip)))))
      (.region [⟨some ⟨.d0, .d2, .d2⟩, .bin .add (.t ⟨.d0, .d1, .d0⟩) (.c (.int .i64 1)), none⟩,
        ⟨some ⟨.d0, .d1, .d0⟩, .move (.t ⟨.d0, .d2, .d2⟩), none⟩])))))))
  (.seq (.region [⟨some ⟨.d0, .d0, .d4⟩, .move (.c (.int .i64 (-1))), none⟩])
  (.ret)))
def r_slices_Index_int : List XR := [.tmp ⟨.d0, .d0, .d4⟩]
theorem ok_slices_Index_int : okC Try.prog Try.f72.ntmps (bodyOf Try.f72) x_slices_Index_int = true := by kernel_rfl
theorem okr_slices_Index_int : okRs Try.prog Try.f72.results.toList r_slices_Index_int = true := by kernel_rfl
end Go.Proofs.Ytegnfpmbmbbaiaa
