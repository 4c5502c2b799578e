/-
  The functions of the program in short form, and that the model's code is what they stand for. Printed by xgen.py.
-/
import Derived.Test.YtmkdgnocbjbijaaFw
import Derived.Test.YtmkdgnocbjbijaaProg
import Derived.KernelRfl
namespace Go.Proofs.Ytmkdgnocbjbijaa
set_option linter.unusedVariables false
set_option maxRecDepth 100000

/-- custlaw.TableNews -/
def x_custlaw_TableNews : XC :=
  .seq (.region [⟨some ⟨.d0, .d0, .d3⟩, .box 0 1 (.t ⟨.d0, .d0, .d0⟩), none⟩,
    ⟨some ⟨.d0, .d0, .d6⟩, .move (.c (.bool false)), none⟩])
  (.seq (.region [⟨some ⟨.d0, .d1, .d4⟩, .move (.t ⟨.d0, .d0, .d1⟩), none⟩,
    ⟨some ⟨.d0, .d1, .d5⟩, .move (.t ⟨.d0, .d0, .d2⟩), none⟩,
    ⟨some ⟨.d0, .d1, .d6⟩, .call 8 [(.t ⟨.d0, .d1, .d4⟩), (.t ⟨.d0, .d1, .d5⟩)], none⟩,
    ⟨some ⟨.d0, .d1, .d3⟩, .move (.t ⟨.d0, .d1, .d6⟩), none⟩,
    ⟨some ⟨.d0, .d1, .d7⟩, .extract 0 (.t ⟨.d0, .d1, .d3⟩), none⟩,
    ⟨some ⟨.d0, .d2, .d0⟩, .extract 1 (.t ⟨.d0, .d1, .d3⟩), none⟩,
    ⟨some ⟨.d0, .d0, .d7⟩, .move (.t ⟨.d0, .d1, .d7⟩), none⟩,
    ⟨some ⟨.d0, .d1, .d0⟩, .move (.t ⟨.d0, .d2, .d0⟩), none⟩])
  (.seq (.region [⟨some ⟨.d0, .d2, .d2⟩, .move (.t ⟨.d0, .d0, .d1⟩), none⟩,
    ⟨some ⟨.d0, .d2, .d3⟩, .call 9 [(.t ⟨.d0, .d2, .d2⟩)], none⟩,
    ⟨some ⟨.d0, .d2, .d1⟩, .move (.t ⟨.d0, .d2, .d3⟩), none⟩,
    ⟨some ⟨.d0, .d2, .d4⟩, .extract 0 (.t ⟨.d0, .d2, .d1⟩), none⟩,
    ⟨some ⟨.d0, .d2, .d5⟩, .extract 1 (.t ⟨.d0, .d2, .d1⟩), none⟩,
    ⟨some ⟨.d0, .d1, .d1⟩, .alloc 1 [.slice none 0 0], none⟩,
    ⟨none, .store 1 (.t ⟨.d0, .d1, .d1⟩) (.t ⟨.d0, .d2, .d4⟩), none⟩,
    ⟨some ⟨.d0, .d1, .d2⟩, .move (.t ⟨.d0, .d2, .d5⟩), none⟩])
  (.seq (.seq (.region [⟨some ⟨.d0, .d2, .d6⟩, .move (.t ⟨.d0, .d0, .d1⟩), none⟩,
    ⟨some ⟨.d0, .d2, .d7⟩, .call 10 [(.t ⟨.d0, .d2, .d6⟩), (.c (.int .i64 1)), (.c (.int .i64 6))], none⟩,
    ⟨some ⟨.d0, .d3, .d0⟩, .un .not (.t ⟨.d0, .d2, .d7⟩), none⟩])
  (.cond (.t ⟨.d0, .d3, .d0⟩)
    (.seq (.regionD [0, 1, 3, 7, 15, 31, 63, 127, 255, 511, 1023, 2047, 4095, 8191, 16383, 32767, 65535, 131071, 262143, 131071, 1048575, 2097151, 4194303, 8388607] [⟨some ⟨.d0, .d3, .d1⟩, .move (.t ⟨.d0, .d0, .d7⟩), none⟩,
      ⟨some ⟨.d0, .d3, .d2⟩, .bin .eql (.t ⟨.d0, .d3, .d1⟩) (.c (.int .i64 0)), none⟩,
      ⟨some ⟨.d0, .d3, .d3⟩, .move (.t ⟨.d0, .d3, .d2⟩), none⟩,
      ⟨some ⟨.d0, .d3, .d4⟩, .move (.t ⟨.d0, .d1, .d0⟩), some (⟨.d0, .d3, .d3⟩, true)⟩,
      ⟨some ⟨.d0, .d3, .d5⟩, .bin .eql (.t ⟨.d0, .d3, .d4⟩) (.c (.int .i64 1)), some (⟨.d0, .d3, .d3⟩, true)⟩,
      ⟨some ⟨.d0, .d3, .d6⟩, .pick (.t ⟨.d0, .d3, .d3⟩) (.t ⟨.d0, .d3, .d5⟩) (.c (.bool false)), none⟩,
      ⟨some ⟨.d0, .d3, .d7⟩, .move (.t ⟨.d0, .d3, .d6⟩), none⟩,
      ⟨some ⟨.d0, .d4, .d0⟩, .fieldAddr 0 (.t ⟨.d0, .d1, .d1⟩), some (⟨.d0, .d3, .d7⟩, true)⟩,
      ⟨some ⟨.d0, .d4, .d1⟩, .load false 1 (.t ⟨.d0, .d4, .d0⟩), some (⟨.d0, .d3, .d7⟩, true)⟩,
      ⟨some ⟨.d0, .d4, .d2⟩, .len (.t ⟨.d0, .d4, .d1⟩), some (⟨.d0, .d3, .d7⟩, true)⟩,
      ⟨some ⟨.d0, .d4, .d3⟩, .bin .eql (.t ⟨.d0, .d4, .d2⟩) (.c (.int .i64 0)), some (⟨.d0, .d3, .d7⟩, true)⟩,
      ⟨some ⟨.d0, .d4, .d4⟩, .pick (.t ⟨.d0, .d3, .d7⟩) (.t ⟨.d0, .d4, .d3⟩) (.c (.bool false)), none⟩,
      ⟨some ⟨.d0, .d4, .d5⟩, .move (.t ⟨.d0, .d4, .d4⟩), none⟩,
      ⟨some ⟨.d0, .d4, .d6⟩, .move (.t ⟨.d0, .d1, .d2⟩), some (⟨.d0, .d4, .d5⟩, true)⟩,
      ⟨some ⟨.d0, .d4, .d7⟩, .bin .eql (.t ⟨.d0, .d4, .d6⟩) (.c (.int .i64 1)), some (⟨.d0, .d4, .d5⟩, true)⟩,
      ⟨some ⟨.d0, .d5, .d0⟩, .pick (.t ⟨.d0, .d4, .d5⟩) (.t ⟨.d0, .d4, .d7⟩) (.c (.bool false)), none⟩,
      ⟨some ⟨.d0, .d5, .d1⟩, .move (.t ⟨.d0, .d5, .d0⟩), none⟩,
      ⟨some ⟨.d0, .d5, .d2⟩, .load true 1 (.t ⟨.d0, .d0, .d3⟩), some (⟨.d0, .d5, .d1⟩, true)⟩,
      ⟨some ⟨.d0, .d5, .d3⟩, .call 11 [(.t ⟨.d0, .d5, .d2⟩)], some (⟨.d0, .d5, .d1⟩, true)⟩,
      ⟨some ⟨.d0, .d5, .d4⟩, .load true 1 (.t ⟨.d0, .d0, .d3⟩), some (⟨.d0, .d5, .d1⟩, true)⟩,
      ⟨some ⟨.d0, .d5, .d5⟩, .call 12 [(.t ⟨.d0, .d5, .d4⟩)], some (⟨.d0, .d5, .d1⟩, true)⟩,
      ⟨some ⟨.d0, .d5, .d6⟩, .bin .eql (.t ⟨.d0, .d5, .d3⟩) (.t ⟨.d0, .d5, .d5⟩), some (⟨.d0, .d5, .d1⟩, true)⟩,
      ⟨some ⟨.d0, .d5, .d7⟩, .pick (.t ⟨.d0, .d5, .d1⟩) (.t ⟨.d0, .d5, .d6⟩) (.c (.bool false)), none⟩,
      ⟨some ⟨.d0, .d0, .d6⟩, .move (.t ⟨.d0, .d5, .d7⟩), none⟩])
    (.ret))
    (.skip)))
  (.seq (.regionD [0, 0, 0, 6, 15, 31, 63, 127, 255, 511, 1023, 2047, 4095, 8191, 16383, 16383, 49151, 114687, 245759, 524287, 1048575, 2097151, 4194303, 8388607, 4194303, 33554431, 67108863, 134217727, 268435455] [⟨some ⟨.d0, .d6, .d0⟩, .move (.t ⟨.d0, .d0, .d7⟩), none⟩,
    ⟨some ⟨.d0, .d6, .d1⟩, .move (.t ⟨.d0, .d0, .d1⟩), none⟩,
    ⟨some ⟨.d0, .d6, .d2⟩, .move (.t ⟨.d0, .d0, .d2⟩), none⟩,
    ⟨some ⟨.d0, .d6, .d3⟩, .call 13 [(.t ⟨.d0, .d6, .d1⟩), (.t ⟨.d0, .d6, .d2⟩)], none⟩,
    ⟨some ⟨.d0, .d6, .d4⟩, .bin .eql (.t ⟨.d0, .d6, .d0⟩) (.t ⟨.d0, .d6, .d3⟩), none⟩,
    ⟨some ⟨.d0, .d6, .d5⟩, .move (.t ⟨.d0, .d6, .d4⟩), none⟩,
    ⟨some ⟨.d0, .d6, .d6⟩, .move (.t ⟨.d0, .d1, .d0⟩), some (⟨.d0, .d6, .d5⟩, true)⟩,
    ⟨some ⟨.d0, .d6, .d7⟩, .bin .eql (.t ⟨.d0, .d6, .d6⟩) (.c (.int .i64 0)), some (⟨.d0, .d6, .d5⟩, true)⟩,
    ⟨some ⟨.d0, .d7, .d0⟩, .pick (.t ⟨.d0, .d6, .d5⟩) (.t ⟨.d0, .d6, .d7⟩) (.c (.bool false)), none⟩,
    ⟨some ⟨.d0, .d7, .d1⟩, .move (.t ⟨.d0, .d7, .d0⟩), none⟩,
    ⟨some ⟨.d0, .d7, .d2⟩, .move (.t ⟨.d0, .d1, .d2⟩), some (⟨.d0, .d7, .d1⟩, true)⟩,
    ⟨some ⟨.d0, .d7, .d3⟩, .bin .eql (.t ⟨.d0, .d7, .d2⟩) (.c (.int .i64 0)), some (⟨.d0, .d7, .d1⟩, true)⟩,
    ⟨some ⟨.d0, .d7, .d4⟩, .pick (.t ⟨.d0, .d7, .d1⟩) (.t ⟨.d0, .d7, .d3⟩) (.c (.bool false)), none⟩,
    ⟨some ⟨.d0, .d7, .d5⟩, .move (.t ⟨.d0, .d7, .d4⟩), none⟩,
    ⟨some ⟨.d0, .d7, .d6⟩, .load true 1 (.t ⟨.d0, .d1, .d1⟩), some (⟨.d0, .d7, .d5⟩, true)⟩,
    ⟨some ⟨.d0, .d7, .d7⟩, .move (.t ⟨.d0, .d0, .d1⟩), some (⟨.d0, .d7, .d5⟩, true)⟩,
    ⟨some ⟨.d1, .d0, .d0⟩, .bin .shl (.c (.int .i64 1)) (.t ⟨.d0, .d7, .d7⟩), some (⟨.d0, .d7, .d5⟩, true)⟩,
    ⟨some ⟨.d1, .d0, .d1⟩, .makeSlice 2 24 [.bool false, .int .u64 0, .int .i64 0] (.t ⟨.d1, .d0, .d0⟩) (.t ⟨.d1, .d0, .d0⟩), some (⟨.d0, .d7, .d5⟩, true)⟩,
    ⟨some ⟨.d1, .d0, .d2⟩, .build [.slice none 0 0] [(0, 1, (.t ⟨.d1, .d0, .d1⟩))], some (⟨.d0, .d7, .d5⟩, true)⟩,
    ⟨some ⟨.d1, .d0, .d3⟩, .call 14 [(.t ⟨.d0, .d7, .d6⟩), (.t ⟨.d1, .d0, .d2⟩)], some (⟨.d0, .d7, .d5⟩, true)⟩,
    ⟨some ⟨.d1, .d0, .d4⟩, .pick (.t ⟨.d0, .d7, .d5⟩) (.t ⟨.d1, .d0, .d3⟩) (.c (.bool false)), none⟩,
    ⟨some ⟨.d1, .d0, .d5⟩, .move (.t ⟨.d1, .d0, .d4⟩), none⟩,
    ⟨some ⟨.d1, .d0, .d6⟩, .load true 1 (.t ⟨.d0, .d0, .d3⟩), some (⟨.d1, .d0, .d5⟩, true)⟩,
    ⟨some ⟨.d1, .d0, .d7⟩, .call 11 [(.t ⟨.d1, .d0, .d6⟩)], some (⟨.d1, .d0, .d5⟩, true)⟩,
    ⟨some ⟨.d1, .d1, .d0⟩, .load true 1 (.t ⟨.d0, .d0, .d3⟩), some (⟨.d1, .d0, .d5⟩, true)⟩,
    ⟨some ⟨.d1, .d1, .d1⟩, .call 12 [(.t ⟨.d1, .d1, .d0⟩)], some (⟨.d1, .d0, .d5⟩, true)⟩,
    ⟨some ⟨.d1, .d1, .d2⟩, .bin .eql (.t ⟨.d1, .d0, .d7⟩) (.t ⟨.d1, .d1, .d1⟩), some (⟨.d1, .d0, .d5⟩, true)⟩,
    ⟨some ⟨.d1, .d1, .d3⟩, .pick (.t ⟨.d1, .d0, .d5⟩) (.t ⟨.d1, .d1, .d2⟩) (.c (.bool false)), none⟩,
    ⟨some ⟨.d0, .d0, .d6⟩, .move (.t ⟨.d1, .d1, .d3⟩), none⟩])
  (.ret)))))
def r_custlaw_TableNews : List XR := [.tmp ⟨.d0, .d0, .d6⟩]
theorem ok_custlaw_TableNews : okC Try.prog Try.f3.ntmps (bodyOf Try.f3) x_custlaw_TableNews = true := by kernel_rfl
theorem okr_custlaw_TableNews : okRs Try.prog Try.f3.results.toList r_custlaw_TableNews = true := by kernel_rfl

/-- custlaw.TablePuts -/
def x_custlaw_TablePuts : XC :=
  .seq (.region [⟨some ⟨.d0, .d0, .d3⟩, .box 0 1 (.t ⟨.d0, .d0, .d0⟩), none⟩,
    ⟨some ⟨.d0, .d0, .d6⟩, .move (.c (.bool false)), none⟩])
  (.seq (.region [⟨some ⟨.d0, .d2, .d6⟩, .load true 1 (.t ⟨.d0, .d0, .d3⟩), none⟩,
    ⟨some ⟨.d0, .d2, .d7⟩, .move (.t ⟨.d0, .d0, .d1⟩), none⟩,
    ⟨some ⟨.d0, .d3, .d0⟩, .move (.t ⟨.d0, .d0, .d2⟩), none⟩,
    ⟨some ⟨.d0, .d3, .d1⟩, .call 15 [(.t ⟨.d0, .d2, .d6⟩), (.t ⟨.d0, .d2, .d7⟩), (.t ⟨.d0, .d3, .d0⟩)], none⟩,
    ⟨some ⟨.d0, .d2, .d5⟩, .move (.t ⟨.d0, .d3, .d1⟩), none⟩,
    ⟨some ⟨.d0, .d3, .d2⟩, .extract 0 (.t ⟨.d0, .d2, .d5⟩), none⟩,
    ⟨some ⟨.d0, .d3, .d3⟩, .extract 1 (.t ⟨.d0, .d2, .d5⟩), none⟩,
    ⟨some ⟨.d0, .d0, .d7⟩, .alloc 1 [.slice none 0 0], none⟩,
    ⟨none, .store 1 (.t ⟨.d0, .d0, .d7⟩) (.t ⟨.d0, .d3, .d2⟩), none⟩,
    ⟨some ⟨.d0, .d1, .d0⟩, .move (.t ⟨.d0, .d3, .d3⟩), none⟩])
  (.seq (.region [⟨some ⟨.d0, .d3, .d5⟩, .load true 1 (.t ⟨.d0, .d0, .d3⟩), none⟩,
    ⟨some ⟨.d0, .d3, .d6⟩, .move (.t ⟨.d0, .d0, .d1⟩), none⟩,
    ⟨some ⟨.d0, .d3, .d7⟩, .move (.t ⟨.d0, .d0, .d2⟩), none⟩,
    ⟨some ⟨.d0, .d4, .d0⟩, .call 16 [(.t ⟨.d0, .d3, .d5⟩), (.t ⟨.d0, .d3, .d6⟩), (.t ⟨.d0, .d3, .d7⟩)], none⟩,
    ⟨some ⟨.d0, .d3, .d4⟩, .move (.t ⟨.d0, .d4, .d0⟩), none⟩,
    ⟨some ⟨.d0, .d4, .d1⟩, .extract 0 (.t ⟨.d0, .d3, .d4⟩), none⟩,
    ⟨some ⟨.d0, .d4, .d2⟩, .extract 1 (.t ⟨.d0, .d3, .d4⟩), none⟩,
    ⟨some ⟨.d0, .d1, .d1⟩, .alloc 2 [.slice none 0 0], none⟩,
    ⟨none, .store 1 (.t ⟨.d0, .d1, .d1⟩) (.t ⟨.d0, .d4, .d1⟩), none⟩,
    ⟨some ⟨.d0, .d1, .d2⟩, .move (.t ⟨.d0, .d4, .d2⟩), none⟩])
  (.seq (.region [⟨some ⟨.d0, .d4, .d4⟩, .load true 1 (.t ⟨.d0, .d0, .d3⟩), none⟩,
    ⟨some ⟨.d0, .d4, .d5⟩, .move (.t ⟨.d0, .d0, .d1⟩), none⟩,
    ⟨some ⟨.d0, .d4, .d6⟩, .call 17 [(.t ⟨.d0, .d4, .d4⟩), (.t ⟨.d0, .d4, .d5⟩)], none⟩,
    ⟨some ⟨.d0, .d4, .d3⟩, .move (.t ⟨.d0, .d4, .d6⟩), none⟩,
    ⟨some ⟨.d0, .d4, .d7⟩, .extract 0 (.t ⟨.d0, .d4, .d3⟩), none⟩,
    ⟨some ⟨.d0, .d5, .d0⟩, .extract 1 (.t ⟨.d0, .d4, .d3⟩), none⟩,
    ⟨some ⟨.d0, .d1, .d3⟩, .alloc 3 [.slice none 0 0], none⟩,
    ⟨none, .store 1 (.t ⟨.d0, .d1, .d3⟩) (.t ⟨.d0, .d4, .d7⟩), none⟩,
    ⟨some ⟨.d0, .d1, .d4⟩, .move (.t ⟨.d0, .d5, .d0⟩), none⟩])
  (.seq (.region [⟨some ⟨.d0, .d5, .d2⟩, .load true 1 (.t ⟨.d0, .d0, .d3⟩), none⟩,
    ⟨some ⟨.d0, .d5, .d3⟩, .move (.t ⟨.d0, .d0, .d1⟩), none⟩,
    ⟨some ⟨.d0, .d5, .d4⟩, .call 18 [(.t ⟨.d0, .d5, .d2⟩), (.t ⟨.d0, .d5, .d3⟩)], none⟩,
    ⟨some ⟨.d0, .d5, .d1⟩, .move (.t ⟨.d0, .d5, .d4⟩), none⟩,
    ⟨some ⟨.d0, .d5, .d5⟩, .extract 0 (.t ⟨.d0, .d5, .d1⟩), none⟩,
    ⟨some ⟨.d0, .d5, .d6⟩, .extract 1 (.t ⟨.d0, .d5, .d1⟩), none⟩,
    ⟨some ⟨.d0, .d1, .d5⟩, .alloc 4 [.slice none 0 0], none⟩,
    ⟨none, .store 1 (.t ⟨.d0, .d1, .d5⟩) (.t ⟨.d0, .d5, .d5⟩), none⟩,
    ⟨some ⟨.d0, .d1, .d6⟩, .move (.t ⟨.d0, .d5, .d6⟩), none⟩])
  (.seq (.region [⟨some ⟨.d0, .d6, .d0⟩, .load true 1 (.t ⟨.d0, .d0, .d3⟩), none⟩,
    ⟨some ⟨.d0, .d6, .d1⟩, .move (.t ⟨.d0, .d0, .d1⟩), none⟩,
    ⟨some ⟨.d0, .d6, .d2⟩, .call 19 [(.t ⟨.d0, .d6, .d0⟩), (.t ⟨.d0, .d6, .d1⟩)], none⟩,
    ⟨some ⟨.d0, .d5, .d7⟩, .move (.t ⟨.d0, .d6, .d2⟩), none⟩,
    ⟨some ⟨.d0, .d6, .d3⟩, .extract 0 (.t ⟨.d0, .d5, .d7⟩), none⟩,
    ⟨some ⟨.d0, .d6, .d4⟩, .extract 1 (.t ⟨.d0, .d5, .d7⟩), none⟩,
    ⟨some ⟨.d0, .d1, .d7⟩, .move (.t ⟨.d0, .d6, .d3⟩), none⟩,
    ⟨some ⟨.d0, .d2, .d0⟩, .move (.t ⟨.d0, .d6, .d4⟩), none⟩])
  (.seq (.region [⟨some ⟨.d0, .d6, .d5⟩, .load true 1 (.t ⟨.d0, .d0, .d3⟩), none⟩,
    ⟨some ⟨.d0, .d6, .d6⟩, .call 12 [(.t ⟨.d0, .d6, .d5⟩)], none⟩,
    ⟨some ⟨.d0, .d2, .d1⟩, .move (.c (.int .i64 0)), none⟩,
    ⟨some ⟨.d0, .d2, .d2⟩, .move (.t ⟨.d0, .d6, .d6⟩), none⟩])
  (.seq (.seq (.region [⟨some ⟨.d0, .d6, .d7⟩, .move (.t ⟨.d0, .d2, .d2⟩), none⟩,
    ⟨some ⟨.d0, .d7, .d0⟩, .bin .eql (.t ⟨.d0, .d6, .d7⟩) (.c (.int .i64 0)), none⟩])
  (.cond (.t ⟨.d0, .d7, .d0⟩)
    (.seq (.region [⟨some ⟨.d0, .d2, .d2⟩, .move (.c (.int .i64 7)), none⟩])
    (.seq (.region [⟨some ⟨.d0, .d7, .d1⟩, .fieldAddr 0 (.t ⟨.d0, .d0, .d3⟩), none⟩,
      ⟨some ⟨.d0, .d7, .d2⟩, .load false 1 (.t ⟨.d0, .d7, .d1⟩), none⟩,
      ⟨some ⟨.d0, .d7, .d3⟩, .len (.t ⟨.d0, .d7, .d2⟩), none⟩,
      ⟨some ⟨.d0, .d7, .d4⟩, .move (.c (.int .i64 0)), none⟩])
    (.block 0
      (.loop
        (.seq (.region [⟨some ⟨.d0, .d7, .d5⟩, .bin .lss (.t ⟨.d0, .d7, .d4⟩) (.t ⟨.d0, .d7, .d3⟩), none⟩])
        (.seq (.cond (.t ⟨.d0, .d7, .d5⟩)
          (.skip)
          (.exit 0))
        (.seq (.block 1
          (.seq (.region [⟨some ⟨.d0, .d7, .d6⟩, .indexSl 3 (.t ⟨.d0, .d7, .d2⟩) (.t ⟨.d0, .d7, .d4⟩), none⟩,
            ⟨some ⟨.d0, .d7, .d7⟩, .load true 3 (.t ⟨.d0, .d7, .d6⟩), none⟩,
            ⟨some ⟨.d0, .d2, .d4⟩, .alloc 5 [.bool false, .int .u64 0, .int .i64 0], none⟩,
            ⟨none, .store 3 (.t ⟨.d0, .d2, .d4⟩) (.t ⟨.d0, .d7, .d7⟩), none⟩])
          (.seq (.region [⟨some ⟨.d1, .d0, .d0⟩, .fieldAddr 0 (.t ⟨.d0, .d2, .d4⟩), none⟩,
            ⟨some ⟨.d1, .d0, .d1⟩, .load false 1 (.t ⟨.d1, .d0, .d0⟩), none⟩,
            ⟨some ⟨.d1, .d0, .d2⟩, .move (.t ⟨.d1, .d0, .d1⟩), none⟩,
            ⟨some ⟨.d1, .d0, .d3⟩, .fieldAddr 1 (.t ⟨.d0, .d2, .d4⟩), some (⟨.d1, .d0, .d2⟩, true)⟩,
            ⟨some ⟨.d1, .d0, .d4⟩, .load false 1 (.t ⟨.d1, .d0, .d3⟩), some (⟨.d1, .d0, .d2⟩, true)⟩,
            ⟨some ⟨.d1, .d0, .d5⟩, .move (.t ⟨.d0, .d0, .d1⟩), some (⟨.d1, .d0, .d2⟩, true)⟩,
            ⟨some ⟨.d1, .d0, .d6⟩, .bin .eql (.t ⟨.d1, .d0, .d4⟩) (.t ⟨.d1, .d0, .d5⟩), some (⟨.d1, .d0, .d2⟩, true)⟩,
            ⟨some ⟨.d1, .d0, .d7⟩, .pick (.t ⟨.d1, .d0, .d2⟩) (.t ⟨.d1, .d0, .d6⟩) (.c (.bool false)), none⟩])
          (.cond (.t ⟨.d1, .d0, .d7⟩)
            (.region [⟨some ⟨.d1, .d1, .d0⟩, .fieldAddr 2 (.t ⟨.d0, .d2, .d4⟩), none⟩,
              ⟨some ⟨.d1, .d1, .d1⟩, .load false 1 (.t ⟨.d1, .d1, .d0⟩), none⟩,
              ⟨some ⟨.d0, .d2, .d1⟩, .move (.t ⟨.d1, .d1, .d1⟩), none⟩,
              ⟨some ⟨.d0, .d2, .d2⟩, .move (.c (.int .i64 0)), none⟩])
            (.skip)))))
        (.region [⟨some ⟨.d1, .d1, .d2⟩, .bin .add (.t ⟨.d0, .d7, .d4⟩) (.c (.int .i64 1)), none⟩,
          ⟨some ⟨.d0, .d7, .d4⟩, .move (.t ⟨.d1, .d1, .d2⟩), none⟩]))))))))
    (.skip)))
  (.seq (.region [⟨some ⟨.d1, .d1, .d3⟩, .load true 1 (.t ⟨.d0, .d0, .d7⟩), none⟩,
    ⟨some ⟨.d1, .d1, .d4⟩, .load true 1 (.t ⟨.d0, .d1, .d1⟩), none⟩,
    ⟨some ⟨.d1, .d1, .d5⟩, .call 14 [(.t ⟨.d1, .d1, .d3⟩), (.t ⟨.d1, .d1, .d4⟩)], none⟩,
    ⟨some ⟨.d1, .d1, .d6⟩, .move (.t ⟨.d1, .d1, .d5⟩), none⟩,
    ⟨some ⟨.d1, .d1, .d7⟩, .move (.t ⟨.d0, .d1, .d0⟩), some (⟨.d1, .d1, .d6⟩, true)⟩,
    ⟨some ⟨.d1, .d2, .d0⟩, .move (.t ⟨.d0, .d1, .d2⟩), some (⟨.d1, .d1, .d6⟩, true)⟩,
    ⟨some ⟨.d1, .d2, .d1⟩, .bin .eql (.t ⟨.d1, .d1, .d7⟩) (.t ⟨.d1, .d2, .d0⟩), some (⟨.d1, .d1, .d6⟩, true)⟩,
    ⟨some ⟨.d1, .d2, .d2⟩, .pick (.t ⟨.d1, .d1, .d6⟩) (.t ⟨.d1, .d2, .d1⟩) (.c (.bool false)), none⟩,
    ⟨some ⟨.d1, .d2, .d3⟩, .move (.t ⟨.d1, .d2, .d2⟩), none⟩,
    ⟨some ⟨.d1, .d2, .d4⟩, .load true 1 (.t ⟨.d0, .d1, .d3⟩), some (⟨.d1, .d2, .d3⟩, true)⟩,
    ⟨some ⟨.d1, .d2, .d5⟩, .load true 1 (.t ⟨.d0, .d1, .d5⟩), some (⟨.d1, .d2, .d3⟩, true)⟩,
    ⟨some ⟨.d1, .d2, .d6⟩, .call 14 [(.t ⟨.d1, .d2, .d4⟩), (.t ⟨.d1, .d2, .d5⟩)], some (⟨.d1, .d2, .d3⟩, true)⟩,
    ⟨some ⟨.d1, .d2, .d7⟩, .pick (.t ⟨.d1, .d2, .d3⟩) (.t ⟨.d1, .d2, .d6⟩) (.c (.bool false)), none⟩,
    ⟨some ⟨.d1, .d3, .d0⟩, .move (.t ⟨.d1, .d2, .d7⟩), none⟩,
    ⟨some ⟨.d1, .d3, .d1⟩, .move (.t ⟨.d0, .d1, .d4⟩), some (⟨.d1, .d3, .d0⟩, true)⟩,
    ⟨some ⟨.d1, .d3, .d2⟩, .move (.t ⟨.d0, .d1, .d6⟩), some (⟨.d1, .d3, .d0⟩, true)⟩,
    ⟨some ⟨.d1, .d3, .d3⟩, .bin .eql (.t ⟨.d1, .d3, .d1⟩) (.t ⟨.d1, .d3, .d2⟩), some (⟨.d1, .d3, .d0⟩, true)⟩,
    ⟨some ⟨.d1, .d3, .d4⟩, .pick (.t ⟨.d1, .d3, .d0⟩) (.t ⟨.d1, .d3, .d3⟩) (.c (.bool false)), none⟩,
    ⟨some ⟨.d1, .d3, .d5⟩, .move (.t ⟨.d1, .d3, .d4⟩), none⟩,
    ⟨some ⟨.d1, .d3, .d6⟩, .move (.t ⟨.d0, .d1, .d7⟩), some (⟨.d1, .d3, .d5⟩, true)⟩,
    ⟨some ⟨.d1, .d3, .d7⟩, .move (.t ⟨.d0, .d2, .d1⟩), some (⟨.d1, .d3, .d5⟩, true)⟩,
    ⟨some ⟨.d1, .d4, .d0⟩, .bin .eql (.t ⟨.d1, .d3, .d6⟩) (.t ⟨.d1, .d3, .d7⟩), some (⟨.d1, .d3, .d5⟩, true)⟩,
    ⟨some ⟨.d1, .d4, .d1⟩, .pick (.t ⟨.d1, .d3, .d5⟩) (.t ⟨.d1, .d4, .d0⟩) (.c (.bool false)), none⟩,
    ⟨some ⟨.d1, .d4, .d2⟩, .move (.t ⟨.d1, .d4, .d1⟩), none⟩,
    ⟨some ⟨.d1, .d4, .d3⟩, .move (.t ⟨.d0, .d2, .d0⟩), some (⟨.d1, .d4, .d2⟩, true)⟩,
    ⟨some ⟨.d1, .d4, .d4⟩, .move (.t ⟨.d0, .d2, .d2⟩), some (⟨.d1, .d4, .d2⟩, true)⟩,
    ⟨some ⟨.d1, .d4, .d5⟩, .bin .eql (.t ⟨.d1, .d4, .d3⟩) (.t ⟨.d1, .d4, .d4⟩), some (⟨.d1, .d4, .d2⟩, true)⟩,
    ⟨some ⟨.d1, .d4, .d6⟩, .pick (.t ⟨.d1, .d4, .d2⟩) (.t ⟨.d1, .d4, .d5⟩) (.c (.bool false)), none⟩,
    ⟨some ⟨.d0, .d0, .d6⟩, .move (.t ⟨.d1, .d4, .d6⟩), none⟩])
  (.ret)))))))))
def r_custlaw_TablePuts : List XR := [.tmp ⟨.d0, .d0, .d6⟩]
theorem ok_custlaw_TablePuts : okC Try.prog Try.f4.ntmps (bodyOf Try.f4) x_custlaw_TablePuts = true := by kernel_rfl
theorem okr_custlaw_TablePuts : okRs Try.prog Try.f4.results.toList r_custlaw_TablePuts = true := by kernel_rfl

/-- table.Home -/
def x_table_Home : XC :=
  .seq (.region [⟨some ⟨.d0, .d0, .d4⟩, .move (.c (.int .i64 0)), none⟩,
    ⟨some ⟨.d0, .d0, .d5⟩, .move (.c (.int .i64 0)), none⟩])
  (.seq (.seq (.region [⟨some ⟨.d0, .d0, .d6⟩, .move (.t ⟨.d0, .d0, .d0⟩), none⟩,
    ⟨some ⟨.d0, .d0, .d7⟩, .bin .lss (.t ⟨.d0, .d0, .d6⟩) (.c (.int .i64 1)), none⟩,
    ⟨some ⟨.d0, .d1, .d0⟩, .move (.t ⟨.d0, .d0, .d7⟩), none⟩,
    ⟨some ⟨.d0, .d1, .d1⟩, .move (.t ⟨.d0, .d0, .d0⟩), some (⟨.d0, .d1, .d0⟩, false)⟩,
    ⟨some ⟨.d0, .d1, .d2⟩, .bin .gtr (.t ⟨.d0, .d1, .d1⟩) (.c (.int .i64 6)), some (⟨.d0, .d1, .d0⟩, false)⟩,
    ⟨some ⟨.d0, .d1, .d3⟩, .pick (.t ⟨.d0, .d1, .d0⟩) (.c (.bool true)) (.t ⟨.d0, .d1, .d2⟩), none⟩])
  (.cond (.t ⟨.d0, .d1, .d3⟩)
    (.seq (.region [⟨some ⟨.d0, .d0, .d4⟩, .move (.c (.int .i64 0)), none⟩,
      ⟨some ⟨.d0, .d0, .d5⟩, .move (.c (.int .i64 1)), none⟩])
    (.ret))
    (.skip)))
  (.seq (.region [⟨some ⟨.d0, .d1, .d4⟩, .move (.t ⟨.d0, .d0, .d0⟩), none⟩,
    ⟨some ⟨.d0, .d1, .d5⟩, .bin .shl (.c (.int .i64 1)) (.t ⟨.d0, .d1, .d4⟩), none⟩,
    ⟨some ⟨.d0, .d1, .d6⟩, .move (.t ⟨.d0, .d0, .d1⟩), none⟩,
    ⟨some ⟨.d0, .d1, .d7⟩, .call 38 [(.t ⟨.d0, .d1, .d5⟩), (.t ⟨.d0, .d1, .d6⟩)], none⟩,
    ⟨some ⟨.d0, .d0, .d4⟩, .move (.t ⟨.d0, .d1, .d7⟩), none⟩,
    ⟨some ⟨.d0, .d0, .d5⟩, .move (.c (.int .i64 0)), none⟩])
  (.ret)))
def r_table_Home : List XR := [.tmp ⟨.d0, .d0, .d4⟩, .tmp ⟨.d0, .d0, .d5⟩]
theorem ok_table_Home : okC Try.prog Try.f8.ntmps (bodyOf Try.f8) x_table_Home = true := by kernel_rfl
theorem okr_table_Home : okRs Try.prog Try.f8.results.toList r_table_Home = true := by kernel_rfl

/-- table.New -/
def x_table_New : XC :=
  .seq (.region [⟨some ⟨.d0, .d0, .d2⟩, .alloc 0 [.slice none 0 0], none⟩,
    ⟨some ⟨.d0, .d0, .d3⟩, .move (.c (.int .i64 0)), none⟩])
  (.seq (.seq (.region [⟨some ⟨.d0, .d0, .d4⟩, .move (.t ⟨.d0, .d0, .d0⟩), none⟩,
    ⟨some ⟨.d0, .d0, .d5⟩, .bin .lss (.t ⟨.d0, .d0, .d4⟩) (.c (.int .i64 1)), none⟩,
    ⟨some ⟨.d0, .d0, .d6⟩, .move (.t ⟨.d0, .d0, .d5⟩), none⟩,
    ⟨some ⟨.d0, .d0, .d7⟩, .move (.t ⟨.d0, .d0, .d0⟩), some (⟨.d0, .d0, .d6⟩, false)⟩,
    ⟨some ⟨.d0, .d1, .d0⟩, .bin .gtr (.t ⟨.d0, .d0, .d7⟩) (.c (.int .i64 6)), some (⟨.d0, .d0, .d6⟩, false)⟩,
    ⟨some ⟨.d0, .d1, .d1⟩, .pick (.t ⟨.d0, .d0, .d6⟩) (.c (.bool true)) (.t ⟨.d0, .d1, .d0⟩), none⟩])
  (.cond (.t ⟨.d0, .d1, .d1⟩)
    (.seq (.region [⟨some ⟨.d0, .d1, .d2⟩, .build [.slice none 0 0] [], none⟩,
      ⟨none, .store 1 (.t ⟨.d0, .d0, .d2⟩) (.t ⟨.d0, .d1, .d2⟩), none⟩,
      ⟨some ⟨.d0, .d0, .d3⟩, .move (.c (.int .i64 1)), none⟩])
    (.ret))
    (.skip)))
  (.seq (.region [⟨some ⟨.d0, .d1, .d3⟩, .move (.t ⟨.d0, .d0, .d0⟩), none⟩,
    ⟨some ⟨.d0, .d1, .d4⟩, .bin .shl (.c (.int .i64 1)) (.t ⟨.d0, .d1, .d3⟩), none⟩,
    ⟨some ⟨.d0, .d1, .d5⟩, .makeSlice 1 24 [.bool false, .int .u64 0, .int .i64 0] (.t ⟨.d0, .d1, .d4⟩) (.t ⟨.d0, .d1, .d4⟩), none⟩,
    ⟨some ⟨.d0, .d1, .d6⟩, .build [.slice none 0 0] [(0, 1, (.t ⟨.d0, .d1, .d5⟩))], none⟩,
    ⟨none, .store 1 (.t ⟨.d0, .d0, .d2⟩) (.t ⟨.d0, .d1, .d6⟩), none⟩,
    ⟨some ⟨.d0, .d0, .d3⟩, .move (.c (.int .i64 0)), none⟩])
  (.ret)))
def r_table_New : List XR := [.cell ⟨.d0, .d0, .d2⟩ true 1, .tmp ⟨.d0, .d0, .d3⟩]
theorem ok_table_New : okC Try.prog Try.f9.ntmps (bodyOf Try.f9) x_table_New = true := by kernel_rfl
theorem okr_table_New : okRs Try.prog Try.f9.results.toList r_table_New = true := by kernel_rfl

/-- custref.Between -/
def x_custref_Between : XC :=
  .seq (.region [⟨some ⟨.d0, .d0, .d6⟩, .move (.c (.bool false)), none⟩])
  (.seq (.region [⟨some ⟨.d0, .d0, .d7⟩, .move (.t ⟨.d0, .d0, .d1⟩), none⟩,
    ⟨some ⟨.d0, .d1, .d0⟩, .move (.t ⟨.d0, .d0, .d0⟩), none⟩,
    ⟨some ⟨.d0, .d1, .d1⟩, .bin .leq (.t ⟨.d0, .d0, .d7⟩) (.t ⟨.d0, .d1, .d0⟩), none⟩,
    ⟨some ⟨.d0, .d1, .d2⟩, .move (.t ⟨.d0, .d1, .d1⟩), none⟩,
    ⟨some ⟨.d0, .d1, .d3⟩, .move (.t ⟨.d0, .d0, .d0⟩), some (⟨.d0, .d1, .d2⟩, true)⟩,
    ⟨some ⟨.d0, .d1, .d4⟩, .move (.t ⟨.d0, .d0, .d2⟩), some (⟨.d0, .d1, .d2⟩, true)⟩,
    ⟨some ⟨.d0, .d1, .d5⟩, .bin .leq (.t ⟨.d0, .d1, .d3⟩) (.t ⟨.d0, .d1, .d4⟩), some (⟨.d0, .d1, .d2⟩, true)⟩,
    ⟨some ⟨.d0, .d1, .d6⟩, .pick (.t ⟨.d0, .d1, .d2⟩) (.t ⟨.d0, .d1, .d5⟩) (.c (.bool false)), none⟩,
    ⟨some ⟨.d0, .d0, .d6⟩, .move (.t ⟨.d0, .d1, .d6⟩), none⟩])
  (.ret))
def r_custref_Between : List XR := [.tmp ⟨.d0, .d0, .d6⟩]
theorem ok_custref_Between : okC Try.prog Try.f10.ntmps (bodyOf Try.f10) x_custref_Between = true := by kernel_rfl
theorem okr_custref_Between : okRs Try.prog Try.f10.results.toList r_custref_Between = true := by kernel_rfl

/-- table.Check -/
def x_table_Check : XC :=
  .seq (.region [⟨some ⟨.d0, .d0, .d1⟩, .box 0 1 (.t ⟨.d0, .d0, .d0⟩), none⟩,
    ⟨some ⟨.d0, .d0, .d2⟩, .move (.c (.int .i64 0)), none⟩])
  (.seq (.region [⟨some ⟨.d0, .d0, .d6⟩, .fieldAddr 0 (.t ⟨.d0, .d0, .d1⟩), none⟩,
    ⟨some ⟨.d0, .d0, .d7⟩, .load false 1 (.t ⟨.d0, .d0, .d6⟩), none⟩,
    ⟨some ⟨.d0, .d1, .d0⟩, .len (.t ⟨.d0, .d0, .d7⟩), none⟩,
    ⟨some ⟨.d0, .d0, .d3⟩, .move (.t ⟨.d0, .d1, .d0⟩), none⟩])
  (.seq (.seq (.region [⟨some ⟨.d0, .d1, .d1⟩, .move (.t ⟨.d0, .d0, .d3⟩), none⟩,
    ⟨some ⟨.d0, .d1, .d2⟩, .bin .lss (.t ⟨.d0, .d1, .d1⟩) (.c (.int .i64 2)), none⟩,
    ⟨some ⟨.d0, .d1, .d3⟩, .move (.t ⟨.d0, .d1, .d2⟩), none⟩,
    ⟨some ⟨.d0, .d1, .d4⟩, .move (.t ⟨.d0, .d0, .d3⟩), some (⟨.d0, .d1, .d3⟩, false)⟩,
    ⟨some ⟨.d0, .d1, .d5⟩, .bin .gtr (.t ⟨.d0, .d1, .d4⟩) (.c (.int .i64 64)), some (⟨.d0, .d1, .d3⟩, false)⟩,
    ⟨some ⟨.d0, .d1, .d6⟩, .pick (.t ⟨.d0, .d1, .d3⟩) (.c (.bool true)) (.t ⟨.d0, .d1, .d5⟩), none⟩,
    ⟨some ⟨.d0, .d1, .d7⟩, .move (.t ⟨.d0, .d1, .d6⟩), none⟩,
    ⟨some ⟨.d0, .d2, .d0⟩, .move (.t ⟨.d0, .d0, .d3⟩), some (⟨.d0, .d1, .d7⟩, false)⟩,
    ⟨some ⟨.d0, .d2, .d1⟩, .move (.t ⟨.d0, .d0, .d3⟩), some (⟨.d0, .d1, .d7⟩, false)⟩,
    ⟨some ⟨.d0, .d2, .d2⟩, .bin .sub (.t ⟨.d0, .d2, .d1⟩) (.c (.int .i64 1)), some (⟨.d0, .d1, .d7⟩, false)⟩,
    ⟨some ⟨.d0, .d2, .d3⟩, .bin .and (.t ⟨.d0, .d2, .d0⟩) (.t ⟨.d0, .d2, .d2⟩), some (⟨.d0, .d1, .d7⟩, false)⟩,
    ⟨some ⟨.d0, .d2, .d4⟩, .bin .neq (.t ⟨.d0, .d2, .d3⟩) (.c (.int .i64 0)), some (⟨.d0, .d1, .d7⟩, false)⟩,
    ⟨some ⟨.d0, .d2, .d5⟩, .pick (.t ⟨.d0, .d1, .d7⟩) (.c (.bool true)) (.t ⟨.d0, .d2, .d4⟩), none⟩])
  (.cond (.t ⟨.d0, .d2, .d5⟩)
    (.seq (.region [⟨some ⟨.d0, .d0, .d2⟩, .move (.c (.int .i64 1)), none⟩])
    (.ret))
    (.skip)))
  (.seq (.seq (.region [⟨some ⟨.d0, .d2, .d6⟩, .fieldAddr 0 (.t ⟨.d0, .d0, .d1⟩), none⟩,
    ⟨some ⟨.d0, .d2, .d7⟩, .load false 1 (.t ⟨.d0, .d2, .d6⟩), none⟩,
    ⟨some ⟨.d0, .d3, .d0⟩, .call 39 [(.t ⟨.d0, .d2, .d7⟩)], none⟩,
    ⟨some ⟨.d0, .d3, .d1⟩, .move (.t ⟨.d0, .d0, .d3⟩), none⟩,
    ⟨some ⟨.d0, .d3, .d2⟩, .bin .eql (.t ⟨.d0, .d3, .d0⟩) (.t ⟨.d0, .d3, .d1⟩), none⟩])
  (.cond (.t ⟨.d0, .d3, .d2⟩)
    (.seq (.region [⟨some ⟨.d0, .d0, .d2⟩, .move (.c (.int .i64 4)), none⟩])
    (.ret))
    (.skip)))
  (.seq (.seq (.region [⟨some ⟨.d0, .d3, .d3⟩, .fieldAddr 0 (.t ⟨.d0, .d0, .d1⟩), none⟩,
    ⟨some ⟨.d0, .d3, .d4⟩, .load false 1 (.t ⟨.d0, .d3, .d3⟩), none⟩,
    ⟨some ⟨.d0, .d3, .d5⟩, .len (.t ⟨.d0, .d3, .d4⟩), none⟩,
    ⟨some ⟨.d0, .d3, .d6⟩, .move (.c (.int .i64 0)), none⟩])
  (.block 0
    (.loop
      (.seq (.region [⟨some ⟨.d0, .d3, .d7⟩, .bin .lss (.t ⟨.d0, .d3, .d6⟩) (.t ⟨.d0, .d3, .d5⟩), none⟩])
      (.seq (.cond (.t ⟨.d0, .d3, .d7⟩)
        (.skip)
        (.exit 0))
      (.seq (.block 1
        (.seq (.region [⟨some ⟨.d0, .d4, .d0⟩, .move (.t ⟨.d0, .d3, .d6⟩), none⟩,
          ⟨some ⟨.d0, .d4, .d1⟩, .indexSl 3 (.t ⟨.d0, .d3, .d4⟩) (.t ⟨.d0, .d3, .d6⟩), none⟩,
          ⟨some ⟨.d0, .d4, .d2⟩, .load true 3 (.t ⟨.d0, .d4, .d1⟩), none⟩,
          ⟨some ⟨.d0, .d0, .d5⟩, .alloc 1 [.bool false, .int .u64 0, .int .i64 0], none⟩,
          ⟨some ⟨.d0, .d0, .d4⟩, .move (.t ⟨.d0, .d4, .d0⟩), none⟩,
          ⟨none, .store 3 (.t ⟨.d0, .d0, .d5⟩) (.t ⟨.d0, .d4, .d2⟩), none⟩])
        (.seq (.region [⟨some ⟨.d0, .d4, .d3⟩, .fieldAddr 0 (.t ⟨.d0, .d0, .d5⟩), none⟩,
          ⟨some ⟨.d0, .d4, .d4⟩, .load false 1 (.t ⟨.d0, .d4, .d3⟩), none⟩,
          ⟨some ⟨.d0, .d4, .d5⟩, .move (.t ⟨.d0, .d4, .d4⟩), none⟩,
          ⟨some ⟨.d0, .d4, .d6⟩, .fieldAddr 0 (.t ⟨.d0, .d0, .d1⟩), some (⟨.d0, .d4, .d5⟩, true)⟩,
          ⟨some ⟨.d0, .d4, .d7⟩, .load false 1 (.t ⟨.d0, .d4, .d6⟩), some (⟨.d0, .d4, .d5⟩, true)⟩,
          ⟨some ⟨.d0, .d5, .d0⟩, .fieldAddr 1 (.t ⟨.d0, .d0, .d5⟩), some (⟨.d0, .d4, .d5⟩, true)⟩,
          ⟨some ⟨.d0, .d5, .d1⟩, .load false 1 (.t ⟨.d0, .d5, .d0⟩), some (⟨.d0, .d4, .d5⟩, true)⟩,
          ⟨some ⟨.d0, .d5, .d2⟩, .call 40 [(.t ⟨.d0, .d4, .d7⟩), (.t ⟨.d0, .d5, .d1⟩)], some (⟨.d0, .d4, .d5⟩, true)⟩,
          ⟨some ⟨.d0, .d5, .d3⟩, .move (.t ⟨.d0, .d0, .d4⟩), some (⟨.d0, .d4, .d5⟩, true)⟩,
          ⟨some ⟨.d0, .d5, .d4⟩, .bin .neq (.t ⟨.d0, .d5, .d2⟩) (.t ⟨.d0, .d5, .d3⟩), some (⟨.d0, .d4, .d5⟩, true)⟩,
          ⟨some ⟨.d0, .d5, .d5⟩, .pick (.t ⟨.d0, .d4, .d5⟩) (.t ⟨.d0, .d5, .d4⟩) (.c (.bool false)), none⟩,
          ⟨some ⟨.d0, .d5, .d6⟩, .move (.t ⟨.d0, .d5, .d5⟩), none⟩,
          ⟨some ⟨.d0, .d5, .d7⟩, .fieldAddr 0 (.t ⟨.d0, .d0, .d5⟩), some (⟨.d0, .d5, .d6⟩, false)⟩,
          ⟨some ⟨.d0, .d6, .d0⟩, .load false 1 (.t ⟨.d0, .d5, .d7⟩), some (⟨.d0, .d5, .d6⟩, false)⟩,
          ⟨some ⟨.d0, .d6, .d1⟩, .un .not (.t ⟨.d0, .d6, .d0⟩), some (⟨.d0, .d5, .d6⟩, false)⟩,
          ⟨some ⟨.d0, .d6, .d2⟩, .move (.t ⟨.d0, .d6, .d1⟩), some (⟨.d0, .d5, .d6⟩, false)⟩,
          ⟨some ⟨.d0, .d6, .d3⟩, .load true 3 (.t ⟨.d0, .d0, .d5⟩), some (⟨.d0, .d6, .d2⟩, true)⟩,
          ⟨some ⟨.d0, .d6, .d4⟩, .build [.bool false, .int .u64 0, .int .i64 0] [], some (⟨.d0, .d6, .d2⟩, true)⟩,
          ⟨some ⟨.d0, .d6, .d5⟩, .eqs true [1, 0, 0] (.t ⟨.d0, .d6, .d3⟩) (.t ⟨.d0, .d6, .d4⟩), some (⟨.d0, .d6, .d2⟩, true)⟩,
          ⟨some ⟨.d0, .d6, .d6⟩, .pick (.t ⟨.d0, .d6, .d2⟩) (.t ⟨.d0, .d6, .d5⟩) (.c (.bool false)), some (⟨.d0, .d5, .d6⟩, false)⟩,
          ⟨some ⟨.d0, .d6, .d7⟩, .pick (.t ⟨.d0, .d5, .d6⟩) (.c (.bool true)) (.t ⟨.d0, .d6, .d6⟩), none⟩])
        (.cond (.t ⟨.d0, .d6, .d7⟩)
          (.seq (.region [⟨some ⟨.d0, .d0, .d2⟩, .move (.c (.int .i64 4)), none⟩])
          (.ret))
          (.skip)))))
      (.region [⟨some ⟨.d0, .d7, .d0⟩, .bin .add (.t ⟨.d0, .d3, .d6⟩) (.c (.int .i64 1)), none⟩,
        ⟨some ⟨.d0, .d3, .d6⟩, .move (.t ⟨.d0, .d7, .d0⟩), none⟩])))))))
  (.seq (.region [⟨some ⟨.d0, .d0, .d2⟩, .move (.c (.int .i64 0)), none⟩])
  (.ret))))))
def r_table_Check : List XR := [.tmp ⟨.d0, .d0, .d2⟩]
theorem ok_table_Check : okC Try.prog Try.f11.ntmps (bodyOf Try.f11) x_table_Check = true := by kernel_rfl
theorem okr_table_Check : okRs Try.prog Try.f11.results.toList r_table_Check = true := by kernel_rfl

/-- custref.TableRight -/
def x_custref_TableRight : XC :=
  .seq (.region [⟨some ⟨.d0, .d0, .d1⟩, .box 0 1 (.t ⟨.d0, .d0, .d0⟩), none⟩,
    ⟨some ⟨.d0, .d0, .d2⟩, .move (.c (.int .i64 0)), none⟩])
  (.seq (.region [⟨some ⟨.d0, .d1, .d3⟩, .fieldAddr 0 (.t ⟨.d0, .d0, .d1⟩), none⟩,
    ⟨some ⟨.d0, .d1, .d4⟩, .load false 1 (.t ⟨.d0, .d1, .d3⟩), none⟩,
    ⟨some ⟨.d0, .d1, .d5⟩, .len (.t ⟨.d0, .d1, .d4⟩), none⟩,
    ⟨some ⟨.d0, .d0, .d3⟩, .move (.t ⟨.d0, .d1, .d5⟩), none⟩])
  (.seq (.region [⟨some ⟨.d0, .d1, .d6⟩, .move (.t ⟨.d0, .d0, .d3⟩), none⟩,
    ⟨some ⟨.d0, .d1, .d7⟩, .call 41 [(.t ⟨.d0, .d1, .d6⟩)], none⟩,
    ⟨some ⟨.d0, .d0, .d4⟩, .move (.t ⟨.d0, .d1, .d7⟩), none⟩])
  (.seq (.seq (.region [⟨some ⟨.d0, .d2, .d0⟩, .move (.t ⟨.d0, .d0, .d4⟩), none⟩,
    ⟨some ⟨.d0, .d2, .d1⟩, .bin .eql (.t ⟨.d0, .d2, .d0⟩) (.c (.int .i64 0)), none⟩])
  (.cond (.t ⟨.d0, .d2, .d1⟩)
    (.seq (.region [⟨some ⟨.d0, .d0, .d2⟩, .move (.c (.int .i64 1)), none⟩])
    (.ret))
    (.skip)))
  (.seq (.region [⟨some ⟨.d0, .d0, .d5⟩, .move (.c (.int .i64 0)), none⟩])
  (.seq (.seq (.region [⟨some ⟨.d0, .d2, .d2⟩, .fieldAddr 0 (.t ⟨.d0, .d0, .d1⟩), none⟩,
    ⟨some ⟨.d0, .d2, .d3⟩, .load false 1 (.t ⟨.d0, .d2, .d2⟩), none⟩,
    ⟨some ⟨.d0, .d2, .d4⟩, .len (.t ⟨.d0, .d2, .d3⟩), none⟩,
    ⟨some ⟨.d0, .d2, .d5⟩, .move (.c (.int .i64 0)), none⟩])
  (.block 0
    (.loop
      (.seq (.region [⟨some ⟨.d0, .d2, .d6⟩, .bin .lss (.t ⟨.d0, .d2, .d5⟩) (.t ⟨.d0, .d2, .d4⟩), none⟩])
      (.seq (.cond (.t ⟨.d0, .d2, .d6⟩)
        (.skip)
        (.exit 0))
      (.seq (.block 1
        (.seq (.region [⟨some ⟨.d0, .d2, .d7⟩, .move (.t ⟨.d0, .d2, .d5⟩), none⟩,
          ⟨some ⟨.d0, .d3, .d0⟩, .indexSl 3 (.t ⟨.d0, .d2, .d3⟩) (.t ⟨.d0, .d2, .d5⟩), none⟩,
          ⟨some ⟨.d0, .d3, .d1⟩, .load true 3 (.t ⟨.d0, .d3, .d0⟩), none⟩,
          ⟨some ⟨.d0, .d0, .d7⟩, .alloc 1 [.bool false, .int .u64 0, .int .i64 0], none⟩,
          ⟨some ⟨.d0, .d0, .d6⟩, .move (.t ⟨.d0, .d2, .d7⟩), none⟩,
          ⟨none, .store 3 (.t ⟨.d0, .d0, .d7⟩) (.t ⟨.d0, .d3, .d1⟩), none⟩])
        (.seq (.seq (.region [⟨some ⟨.d0, .d3, .d2⟩, .fieldAddr 0 (.t ⟨.d0, .d0, .d7⟩), none⟩,
          ⟨some ⟨.d0, .d3, .d3⟩, .load false 1 (.t ⟨.d0, .d3, .d2⟩), none⟩,
          ⟨some ⟨.d0, .d3, .d4⟩, .un .not (.t ⟨.d0, .d3, .d3⟩), none⟩])
        (.cond (.t ⟨.d0, .d3, .d4⟩)
          (.seq (.region [⟨some ⟨.d0, .d3, .d5⟩, .move (.t ⟨.d0, .d0, .d5⟩), none⟩,
            ⟨some ⟨.d0, .d3, .d6⟩, .bin .add (.t ⟨.d0, .d3, .d5⟩) (.c (.int .i64 1)), none⟩,
            ⟨some ⟨.d0, .d0, .d5⟩, .move (.t ⟨.d0, .d3, .d6⟩), none⟩])
          (.seq (.seq (.region [⟨some ⟨.d0, .d3, .d7⟩, .fieldAddr 1 (.t ⟨.d0, .d0, .d7⟩), none⟩,
            ⟨some ⟨.d0, .d4, .d0⟩, .load false 1 (.t ⟨.d0, .d3, .d7⟩), none⟩,
            ⟨some ⟨.d0, .d4, .d1⟩, .bin .neq (.t ⟨.d0, .d4, .d0⟩) (.c (.int .u64 0)), none⟩,
            ⟨some ⟨.d0, .d4, .d2⟩, .move (.t ⟨.d0, .d4, .d1⟩), none⟩,
            ⟨some ⟨.d0, .d4, .d3⟩, .fieldAddr 2 (.t ⟨.d0, .d0, .d7⟩), some (⟨.d0, .d4, .d2⟩, false)⟩,
            ⟨some ⟨.d0, .d4, .d4⟩, .load false 1 (.t ⟨.d0, .d4, .d3⟩), some (⟨.d0, .d4, .d2⟩, false)⟩,
            ⟨some ⟨.d0, .d4, .d5⟩, .bin .neq (.t ⟨.d0, .d4, .d4⟩) (.c (.int .i64 0)), some (⟨.d0, .d4, .d2⟩, false)⟩,
            ⟨some ⟨.d0, .d4, .d6⟩, .pick (.t ⟨.d0, .d4, .d2⟩) (.c (.bool true)) (.t ⟨.d0, .d4, .d5⟩), none⟩])
          (.cond (.t ⟨.d0, .d4, .d6⟩)
            (.seq (.region [⟨some ⟨.d0, .d0, .d2⟩, .move (.c (.int .i64 4)), none⟩])
            (.ret))
            (.skip)))
          (.exit 1)))
          (.skip)))
        (.seq (.seq (.region [⟨some ⟨.d0, .d4, .d7⟩, .move (.t ⟨.d0, .d0, .d4⟩), none⟩,
          ⟨some ⟨.d0, .d5, .d0⟩, .fieldAddr 1 (.t ⟨.d0, .d0, .d7⟩), none⟩,
          ⟨some ⟨.d0, .d5, .d1⟩, .load false 1 (.t ⟨.d0, .d5, .d0⟩), none⟩,
          ⟨some ⟨.d0, .d5, .d2⟩, .call 13 [(.t ⟨.d0, .d4, .d7⟩), (.t ⟨.d0, .d5, .d1⟩)], none⟩,
          ⟨some ⟨.d0, .d1, .d0⟩, .move (.t ⟨.d0, .d5, .d2⟩), none⟩])
        (.block 2
          (.loop
            (.seq (.seq (.region [⟨some ⟨.d0, .d5, .d3⟩, .move (.t ⟨.d0, .d1, .d0⟩), none⟩,
              ⟨some ⟨.d0, .d5, .d4⟩, .move (.t ⟨.d0, .d0, .d6⟩), none⟩,
              ⟨some ⟨.d0, .d5, .d5⟩, .bin .neq (.t ⟨.d0, .d5, .d3⟩) (.t ⟨.d0, .d5, .d4⟩), none⟩])
            (.cond (.t ⟨.d0, .d5, .d5⟩)
              (.skip)
              (.exit 2)))
            (.seq (.block 3
              (.seq (.regionD [0, 1, 0, 7, 15, 31, 63, 127, 255, 511, 255, 2047, 4095, 8191, 255, 16639, 65535, 131071] [⟨some ⟨.d0, .d6, .d2⟩, .fieldAddr 0 (.t ⟨.d0, .d0, .d1⟩), none⟩,
                ⟨some ⟨.d0, .d6, .d3⟩, .load false 1 (.t ⟨.d0, .d6, .d2⟩), none⟩,
                ⟨some ⟨.d0, .d6, .d4⟩, .move (.t ⟨.d0, .d1, .d0⟩), none⟩,
                ⟨some ⟨.d0, .d6, .d5⟩, .indexSl 3 (.t ⟨.d0, .d6, .d3⟩) (.t ⟨.d0, .d6, .d4⟩), none⟩,
                ⟨some ⟨.d0, .d6, .d6⟩, .fieldAddr 0 (.t ⟨.d0, .d6, .d5⟩), none⟩,
                ⟨some ⟨.d0, .d6, .d7⟩, .load false 1 (.t ⟨.d0, .d6, .d6⟩), none⟩,
                ⟨some ⟨.d0, .d7, .d0⟩, .un .not (.t ⟨.d0, .d6, .d7⟩), none⟩,
                ⟨some ⟨.d0, .d7, .d1⟩, .move (.t ⟨.d0, .d7, .d0⟩), none⟩,
                ⟨some ⟨.d0, .d7, .d2⟩, .fieldAddr 0 (.t ⟨.d0, .d0, .d1⟩), some (⟨.d0, .d7, .d1⟩, false)⟩,
                ⟨some ⟨.d0, .d7, .d3⟩, .load false 1 (.t ⟨.d0, .d7, .d2⟩), some (⟨.d0, .d7, .d1⟩, false)⟩,
                ⟨some ⟨.d0, .d7, .d4⟩, .move (.t ⟨.d0, .d1, .d0⟩), some (⟨.d0, .d7, .d1⟩, false)⟩,
                ⟨some ⟨.d0, .d7, .d5⟩, .indexSl 3 (.t ⟨.d0, .d7, .d3⟩) (.t ⟨.d0, .d7, .d4⟩), some (⟨.d0, .d7, .d1⟩, false)⟩,
                ⟨some ⟨.d0, .d7, .d6⟩, .fieldAddr 1 (.t ⟨.d0, .d7, .d5⟩), some (⟨.d0, .d7, .d1⟩, false)⟩,
                ⟨some ⟨.d0, .d7, .d7⟩, .load false 1 (.t ⟨.d0, .d7, .d6⟩), some (⟨.d0, .d7, .d1⟩, false)⟩,
                ⟨some ⟨.d1, .d0, .d0⟩, .fieldAddr 1 (.t ⟨.d0, .d0, .d7⟩), some (⟨.d0, .d7, .d1⟩, false)⟩,
                ⟨some ⟨.d1, .d0, .d1⟩, .load false 1 (.t ⟨.d1, .d0, .d0⟩), some (⟨.d0, .d7, .d1⟩, false)⟩,
                ⟨some ⟨.d1, .d0, .d2⟩, .bin .eql (.t ⟨.d0, .d7, .d7⟩) (.t ⟨.d1, .d0, .d1⟩), some (⟨.d0, .d7, .d1⟩, false)⟩,
                ⟨some ⟨.d1, .d0, .d3⟩, .pick (.t ⟨.d0, .d7, .d1⟩) (.c (.bool true)) (.t ⟨.d1, .d0, .d2⟩), none⟩])
              (.cond (.t ⟨.d1, .d0, .d3⟩)
                (.seq (.region [⟨some ⟨.d0, .d0, .d2⟩, .move (.c (.int .i64 4)), none⟩])
                (.ret))
                (.skip))))
            (.region [⟨some ⟨.d0, .d5, .d6⟩, .move (.t ⟨.d0, .d1, .d0⟩), none⟩,
              ⟨some ⟨.d0, .d5, .d7⟩, .bin .add (.t ⟨.d0, .d5, .d6⟩) (.c (.int .i64 1)), none⟩,
              ⟨some ⟨.d0, .d6, .d0⟩, .move (.t ⟨.d0, .d0, .d3⟩), none⟩,
              ⟨some ⟨.d0, .d6, .d1⟩, .bin .rem (.t ⟨.d0, .d5, .d7⟩) (.t ⟨.d0, .d6, .d0⟩), none⟩,
              ⟨some ⟨.d0, .d1, .d0⟩, .move (.t ⟨.d0, .d6, .d1⟩), none⟩]))))))
        (.seq (.region [⟨some ⟨.d1, .d0, .d4⟩, .fieldAddr 0 (.t ⟨.d0, .d0, .d1⟩), none⟩,
          ⟨some ⟨.d1, .d0, .d5⟩, .load false 1 (.t ⟨.d1, .d0, .d4⟩), none⟩,
          ⟨some ⟨.d1, .d0, .d6⟩, .len (.t ⟨.d1, .d0, .d5⟩), none⟩,
          ⟨some ⟨.d1, .d0, .d7⟩, .move (.c (.int .i64 0)), none⟩])
        (.block 4
          (.loop
            (.seq (.region [⟨some ⟨.d1, .d1, .d0⟩, .bin .lss (.t ⟨.d1, .d0, .d7⟩) (.t ⟨.d1, .d0, .d6⟩), none⟩])
            (.seq (.cond (.t ⟨.d1, .d1, .d0⟩)
              (.skip)
              (.exit 4))
            (.seq (.block 5
              (.seq (.region [⟨some ⟨.d1, .d1, .d1⟩, .move (.t ⟨.d1, .d0, .d7⟩), none⟩,
                ⟨some ⟨.d1, .d1, .d2⟩, .indexSl 3 (.t ⟨.d1, .d0, .d5⟩) (.t ⟨.d1, .d0, .d7⟩), none⟩,
                ⟨some ⟨.d1, .d1, .d3⟩, .load true 3 (.t ⟨.d1, .d1, .d2⟩), none⟩,
                ⟨some ⟨.d0, .d1, .d2⟩, .alloc 2 [.bool false, .int .u64 0, .int .i64 0], none⟩,
                ⟨some ⟨.d0, .d1, .d1⟩, .move (.t ⟨.d1, .d1, .d1⟩), none⟩,
                ⟨none, .store 3 (.t ⟨.d0, .d1, .d2⟩) (.t ⟨.d1, .d1, .d3⟩), none⟩])
              (.seq (.region [⟨some ⟨.d1, .d1, .d4⟩, .move (.t ⟨.d0, .d1, .d1⟩), none⟩,
                ⟨some ⟨.d1, .d1, .d5⟩, .move (.t ⟨.d0, .d0, .d6⟩), none⟩,
                ⟨some ⟨.d1, .d1, .d6⟩, .bin .neq (.t ⟨.d1, .d1, .d4⟩) (.t ⟨.d1, .d1, .d5⟩), none⟩,
                ⟨some ⟨.d1, .d1, .d7⟩, .move (.t ⟨.d1, .d1, .d6⟩), none⟩,
                ⟨some ⟨.d1, .d2, .d0⟩, .fieldAddr 0 (.t ⟨.d0, .d1, .d2⟩), some (⟨.d1, .d1, .d7⟩, true)⟩,
                ⟨some ⟨.d1, .d2, .d1⟩, .load false 1 (.t ⟨.d1, .d2, .d0⟩), some (⟨.d1, .d1, .d7⟩, true)⟩,
                ⟨some ⟨.d1, .d2, .d2⟩, .pick (.t ⟨.d1, .d1, .d7⟩) (.t ⟨.d1, .d2, .d1⟩) (.c (.bool false)), none⟩,
                ⟨some ⟨.d1, .d2, .d3⟩, .move (.t ⟨.d1, .d2, .d2⟩), none⟩,
                ⟨some ⟨.d1, .d2, .d4⟩, .fieldAddr 1 (.t ⟨.d0, .d1, .d2⟩), some (⟨.d1, .d2, .d3⟩, true)⟩,
                ⟨some ⟨.d1, .d2, .d5⟩, .load false 1 (.t ⟨.d1, .d2, .d4⟩), some (⟨.d1, .d2, .d3⟩, true)⟩,
                ⟨some ⟨.d1, .d2, .d6⟩, .fieldAddr 1 (.t ⟨.d0, .d0, .d7⟩), some (⟨.d1, .d2, .d3⟩, true)⟩,
                ⟨some ⟨.d1, .d2, .d7⟩, .load false 1 (.t ⟨.d1, .d2, .d6⟩), some (⟨.d1, .d2, .d3⟩, true)⟩,
                ⟨some ⟨.d1, .d3, .d0⟩, .bin .eql (.t ⟨.d1, .d2, .d5⟩) (.t ⟨.d1, .d2, .d7⟩), some (⟨.d1, .d2, .d3⟩, true)⟩,
                ⟨some ⟨.d1, .d3, .d1⟩, .pick (.t ⟨.d1, .d2, .d3⟩) (.t ⟨.d1, .d3, .d0⟩) (.c (.bool false)), none⟩])
              (.cond (.t ⟨.d1, .d3, .d1⟩)
                (.seq (.region [⟨some ⟨.d0, .d0, .d2⟩, .move (.c (.int .i64 4)), none⟩])
                (.ret))
                (.skip)))))
            (.region [⟨some ⟨.d1, .d3, .d2⟩, .bin .add (.t ⟨.d1, .d0, .d7⟩) (.c (.int .i64 1)), none⟩,
              ⟨some ⟨.d1, .d0, .d7⟩, .move (.t ⟨.d1, .d3, .d2⟩), none⟩])))))))))))
      (.region [⟨some ⟨.d1, .d3, .d3⟩, .bin .add (.t ⟨.d0, .d2, .d5⟩) (.c (.int .i64 1)), none⟩,
        ⟨some ⟨.d0, .d2, .d5⟩, .move (.t ⟨.d1, .d3, .d3⟩), none⟩])))))))
  (.seq (.seq (.region [⟨some ⟨.d1, .d3, .d4⟩, .move (.t ⟨.d0, .d0, .d5⟩), none⟩,
    ⟨some ⟨.d1, .d3, .d5⟩, .bin .eql (.t ⟨.d1, .d3, .d4⟩) (.c (.int .i64 0)), none⟩])
  (.cond (.t ⟨.d1, .d3, .d5⟩)
    (.seq (.region [⟨some ⟨.d0, .d0, .d2⟩, .move (.c (.int .i64 4)), none⟩])
    (.ret))
    (.skip)))
  (.seq (.region [⟨some ⟨.d0, .d0, .d2⟩, .move (.c (.int .i64 0)), none⟩])
  (.ret))))))))
def r_custref_TableRight : List XR := [.tmp ⟨.d0, .d0, .d2⟩]
theorem ok_custref_TableRight : okC Try.prog Try.f12.ntmps (bodyOf Try.f12) x_custref_TableRight = true := by kernel_rfl
theorem okr_custref_TableRight : okRs Try.prog Try.f12.results.toList r_custref_TableRight = true := by kernel_rfl

/-- custref.HomeOf -/
def x_custref_HomeOf : XC :=
  .seq (.region [⟨some ⟨.d0, .d0, .d4⟩, .move (.c (.int .i64 0)), none⟩])
  (.seq (.region [⟨some ⟨.d0, .d1, .d0⟩, .move (.t ⟨.d0, .d0, .d1⟩), none⟩,
    ⟨some ⟨.d0, .d1, .d1⟩, .bin .quo (.t ⟨.d0, .d1, .d0⟩) (.c (.int .u64 4294967296)), none⟩,
    ⟨some ⟨.d0, .d1, .d2⟩, .move (.t ⟨.d0, .d0, .d1⟩), none⟩,
    ⟨some ⟨.d0, .d1, .d3⟩, .bin .rem (.t ⟨.d0, .d1, .d2⟩) (.c (.int .u64 4294967296)), none⟩,
    ⟨some ⟨.d0, .d0, .d5⟩, .move (.t ⟨.d0, .d1, .d1⟩), none⟩,
    ⟨some ⟨.d0, .d0, .d6⟩, .move (.t ⟨.d0, .d1, .d3⟩), none⟩])
  (.seq (.region [⟨some ⟨.d0, .d1, .d4⟩, .move (.t ⟨.d0, .d0, .d5⟩), none⟩,
    ⟨some ⟨.d0, .d1, .d5⟩, .bin .mul (.t ⟨.d0, .d1, .d4⟩) (.c (.int .u64 2135587861)), none⟩,
    ⟨some ⟨.d0, .d1, .d6⟩, .move (.t ⟨.d0, .d0, .d6⟩), none⟩,
    ⟨some ⟨.d0, .d1, .d7⟩, .bin .mul (.t ⟨.d0, .d1, .d6⟩) (.c (.int .u64 2654435769)), none⟩,
    ⟨some ⟨.d0, .d2, .d0⟩, .bin .add (.t ⟨.d0, .d1, .d5⟩) (.t ⟨.d0, .d1, .d7⟩), none⟩,
    ⟨some ⟨.d0, .d2, .d1⟩, .bin .rem (.t ⟨.d0, .d2, .d0⟩) (.c (.int .u64 4294967296)), none⟩,
    ⟨some ⟨.d0, .d2, .d2⟩, .bin .mul (.t ⟨.d0, .d2, .d1⟩) (.c (.int .u64 4294967296)), none⟩,
    ⟨some ⟨.d0, .d2, .d3⟩, .move (.t ⟨.d0, .d0, .d6⟩), none⟩,
    ⟨some ⟨.d0, .d2, .d4⟩, .bin .mul (.t ⟨.d0, .d2, .d3⟩) (.c (.int .u64 2135587861)), none⟩,
    ⟨some ⟨.d0, .d2, .d5⟩, .bin .add (.t ⟨.d0, .d2, .d2⟩) (.t ⟨.d0, .d2, .d4⟩), none⟩,
    ⟨some ⟨.d0, .d0, .d7⟩, .move (.t ⟨.d0, .d2, .d5⟩), none⟩])
  (.seq (.seq (.region [⟨some ⟨.d0, .d2, .d6⟩, .move (.t ⟨.d0, .d0, .d0⟩), none⟩,
    ⟨some ⟨.d0, .d2, .d7⟩, .bin .sub (.c (.int .i64 64)) (.t ⟨.d0, .d2, .d6⟩), none⟩,
    ⟨some ⟨.d0, .d3, .d0⟩, .move (.c (.int .i64 0)), none⟩])
  (.block 0
    (.loop
      (.seq (.region [⟨some ⟨.d0, .d3, .d1⟩, .bin .lss (.t ⟨.d0, .d3, .d0⟩) (.t ⟨.d0, .d2, .d7⟩), none⟩])
      (.seq (.cond (.t ⟨.d0, .d3, .d1⟩)
        (.skip)
        (.exit 0))
      (.seq (.block 1
        (.region [⟨some ⟨.d0, .d3, .d2⟩, .move (.t ⟨.d0, .d0, .d7⟩), none⟩,
          ⟨some ⟨.d0, .d3, .d3⟩, .bin .quo (.t ⟨.d0, .d3, .d2⟩) (.c (.int .u64 2)), none⟩,
          ⟨some ⟨.d0, .d0, .d7⟩, .move (.t ⟨.d0, .d3, .d3⟩), none⟩]))
      (.region [⟨some ⟨.d0, .d3, .d4⟩, .bin .add (.t ⟨.d0, .d3, .d0⟩) (.c (.int .i64 1)), none⟩,
        ⟨some ⟨.d0, .d3, .d0⟩, .move (.t ⟨.d0, .d3, .d4⟩), none⟩])))))))
  (.seq (.region [⟨some ⟨.d0, .d3, .d5⟩, .move (.t ⟨.d0, .d0, .d7⟩), none⟩,
    ⟨some ⟨.d0, .d3, .d6⟩, .convInt .i64 (.t ⟨.d0, .d3, .d5⟩), none⟩,
    ⟨some ⟨.d0, .d0, .d4⟩, .move (.t ⟨.d0, .d3, .d6⟩), none⟩])
  (.ret)))))
def r_custref_HomeOf : List XR := [.tmp ⟨.d0, .d0, .d4⟩]
theorem ok_custref_HomeOf : okC Try.prog Try.f13.ntmps (bodyOf Try.f13) x_custref_HomeOf = true := by kernel_rfl
theorem okr_custref_HomeOf : okRs Try.prog Try.f13.results.toList r_custref_HomeOf = true := by kernel_rfl

/-- custref.SameTable -/
def x_custref_SameTable : XC :=
  .seq (.region [⟨some ⟨.d0, .d0, .d2⟩, .box 1 1 (.t ⟨.d0, .d0, .d0⟩), none⟩,
    ⟨some ⟨.d0, .d0, .d3⟩, .box 2 1 (.t ⟨.d0, .d0, .d1⟩), none⟩,
    ⟨some ⟨.d0, .d0, .d4⟩, .move (.c (.bool false)), none⟩])
  (.seq (.region [⟨some ⟨.d0, .d0, .d5⟩, .fieldAddr 0 (.t ⟨.d0, .d0, .d2⟩), none⟩,
    ⟨some ⟨.d0, .d0, .d6⟩, .load false 1 (.t ⟨.d0, .d0, .d5⟩), none⟩,
    ⟨some ⟨.d0, .d0, .d7⟩, .fieldAddr 0 (.t ⟨.d0, .d0, .d3⟩), none⟩,
    ⟨some ⟨.d0, .d1, .d0⟩, .load false 1 (.t ⟨.d0, .d0, .d7⟩), none⟩,
    ⟨some ⟨.d0, .d1, .d1⟩, .call 42 [(.t ⟨.d0, .d0, .d6⟩), (.t ⟨.d0, .d1, .d0⟩)], none⟩,
    ⟨some ⟨.d0, .d0, .d4⟩, .move (.t ⟨.d0, .d1, .d1⟩), none⟩])
  (.ret))
def r_custref_SameTable : List XR := [.tmp ⟨.d0, .d0, .d4⟩]
theorem ok_custref_SameTable : okC Try.prog Try.f14.ntmps (bodyOf Try.f14) x_custref_SameTable = true := by kernel_rfl
theorem okr_custref_SameTable : okRs Try.prog Try.f14.results.toList r_custref_SameTable = true := by kernel_rfl

/-- table.Put -/
def x_table_Put : XC :=
  .seq (.region [⟨some ⟨.d0, .d0, .d3⟩, .box 0 1 (.t ⟨.d0, .d0, .d0⟩), none⟩,
    ⟨some ⟨.d0, .d0, .d6⟩, .alloc 1 [.slice none 0 0], none⟩,
    ⟨some ⟨.d0, .d0, .d7⟩, .move (.c (.int .i64 0)), none⟩])
  (.seq (.seq (.region [⟨some ⟨.d0, .d1, .d3⟩, .load true 1 (.t ⟨.d0, .d0, .d3⟩), none⟩,
    ⟨some ⟨.d0, .d1, .d4⟩, .call 11 [(.t ⟨.d0, .d1, .d3⟩)], none⟩,
    ⟨some ⟨.d0, .d1, .d0⟩, .move (.t ⟨.d0, .d1, .d4⟩), none⟩])
  (.seq (.region [⟨some ⟨.d0, .d1, .d5⟩, .move (.t ⟨.d0, .d1, .d0⟩), none⟩,
    ⟨some ⟨.d0, .d1, .d6⟩, .bin .neq (.t ⟨.d0, .d1, .d5⟩) (.c (.int .i64 0)), none⟩])
  (.cond (.t ⟨.d0, .d1, .d6⟩)
    (.seq (.region [⟨some ⟨.d0, .d1, .d7⟩, .build [.slice none 0 0] [], none⟩,
      ⟨some ⟨.d0, .d2, .d0⟩, .move (.t ⟨.d0, .d1, .d0⟩), none⟩,
      ⟨none, .store 1 (.t ⟨.d0, .d0, .d6⟩) (.t ⟨.d0, .d1, .d7⟩), none⟩,
      ⟨some ⟨.d0, .d0, .d7⟩, .move (.t ⟨.d0, .d2, .d0⟩), none⟩])
    (.ret))
    (.skip))))
  (.seq (.region [⟨some ⟨.d0, .d2, .d1⟩, .fieldAddr 0 (.t ⟨.d0, .d0, .d3⟩), none⟩,
    ⟨some ⟨.d0, .d2, .d2⟩, .load false 1 (.t ⟨.d0, .d2, .d1⟩), none⟩,
    ⟨some ⟨.d0, .d2, .d3⟩, .call 43 [(.t ⟨.d0, .d2, .d2⟩)], none⟩,
    ⟨some ⟨.d0, .d1, .d1⟩, .move (.t ⟨.d0, .d2, .d3⟩), none⟩])
  (.seq (.region [⟨some ⟨.d0, .d2, .d4⟩, .move (.t ⟨.d0, .d1, .d1⟩), none⟩,
    ⟨some ⟨.d0, .d2, .d5⟩, .move (.t ⟨.d0, .d0, .d1⟩), none⟩,
    ⟨some ⟨.d0, .d2, .d6⟩, .call 40 [(.t ⟨.d0, .d2, .d4⟩), (.t ⟨.d0, .d2, .d5⟩)], none⟩,
    ⟨some ⟨.d0, .d1, .d2⟩, .move (.t ⟨.d0, .d2, .d6⟩), none⟩])
  (.seq (.seq (.region [⟨some ⟨.d0, .d2, .d7⟩, .move (.t ⟨.d0, .d1, .d1⟩), none⟩,
    ⟨some ⟨.d0, .d3, .d0⟩, .move (.t ⟨.d0, .d1, .d2⟩), none⟩,
    ⟨some ⟨.d0, .d3, .d1⟩, .indexSl 3 (.t ⟨.d0, .d2, .d7⟩) (.t ⟨.d0, .d3, .d0⟩), none⟩,
    ⟨some ⟨.d0, .d3, .d2⟩, .fieldAddr 0 (.t ⟨.d0, .d3, .d1⟩), none⟩,
    ⟨some ⟨.d0, .d3, .d3⟩, .load false 1 (.t ⟨.d0, .d3, .d2⟩), none⟩,
    ⟨some ⟨.d0, .d3, .d4⟩, .un .not (.t ⟨.d0, .d3, .d3⟩), none⟩,
    ⟨some ⟨.d0, .d3, .d5⟩, .move (.t ⟨.d0, .d3, .d4⟩), none⟩,
    ⟨some ⟨.d0, .d3, .d6⟩, .move (.t ⟨.d0, .d1, .d1⟩), some (⟨.d0, .d3, .d5⟩, true)⟩,
    ⟨some ⟨.d0, .d3, .d7⟩, .call 39 [(.t ⟨.d0, .d3, .d6⟩)], some (⟨.d0, .d3, .d5⟩, true)⟩,
    ⟨some ⟨.d0, .d4, .d0⟩, .move (.t ⟨.d0, .d1, .d1⟩), some (⟨.d0, .d3, .d5⟩, true)⟩,
    ⟨some ⟨.d0, .d4, .d1⟩, .len (.t ⟨.d0, .d4, .d0⟩), some (⟨.d0, .d3, .d5⟩, true)⟩,
    ⟨some ⟨.d0, .d4, .d2⟩, .bin .sub (.t ⟨.d0, .d4, .d1⟩) (.c (.int .i64 1)), some (⟨.d0, .d3, .d5⟩, true)⟩,
    ⟨some ⟨.d0, .d4, .d3⟩, .bin .eql (.t ⟨.d0, .d3, .d7⟩) (.t ⟨.d0, .d4, .d2⟩), some (⟨.d0, .d3, .d5⟩, true)⟩,
    ⟨some ⟨.d0, .d4, .d4⟩, .pick (.t ⟨.d0, .d3, .d5⟩) (.t ⟨.d0, .d4, .d3⟩) (.c (.bool false)), none⟩])
  (.cond (.t ⟨.d0, .d4, .d4⟩)
    (.seq (.region [⟨some ⟨.d0, .d4, .d5⟩, .build [.slice none 0 0] [], none⟩,
      ⟨none, .store 1 (.t ⟨.d0, .d0, .d6⟩) (.t ⟨.d0, .d4, .d5⟩), none⟩,
      ⟨some ⟨.d0, .d0, .d7⟩, .move (.c (.int .i64 6)), none⟩])
    (.ret))
    (.skip)))
  (.seq (.region [⟨some ⟨.d0, .d4, .d6⟩, .move (.t ⟨.d0, .d1, .d1⟩), none⟩,
    ⟨some ⟨.d0, .d4, .d7⟩, .move (.t ⟨.d0, .d1, .d2⟩), none⟩,
    ⟨some ⟨.d0, .d5, .d0⟩, .move (.t ⟨.d0, .d0, .d1⟩), none⟩,
    ⟨some ⟨.d0, .d5, .d1⟩, .move (.t ⟨.d0, .d0, .d2⟩), none⟩,
    ⟨some ⟨.d0, .d5, .d2⟩, .build [.bool false, .int .u64 0, .int .i64 0] [(0, 1, (.c (.bool true))), (1, 1, (.t ⟨.d0, .d5, .d0⟩)), (2, 1, (.t ⟨.d0, .d5, .d1⟩))], none⟩,
    ⟨some ⟨.d0, .d5, .d3⟩, .indexSl 3 (.t ⟨.d0, .d4, .d6⟩) (.t ⟨.d0, .d4, .d7⟩), none⟩,
    ⟨none, .store 3 (.t ⟨.d0, .d5, .d3⟩) (.t ⟨.d0, .d5, .d2⟩), none⟩])
  (.seq (.region [⟨some ⟨.d0, .d5, .d4⟩, .move (.t ⟨.d0, .d1, .d1⟩), none⟩,
    ⟨some ⟨.d0, .d5, .d5⟩, .build [.slice none 0 0] [(0, 1, (.t ⟨.d0, .d5, .d4⟩))], none⟩,
    ⟨none, .store 1 (.t ⟨.d0, .d0, .d6⟩) (.t ⟨.d0, .d5, .d5⟩), none⟩,
    ⟨some ⟨.d0, .d0, .d7⟩, .move (.c (.int .i64 0)), none⟩])
  (.ret)))))))
def r_table_Put : List XR := [.cell ⟨.d0, .d0, .d6⟩ true 1, .tmp ⟨.d0, .d0, .d7⟩]
theorem ok_table_Put : okC Try.prog Try.f15.ntmps (bodyOf Try.f15) x_table_Put = true := by kernel_rfl
theorem okr_table_Put : okRs Try.prog Try.f15.results.toList r_table_Put = true := by kernel_rfl

/-- custref.TablePut -/
def x_custref_TablePut : XC :=
  .seq (.region [⟨some ⟨.d0, .d0, .d3⟩, .box 0 1 (.t ⟨.d0, .d0, .d0⟩), none⟩,
    ⟨some ⟨.d0, .d0, .d6⟩, .alloc 1 [.slice none 0 0], none⟩,
    ⟨some ⟨.d0, .d0, .d7⟩, .move (.c (.int .i64 0)), none⟩])
  (.seq (.seq (.region [⟨some ⟨.d0, .d1, .d6⟩, .load true 1 (.t ⟨.d0, .d0, .d3⟩), none⟩,
    ⟨some ⟨.d0, .d1, .d7⟩, .call 12 [(.t ⟨.d0, .d1, .d6⟩)], none⟩,
    ⟨some ⟨.d0, .d1, .d0⟩, .move (.t ⟨.d0, .d1, .d7⟩), none⟩])
  (.seq (.region [⟨some ⟨.d0, .d2, .d0⟩, .move (.t ⟨.d0, .d1, .d0⟩), none⟩,
    ⟨some ⟨.d0, .d2, .d1⟩, .bin .neq (.t ⟨.d0, .d2, .d0⟩) (.c (.int .i64 0)), none⟩])
  (.cond (.t ⟨.d0, .d2, .d1⟩)
    (.seq (.region [⟨some ⟨.d0, .d2, .d2⟩, .build [.slice none 0 0] [], none⟩,
      ⟨some ⟨.d0, .d2, .d3⟩, .move (.t ⟨.d0, .d1, .d0⟩), none⟩,
      ⟨none, .store 1 (.t ⟨.d0, .d0, .d6⟩) (.t ⟨.d0, .d2, .d2⟩), none⟩,
      ⟨some ⟨.d0, .d0, .d7⟩, .move (.t ⟨.d0, .d2, .d3⟩), none⟩])
    (.ret))
    (.skip))))
  (.seq (.region [⟨some ⟨.d0, .d2, .d4⟩, .fieldAddr 0 (.t ⟨.d0, .d0, .d3⟩), none⟩,
    ⟨some ⟨.d0, .d2, .d5⟩, .load false 1 (.t ⟨.d0, .d2, .d4⟩), none⟩,
    ⟨some ⟨.d0, .d2, .d6⟩, .call 43 [(.t ⟨.d0, .d2, .d5⟩)], none⟩,
    ⟨some ⟨.d0, .d1, .d1⟩, .move (.t ⟨.d0, .d2, .d6⟩), none⟩])
  (.seq (.seq (.region [⟨some ⟨.d0, .d2, .d7⟩, .load true 1 (.t ⟨.d0, .d0, .d3⟩), none⟩,
    ⟨some ⟨.d0, .d3, .d0⟩, .move (.t ⟨.d0, .d0, .d1⟩), none⟩,
    ⟨some ⟨.d0, .d3, .d1⟩, .call 44 [(.t ⟨.d0, .d2, .d7⟩), (.t ⟨.d0, .d3, .d0⟩)], none⟩,
    ⟨some ⟨.d0, .d1, .d2⟩, .move (.t ⟨.d0, .d3, .d1⟩), none⟩])
  (.seq (.region [⟨some ⟨.d0, .d3, .d2⟩, .move (.t ⟨.d0, .d1, .d2⟩), none⟩,
    ⟨some ⟨.d0, .d3, .d3⟩, .bin .geq (.t ⟨.d0, .d3, .d2⟩) (.c (.int .i64 0)), none⟩])
  (.cond (.t ⟨.d0, .d3, .d3⟩)
    (.seq (.region [⟨some ⟨.d0, .d3, .d4⟩, .move (.t ⟨.d0, .d1, .d1⟩), none⟩,
      ⟨some ⟨.d0, .d3, .d5⟩, .move (.t ⟨.d0, .d1, .d2⟩), none⟩,
      ⟨some ⟨.d0, .d3, .d6⟩, .move (.t ⟨.d0, .d0, .d2⟩), none⟩,
      ⟨some ⟨.d0, .d3, .d7⟩, .indexSl 3 (.t ⟨.d0, .d3, .d4⟩) (.t ⟨.d0, .d3, .d5⟩), none⟩,
      ⟨some ⟨.d0, .d4, .d0⟩, .fieldAddr 2 (.t ⟨.d0, .d3, .d7⟩), none⟩,
      ⟨none, .store 1 (.t ⟨.d0, .d4, .d0⟩) (.t ⟨.d0, .d3, .d6⟩), none⟩])
    (.seq (.region [⟨some ⟨.d0, .d4, .d1⟩, .move (.t ⟨.d0, .d1, .d1⟩), none⟩,
      ⟨some ⟨.d0, .d4, .d2⟩, .build [.slice none 0 0] [(0, 1, (.t ⟨.d0, .d4, .d1⟩))], none⟩,
      ⟨none, .store 1 (.t ⟨.d0, .d0, .d6⟩) (.t ⟨.d0, .d4, .d2⟩), none⟩,
      ⟨some ⟨.d0, .d0, .d7⟩, .move (.c (.int .i64 0)), none⟩])
    (.ret)))
    (.skip))))
  (.seq (.region [⟨some ⟨.d0, .d1, .d3⟩, .move (.c (.int .i64 0)), none⟩])
  (.seq (.seq (.region [⟨some ⟨.d0, .d4, .d3⟩, .move (.t ⟨.d0, .d1, .d1⟩), none⟩,
    ⟨some ⟨.d0, .d4, .d4⟩, .len (.t ⟨.d0, .d4, .d3⟩), none⟩,
    ⟨some ⟨.d0, .d4, .d5⟩, .move (.c (.int .i64 0)), none⟩])
  (.block 0
    (.loop
      (.seq (.region [⟨some ⟨.d0, .d4, .d6⟩, .bin .lss (.t ⟨.d0, .d4, .d5⟩) (.t ⟨.d0, .d4, .d4⟩), none⟩])
      (.seq (.cond (.t ⟨.d0, .d4, .d6⟩)
        (.skip)
        (.exit 0))
      (.seq (.block 1
        (.seq (.region [⟨some ⟨.d0, .d4, .d7⟩, .indexSl 3 (.t ⟨.d0, .d4, .d3⟩) (.t ⟨.d0, .d4, .d5⟩), none⟩,
          ⟨some ⟨.d0, .d5, .d0⟩, .load true 3 (.t ⟨.d0, .d4, .d7⟩), none⟩,
          ⟨some ⟨.d0, .d1, .d5⟩, .alloc 2 [.bool false, .int .u64 0, .int .i64 0], none⟩,
          ⟨none, .store 3 (.t ⟨.d0, .d1, .d5⟩) (.t ⟨.d0, .d5, .d0⟩), none⟩])
        (.seq (.region [⟨some ⟨.d0, .d5, .d1⟩, .fieldAddr 0 (.t ⟨.d0, .d1, .d5⟩), none⟩,
          ⟨some ⟨.d0, .d5, .d2⟩, .load false 1 (.t ⟨.d0, .d5, .d1⟩), none⟩,
          ⟨some ⟨.d0, .d5, .d3⟩, .un .not (.t ⟨.d0, .d5, .d2⟩), none⟩])
        (.cond (.t ⟨.d0, .d5, .d3⟩)
          (.region [⟨some ⟨.d0, .d5, .d4⟩, .move (.t ⟨.d0, .d1, .d3⟩), none⟩,
            ⟨some ⟨.d0, .d5, .d5⟩, .bin .add (.t ⟨.d0, .d5, .d4⟩) (.c (.int .i64 1)), none⟩,
            ⟨some ⟨.d0, .d1, .d3⟩, .move (.t ⟨.d0, .d5, .d5⟩), none⟩])
          (.skip)))))
      (.region [⟨some ⟨.d0, .d5, .d6⟩, .bin .add (.t ⟨.d0, .d4, .d5⟩) (.c (.int .i64 1)), none⟩,
        ⟨some ⟨.d0, .d4, .d5⟩, .move (.t ⟨.d0, .d5, .d6⟩), none⟩])))))))
  (.seq (.seq (.region [⟨some ⟨.d0, .d5, .d7⟩, .move (.t ⟨.d0, .d1, .d3⟩), none⟩,
    ⟨some ⟨.d0, .d6, .d0⟩, .bin .eql (.t ⟨.d0, .d5, .d7⟩) (.c (.int .i64 1)), none⟩])
  (.cond (.t ⟨.d0, .d6, .d0⟩)
    (.seq (.region [⟨some ⟨.d0, .d6, .d1⟩, .build [.slice none 0 0] [], none⟩,
      ⟨none, .store 1 (.t ⟨.d0, .d0, .d6⟩) (.t ⟨.d0, .d6, .d1⟩), none⟩,
      ⟨some ⟨.d0, .d0, .d7⟩, .move (.c (.int .i64 6)), none⟩])
    (.ret))
    (.skip)))
  (.seq (.region [⟨some ⟨.d0, .d6, .d2⟩, .move (.t ⟨.d0, .d1, .d1⟩), none⟩,
    ⟨some ⟨.d0, .d6, .d3⟩, .move (.t ⟨.d0, .d0, .d1⟩), none⟩,
    ⟨some ⟨.d0, .d6, .d4⟩, .move (.t ⟨.d0, .d0, .d2⟩), none⟩,
    ⟨some ⟨.d0, .d6, .d5⟩, .build [.bool false, .int .u64 0, .int .i64 0] [(0, 1, (.c (.bool true))), (1, 1, (.t ⟨.d0, .d6, .d3⟩)), (2, 1, (.t ⟨.d0, .d6, .d4⟩))], none⟩,
    ⟨some ⟨.d0, .d6, .d6⟩, .call 45 [(.t ⟨.d0, .d6, .d2⟩), (.t ⟨.d0, .d6, .d5⟩)], none⟩])
  (.seq (.region [⟨some ⟨.d0, .d6, .d7⟩, .move (.t ⟨.d0, .d1, .d1⟩), none⟩,
    ⟨some ⟨.d0, .d7, .d0⟩, .build [.slice none 0 0] [(0, 1, (.t ⟨.d0, .d6, .d7⟩))], none⟩,
    ⟨none, .store 1 (.t ⟨.d0, .d0, .d6⟩) (.t ⟨.d0, .d7, .d0⟩), none⟩,
    ⟨some ⟨.d0, .d0, .d7⟩, .move (.c (.int .i64 0)), none⟩])
  (.ret)))))))))
def r_custref_TablePut : List XR := [.cell ⟨.d0, .d0, .d6⟩ true 1, .tmp ⟨.d0, .d0, .d7⟩]
theorem ok_custref_TablePut : okC Try.prog Try.f16.ntmps (bodyOf Try.f16) x_custref_TablePut = true := by kernel_rfl
theorem okr_custref_TablePut : okRs Try.prog Try.f16.results.toList r_custref_TablePut = true := by kernel_rfl

/-- table.Remove -/
def x_table_Remove : XC :=
  .seq (.region [⟨some ⟨.d0, .d0, .d2⟩, .box 0 1 (.t ⟨.d0, .d0, .d0⟩), none⟩,
    ⟨some ⟨.d0, .d0, .d4⟩, .alloc 1 [.slice none 0 0], none⟩,
    ⟨some ⟨.d0, .d0, .d5⟩, .move (.c (.int .i64 0)), none⟩])
  (.seq (.seq (.region [⟨some ⟨.d0, .d1, .d4⟩, .load true 1 (.t ⟨.d0, .d0, .d2⟩), none⟩,
    ⟨some ⟨.d0, .d1, .d5⟩, .call 11 [(.t ⟨.d0, .d1, .d4⟩)], none⟩,
    ⟨some ⟨.d0, .d0, .d6⟩, .move (.t ⟨.d0, .d1, .d5⟩), none⟩])
  (.seq (.region [⟨some ⟨.d0, .d1, .d6⟩, .move (.t ⟨.d0, .d0, .d6⟩), none⟩,
    ⟨some ⟨.d0, .d1, .d7⟩, .bin .neq (.t ⟨.d0, .d1, .d6⟩) (.c (.int .i64 0)), none⟩])
  (.cond (.t ⟨.d0, .d1, .d7⟩)
    (.seq (.region [⟨some ⟨.d0, .d2, .d0⟩, .build [.slice none 0 0] [], none⟩,
      ⟨some ⟨.d0, .d2, .d1⟩, .move (.t ⟨.d0, .d0, .d6⟩), none⟩,
      ⟨none, .store 1 (.t ⟨.d0, .d0, .d4⟩) (.t ⟨.d0, .d2, .d0⟩), none⟩,
      ⟨some ⟨.d0, .d0, .d5⟩, .move (.t ⟨.d0, .d2, .d1⟩), none⟩])
    (.ret))
    (.skip))))
  (.seq (.region [⟨some ⟨.d0, .d2, .d2⟩, .fieldAddr 0 (.t ⟨.d0, .d0, .d2⟩), none⟩,
    ⟨some ⟨.d0, .d2, .d3⟩, .load false 1 (.t ⟨.d0, .d2, .d2⟩), none⟩,
    ⟨some ⟨.d0, .d2, .d4⟩, .call 43 [(.t ⟨.d0, .d2, .d3⟩)], none⟩,
    ⟨some ⟨.d0, .d0, .d7⟩, .move (.t ⟨.d0, .d2, .d4⟩), none⟩])
  (.seq (.region [⟨some ⟨.d0, .d2, .d5⟩, .move (.t ⟨.d0, .d0, .d7⟩), none⟩,
    ⟨some ⟨.d0, .d2, .d6⟩, .len (.t ⟨.d0, .d2, .d5⟩), none⟩,
    ⟨some ⟨.d0, .d1, .d0⟩, .move (.t ⟨.d0, .d2, .d6⟩), none⟩])
  (.seq (.region [⟨some ⟨.d0, .d2, .d7⟩, .move (.t ⟨.d0, .d0, .d7⟩), none⟩,
    ⟨some ⟨.d0, .d3, .d0⟩, .move (.t ⟨.d0, .d0, .d1⟩), none⟩,
    ⟨some ⟨.d0, .d3, .d1⟩, .call 40 [(.t ⟨.d0, .d2, .d7⟩), (.t ⟨.d0, .d3, .d0⟩)], none⟩,
    ⟨some ⟨.d0, .d1, .d1⟩, .move (.t ⟨.d0, .d3, .d1⟩), none⟩])
  (.seq (.seq (.region [⟨some ⟨.d0, .d3, .d2⟩, .move (.t ⟨.d0, .d0, .d7⟩), none⟩,
    ⟨some ⟨.d0, .d3, .d3⟩, .move (.t ⟨.d0, .d1, .d1⟩), none⟩,
    ⟨some ⟨.d0, .d3, .d4⟩, .indexSl 3 (.t ⟨.d0, .d3, .d2⟩) (.t ⟨.d0, .d3, .d3⟩), none⟩,
    ⟨some ⟨.d0, .d3, .d5⟩, .fieldAddr 0 (.t ⟨.d0, .d3, .d4⟩), none⟩,
    ⟨some ⟨.d0, .d3, .d6⟩, .load false 1 (.t ⟨.d0, .d3, .d5⟩), none⟩,
    ⟨some ⟨.d0, .d3, .d7⟩, .un .not (.t ⟨.d0, .d3, .d6⟩), none⟩])
  (.cond (.t ⟨.d0, .d3, .d7⟩)
    (.seq (.region [⟨some ⟨.d0, .d4, .d0⟩, .build [.slice none 0 0] [], none⟩,
      ⟨none, .store 1 (.t ⟨.d0, .d0, .d4⟩) (.t ⟨.d0, .d4, .d0⟩), none⟩,
      ⟨some ⟨.d0, .d0, .d5⟩, .move (.c (.int .i64 7)), none⟩])
    (.ret))
    (.skip)))
  (.seq (.seq (.region [⟨some ⟨.d0, .d4, .d1⟩, .move (.t ⟨.d0, .d1, .d1⟩), none⟩,
    ⟨some ⟨.d0, .d4, .d2⟩, .bin .add (.t ⟨.d0, .d4, .d1⟩) (.c (.int .i64 1)), none⟩,
    ⟨some ⟨.d0, .d4, .d3⟩, .move (.t ⟨.d0, .d1, .d0⟩), none⟩,
    ⟨some ⟨.d0, .d4, .d4⟩, .bin .rem (.t ⟨.d0, .d4, .d2⟩) (.t ⟨.d0, .d4, .d3⟩), none⟩,
    ⟨some ⟨.d0, .d1, .d2⟩, .move (.t ⟨.d0, .d4, .d4⟩), none⟩])
  (.block 0
    (.loop
      (.seq (.seq (.region [⟨some ⟨.d0, .d4, .d5⟩, .move (.t ⟨.d0, .d0, .d7⟩), none⟩,
        ⟨some ⟨.d0, .d4, .d6⟩, .move (.t ⟨.d0, .d1, .d2⟩), none⟩,
        ⟨some ⟨.d0, .d4, .d7⟩, .indexSl 3 (.t ⟨.d0, .d4, .d5⟩) (.t ⟨.d0, .d4, .d6⟩), none⟩,
        ⟨some ⟨.d0, .d5, .d0⟩, .fieldAddr 0 (.t ⟨.d0, .d4, .d7⟩), none⟩,
        ⟨some ⟨.d0, .d5, .d1⟩, .load false 1 (.t ⟨.d0, .d5, .d0⟩), none⟩])
      (.cond (.t ⟨.d0, .d5, .d1⟩)
        (.skip)
        (.exit 0)))
      (.seq (.block 1
        (.seq (.region [⟨some ⟨.d0, .d5, .d6⟩, .move (.t ⟨.d0, .d1, .d2⟩), none⟩,
          ⟨some ⟨.d0, .d5, .d7⟩, .move (.t ⟨.d0, .d1, .d0⟩), none⟩,
          ⟨some ⟨.d0, .d6, .d0⟩, .move (.t ⟨.d0, .d0, .d7⟩), none⟩,
          ⟨some ⟨.d0, .d6, .d1⟩, .move (.t ⟨.d0, .d1, .d2⟩), none⟩,
          ⟨some ⟨.d0, .d6, .d2⟩, .indexSl 3 (.t ⟨.d0, .d6, .d0⟩) (.t ⟨.d0, .d6, .d1⟩), none⟩,
          ⟨some ⟨.d0, .d6, .d3⟩, .fieldAddr 1 (.t ⟨.d0, .d6, .d2⟩), none⟩,
          ⟨some ⟨.d0, .d6, .d4⟩, .load false 1 (.t ⟨.d0, .d6, .d3⟩), none⟩,
          ⟨some ⟨.d0, .d6, .d5⟩, .call 38 [(.t ⟨.d0, .d5, .d7⟩), (.t ⟨.d0, .d6, .d4⟩)], none⟩,
          ⟨some ⟨.d0, .d6, .d6⟩, .bin .sub (.t ⟨.d0, .d5, .d6⟩) (.t ⟨.d0, .d6, .d5⟩), none⟩,
          ⟨some ⟨.d0, .d6, .d7⟩, .move (.t ⟨.d0, .d1, .d0⟩), none⟩,
          ⟨some ⟨.d0, .d7, .d0⟩, .bin .add (.t ⟨.d0, .d6, .d6⟩) (.t ⟨.d0, .d6, .d7⟩), none⟩,
          ⟨some ⟨.d0, .d7, .d1⟩, .move (.t ⟨.d0, .d1, .d0⟩), none⟩,
          ⟨some ⟨.d0, .d7, .d2⟩, .bin .rem (.t ⟨.d0, .d7, .d0⟩) (.t ⟨.d0, .d7, .d1⟩), none⟩,
          ⟨some ⟨.d0, .d1, .d3⟩, .move (.t ⟨.d0, .d7, .d2⟩), none⟩])
        (.seq (.region [⟨some ⟨.d0, .d7, .d3⟩, .move (.t ⟨.d0, .d1, .d3⟩), none⟩,
          ⟨some ⟨.d0, .d7, .d4⟩, .move (.t ⟨.d0, .d1, .d2⟩), none⟩,
          ⟨some ⟨.d0, .d7, .d5⟩, .move (.t ⟨.d0, .d1, .d1⟩), none⟩,
          ⟨some ⟨.d0, .d7, .d6⟩, .bin .sub (.t ⟨.d0, .d7, .d4⟩) (.t ⟨.d0, .d7, .d5⟩), none⟩,
          ⟨some ⟨.d0, .d7, .d7⟩, .move (.t ⟨.d0, .d1, .d0⟩), none⟩,
          ⟨some ⟨.d1, .d0, .d0⟩, .bin .add (.t ⟨.d0, .d7, .d6⟩) (.t ⟨.d0, .d7, .d7⟩), none⟩,
          ⟨some ⟨.d1, .d0, .d1⟩, .move (.t ⟨.d0, .d1, .d0⟩), none⟩,
          ⟨some ⟨.d1, .d0, .d2⟩, .bin .rem (.t ⟨.d1, .d0, .d0⟩) (.t ⟨.d1, .d0, .d1⟩), none⟩,
          ⟨some ⟨.d1, .d0, .d3⟩, .bin .geq (.t ⟨.d0, .d7, .d3⟩) (.t ⟨.d1, .d0, .d2⟩), none⟩])
        (.cond (.t ⟨.d1, .d0, .d3⟩)
          (.seq (.region [⟨some ⟨.d1, .d0, .d4⟩, .move (.t ⟨.d0, .d0, .d7⟩), none⟩,
            ⟨some ⟨.d1, .d0, .d5⟩, .move (.t ⟨.d0, .d1, .d1⟩), none⟩,
            ⟨some ⟨.d1, .d0, .d6⟩, .move (.t ⟨.d0, .d0, .d7⟩), none⟩,
            ⟨some ⟨.d1, .d0, .d7⟩, .move (.t ⟨.d0, .d1, .d2⟩), none⟩,
            ⟨some ⟨.d1, .d1, .d0⟩, .indexSl 3 (.t ⟨.d1, .d0, .d6⟩) (.t ⟨.d1, .d0, .d7⟩), none⟩,
            ⟨some ⟨.d1, .d1, .d1⟩, .load true 3 (.t ⟨.d1, .d1, .d0⟩), none⟩,
            ⟨some ⟨.d1, .d1, .d2⟩, .indexSl 3 (.t ⟨.d1, .d0, .d4⟩) (.t ⟨.d1, .d0, .d5⟩), none⟩,
            ⟨none, .store 3 (.t ⟨.d1, .d1, .d2⟩) (.t ⟨.d1, .d1, .d1⟩), none⟩])
          (.region [⟨some ⟨.d1, .d1, .d3⟩, .move (.t ⟨.d0, .d1, .d2⟩), none⟩,
            ⟨some ⟨.d0, .d1, .d1⟩, .move (.t ⟨.d1, .d1, .d3⟩), none⟩]))
          (.skip)))))
      (.region [⟨some ⟨.d0, .d5, .d2⟩, .move (.t ⟨.d0, .d1, .d2⟩), none⟩,
        ⟨some ⟨.d0, .d5, .d3⟩, .bin .add (.t ⟨.d0, .d5, .d2⟩) (.c (.int .i64 1)), none⟩,
        ⟨some ⟨.d0, .d5, .d4⟩, .move (.t ⟨.d0, .d1, .d0⟩), none⟩,
        ⟨some ⟨.d0, .d5, .d5⟩, .bin .rem (.t ⟨.d0, .d5, .d3⟩) (.t ⟨.d0, .d5, .d4⟩), none⟩,
        ⟨some ⟨.d0, .d1, .d2⟩, .move (.t ⟨.d0, .d5, .d5⟩), none⟩]))))))
  (.seq (.region [⟨some ⟨.d1, .d1, .d4⟩, .move (.t ⟨.d0, .d0, .d7⟩), none⟩,
    ⟨some ⟨.d1, .d1, .d5⟩, .move (.t ⟨.d0, .d1, .d1⟩), none⟩,
    ⟨some ⟨.d1, .d1, .d6⟩, .build [.bool false, .int .u64 0, .int .i64 0] [], none⟩,
    ⟨some ⟨.d1, .d1, .d7⟩, .indexSl 3 (.t ⟨.d1, .d1, .d4⟩) (.t ⟨.d1, .d1, .d5⟩), none⟩,
    ⟨none, .store 3 (.t ⟨.d1, .d1, .d7⟩) (.t ⟨.d1, .d1, .d6⟩), none⟩])
  (.seq (.region [⟨some ⟨.d1, .d2, .d0⟩, .move (.t ⟨.d0, .d0, .d7⟩), none⟩,
    ⟨some ⟨.d1, .d2, .d1⟩, .build [.slice none 0 0] [(0, 1, (.t ⟨.d1, .d2, .d0⟩))], none⟩,
    ⟨none, .store 1 (.t ⟨.d0, .d0, .d4⟩) (.t ⟨.d1, .d2, .d1⟩), none⟩,
    ⟨some ⟨.d0, .d0, .d5⟩, .move (.c (.int .i64 0)), none⟩])
  (.ret)))))))))
def r_table_Remove : List XR := [.cell ⟨.d0, .d0, .d4⟩ true 1, .tmp ⟨.d0, .d0, .d5⟩]
theorem ok_table_Remove : okC Try.prog Try.f17.ntmps (bodyOf Try.f17) x_table_Remove = true := by kernel_rfl
theorem okr_table_Remove : okRs Try.prog Try.f17.results.toList r_table_Remove = true := by kernel_rfl

/-- custref.TableRemove -/
def x_custref_TableRemove : XC :=
  .seq (.region [⟨some ⟨.d0, .d0, .d2⟩, .box 0 1 (.t ⟨.d0, .d0, .d0⟩), none⟩,
    ⟨some ⟨.d0, .d0, .d4⟩, .alloc 1 [.slice none 0 0], none⟩,
    ⟨some ⟨.d0, .d0, .d5⟩, .move (.c (.int .i64 0)), none⟩])
  (.seq (.seq (.region [⟨some ⟨.d0, .d1, .d5⟩, .load true 1 (.t ⟨.d0, .d0, .d2⟩), none⟩,
    ⟨some ⟨.d0, .d1, .d6⟩, .call 12 [(.t ⟨.d0, .d1, .d5⟩)], none⟩,
    ⟨some ⟨.d0, .d0, .d6⟩, .move (.t ⟨.d0, .d1, .d6⟩), none⟩])
  (.seq (.region [⟨some ⟨.d0, .d1, .d7⟩, .move (.t ⟨.d0, .d0, .d6⟩), none⟩,
    ⟨some ⟨.d0, .d2, .d0⟩, .bin .neq (.t ⟨.d0, .d1, .d7⟩) (.c (.int .i64 0)), none⟩])
  (.cond (.t ⟨.d0, .d2, .d0⟩)
    (.seq (.region [⟨some ⟨.d0, .d2, .d1⟩, .build [.slice none 0 0] [], none⟩,
      ⟨some ⟨.d0, .d2, .d2⟩, .move (.t ⟨.d0, .d0, .d6⟩), none⟩,
      ⟨none, .store 1 (.t ⟨.d0, .d0, .d4⟩) (.t ⟨.d0, .d2, .d1⟩), none⟩,
      ⟨some ⟨.d0, .d0, .d5⟩, .move (.t ⟨.d0, .d2, .d2⟩), none⟩])
    (.ret))
    (.skip))))
  (.seq (.region [⟨some ⟨.d0, .d2, .d3⟩, .load true 1 (.t ⟨.d0, .d0, .d2⟩), none⟩,
    ⟨some ⟨.d0, .d2, .d4⟩, .move (.t ⟨.d0, .d0, .d1⟩), none⟩,
    ⟨some ⟨.d0, .d2, .d5⟩, .call 44 [(.t ⟨.d0, .d2, .d3⟩), (.t ⟨.d0, .d2, .d4⟩)], none⟩,
    ⟨some ⟨.d0, .d0, .d7⟩, .move (.t ⟨.d0, .d2, .d5⟩), none⟩])
  (.seq (.seq (.region [⟨some ⟨.d0, .d2, .d6⟩, .move (.t ⟨.d0, .d0, .d7⟩), none⟩,
    ⟨some ⟨.d0, .d2, .d7⟩, .bin .lss (.t ⟨.d0, .d2, .d6⟩) (.c (.int .i64 0)), none⟩])
  (.cond (.t ⟨.d0, .d2, .d7⟩)
    (.seq (.region [⟨some ⟨.d0, .d3, .d0⟩, .build [.slice none 0 0] [], none⟩,
      ⟨none, .store 1 (.t ⟨.d0, .d0, .d4⟩) (.t ⟨.d0, .d3, .d0⟩), none⟩,
      ⟨some ⟨.d0, .d0, .d5⟩, .move (.c (.int .i64 7)), none⟩])
    (.ret))
    (.skip)))
  (.seq (.region [⟨some ⟨.d0, .d3, .d1⟩, .fieldAddr 0 (.t ⟨.d0, .d0, .d2⟩), none⟩,
    ⟨some ⟨.d0, .d3, .d2⟩, .load false 1 (.t ⟨.d0, .d3, .d1⟩), none⟩,
    ⟨some ⟨.d0, .d3, .d3⟩, .call 43 [(.t ⟨.d0, .d3, .d2⟩)], none⟩,
    ⟨some ⟨.d0, .d1, .d0⟩, .move (.t ⟨.d0, .d3, .d3⟩), none⟩])
  (.seq (.region [⟨some ⟨.d0, .d3, .d4⟩, .move (.t ⟨.d0, .d1, .d0⟩), none⟩,
    ⟨some ⟨.d0, .d3, .d5⟩, .move (.t ⟨.d0, .d0, .d7⟩), none⟩,
    ⟨some ⟨.d0, .d3, .d6⟩, .build [.bool false, .int .u64 0, .int .i64 0] [], none⟩,
    ⟨some ⟨.d0, .d3, .d7⟩, .indexSl 3 (.t ⟨.d0, .d3, .d4⟩) (.t ⟨.d0, .d3, .d5⟩), none⟩,
    ⟨none, .store 3 (.t ⟨.d0, .d3, .d7⟩) (.t ⟨.d0, .d3, .d6⟩), none⟩])
  (.seq (.region [⟨some ⟨.d0, .d1, .d1⟩, .move (.c (.slice none 0 0)), none⟩])
  (.seq (.seq (.region [⟨some ⟨.d0, .d4, .d0⟩, .move (.t ⟨.d0, .d0, .d7⟩), none⟩,
    ⟨some ⟨.d0, .d4, .d1⟩, .bin .add (.t ⟨.d0, .d4, .d0⟩) (.c (.int .i64 1)), none⟩,
    ⟨some ⟨.d0, .d4, .d2⟩, .move (.t ⟨.d0, .d1, .d0⟩), none⟩,
    ⟨some ⟨.d0, .d4, .d3⟩, .len (.t ⟨.d0, .d4, .d2⟩), none⟩,
    ⟨some ⟨.d0, .d4, .d4⟩, .bin .rem (.t ⟨.d0, .d4, .d1⟩) (.t ⟨.d0, .d4, .d3⟩), none⟩,
    ⟨some ⟨.d0, .d1, .d2⟩, .move (.t ⟨.d0, .d4, .d4⟩), none⟩])
  (.block 0
    (.loop
      (.seq (.seq (.region [⟨some ⟨.d0, .d4, .d5⟩, .move (.t ⟨.d0, .d1, .d0⟩), none⟩,
        ⟨some ⟨.d0, .d4, .d6⟩, .move (.t ⟨.d0, .d1, .d2⟩), none⟩,
        ⟨some ⟨.d0, .d4, .d7⟩, .indexSl 3 (.t ⟨.d0, .d4, .d5⟩) (.t ⟨.d0, .d4, .d6⟩), none⟩,
        ⟨some ⟨.d0, .d5, .d0⟩, .fieldAddr 0 (.t ⟨.d0, .d4, .d7⟩), none⟩,
        ⟨some ⟨.d0, .d5, .d1⟩, .load false 1 (.t ⟨.d0, .d5, .d0⟩), none⟩])
      (.cond (.t ⟨.d0, .d5, .d1⟩)
        (.skip)
        (.exit 0)))
      (.seq (.block 1
        (.seq (.region [⟨some ⟨.d0, .d5, .d7⟩, .move (.t ⟨.d0, .d1, .d1⟩), none⟩,
          ⟨some ⟨.d0, .d6, .d0⟩, .move (.t ⟨.d0, .d1, .d0⟩), none⟩,
          ⟨some ⟨.d0, .d6, .d1⟩, .move (.t ⟨.d0, .d1, .d2⟩), none⟩,
          ⟨some ⟨.d0, .d6, .d2⟩, .indexSl 3 (.t ⟨.d0, .d6, .d0⟩) (.t ⟨.d0, .d6, .d1⟩), none⟩,
          ⟨some ⟨.d0, .d6, .d3⟩, .load true 3 (.t ⟨.d0, .d6, .d2⟩), none⟩,
          ⟨some ⟨.d0, .d6, .d4⟩, .buildSlice 2 1 [.bool false, .int .u64 0, .int .i64 0] [(0, (.t ⟨.d0, .d6, .d3⟩))], none⟩,
          ⟨some ⟨.d0, .d6, .d5⟩, .append 3 3 24 (.t ⟨.d0, .d5, .d7⟩) (.t ⟨.d0, .d6, .d4⟩), none⟩,
          ⟨some ⟨.d0, .d1, .d1⟩, .move (.t ⟨.d0, .d6, .d5⟩), none⟩])
        (.region [⟨some ⟨.d0, .d6, .d6⟩, .move (.t ⟨.d0, .d1, .d0⟩), none⟩,
          ⟨some ⟨.d0, .d6, .d7⟩, .move (.t ⟨.d0, .d1, .d2⟩), none⟩,
          ⟨some ⟨.d0, .d7, .d0⟩, .build [.bool false, .int .u64 0, .int .i64 0] [], none⟩,
          ⟨some ⟨.d0, .d7, .d1⟩, .indexSl 3 (.t ⟨.d0, .d6, .d6⟩) (.t ⟨.d0, .d6, .d7⟩), none⟩,
          ⟨none, .store 3 (.t ⟨.d0, .d7, .d1⟩) (.t ⟨.d0, .d7, .d0⟩), none⟩])))
      (.region [⟨some ⟨.d0, .d5, .d2⟩, .move (.t ⟨.d0, .d1, .d2⟩), none⟩,
        ⟨some ⟨.d0, .d5, .d3⟩, .bin .add (.t ⟨.d0, .d5, .d2⟩) (.c (.int .i64 1)), none⟩,
        ⟨some ⟨.d0, .d5, .d4⟩, .move (.t ⟨.d0, .d1, .d0⟩), none⟩,
        ⟨some ⟨.d0, .d5, .d5⟩, .len (.t ⟨.d0, .d5, .d4⟩), none⟩,
        ⟨some ⟨.d0, .d5, .d6⟩, .bin .rem (.t ⟨.d0, .d5, .d3⟩) (.t ⟨.d0, .d5, .d5⟩), none⟩,
        ⟨some ⟨.d0, .d1, .d2⟩, .move (.t ⟨.d0, .d5, .d6⟩), none⟩]))))))
  (.seq (.seq (.region [⟨some ⟨.d0, .d7, .d2⟩, .move (.t ⟨.d0, .d1, .d1⟩), none⟩,
    ⟨some ⟨.d0, .d7, .d3⟩, .len (.t ⟨.d0, .d7, .d2⟩), none⟩,
    ⟨some ⟨.d0, .d7, .d4⟩, .move (.c (.int .i64 0)), none⟩])
  (.block 2
    (.loop
      (.seq (.region [⟨some ⟨.d0, .d7, .d5⟩, .bin .lss (.t ⟨.d0, .d7, .d4⟩) (.t ⟨.d0, .d7, .d3⟩), none⟩])
      (.seq (.cond (.t ⟨.d0, .d7, .d5⟩)
        (.skip)
        (.exit 2))
      (.seq (.block 3
        (.seq (.region [⟨some ⟨.d0, .d7, .d6⟩, .indexSl 3 (.t ⟨.d0, .d7, .d2⟩) (.t ⟨.d0, .d7, .d4⟩), none⟩,
          ⟨some ⟨.d0, .d7, .d7⟩, .load true 3 (.t ⟨.d0, .d7, .d6⟩), none⟩,
          ⟨some ⟨.d0, .d1, .d4⟩, .alloc 4 [.bool false, .int .u64 0, .int .i64 0], none⟩,
          ⟨none, .store 3 (.t ⟨.d0, .d1, .d4⟩) (.t ⟨.d0, .d7, .d7⟩), none⟩])
        (.region [⟨some ⟨.d1, .d0, .d0⟩, .move (.t ⟨.d0, .d1, .d0⟩), none⟩,
          ⟨some ⟨.d1, .d0, .d1⟩, .load true 3 (.t ⟨.d0, .d1, .d4⟩), none⟩,
          ⟨some ⟨.d1, .d0, .d2⟩, .call 45 [(.t ⟨.d1, .d0, .d0⟩), (.t ⟨.d1, .d0, .d1⟩)], none⟩])))
      (.region [⟨some ⟨.d1, .d0, .d3⟩, .bin .add (.t ⟨.d0, .d7, .d4⟩) (.c (.int .i64 1)), none⟩,
        ⟨some ⟨.d0, .d7, .d4⟩, .move (.t ⟨.d1, .d0, .d3⟩), none⟩])))))))
  (.seq (.region [⟨some ⟨.d1, .d0, .d4⟩, .move (.t ⟨.d0, .d1, .d0⟩), none⟩,
    ⟨some ⟨.d1, .d0, .d5⟩, .build [.slice none 0 0] [(0, 1, (.t ⟨.d1, .d0, .d4⟩))], none⟩,
    ⟨none, .store 1 (.t ⟨.d0, .d0, .d4⟩) (.t ⟨.d1, .d0, .d5⟩), none⟩,
    ⟨some ⟨.d0, .d0, .d5⟩, .move (.c (.int .i64 0)), none⟩])
  (.ret))))))))))
def r_custref_TableRemove : List XR := [.cell ⟨.d0, .d0, .d4⟩ true 1, .tmp ⟨.d0, .d0, .d5⟩]
theorem ok_custref_TableRemove : okC Try.prog Try.f18.ntmps (bodyOf Try.f18) x_custref_TableRemove = true := by kernel_rfl
theorem okr_custref_TableRemove : okRs Try.prog Try.f18.results.toList r_custref_TableRemove = true := by kernel_rfl

/-- table.Get -/
def x_table_Get : XC :=
  .seq (.region [⟨some ⟨.d0, .d0, .d2⟩, .box 0 1 (.t ⟨.d0, .d0, .d0⟩), none⟩,
    ⟨some ⟨.d0, .d0, .d4⟩, .move (.c (.int .i64 0)), none⟩,
    ⟨some ⟨.d0, .d0, .d5⟩, .move (.c (.int .i64 0)), none⟩])
  (.seq (.seq (.region [⟨some ⟨.d0, .d1, .d0⟩, .load true 1 (.t ⟨.d0, .d0, .d2⟩), none⟩,
    ⟨some ⟨.d0, .d1, .d1⟩, .call 11 [(.t ⟨.d0, .d1, .d0⟩)], none⟩,
    ⟨some ⟨.d0, .d0, .d6⟩, .move (.t ⟨.d0, .d1, .d1⟩), none⟩])
  (.seq (.region [⟨some ⟨.d0, .d1, .d2⟩, .move (.t ⟨.d0, .d0, .d6⟩), none⟩,
    ⟨some ⟨.d0, .d1, .d3⟩, .bin .neq (.t ⟨.d0, .d1, .d2⟩) (.c (.int .i64 0)), none⟩])
  (.cond (.t ⟨.d0, .d1, .d3⟩)
    (.seq (.region [⟨some ⟨.d0, .d1, .d4⟩, .move (.t ⟨.d0, .d0, .d6⟩), none⟩,
      ⟨some ⟨.d0, .d0, .d4⟩, .move (.c (.int .i64 0)), none⟩,
      ⟨some ⟨.d0, .d0, .d5⟩, .move (.t ⟨.d0, .d1, .d4⟩), none⟩])
    (.ret))
    (.skip))))
  (.seq (.regionD [0, 1, 0, 4, 0, 28, 63, 127, 0, 511] [⟨some ⟨.d0, .d1, .d5⟩, .fieldAddr 0 (.t ⟨.d0, .d0, .d2⟩), none⟩,
    ⟨some ⟨.d0, .d1, .d6⟩, .load false 1 (.t ⟨.d0, .d1, .d5⟩), none⟩,
    ⟨some ⟨.d0, .d1, .d7⟩, .fieldAddr 0 (.t ⟨.d0, .d0, .d2⟩), none⟩,
    ⟨some ⟨.d0, .d2, .d0⟩, .load false 1 (.t ⟨.d0, .d1, .d7⟩), none⟩,
    ⟨some ⟨.d0, .d2, .d1⟩, .move (.t ⟨.d0, .d0, .d1⟩), none⟩,
    ⟨some ⟨.d0, .d2, .d2⟩, .call 40 [(.t ⟨.d0, .d2, .d0⟩), (.t ⟨.d0, .d2, .d1⟩)], none⟩,
    ⟨some ⟨.d0, .d2, .d3⟩, .indexSl 3 (.t ⟨.d0, .d1, .d6⟩) (.t ⟨.d0, .d2, .d2⟩), none⟩,
    ⟨some ⟨.d0, .d2, .d4⟩, .load true 3 (.t ⟨.d0, .d2, .d3⟩), none⟩,
    ⟨some ⟨.d0, .d0, .d7⟩, .alloc 1 [.bool false, .int .u64 0, .int .i64 0], none⟩,
    ⟨none, .store 3 (.t ⟨.d0, .d0, .d7⟩) (.t ⟨.d0, .d2, .d4⟩), none⟩])
  (.seq (.seq (.region [⟨some ⟨.d0, .d2, .d5⟩, .fieldAddr 0 (.t ⟨.d0, .d0, .d7⟩), none⟩,
    ⟨some ⟨.d0, .d2, .d6⟩, .load false 1 (.t ⟨.d0, .d2, .d5⟩), none⟩,
    ⟨some ⟨.d0, .d2, .d7⟩, .un .not (.t ⟨.d0, .d2, .d6⟩), none⟩])
  (.cond (.t ⟨.d0, .d2, .d7⟩)
    (.seq (.region [⟨some ⟨.d0, .d0, .d4⟩, .move (.c (.int .i64 0)), none⟩,
      ⟨some ⟨.d0, .d0, .d5⟩, .move (.c (.int .i64 7)), none⟩])
    (.ret))
    (.skip)))
  (.seq (.region [⟨some ⟨.d0, .d3, .d0⟩, .fieldAddr 2 (.t ⟨.d0, .d0, .d7⟩), none⟩,
    ⟨some ⟨.d0, .d3, .d1⟩, .load false 1 (.t ⟨.d0, .d3, .d0⟩), none⟩,
    ⟨some ⟨.d0, .d0, .d4⟩, .move (.t ⟨.d0, .d3, .d1⟩), none⟩,
    ⟨some ⟨.d0, .d0, .d5⟩, .move (.c (.int .i64 0)), none⟩])
  (.ret)))))
def r_table_Get : List XR := [.tmp ⟨.d0, .d0, .d4⟩, .tmp ⟨.d0, .d0, .d5⟩]
theorem ok_table_Get : okC Try.prog Try.f19.ntmps (bodyOf Try.f19) x_table_Get = true := by kernel_rfl
theorem okr_table_Get : okRs Try.prog Try.f19.results.toList r_table_Get = true := by kernel_rfl

/-- table.home -/
def x_table_home : XC :=
  .seq (.region [⟨some ⟨.d0, .d0, .d4⟩, .move (.c (.int .i64 0)), none⟩])
  (.seq (.region [⟨some ⟨.d0, .d0, .d5⟩, .move (.t ⟨.d0, .d0, .d1⟩), none⟩,
    ⟨some ⟨.d0, .d0, .d6⟩, .bin .mul (.t ⟨.d0, .d0, .d5⟩) (.c (.int .u64 11400714819323198485)), none⟩,
    ⟨some ⟨.d0, .d0, .d7⟩, .move (.t ⟨.d0, .d0, .d0⟩), none⟩,
    ⟨some ⟨.d0, .d1, .d0⟩, .convInt .u64 (.t ⟨.d0, .d0, .d7⟩), none⟩,
    ⟨some ⟨.d0, .d1, .d1⟩, .call 64 [(.t ⟨.d0, .d1, .d0⟩)], none⟩,
    ⟨some ⟨.d0, .d1, .d2⟩, .bin .sub (.c (.int .i64 65)) (.t ⟨.d0, .d1, .d1⟩), none⟩,
    ⟨some ⟨.d0, .d1, .d3⟩, .bin .shr (.t ⟨.d0, .d0, .d6⟩) (.t ⟨.d0, .d1, .d2⟩), none⟩,
    ⟨some ⟨.d0, .d1, .d4⟩, .convInt .i64 (.t ⟨.d0, .d1, .d3⟩), none⟩,
    ⟨some ⟨.d0, .d0, .d4⟩, .move (.t ⟨.d0, .d1, .d4⟩), none⟩])
  (.ret))
def r_table_home : List XR := [.tmp ⟨.d0, .d0, .d4⟩]
theorem ok_table_home : okC Try.prog Try.f38.ntmps (bodyOf Try.f38) x_table_home = true := by kernel_rfl
theorem okr_table_home : okRs Try.prog Try.f38.results.toList r_table_home = true := by kernel_rfl

/-- table.used -/
def x_table_used : XC :=
  .seq (.region [⟨some ⟨.d0, .d0, .d2⟩, .move (.c (.int .i64 0)), none⟩])
  (.seq (.region [⟨some ⟨.d0, .d0, .d3⟩, .move (.c (.int .i64 0)), none⟩])
  (.seq (.seq (.region [⟨some ⟨.d0, .d0, .d6⟩, .move (.t ⟨.d0, .d0, .d0⟩), none⟩,
    ⟨some ⟨.d0, .d0, .d7⟩, .len (.t ⟨.d0, .d0, .d6⟩), none⟩,
    ⟨some ⟨.d0, .d1, .d0⟩, .move (.c (.int .i64 0)), none⟩])
  (.block 0
    (.loop
      (.seq (.region [⟨some ⟨.d0, .d1, .d1⟩, .bin .lss (.t ⟨.d0, .d1, .d0⟩) (.t ⟨.d0, .d0, .d7⟩), none⟩])
      (.seq (.cond (.t ⟨.d0, .d1, .d1⟩)
        (.skip)
        (.exit 0))
      (.seq (.block 1
        (.seq (.region [⟨some ⟨.d0, .d1, .d2⟩, .indexSl 3 (.t ⟨.d0, .d0, .d6⟩) (.t ⟨.d0, .d1, .d0⟩), none⟩,
          ⟨some ⟨.d0, .d1, .d3⟩, .load true 3 (.t ⟨.d0, .d1, .d2⟩), none⟩,
          ⟨some ⟨.d0, .d0, .d5⟩, .alloc 0 [.bool false, .int .u64 0, .int .i64 0], none⟩,
          ⟨none, .store 3 (.t ⟨.d0, .d0, .d5⟩) (.t ⟨.d0, .d1, .d3⟩), none⟩])
        (.seq (.region [⟨some ⟨.d0, .d1, .d4⟩, .fieldAddr 0 (.t ⟨.d0, .d0, .d5⟩), none⟩,
          ⟨some ⟨.d0, .d1, .d5⟩, .load false 1 (.t ⟨.d0, .d1, .d4⟩), none⟩])
        (.cond (.t ⟨.d0, .d1, .d5⟩)
          (.region [⟨some ⟨.d0, .d1, .d6⟩, .move (.t ⟨.d0, .d0, .d3⟩), none⟩,
            ⟨some ⟨.d0, .d1, .d7⟩, .bin .add (.t ⟨.d0, .d1, .d6⟩) (.c (.int .i64 1)), none⟩,
            ⟨some ⟨.d0, .d0, .d3⟩, .move (.t ⟨.d0, .d1, .d7⟩), none⟩])
          (.skip)))))
      (.region [⟨some ⟨.d0, .d2, .d0⟩, .bin .add (.t ⟨.d0, .d1, .d0⟩) (.c (.int .i64 1)), none⟩,
        ⟨some ⟨.d0, .d1, .d0⟩, .move (.t ⟨.d0, .d2, .d0⟩), none⟩])))))))
  (.seq (.region [⟨some ⟨.d0, .d2, .d1⟩, .move (.t ⟨.d0, .d0, .d3⟩), none⟩,
    ⟨some ⟨.d0, .d0, .d2⟩, .move (.t ⟨.d0, .d2, .d1⟩), none⟩])
  (.ret))))
def r_table_used : List XR := [.tmp ⟨.d0, .d0, .d2⟩]
theorem ok_table_used : okC Try.prog Try.f39.ntmps (bodyOf Try.f39) x_table_used = true := by kernel_rfl
theorem okr_table_used : okRs Try.prog Try.f39.results.toList r_table_used = true := by kernel_rfl

/-- table.find -/
def x_table_find : XC :=
  .seq (.region [⟨some ⟨.d0, .d0, .d4⟩, .move (.c (.int .i64 0)), none⟩])
  (.seq (.region [⟨some ⟨.d0, .d0, .d6⟩, .move (.t ⟨.d0, .d0, .d0⟩), none⟩,
    ⟨some ⟨.d0, .d0, .d7⟩, .len (.t ⟨.d0, .d0, .d6⟩), none⟩,
    ⟨some ⟨.d0, .d1, .d0⟩, .move (.t ⟨.d0, .d0, .d1⟩), none⟩,
    ⟨some ⟨.d0, .d1, .d1⟩, .call 38 [(.t ⟨.d0, .d0, .d7⟩), (.t ⟨.d0, .d1, .d0⟩)], none⟩,
    ⟨some ⟨.d0, .d0, .d5⟩, .move (.t ⟨.d0, .d1, .d1⟩), none⟩])
  (.seq (.block 0
    (.loop
      (.seq (.seq (.region [⟨some ⟨.d0, .d1, .d2⟩, .move (.t ⟨.d0, .d0, .d0⟩), none⟩,
        ⟨some ⟨.d0, .d1, .d3⟩, .move (.t ⟨.d0, .d0, .d5⟩), none⟩,
        ⟨some ⟨.d0, .d1, .d4⟩, .indexSl 3 (.t ⟨.d0, .d1, .d2⟩) (.t ⟨.d0, .d1, .d3⟩), none⟩,
        ⟨some ⟨.d0, .d1, .d5⟩, .fieldAddr 0 (.t ⟨.d0, .d1, .d4⟩), none⟩,
        ⟨some ⟨.d0, .d1, .d6⟩, .load false 1 (.t ⟨.d0, .d1, .d5⟩), none⟩,
        ⟨some ⟨.d0, .d1, .d7⟩, .move (.t ⟨.d0, .d1, .d6⟩), none⟩,
        ⟨some ⟨.d0, .d2, .d0⟩, .move (.t ⟨.d0, .d0, .d0⟩), some (⟨.d0, .d1, .d7⟩, true)⟩,
        ⟨some ⟨.d0, .d2, .d1⟩, .move (.t ⟨.d0, .d0, .d5⟩), some (⟨.d0, .d1, .d7⟩, true)⟩,
        ⟨some ⟨.d0, .d2, .d2⟩, .indexSl 3 (.t ⟨.d0, .d2, .d0⟩) (.t ⟨.d0, .d2, .d1⟩), some (⟨.d0, .d1, .d7⟩, true)⟩,
        ⟨some ⟨.d0, .d2, .d3⟩, .fieldAddr 1 (.t ⟨.d0, .d2, .d2⟩), some (⟨.d0, .d1, .d7⟩, true)⟩,
        ⟨some ⟨.d0, .d2, .d4⟩, .load false 1 (.t ⟨.d0, .d2, .d3⟩), some (⟨.d0, .d1, .d7⟩, true)⟩,
        ⟨some ⟨.d0, .d2, .d5⟩, .move (.t ⟨.d0, .d0, .d1⟩), some (⟨.d0, .d1, .d7⟩, true)⟩,
        ⟨some ⟨.d0, .d2, .d6⟩, .bin .neq (.t ⟨.d0, .d2, .d4⟩) (.t ⟨.d0, .d2, .d5⟩), some (⟨.d0, .d1, .d7⟩, true)⟩,
        ⟨some ⟨.d0, .d2, .d7⟩, .pick (.t ⟨.d0, .d1, .d7⟩) (.t ⟨.d0, .d2, .d6⟩) (.c (.bool false)), none⟩])
      (.cond (.t ⟨.d0, .d2, .d7⟩)
        (.skip)
        (.exit 0)))
      (.block 1
        (.region [⟨some ⟨.d0, .d3, .d0⟩, .move (.t ⟨.d0, .d0, .d5⟩), none⟩,
          ⟨some ⟨.d0, .d3, .d1⟩, .bin .add (.t ⟨.d0, .d3, .d0⟩) (.c (.int .i64 1)), none⟩,
          ⟨some ⟨.d0, .d3, .d2⟩, .move (.t ⟨.d0, .d0, .d0⟩), none⟩,
          ⟨some ⟨.d0, .d3, .d3⟩, .len (.t ⟨.d0, .d3, .d2⟩), none⟩,
          ⟨some ⟨.d0, .d3, .d4⟩, .bin .rem (.t ⟨.d0, .d3, .d1⟩) (.t ⟨.d0, .d3, .d3⟩), none⟩,
          ⟨some ⟨.d0, .d0, .d5⟩, .move (.t ⟨.d0, .d3, .d4⟩), none⟩])))))
  (.seq (.region [⟨some ⟨.d0, .d3, .d5⟩, .move (.t ⟨.d0, .d0, .d5⟩), none⟩,
    ⟨some ⟨.d0, .d0, .d4⟩, .move (.t ⟨.d0, .d3, .d5⟩), none⟩])
  (.ret))))
def r_table_find : List XR := [.tmp ⟨.d0, .d0, .d4⟩]
theorem ok_table_find : okC Try.prog Try.f40.ntmps (bodyOf Try.f40) x_table_find = true := by kernel_rfl
theorem okr_table_find : okRs Try.prog Try.f40.results.toList r_table_find = true := by kernel_rfl

/-- custref.bitsOf -/
def x_custref_bitsOf : XC :=
  .seq (.region [⟨some ⟨.d0, .d0, .d2⟩, .move (.c (.int .i64 0)), none⟩])
  (.seq (.seq (.region [⟨some ⟨.d0, .d0, .d3⟩, .move (.c (.int .i64 1)), none⟩,
    ⟨some ⟨.d0, .d0, .d4⟩, .move (.c (.int .i64 2)), none⟩])
  (.block 0
    (.loop
      (.seq (.seq (.region [⟨some ⟨.d0, .d0, .d5⟩, .move (.t ⟨.d0, .d0, .d3⟩), none⟩,
        ⟨some ⟨.d0, .d0, .d6⟩, .bin .leq (.t ⟨.d0, .d0, .d5⟩) (.c (.int .i64 6)), none⟩])
      (.cond (.t ⟨.d0, .d0, .d6⟩)
        (.skip)
        (.exit 0)))
      (.seq (.block 1
        (.seq (.region [⟨some ⟨.d0, .d1, .d3⟩, .move (.t ⟨.d0, .d0, .d4⟩), none⟩,
          ⟨some ⟨.d0, .d1, .d4⟩, .move (.t ⟨.d0, .d0, .d0⟩), none⟩,
          ⟨some ⟨.d0, .d1, .d5⟩, .bin .eql (.t ⟨.d0, .d1, .d3⟩) (.t ⟨.d0, .d1, .d4⟩), none⟩])
        (.cond (.t ⟨.d0, .d1, .d5⟩)
          (.seq (.region [⟨some ⟨.d0, .d1, .d6⟩, .move (.t ⟨.d0, .d0, .d3⟩), none⟩,
            ⟨some ⟨.d0, .d0, .d2⟩, .move (.t ⟨.d0, .d1, .d6⟩), none⟩])
          (.ret))
          (.skip))))
      (.region [⟨some ⟨.d0, .d0, .d7⟩, .move (.t ⟨.d0, .d0, .d3⟩), none⟩,
        ⟨some ⟨.d0, .d1, .d0⟩, .bin .add (.t ⟨.d0, .d0, .d7⟩) (.c (.int .i64 1)), none⟩,
        ⟨some ⟨.d0, .d1, .d1⟩, .move (.t ⟨.d0, .d0, .d4⟩), none⟩,
        ⟨some ⟨.d0, .d1, .d2⟩, .bin .mul (.c (.int .i64 2)) (.t ⟨.d0, .d1, .d1⟩), none⟩,
        ⟨some ⟨.d0, .d0, .d3⟩, .move (.t ⟨.d0, .d1, .d0⟩), none⟩,
        ⟨some ⟨.d0, .d0, .d4⟩, .move (.t ⟨.d0, .d1, .d2⟩), none⟩]))))))
  (.seq (.region [⟨some ⟨.d0, .d0, .d2⟩, .move (.c (.int .i64 0)), none⟩])
  (.ret)))
def r_custref_bitsOf : List XR := [.tmp ⟨.d0, .d0, .d2⟩]
theorem ok_custref_bitsOf : okC Try.prog Try.f41.ntmps (bodyOf Try.f41) x_custref_bitsOf = true := by kernel_rfl
theorem okr_custref_bitsOf : okRs Try.prog Try.f41.results.toList r_custref_bitsOf = true := by kernel_rfl

/-- slices.Equal -/
def x_slices_Equal_api_Slot : XC :=
  .seq (.region [⟨some ⟨.d0, .d0, .d4⟩, .move (.c (.bool false)), none⟩])
  (.seq (.seq (.region [⟨some ⟨.d0, .d0, .d6⟩, .move (.t ⟨.d0, .d0, .d0⟩), none⟩,
    ⟨some ⟨.d0, .d0, .d7⟩, .len (.t ⟨.d0, .d0, .d6⟩), none⟩,
    ⟨some ⟨.d0, .d1, .d0⟩, .move (.t ⟨.d0, .d0, .d1⟩), none⟩,
    ⟨some ⟨.d0, .d1, .d1⟩, .len (.t ⟨.d0, .d1, .d0⟩), none⟩,
    ⟨some ⟨.d0, .d1, .d2⟩, .bin .neq (.t ⟨.d0, .d0, .d7⟩) (.t ⟨.d0, .d1, .d1⟩), none⟩])
  (.cond (.t ⟨.d0, .d1, .d2⟩)
    (.seq (.region [⟨some ⟨.d0, .d0, .d4⟩, .move (.c (.bool false)), none⟩])
    (.ret))
    (.skip)))
  (.seq (.seq (.region [⟨some ⟨.d0, .d1, .d3⟩, .move (.t ⟨.d0, .d0, .d0⟩), none⟩,
    ⟨some ⟨.d0, .d1, .d4⟩, .len (.t ⟨.d0, .d1, .d3⟩), none⟩,
    ⟨some ⟨.d0, .d1, .d5⟩, .move (.c (.int .i64 0)), none⟩])
  (.block 0
    (.loop
      (.seq (.region [⟨some ⟨.d0, .d1, .d6⟩, .bin .lss (.t ⟨.d0, .d1, .d5⟩) (.t ⟨.d0, .d1, .d4⟩), none⟩])
      (.seq (.cond (.t ⟨.d0, .d1, .d6⟩)
        (.skip)
        (.exit 0))
      (.seq (.block 1
        (.seq (.region [⟨some ⟨.d0, .d1, .d7⟩, .move (.t ⟨.d0, .d1, .d5⟩), none⟩,
          ⟨some ⟨.d0, .d0, .d5⟩, .move (.t ⟨.d0, .d1, .d7⟩), none⟩])
        (.seq (.regionD [0, 0, 3, 7, 0, 0, 48, 112, 255] [⟨some ⟨.d0, .d2, .d0⟩, .move (.t ⟨.d0, .d0, .d0⟩), none⟩,
          ⟨some ⟨.d0, .d2, .d1⟩, .move (.t ⟨.d0, .d0, .d5⟩), none⟩,
          ⟨some ⟨.d0, .d2, .d2⟩, .indexSl 3 (.t ⟨.d0, .d2, .d0⟩) (.t ⟨.d0, .d2, .d1⟩), none⟩,
          ⟨some ⟨.d0, .d2, .d3⟩, .load true 3 (.t ⟨.d0, .d2, .d2⟩), none⟩,
          ⟨some ⟨.d0, .d2, .d4⟩, .move (.t ⟨.d0, .d0, .d1⟩), none⟩,
          ⟨some ⟨.d0, .d2, .d5⟩, .move (.t ⟨.d0, .d0, .d5⟩), none⟩,
          ⟨some ⟨.d0, .d2, .d6⟩, .indexSl 3 (.t ⟨.d0, .d2, .d4⟩) (.t ⟨.d0, .d2, .d5⟩), none⟩,
          ⟨some ⟨.d0, .d2, .d7⟩, .load true 3 (.t ⟨.d0, .d2, .d6⟩), none⟩,
          ⟨some ⟨.d0, .d3, .d0⟩, .eqs true [1, 0, 0] (.t ⟨.d0, .d2, .d3⟩) (.t ⟨.d0, .d2, .d7⟩), none⟩])
        (.cond (.t ⟨.d0, .d3, .d0⟩)
          (.seq (.region [⟨some ⟨.d0, .d0, .d4⟩, .move (.c (.bool false)), none⟩])
          (.ret))
          (.skip)))))
      (.region [⟨some ⟨.d0, .d3, .d1⟩, .bin .add (.t ⟨.d0, .d1, .d5⟩) (.c (.int .i64 1)), none⟩,
        ⟨some ⟨.d0, .d1, .d5⟩, .move (.t ⟨.d0, .d3, .d1⟩), none⟩])))))))
  (.seq (.region [⟨some ⟨.d0, .d0, .d4⟩, .move (.c (.bool true)), none⟩])
  (.ret))))
def r_slices_Equal_api_Slot : List XR := [.tmp ⟨.d0, .d0, .d4⟩]
theorem ok_slices_Equal_api_Slot : okC Try.prog Try.f42.ntmps (bodyOf Try.f42) x_slices_Equal_api_Slot = true := by kernel_rfl
theorem okr_slices_Equal_api_Slot : okRs Try.prog Try.f42.results.toList r_slices_Equal_api_Slot = true := by kernel_rfl

/-- slices.Clone -/
def x_slices_Clone_api_Slot : XC :=
  .seq (.region [⟨some ⟨.d0, .d0, .d2⟩, .move (.c (.slice none 0 0)), none⟩])
  (.seq (.seq (.region [⟨some ⟨.d0, .d0, .d3⟩, .move (.t ⟨.d0, .d0, .d0⟩), none⟩,
    ⟨some ⟨.d0, .d0, .d4⟩, .isnil false (.t ⟨.d0, .d0, .d3⟩), none⟩])
  (.cond (.t ⟨.d0, .d0, .d4⟩)
    (.seq (.region [⟨some ⟨.d0, .d0, .d2⟩, .move (.c (.slice none 0 0)), none⟩])
    (.ret))
    (.skip)))
  (.seq (.region [⟨some ⟨.d0, .d0, .d5⟩, .buildSlice 0 0 [.bool false, .int .u64 0, .int .i64 0] [], none⟩,
    ⟨some ⟨.d0, .d0, .d6⟩, .move (.t ⟨.d0, .d0, .d0⟩), none⟩,
    ⟨some ⟨.d0, .d0, .d7⟩, .append 1 3 24 (.t ⟨.d0, .d0, .d5⟩) (.t ⟨.d0, .d0, .d6⟩), none⟩,
    ⟨some ⟨.d0, .d0, .d2⟩, .move (.t ⟨.d0, .d0, .d7⟩), none⟩])
  (.ret)))
def r_slices_Clone_api_Slot : List XR := [.tmp ⟨.d0, .d0, .d2⟩]
theorem ok_slices_Clone_api_Slot : okC Try.prog Try.f43.ntmps (bodyOf Try.f43) x_slices_Clone_api_Slot = true := by kernel_rfl
theorem okr_slices_Clone_api_Slot : okRs Try.prog Try.f43.results.toList r_slices_Clone_api_Slot = true := by kernel_rfl

/-- custref.tableAt -/
def x_custref_tableAt : XC :=
  .seq (.region [⟨some ⟨.d0, .d0, .d2⟩, .box 0 1 (.t ⟨.d0, .d0, .d0⟩), none⟩,
    ⟨some ⟨.d0, .d0, .d3⟩, .box 1 1 (.t ⟨.d0, .d0, .d1⟩), none⟩,
    ⟨some ⟨.d0, .d0, .d4⟩, .move (.c (.int .i64 0)), none⟩])
  (.seq (.region [⟨some ⟨.d0, .d0, .d5⟩, .fieldAddr 0 (.t ⟨.d0, .d0, .d2⟩), none⟩,
    ⟨some ⟨.d0, .d0, .d6⟩, .load false 1 (.t ⟨.d0, .d0, .d5⟩), none⟩,
    ⟨some ⟨.d0, .d0, .d7⟩, .mkfn 66 [] [(.t ⟨.d0, .d0, .d3⟩)], none⟩,
    ⟨some ⟨.d0, .d1, .d0⟩, .call 65 [(.t ⟨.d0, .d0, .d6⟩), (.t ⟨.d0, .d0, .d7⟩)], none⟩,
    ⟨some ⟨.d0, .d0, .d4⟩, .move (.t ⟨.d0, .d1, .d0⟩), none⟩])
  (.ret))
def r_custref_tableAt : List XR := [.tmp ⟨.d0, .d0, .d4⟩]
theorem ok_custref_tableAt : okC Try.prog Try.f44.ntmps (bodyOf Try.f44) x_custref_tableAt = true := by kernel_rfl
theorem okr_custref_tableAt : okRs Try.prog Try.f44.results.toList r_custref_tableAt = true := by kernel_rfl

/-- custref.tableAdd -/
def x_custref_tableAdd : XC :=
  .seq (.region [⟨some ⟨.d0, .d0, .d3⟩, .box 1 3 (.t ⟨.d0, .d0, .d1⟩), none⟩])
  (.seq (.regionD [0, 1, 3, 0, 8, 31, 63] [⟨some ⟨.d0, .d0, .d5⟩, .move (.t ⟨.d0, .d0, .d0⟩), none⟩,
    ⟨some ⟨.d0, .d0, .d6⟩, .len (.t ⟨.d0, .d0, .d5⟩), none⟩,
    ⟨some ⟨.d0, .d0, .d7⟩, .call 41 [(.t ⟨.d0, .d0, .d6⟩)], none⟩,
    ⟨some ⟨.d0, .d1, .d0⟩, .fieldAddr 1 (.t ⟨.d0, .d0, .d3⟩), none⟩,
    ⟨some ⟨.d0, .d1, .d1⟩, .load false 1 (.t ⟨.d0, .d1, .d0⟩), none⟩,
    ⟨some ⟨.d0, .d1, .d2⟩, .call 13 [(.t ⟨.d0, .d0, .d7⟩), (.t ⟨.d0, .d1, .d1⟩)], none⟩,
    ⟨some ⟨.d0, .d0, .d4⟩, .move (.t ⟨.d0, .d1, .d2⟩), none⟩])
  (.seq (.block 0
    (.loop
      (.seq (.seq (.region [⟨some ⟨.d0, .d1, .d3⟩, .move (.t ⟨.d0, .d0, .d0⟩), none⟩,
        ⟨some ⟨.d0, .d1, .d4⟩, .move (.t ⟨.d0, .d0, .d4⟩), none⟩,
        ⟨some ⟨.d0, .d1, .d5⟩, .indexSl 3 (.t ⟨.d0, .d1, .d3⟩) (.t ⟨.d0, .d1, .d4⟩), none⟩,
        ⟨some ⟨.d0, .d1, .d6⟩, .fieldAddr 0 (.t ⟨.d0, .d1, .d5⟩), none⟩,
        ⟨some ⟨.d0, .d1, .d7⟩, .load false 1 (.t ⟨.d0, .d1, .d6⟩), none⟩])
      (.cond (.t ⟨.d0, .d1, .d7⟩)
        (.skip)
        (.exit 0)))
      (.block 1
        (.region [⟨some ⟨.d0, .d2, .d0⟩, .move (.t ⟨.d0, .d0, .d4⟩), none⟩,
          ⟨some ⟨.d0, .d2, .d1⟩, .bin .add (.t ⟨.d0, .d2, .d0⟩) (.c (.int .i64 1)), none⟩,
          ⟨some ⟨.d0, .d2, .d2⟩, .move (.t ⟨.d0, .d0, .d0⟩), none⟩,
          ⟨some ⟨.d0, .d2, .d3⟩, .len (.t ⟨.d0, .d2, .d2⟩), none⟩,
          ⟨some ⟨.d0, .d2, .d4⟩, .bin .rem (.t ⟨.d0, .d2, .d1⟩) (.t ⟨.d0, .d2, .d3⟩), none⟩,
          ⟨some ⟨.d0, .d0, .d4⟩, .move (.t ⟨.d0, .d2, .d4⟩), none⟩])))))
  (.region [⟨some ⟨.d0, .d2, .d5⟩, .move (.t ⟨.d0, .d0, .d0⟩), none⟩,
    ⟨some ⟨.d0, .d2, .d6⟩, .move (.t ⟨.d0, .d0, .d4⟩), none⟩,
    ⟨some ⟨.d0, .d2, .d7⟩, .load true 3 (.t ⟨.d0, .d0, .d3⟩), none⟩,
    ⟨some ⟨.d0, .d3, .d0⟩, .indexSl 3 (.t ⟨.d0, .d2, .d5⟩) (.t ⟨.d0, .d2, .d6⟩), none⟩,
    ⟨none, .store 3 (.t ⟨.d0, .d3, .d0⟩) (.t ⟨.d0, .d2, .d7⟩), none⟩])))
def r_custref_tableAdd : List XR := []
theorem ok_custref_tableAdd : okC Try.prog Try.f45.ntmps (bodyOf Try.f45) x_custref_tableAdd = true := by kernel_rfl
theorem okr_custref_tableAdd : okRs Try.prog Try.f45.results.toList r_custref_tableAdd = true := by kernel_rfl

/-- bits.Len -/
def x_bits_Len : XC :=
  .seq (.region [⟨some ⟨.d0, .d0, .d2⟩, .move (.c (.int .i64 0)), none⟩])
  (.seq (.cond (.c (.bool false))
    (.seq (.region [⟨some ⟨.d0, .d0, .d3⟩, .move (.t ⟨.d0, .d0, .d0⟩), none⟩,
      ⟨some ⟨.d0, .d0, .d4⟩, .convInt .u32 (.t ⟨.d0, .d0, .d3⟩), none⟩,
      ⟨some ⟨.d0, .d0, .d5⟩, .call 75 [(.t ⟨.d0, .d0, .d4⟩)], none⟩,
      ⟨some ⟨.d0, .d0, .d2⟩, .move (.t ⟨.d0, .d0, .d5⟩), none⟩])
    (.ret))
    (.skip))
  (.seq (.region [⟨some ⟨.d0, .d0, .d6⟩, .move (.t ⟨.d0, .d0, .d0⟩), none⟩,
    ⟨some ⟨.d0, .d0, .d7⟩, .call 76 [(.t ⟨.d0, .d0, .d6⟩)], none⟩,
    ⟨some ⟨.d0, .d0, .d2⟩, .move (.t ⟨.d0, .d0, .d7⟩), none⟩])
  (.ret)))
def r_bits_Len : List XR := [.tmp ⟨.d0, .d0, .d2⟩]
theorem ok_bits_Len : okC Try.prog Try.f64.ntmps (bodyOf Try.f64) x_bits_Len = true := by kernel_rfl
theorem okr_bits_Len : okRs Try.prog Try.f64.results.toList r_bits_Len = true := by kernel_rfl

/-- slices.IndexFunc -/
def x_slices_IndexFunc_api_Slot : XC :=
  .seq (.region [⟨some ⟨.d0, .d0, .d4⟩, .move (.c (.int .i64 0)), none⟩])
  (.seq (.seq (.region [⟨some ⟨.d0, .d0, .d6⟩, .move (.t ⟨.d0, .d0, .d0⟩), none⟩,
    ⟨some ⟨.d0, .d0, .d7⟩, .len (.t ⟨.d0, .d0, .d6⟩), none⟩,
    ⟨some ⟨.d0, .d1, .d0⟩, .move (.c (.int .i64 0)), none⟩])
  (.block 0
    (.loop
      (.seq (.region [⟨some ⟨.d0, .d1, .d1⟩, .bin .lss (.t ⟨.d0, .d1, .d0⟩) (.t ⟨.d0, .d0, .d7⟩), none⟩])
      (.seq (.cond (.t ⟨.d0, .d1, .d1⟩)
        (.skip)
        (.exit 0))
      (.seq (.block 1
        (.seq (.region [⟨some ⟨.d0, .d1, .d2⟩, .move (.t ⟨.d0, .d1, .d0⟩), none⟩,
          ⟨some ⟨.d0, .d0, .d5⟩, .move (.t ⟨.d0, .d1, .d2⟩), none⟩])
        (.seq (.region [⟨some ⟨.d0, .d1, .d3⟩, .move (.t ⟨.d0, .d0, .d1⟩), none⟩,
          ⟨some ⟨.d0, .d1, .d4⟩, .move (.t ⟨.d0, .d0, .d0⟩), none⟩,
          ⟨some ⟨.d0, .d1, .d5⟩, .move (.t ⟨.d0, .d0, .d5⟩), none⟩,
          ⟨some ⟨.d0, .d1, .d6⟩, .indexSl 3 (.t ⟨.d0, .d1, .d4⟩) (.t ⟨.d0, .d1, .d5⟩), none⟩,
          ⟨some ⟨.d0, .d1, .d7⟩, .load true 3 (.t ⟨.d0, .d1, .d6⟩), none⟩,
          ⟨some ⟨.d0, .d2, .d0⟩, .callv (.t ⟨.d0, .d1, .d3⟩) [(.t ⟨.d0, .d1, .d7⟩)], none⟩])
        (.cond (.t ⟨.d0, .d2, .d0⟩)
          (.seq (.region [⟨some ⟨.d0, .d2, .d1⟩, .move (.t ⟨.d0, .d0, .d5⟩), none⟩,
            ⟨some ⟨.d0, .d0, .d4⟩, .move (.t ⟨.d0, .d2, .d1⟩), none⟩])
          (.ret))
          (.skip)))))
      (.region [⟨some ⟨.d0, .d2, .d2⟩, .bin .add (.t ⟨.d0, .d1, .d0⟩) (.c (.int .i64 1)), none⟩,
        ⟨some ⟨.d0, .d1, .d0⟩, .move (.t ⟨.d0, .d2, .d2⟩), none⟩])))))))
  (.seq (.region [⟨some ⟨.d0, .d0, .d4⟩, .move (.c (.int .i64 (-1))), none⟩])
  (.ret)))
def r_slices_IndexFunc_api_Slot : List XR := [.tmp ⟨.d0, .d0, .d4⟩]
theorem ok_slices_IndexFunc_api_Slot : okC Try.prog Try.f65.ntmps (bodyOf Try.f65) x_slices_IndexFunc_api_Slot = true := by kernel_rfl
theorem okr_slices_IndexFunc_api_Slot : okRs Try.prog Try.f65.results.toList r_slices_IndexFunc_api_Slot = true := by kernel_rfl

/-- custref.tableAt-1 -/
def x_custref_tableAt_1 : XC :=
  .seq (.region [⟨some ⟨.d0, .d0, .d2⟩, .box 0 3 (.t ⟨.d0, .d0, .d0⟩), none⟩,
    ⟨some ⟨.d0, .d0, .d3⟩, .move (.c (.bool false)), none⟩])
  (.seq (.region [⟨some ⟨.d0, .d0, .d4⟩, .fieldAddr 0 (.t ⟨.d0, .d0, .d2⟩), none⟩,
    ⟨some ⟨.d0, .d0, .d5⟩, .load false 1 (.t ⟨.d0, .d0, .d4⟩), none⟩,
    ⟨some ⟨.d0, .d0, .d6⟩, .move (.t ⟨.d0, .d0, .d5⟩), none⟩,
    ⟨some ⟨.d0, .d0, .d7⟩, .fieldAddr 1 (.t ⟨.d0, .d0, .d2⟩), some (⟨.d0, .d0, .d6⟩, true)⟩,
    ⟨some ⟨.d0, .d1, .d0⟩, .load false 1 (.t ⟨.d0, .d0, .d7⟩), some (⟨.d0, .d0, .d6⟩, true)⟩,
    ⟨some ⟨.d0, .d1, .d1⟩, .load false 1 (.t ⟨.d0, .d0, .d1⟩), some (⟨.d0, .d0, .d6⟩, true)⟩,
    ⟨some ⟨.d0, .d1, .d2⟩, .bin .eql (.t ⟨.d0, .d1, .d0⟩) (.t ⟨.d0, .d1, .d1⟩), some (⟨.d0, .d0, .d6⟩, true)⟩,
    ⟨some ⟨.d0, .d1, .d3⟩, .pick (.t ⟨.d0, .d0, .d6⟩) (.t ⟨.d0, .d1, .d2⟩) (.c (.bool false)), none⟩,
    ⟨some ⟨.d0, .d0, .d3⟩, .move (.t ⟨.d0, .d1, .d3⟩), none⟩])
  (.ret))
def r_custref_tableAt_1 : List XR := [.tmp ⟨.d0, .d0, .d3⟩]
theorem ok_custref_tableAt_1 : okC Try.prog Try.f66.ntmps (bodyOf Try.f66) x_custref_tableAt_1 = true := by kernel_rfl
theorem okr_custref_tableAt_1 : okRs Try.prog Try.f66.results.toList r_custref_tableAt_1 = true := by kernel_rfl

/-- bits.Len32 -/
def x_bits_Len32 : XC :=
  .seq (.region [⟨some ⟨.d0, .d0, .d2⟩, .move (.c (.int .i64 0)), none⟩])
  (.seq (.seq (.region [⟨some ⟨.d0, .d0, .d3⟩, .move (.t ⟨.d0, .d0, .d0⟩), none⟩,
    ⟨some ⟨.d0, .d0, .d4⟩, .bin .geq (.t ⟨.d0, .d0, .d3⟩) (.c (.int .u32 65536)), none⟩])
  (.cond (.t ⟨.d0, .d0, .d4⟩)
    (.seq (.region [⟨some ⟨.d0, .d0, .d5⟩, .move (.t ⟨.d0, .d0, .d0⟩), none⟩,
      ⟨some ⟨.d0, .d0, .d6⟩, .bin .shr (.t ⟨.d0, .d0, .d5⟩) (.c (.int .u64 16)), none⟩,
      ⟨some ⟨.d0, .d0, .d0⟩, .move (.t ⟨.d0, .d0, .d6⟩), none⟩])
    (.region [⟨some ⟨.d0, .d0, .d2⟩, .move (.c (.int .i64 16)), none⟩]))
    (.skip)))
  (.seq (.seq (.region [⟨some ⟨.d0, .d0, .d7⟩, .move (.t ⟨.d0, .d0, .d0⟩), none⟩,
    ⟨some ⟨.d0, .d1, .d0⟩, .bin .geq (.t ⟨.d0, .d0, .d7⟩) (.c (.int .u32 256)), none⟩])
  (.cond (.t ⟨.d0, .d1, .d0⟩)
    (.seq (.region [⟨some ⟨.d0, .d1, .d1⟩, .move (.t ⟨.d0, .d0, .d0⟩), none⟩,
      ⟨some ⟨.d0, .d1, .d2⟩, .bin .shr (.t ⟨.d0, .d1, .d1⟩) (.c (.int .u64 8)), none⟩,
      ⟨some ⟨.d0, .d0, .d0⟩, .move (.t ⟨.d0, .d1, .d2⟩), none⟩])
    (.region [⟨some ⟨.d0, .d1, .d3⟩, .move (.t ⟨.d0, .d0, .d2⟩), none⟩,
      ⟨some ⟨.d0, .d1, .d4⟩, .bin .add (.t ⟨.d0, .d1, .d3⟩) (.c (.int .i64 8)), none⟩,
      ⟨some ⟨.d0, .d0, .d2⟩, .move (.t ⟨.d0, .d1, .d4⟩), none⟩]))
    (.skip)))
  (.seq (.region [⟨some ⟨.d0, .d1, .d5⟩, .move (.t ⟨.d0, .d0, .d2⟩), none⟩,
    ⟨some ⟨.d0, .d1, .d6⟩, .move (.t ⟨.d0, .d0, .d0⟩), none⟩,
    ⟨some ⟨.d0, .d1, .d7⟩, .convInt .u8 (.t ⟨.d0, .d1, .d6⟩), none⟩,
    ⟨some ⟨.d0, .d2, .d0⟩, .strAt (.c (.string { data := #[0, 1, 2, 2, 3, 3, 3, 3, 4, 4, 4, 4, 4, 4, 4, 4, 5, 5, 5, 5, 5, 5, 5, 5, 5, 5, 5, 5, 5, 5, 5, 5, 6, 6, 6, 6, 6, 6, 6, 6, 6, 6, 6, 6, 6, 6, 6, 6, 6, 6, 6, 6, 6, 6, 6, 6, 6, 6, 6, 6, 6, 6, 6, 6, 7, 7, 7, 7, 7, 7, 7, 7, 7, 7, 7, 7, 7, 7, 7, 7, 7, 7, 7, 7, 7, 7, 7, 7, 7, 7, 7, 7, 7, 7, 7, 7, 7, 7, 7, 7, 7, 7, 7, 7, 7, 7, 7, 7, 7, 7, 7, 7, 7, 7, 7, 7, 7, 7, 7, 7, 7, 7, 7, 7, 7, 7, 7, 7, 8, 8, 8, 8, 8, 8, 8, 8, 8, 8, 8, 8, 8, 8, 8, 8, 8, 8, 8, 8, 8, 8, 8, 8, 8, 8, 8, 8, 8, 8, 8, 8, 8, 8, 8, 8, 8, 8, 8, 8, 8, 8, 8, 8, 8, 8, 8, 8, 8, 8, 8, 8, 8, 8, 8, 8, 8, 8, 8, 8, 8, 8, 8, 8, 8, 8, 8, 8, 8, 8, 8, 8, 8, 8, 8, 8, 8, 8, 8, 8, 8, 8, 8, 8, 8, 8, 8, 8, 8, 8, 8, 8, 8, 8, 8, 8, 8, 8, 8, 8, 8, 8, 8, 8, 8, 8, 8, 8, 8, 8, 8, 8, 8, 8, 8, 8, 8, 8, 8, 8, 8, 8, 8, 8, 8, 8, 8, 8] })) (.t ⟨.d0, .d1, .d7⟩), none⟩,
    ⟨some ⟨.d0, .d2, .d1⟩, .convInt .i64 (.t ⟨.d0, .d2, .d0⟩), none⟩,
    ⟨some ⟨.d0, .d2, .d2⟩, .bin .add (.t ⟨.d0, .d1, .d5⟩) (.t ⟨.d0, .d2, .d1⟩), none⟩,
    ⟨some ⟨.d0, .d0, .d2⟩, .move (.t ⟨.d0, .d2, .d2⟩), none⟩])
  (.ret))))
def r_bits_Len32 : List XR := [.tmp ⟨.d0, .d0, .d2⟩]
theorem ok_bits_Len32 : okC Try.prog Try.f75.ntmps (bodyOf Try.f75) x_bits_Len32 = true := by kernel_rfl
theorem okr_bits_Len32 : okRs Try.prog Try.f75.results.toList r_bits_Len32 = true := by kernel_rfl

/-- bits.Len64 -/
def x_bits_Len64 : XC :=
  .seq (.region [⟨some ⟨.d0, .d0, .d2⟩, .move (.c (.int .i64 0)), none⟩])
  (.seq (.seq (.region [⟨some ⟨.d0, .d0, .d3⟩, .move (.t ⟨.d0, .d0, .d0⟩), none⟩,
    ⟨some ⟨.d0, .d0, .d4⟩, .bin .geq (.t ⟨.d0, .d0, .d3⟩) (.c (.int .u64 4294967296)), none⟩])
  (.cond (.t ⟨.d0, .d0, .d4⟩)
    (.seq (.region [⟨some ⟨.d0, .d0, .d5⟩, .move (.t ⟨.d0, .d0, .d0⟩), none⟩,
      ⟨some ⟨.d0, .d0, .d6⟩, .bin .shr (.t ⟨.d0, .d0, .d5⟩) (.c (.int .u64 32)), none⟩,
      ⟨some ⟨.d0, .d0, .d0⟩, .move (.t ⟨.d0, .d0, .d6⟩), none⟩])
    (.region [⟨some ⟨.d0, .d0, .d2⟩, .move (.c (.int .i64 32)), none⟩]))
    (.skip)))
  (.seq (.seq (.region [⟨some ⟨.d0, .d0, .d7⟩, .move (.t ⟨.d0, .d0, .d0⟩), none⟩,
    ⟨some ⟨.d0, .d1, .d0⟩, .bin .geq (.t ⟨.d0, .d0, .d7⟩) (.c (.int .u64 65536)), none⟩])
  (.cond (.t ⟨.d0, .d1, .d0⟩)
    (.seq (.region [⟨some ⟨.d0, .d1, .d1⟩, .move (.t ⟨.d0, .d0, .d0⟩), none⟩,
      ⟨some ⟨.d0, .d1, .d2⟩, .bin .shr (.t ⟨.d0, .d1, .d1⟩) (.c (.int .u64 16)), none⟩,
      ⟨some ⟨.d0, .d0, .d0⟩, .move (.t ⟨.d0, .d1, .d2⟩), none⟩])
    (.region [⟨some ⟨.d0, .d1, .d3⟩, .move (.t ⟨.d0, .d0, .d2⟩), none⟩,
      ⟨some ⟨.d0, .d1, .d4⟩, .bin .add (.t ⟨.d0, .d1, .d3⟩) (.c (.int .i64 16)), none⟩,
      ⟨some ⟨.d0, .d0, .d2⟩, .move (.t ⟨.d0, .d1, .d4⟩), none⟩]))
    (.skip)))
  (.seq (.seq (.region [⟨some ⟨.d0, .d1, .d5⟩, .move (.t ⟨.d0, .d0, .d0⟩), none⟩,
    ⟨some ⟨.d0, .d1, .d6⟩, .bin .geq (.t ⟨.d0, .d1, .d5⟩) (.c (.int .u64 256)), none⟩])
  (.cond (.t ⟨.d0, .d1, .d6⟩)
    (.seq (.region [⟨some ⟨.d0, .d1, .d7⟩, .move (.t ⟨.d0, .d0, .d0⟩), none⟩,
      ⟨some ⟨.d0, .d2, .d0⟩, .bin .shr (.t ⟨.d0, .d1, .d7⟩) (.c (.int .u64 8)), none⟩,
      ⟨some ⟨.d0, .d0, .d0⟩, .move (.t ⟨.d0, .d2, .d0⟩), none⟩])
    (.region [⟨some ⟨.d0, .d2, .d1⟩, .move (.t ⟨.d0, .d0, .d2⟩), none⟩,
      ⟨some ⟨.d0, .d2, .d2⟩, .bin .add (.t ⟨.d0, .d2, .d1⟩) (.c (.int .i64 8)), none⟩,
      ⟨some ⟨.d0, .d0, .d2⟩, .move (.t ⟨.d0, .d2, .d2⟩), none⟩]))
    (.skip)))
  (.seq (.region [⟨some ⟨.d0, .d2, .d3⟩, .move (.t ⟨.d0, .d0, .d2⟩), none⟩,
    ⟨some ⟨.d0, .d2, .d4⟩, .move (.t ⟨.d0, .d0, .d0⟩), none⟩,
    ⟨some ⟨.d0, .d2, .d5⟩, .convInt .u8 (.t ⟨.d0, .d2, .d4⟩), none⟩,
    ⟨some ⟨.d0, .d2, .d6⟩, .strAt (.c (.string { data := #[0, 1, 2, 2, 3, 3, 3, 3, 4, 4, 4, 4, 4, 4, 4, 4, 5, 5, 5, 5, 5, 5, 5, 5, 5, 5, 5, 5, 5, 5, 5, 5, 6, 6, 6, 6, 6, 6, 6, 6, 6, 6, 6, 6, 6, 6, 6, 6, 6, 6, 6, 6, 6, 6, 6, 6, 6, 6, 6, 6, 6, 6, 6, 6, 7, 7, 7, 7, 7, 7, 7, 7, 7, 7, 7, 7, 7, 7, 7, 7, 7, 7, 7, 7, 7, 7, 7, 7, 7, 7, 7, 7, 7, 7, 7, 7, 7, 7, 7, 7, 7, 7, 7, 7, 7, 7, 7, 7, 7, 7, 7, 7, 7, 7, 7, 7, 7, 7, 7, 7, 7, 7, 7, 7, 7, 7, 7, 7, 8, 8, 8, 8, 8, 8, 8, 8, 8, 8, 8, 8, 8, 8, 8, 8, 8, 8, 8, 8, 8, 8, 8, 8, 8, 8, 8, 8, 8, 8, 8, 8, 8, 8, 8, 8, 8, 8, 8, 8, 8, 8, 8, 8, 8, 8, 8, 8, 8, 8, 8, 8, 8, 8, 8, 8, 8, 8, 8, 8, 8, 8, 8, 8, 8, 8, 8, 8, 8, 8, 8, 8, 8, 8, 8, 8, 8, 8, 8, 8, 8, 8, 8, 8, 8, 8, 8, 8, 8, 8, 8, 8, 8, 8, 8, 8, 8, 8, 8, 8, 8, 8, 8, 8, 8, 8, 8, 8, 8, 8, 8, 8, 8, 8, 8, 8, 8, 8, 8, 8, 8, 8, 8, 8, 8, 8, 8, 8] })) (.t ⟨.d0, .d2, .d5⟩), none⟩,
    ⟨some ⟨.d0, .d2, .d7⟩, .convInt .i64 (.t ⟨.d0, .d2, .d6⟩), none⟩,
    ⟨some ⟨.d0, .d3, .d0⟩, .bin .add (.t ⟨.d0, .d2, .d3⟩) (.t ⟨.d0, .d2, .d7⟩), none⟩,
    ⟨some ⟨.d0, .d0, .d2⟩, .move (.t ⟨.d0, .d3, .d0⟩), none⟩])
  (.ret)))))
def r_bits_Len64 : List XR := [.tmp ⟨.d0, .d0, .d2⟩]
theorem ok_bits_Len64 : okC Try.prog Try.f76.ntmps (bodyOf Try.f76) x_bits_Len64 = true := by kernel_rfl
theorem okr_bits_Len64 : okRs Try.prog Try.f76.results.toList r_bits_Len64 = true := by kernel_rfl
end Go.Proofs.Ytmkdgnocbjbijaa
