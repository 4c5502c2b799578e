/-
  The functions of the program in short form, and that the model's code is what they stand for. Printed by xgen.py.
-/
import Derived.Test.YthdghenfidkdcaaFw
import Derived.Test.YthdghenfidkdcaaProg
import Derived.KernelRfl
namespace Go.Proofs.Ythdghenfidkdcaa
set_option linter.unusedVariables false
set_option maxRecDepth 100000

/-- custlaw.SwapSays -/
def x_custlaw_SwapSays : XC :=
  .seq (.region [⟨some ⟨.d0, .d0, .d6⟩, .move (.c (.bool false)), none⟩])
  (.seq (.region [⟨some ⟨.d0, .d2, .d4⟩, .move (.t ⟨.d0, .d0, .d0⟩), none⟩,
    ⟨some ⟨.d0, .d2, .d5⟩, .call 4 [(.t ⟨.d0, .d2, .d4⟩)], none⟩,
    ⟨some ⟨.d0, .d2, .d3⟩, .move (.t ⟨.d0, .d2, .d5⟩), none⟩,
    ⟨some ⟨.d0, .d2, .d6⟩, .extract 0 (.t ⟨.d0, .d2, .d3⟩), none⟩,
    ⟨some ⟨.d0, .d2, .d7⟩, .extract 1 (.t ⟨.d0, .d2, .d3⟩), none⟩,
    ⟨some ⟨.d0, .d0, .d7⟩, .alloc 0 [.int .u32 0, .int .u32 0, .int .i64 0, .int .i64 0, .int .i64 0], none⟩,
    ⟨none, .store 5 (.t ⟨.d0, .d0, .d7⟩) (.t ⟨.d0, .d2, .d6⟩), none⟩,
    ⟨some ⟨.d0, .d1, .d0⟩, .move (.t ⟨.d0, .d2, .d7⟩), none⟩])
  (.seq (.region [⟨some ⟨.d0, .d3, .d1⟩, .move (.t ⟨.d0, .d0, .d0⟩), none⟩,
    ⟨some ⟨.d0, .d3, .d2⟩, .call 5 [(.t ⟨.d0, .d3, .d1⟩)], none⟩,
    ⟨some ⟨.d0, .d3, .d0⟩, .move (.t ⟨.d0, .d3, .d2⟩), none⟩,
    ⟨some ⟨.d0, .d3, .d3⟩, .extract 0 (.t ⟨.d0, .d3, .d0⟩), none⟩,
    ⟨some ⟨.d0, .d3, .d4⟩, .extract 1 (.t ⟨.d0, .d3, .d0⟩), none⟩,
    ⟨some ⟨.d0, .d1, .d1⟩, .alloc 1 [.int .u32 0, .int .u32 0, .int .i64 0, .int .i64 0, .int .i64 0], none⟩,
    ⟨none, .store 5 (.t ⟨.d0, .d1, .d1⟩) (.t ⟨.d0, .d3, .d3⟩), none⟩,
    ⟨some ⟨.d0, .d1, .d2⟩, .move (.t ⟨.d0, .d3, .d4⟩), none⟩])
  (.seq (.region [⟨some ⟨.d0, .d3, .d6⟩, .move (.t ⟨.d0, .d0, .d0⟩), none⟩,
    ⟨some ⟨.d0, .d3, .d7⟩, .move (.t ⟨.d0, .d0, .d1⟩), none⟩,
    ⟨some ⟨.d0, .d4, .d0⟩, .move (.t ⟨.d0, .d0, .d2⟩), none⟩,
    ⟨some ⟨.d0, .d4, .d1⟩, .call 6 [(.t ⟨.d0, .d3, .d6⟩), (.t ⟨.d0, .d3, .d7⟩), (.t ⟨.d0, .d4, .d0⟩)], none⟩,
    ⟨some ⟨.d0, .d3, .d5⟩, .move (.t ⟨.d0, .d4, .d1⟩), none⟩,
    ⟨some ⟨.d0, .d4, .d2⟩, .extract 0 (.t ⟨.d0, .d3, .d5⟩), none⟩,
    ⟨some ⟨.d0, .d4, .d3⟩, .extract 1 (.t ⟨.d0, .d3, .d5⟩), none⟩,
    ⟨some ⟨.d0, .d1, .d3⟩, .move (.t ⟨.d0, .d4, .d2⟩), none⟩,
    ⟨some ⟨.d0, .d1, .d4⟩, .move (.t ⟨.d0, .d4, .d3⟩), none⟩])
  (.seq (.region [⟨some ⟨.d0, .d4, .d5⟩, .move (.t ⟨.d0, .d0, .d0⟩), none⟩,
    ⟨some ⟨.d0, .d4, .d6⟩, .move (.t ⟨.d0, .d0, .d1⟩), none⟩,
    ⟨some ⟨.d0, .d4, .d7⟩, .move (.t ⟨.d0, .d0, .d2⟩), none⟩,
    ⟨some ⟨.d0, .d5, .d0⟩, .call 7 [(.t ⟨.d0, .d4, .d5⟩), (.t ⟨.d0, .d4, .d6⟩), (.t ⟨.d0, .d4, .d7⟩), (.c (.bool true))], none⟩,
    ⟨some ⟨.d0, .d4, .d4⟩, .move (.t ⟨.d0, .d5, .d0⟩), none⟩,
    ⟨some ⟨.d0, .d5, .d1⟩, .extract 0 (.t ⟨.d0, .d4, .d4⟩), none⟩,
    ⟨some ⟨.d0, .d5, .d2⟩, .extract 1 (.t ⟨.d0, .d4, .d4⟩), none⟩,
    ⟨some ⟨.d0, .d1, .d5⟩, .move (.t ⟨.d0, .d5, .d1⟩), none⟩,
    ⟨some ⟨.d0, .d1, .d6⟩, .move (.t ⟨.d0, .d5, .d2⟩), none⟩])
  (.seq (.region [⟨some ⟨.d0, .d5, .d4⟩, .move (.t ⟨.d0, .d0, .d0⟩), none⟩,
    ⟨some ⟨.d0, .d5, .d5⟩, .move (.t ⟨.d0, .d0, .d1⟩), none⟩,
    ⟨some ⟨.d0, .d5, .d6⟩, .move (.t ⟨.d0, .d0, .d2⟩), none⟩,
    ⟨some ⟨.d0, .d5, .d7⟩, .call 8 [(.t ⟨.d0, .d5, .d4⟩), (.t ⟨.d0, .d5, .d5⟩), (.t ⟨.d0, .d5, .d6⟩)], none⟩,
    ⟨some ⟨.d0, .d5, .d3⟩, .move (.t ⟨.d0, .d5, .d7⟩), none⟩,
    ⟨some ⟨.d0, .d6, .d0⟩, .extract 0 (.t ⟨.d0, .d5, .d3⟩), none⟩,
    ⟨some ⟨.d0, .d6, .d1⟩, .extract 1 (.t ⟨.d0, .d5, .d3⟩), none⟩,
    ⟨some ⟨.d0, .d1, .d7⟩, .move (.t ⟨.d0, .d6, .d0⟩), none⟩,
    ⟨some ⟨.d0, .d2, .d0⟩, .move (.t ⟨.d0, .d6, .d1⟩), none⟩])
  (.seq (.region [⟨some ⟨.d0, .d6, .d3⟩, .move (.t ⟨.d0, .d0, .d0⟩), none⟩,
    ⟨some ⟨.d0, .d6, .d4⟩, .move (.t ⟨.d0, .d0, .d1⟩), none⟩,
    ⟨some ⟨.d0, .d6, .d5⟩, .move (.t ⟨.d0, .d0, .d2⟩), none⟩,
    ⟨some ⟨.d0, .d6, .d6⟩, .call 7 [(.t ⟨.d0, .d6, .d3⟩), (.t ⟨.d0, .d6, .d4⟩), (.t ⟨.d0, .d6, .d5⟩), (.c (.bool false))], none⟩,
    ⟨some ⟨.d0, .d6, .d2⟩, .move (.t ⟨.d0, .d6, .d6⟩), none⟩,
    ⟨some ⟨.d0, .d6, .d7⟩, .extract 0 (.t ⟨.d0, .d6, .d2⟩), none⟩,
    ⟨some ⟨.d0, .d7, .d0⟩, .extract 1 (.t ⟨.d0, .d6, .d2⟩), none⟩,
    ⟨some ⟨.d0, .d2, .d1⟩, .move (.t ⟨.d0, .d6, .d7⟩), none⟩,
    ⟨some ⟨.d0, .d2, .d2⟩, .move (.t ⟨.d0, .d7, .d0⟩), none⟩])
  (.seq (.region [⟨some ⟨.d0, .d7, .d1⟩, .load true 5 (.t ⟨.d0, .d0, .d7⟩), none⟩,
    ⟨some ⟨.d0, .d7, .d2⟩, .load true 5 (.t ⟨.d0, .d1, .d1⟩), none⟩,
    ⟨some ⟨.d0, .d7, .d3⟩, .eqs false [0, 0, 0, 0, 0] (.t ⟨.d0, .d7, .d1⟩) (.t ⟨.d0, .d7, .d2⟩), none⟩,
    ⟨some ⟨.d0, .d7, .d4⟩, .move (.t ⟨.d0, .d7, .d3⟩), none⟩,
    ⟨some ⟨.d0, .d7, .d5⟩, .move (.t ⟨.d0, .d1, .d0⟩), some (⟨.d0, .d7, .d4⟩, true)⟩,
    ⟨some ⟨.d0, .d7, .d6⟩, .move (.t ⟨.d0, .d1, .d2⟩), some (⟨.d0, .d7, .d4⟩, true)⟩,
    ⟨some ⟨.d0, .d7, .d7⟩, .bin .eql (.t ⟨.d0, .d7, .d5⟩) (.t ⟨.d0, .d7, .d6⟩), some (⟨.d0, .d7, .d4⟩, true)⟩,
    ⟨some ⟨.d1, .d0, .d0⟩, .pick (.t ⟨.d0, .d7, .d4⟩) (.t ⟨.d0, .d7, .d7⟩) (.c (.bool false)), none⟩,
    ⟨some ⟨.d1, .d0, .d1⟩, .move (.t ⟨.d1, .d0, .d0⟩), none⟩,
    ⟨some ⟨.d1, .d0, .d2⟩, .move (.t ⟨.d0, .d1, .d3⟩), some (⟨.d1, .d0, .d1⟩, true)⟩,
    ⟨some ⟨.d1, .d0, .d3⟩, .move (.t ⟨.d0, .d1, .d5⟩), some (⟨.d1, .d0, .d1⟩, true)⟩,
    ⟨some ⟨.d1, .d0, .d4⟩, .sbin .eql (.t ⟨.d1, .d0, .d2⟩) (.t ⟨.d1, .d0, .d3⟩), some (⟨.d1, .d0, .d1⟩, true)⟩,
    ⟨some ⟨.d1, .d0, .d5⟩, .pick (.t ⟨.d1, .d0, .d1⟩) (.t ⟨.d1, .d0, .d4⟩) (.c (.bool false)), none⟩,
    ⟨some ⟨.d1, .d0, .d6⟩, .move (.t ⟨.d1, .d0, .d5⟩), none⟩,
    ⟨some ⟨.d1, .d0, .d7⟩, .move (.t ⟨.d0, .d1, .d4⟩), some (⟨.d1, .d0, .d6⟩, true)⟩,
    ⟨some ⟨.d1, .d1, .d0⟩, .move (.t ⟨.d0, .d1, .d6⟩), some (⟨.d1, .d0, .d6⟩, true)⟩,
    ⟨some ⟨.d1, .d1, .d1⟩, .bin .eql (.t ⟨.d1, .d0, .d7⟩) (.t ⟨.d1, .d1, .d0⟩), some (⟨.d1, .d0, .d6⟩, true)⟩,
    ⟨some ⟨.d1, .d1, .d2⟩, .pick (.t ⟨.d1, .d0, .d6⟩) (.t ⟨.d1, .d1, .d1⟩) (.c (.bool false)), none⟩,
    ⟨some ⟨.d1, .d1, .d3⟩, .move (.t ⟨.d1, .d1, .d2⟩), none⟩,
    ⟨some ⟨.d1, .d1, .d4⟩, .move (.t ⟨.d0, .d1, .d7⟩), some (⟨.d1, .d1, .d3⟩, true)⟩,
    ⟨some ⟨.d1, .d1, .d5⟩, .move (.t ⟨.d0, .d2, .d1⟩), some (⟨.d1, .d1, .d3⟩, true)⟩,
    ⟨some ⟨.d1, .d1, .d6⟩, .sbin .eql (.t ⟨.d1, .d1, .d4⟩) (.t ⟨.d1, .d1, .d5⟩), some (⟨.d1, .d1, .d3⟩, true)⟩,
    ⟨some ⟨.d1, .d1, .d7⟩, .pick (.t ⟨.d1, .d1, .d3⟩) (.t ⟨.d1, .d1, .d6⟩) (.c (.bool false)), none⟩,
    ⟨some ⟨.d1, .d2, .d0⟩, .move (.t ⟨.d1, .d1, .d7⟩), none⟩,
    ⟨some ⟨.d1, .d2, .d1⟩, .move (.t ⟨.d0, .d2, .d0⟩), some (⟨.d1, .d2, .d0⟩, true)⟩,
    ⟨some ⟨.d1, .d2, .d2⟩, .move (.t ⟨.d0, .d2, .d2⟩), some (⟨.d1, .d2, .d0⟩, true)⟩,
    ⟨some ⟨.d1, .d2, .d3⟩, .bin .eql (.t ⟨.d1, .d2, .d1⟩) (.t ⟨.d1, .d2, .d2⟩), some (⟨.d1, .d2, .d0⟩, true)⟩,
    ⟨some ⟨.d1, .d2, .d4⟩, .pick (.t ⟨.d1, .d2, .d0⟩) (.t ⟨.d1, .d2, .d3⟩) (.c (.bool false)), none⟩,
    ⟨some ⟨.d0, .d0, .d6⟩, .move (.t ⟨.d1, .d2, .d4⟩), none⟩])
  (.ret))))))))
def r_custlaw_SwapSays : List XR := [.tmp ⟨.d0, .d0, .d6⟩]
theorem ok_custlaw_SwapSays : okC Try.prog Try.f3.ntmps (bodyOf Try.f3) x_custlaw_SwapSays = true := by kernel_rfl
theorem okr_custlaw_SwapSays : okRs Try.prog Try.f3.results.toList r_custlaw_SwapSays = true := by kernel_rfl

/-- swap.Ends -/
def x_swap_Ends : XC :=
  .seq (.region [⟨some ⟨.d0, .d0, .d2⟩, .alloc 0 [.int .u32 0, .int .u32 0, .int .i64 0, .int .i64 0, .int .i64 0], none⟩,
    ⟨some ⟨.d0, .d0, .d3⟩, .move (.c (.int .i64 0)), none⟩])
  (.seq (.region [⟨some ⟨.d0, .d1, .d4⟩, .move (.t ⟨.d0, .d0, .d0⟩), none⟩,
    ⟨some ⟨.d0, .d1, .d5⟩, .call 9 [(.t ⟨.d0, .d1, .d4⟩)], none⟩,
    ⟨some ⟨.d0, .d1, .d3⟩, .move (.t ⟨.d0, .d1, .d5⟩), none⟩,
    ⟨some ⟨.d0, .d1, .d6⟩, .extract 0 (.t ⟨.d0, .d1, .d3⟩), none⟩,
    ⟨some ⟨.d0, .d1, .d7⟩, .extract 1 (.t ⟨.d0, .d1, .d3⟩), none⟩,
    ⟨some ⟨.d0, .d0, .d4⟩, .alloc 1 [.int .i64 0, .int .i64 0, .bool false, .bool false, .int .i64 0, .int .i64 0, .int .i64 0, .int .u32 0, .int .u32 0, .string { data := #[] }, .string { data := #[] }], none⟩,
    ⟨none, .store 11 (.t ⟨.d0, .d0, .d4⟩) (.t ⟨.d0, .d1, .d6⟩), none⟩,
    ⟨some ⟨.d0, .d0, .d5⟩, .move (.t ⟨.d0, .d1, .d7⟩), none⟩])
  (.seq (.seq (.region [⟨some ⟨.d0, .d2, .d0⟩, .move (.t ⟨.d0, .d0, .d5⟩), none⟩,
    ⟨some ⟨.d0, .d2, .d1⟩, .bin .neq (.t ⟨.d0, .d2, .d0⟩) (.c (.int .i64 0)), none⟩])
  (.cond (.t ⟨.d0, .d2, .d1⟩)
    (.seq (.region [⟨some ⟨.d0, .d2, .d2⟩, .build [.int .u32 0, .int .u32 0, .int .i64 0, .int .i64 0, .int .i64 0] [], none⟩,
      ⟨some ⟨.d0, .d2, .d3⟩, .move (.t ⟨.d0, .d0, .d5⟩), none⟩,
      ⟨none, .store 5 (.t ⟨.d0, .d0, .d2⟩) (.t ⟨.d0, .d2, .d2⟩), none⟩,
      ⟨some ⟨.d0, .d0, .d3⟩, .move (.t ⟨.d0, .d2, .d3⟩), none⟩])
    (.ret))
    (.skip)))
  (.seq (.region [⟨some ⟨.d0, .d2, .d4⟩, .fieldAddr 7 (.t ⟨.d0, .d0, .d4⟩), none⟩,
    ⟨some ⟨.d0, .d2, .d5⟩, .load false 1 (.t ⟨.d0, .d2, .d4⟩), none⟩,
    ⟨some ⟨.d0, .d2, .d6⟩, .fieldAddr 8 (.t ⟨.d0, .d0, .d4⟩), none⟩,
    ⟨some ⟨.d0, .d2, .d7⟩, .load false 1 (.t ⟨.d0, .d2, .d6⟩), none⟩,
    ⟨some ⟨.d0, .d3, .d0⟩, .fieldAddr 6 (.t ⟨.d0, .d0, .d4⟩), none⟩,
    ⟨some ⟨.d0, .d3, .d1⟩, .load false 1 (.t ⟨.d0, .d3, .d0⟩), none⟩,
    ⟨some ⟨.d0, .d3, .d2⟩, .build [.int .u32 0, .int .u32 0, .int .i64 0, .int .i64 0, .int .i64 0] [(0, 1, (.t ⟨.d0, .d2, .d5⟩)), (1, 1, (.t ⟨.d0, .d2, .d7⟩)), (2, 1, (.t ⟨.d0, .d3, .d1⟩))], none⟩,
    ⟨some ⟨.d0, .d0, .d6⟩, .alloc 2 [.int .u32 0, .int .u32 0, .int .i64 0, .int .i64 0, .int .i64 0], none⟩,
    ⟨none, .store 5 (.t ⟨.d0, .d0, .d6⟩) (.t ⟨.d0, .d3, .d2⟩), none⟩])
  (.seq (.block 0
    (.seq (.region [⟨some ⟨.d0, .d6, .d0⟩, .fieldAddr 6 (.t ⟨.d0, .d0, .d4⟩), none⟩,
      ⟨some ⟨.d0, .d6, .d1⟩, .load false 1 (.t ⟨.d0, .d6, .d0⟩), none⟩,
      ⟨some ⟨.d0, .d6, .d2⟩, .bin .neq (.t ⟨.d0, .d6, .d1⟩) (.c (.int .i64 6)), none⟩,
      ⟨some ⟨.d0, .d6, .d3⟩, .move (.t ⟨.d0, .d6, .d2⟩), none⟩,
      ⟨some ⟨.d0, .d6, .d4⟩, .fieldAddr 6 (.t ⟨.d0, .d0, .d4⟩), some (⟨.d0, .d6, .d3⟩, true)⟩,
      ⟨some ⟨.d0, .d6, .d5⟩, .load false 1 (.t ⟨.d0, .d6, .d4⟩), some (⟨.d0, .d6, .d3⟩, true)⟩,
      ⟨some ⟨.d0, .d6, .d6⟩, .bin .neq (.t ⟨.d0, .d6, .d5⟩) (.c (.int .i64 17)), some (⟨.d0, .d6, .d3⟩, true)⟩,
      ⟨some ⟨.d0, .d6, .d7⟩, .pick (.t ⟨.d0, .d6, .d3⟩) (.t ⟨.d0, .d6, .d6⟩) (.c (.bool false)), none⟩,
      ⟨some ⟨.d0, .d5, .d7⟩, .move (.t ⟨.d0, .d6, .d7⟩), none⟩])
    (.cond (.t ⟨.d0, .d5, .d7⟩)
      (.seq (.region [⟨some ⟨.d0, .d7, .d0⟩, .build [.int .u32 0, .int .u32 0, .int .i64 0, .int .i64 0, .int .i64 0] [], none⟩,
        ⟨none, .store 5 (.t ⟨.d0, .d0, .d2⟩) (.t ⟨.d0, .d7, .d0⟩), none⟩,
        ⟨some ⟨.d0, .d0, .d3⟩, .move (.c (.int .i64 7)), none⟩])
      (.ret))
      (.seq (.region [⟨some ⟨.d0, .d7, .d2⟩, .fieldAddr 3 (.t ⟨.d0, .d0, .d4⟩), none⟩,
        ⟨some ⟨.d0, .d7, .d3⟩, .load false 1 (.t ⟨.d0, .d7, .d2⟩), none⟩,
        ⟨some ⟨.d0, .d7, .d4⟩, .move (.t ⟨.d0, .d7, .d3⟩), none⟩,
        ⟨some ⟨.d0, .d7, .d5⟩, .fieldAddr 4 (.t ⟨.d0, .d0, .d4⟩), some (⟨.d0, .d7, .d4⟩, false)⟩,
        ⟨some ⟨.d0, .d7, .d6⟩, .load false 1 (.t ⟨.d0, .d7, .d5⟩), some (⟨.d0, .d7, .d4⟩, false)⟩,
        ⟨some ⟨.d0, .d7, .d7⟩, .bin .neq (.t ⟨.d0, .d7, .d6⟩) (.c (.int .i64 0)), some (⟨.d0, .d7, .d4⟩, false)⟩,
        ⟨some ⟨.d1, .d0, .d0⟩, .pick (.t ⟨.d0, .d7, .d4⟩) (.c (.bool true)) (.t ⟨.d0, .d7, .d7⟩), none⟩,
        ⟨some ⟨.d0, .d7, .d1⟩, .move (.t ⟨.d1, .d0, .d0⟩), none⟩])
      (.cond (.t ⟨.d0, .d7, .d1⟩)
        (.seq (.region [⟨some ⟨.d1, .d0, .d1⟩, .build [.int .u32 0, .int .u32 0, .int .i64 0, .int .i64 0, .int .i64 0] [], none⟩,
          ⟨none, .store 5 (.t ⟨.d0, .d0, .d2⟩) (.t ⟨.d1, .d0, .d1⟩), none⟩,
          ⟨some ⟨.d0, .d0, .d3⟩, .move (.c (.int .i64 9)), none⟩])
        (.ret))
        (.seq (.region [⟨some ⟨.d1, .d0, .d3⟩, .fieldAddr 6 (.t ⟨.d0, .d0, .d4⟩), none⟩,
          ⟨some ⟨.d1, .d0, .d4⟩, .load false 1 (.t ⟨.d1, .d0, .d3⟩), none⟩,
          ⟨some ⟨.d1, .d0, .d5⟩, .bin .eql (.t ⟨.d1, .d0, .d4⟩) (.c (.int .i64 6)), none⟩,
          ⟨some ⟨.d1, .d0, .d2⟩, .move (.t ⟨.d1, .d0, .d5⟩), none⟩])
        (.cond (.t ⟨.d1, .d0, .d2⟩)
          (.seq (.region [⟨some ⟨.d1, .d0, .d7⟩, .fieldAddr 10 (.t ⟨.d0, .d0, .d4⟩), none⟩,
            ⟨some ⟨.d1, .d1, .d0⟩, .load false 1 (.t ⟨.d1, .d0, .d7⟩), none⟩,
            ⟨some ⟨.d1, .d1, .d1⟩, .fieldAddr 7 (.t ⟨.d0, .d0, .d4⟩), none⟩,
            ⟨some ⟨.d1, .d1, .d2⟩, .load false 1 (.t ⟨.d1, .d1, .d1⟩), none⟩,
            ⟨some ⟨.d1, .d1, .d3⟩, .fieldAddr 8 (.t ⟨.d0, .d0, .d4⟩), none⟩,
            ⟨some ⟨.d1, .d1, .d4⟩, .load false 1 (.t ⟨.d1, .d1, .d3⟩), none⟩,
            ⟨some ⟨.d1, .d1, .d5⟩, .call 10 [(.t ⟨.d1, .d1, .d0⟩), (.t ⟨.d1, .d1, .d2⟩), (.t ⟨.d1, .d1, .d4⟩)], none⟩,
            ⟨some ⟨.d1, .d0, .d6⟩, .move (.t ⟨.d1, .d1, .d5⟩), none⟩,
            ⟨some ⟨.d1, .d1, .d6⟩, .extract 0 (.t ⟨.d1, .d0, .d6⟩), none⟩,
            ⟨some ⟨.d1, .d1, .d7⟩, .extract 1 (.t ⟨.d1, .d0, .d6⟩), none⟩,
            ⟨some ⟨.d0, .d0, .d7⟩, .alloc 3 [.int .i64 0, .int .i64 0, .int .u32 0, .int .u32 0, .int .i64 0, .int .i64 0, .int .i64 0, .slice none 0 0, .string { data := #[] }], none⟩,
            ⟨none, .store 9 (.t ⟨.d0, .d0, .d7⟩) (.t ⟨.d1, .d1, .d6⟩), none⟩,
            ⟨some ⟨.d0, .d1, .d0⟩, .move (.t ⟨.d1, .d1, .d7⟩), none⟩])
          (.seq (.seq (.region [⟨some ⟨.d1, .d2, .d0⟩, .move (.t ⟨.d0, .d1, .d0⟩), none⟩,
            ⟨some ⟨.d1, .d2, .d1⟩, .bin .neq (.t ⟨.d1, .d2, .d0⟩) (.c (.int .i64 0)), none⟩])
          (.cond (.t ⟨.d1, .d2, .d1⟩)
            (.seq (.region [⟨some ⟨.d1, .d2, .d2⟩, .build [.int .u32 0, .int .u32 0, .int .i64 0, .int .i64 0, .int .i64 0] [], none⟩,
              ⟨some ⟨.d1, .d2, .d3⟩, .move (.t ⟨.d0, .d1, .d0⟩), none⟩,
              ⟨none, .store 5 (.t ⟨.d0, .d0, .d2⟩) (.t ⟨.d1, .d2, .d2⟩), none⟩,
              ⟨some ⟨.d0, .d0, .d3⟩, .move (.t ⟨.d1, .d2, .d3⟩), none⟩])
            (.ret))
            (.skip)))
          (.regionD [0, 1, 0, 4, 3, 19, 63, 127] [⟨some ⟨.d1, .d2, .d4⟩, .fieldAddr 0 (.t ⟨.d0, .d0, .d7⟩), none⟩,
            ⟨some ⟨.d1, .d2, .d5⟩, .load false 1 (.t ⟨.d1, .d2, .d4⟩), none⟩,
            ⟨some ⟨.d1, .d2, .d6⟩, .fieldAddr 1 (.t ⟨.d0, .d0, .d7⟩), none⟩,
            ⟨some ⟨.d1, .d2, .d7⟩, .load false 1 (.t ⟨.d1, .d2, .d6⟩), none⟩,
            ⟨some ⟨.d1, .d3, .d0⟩, .fieldAddr 3 (.t ⟨.d0, .d0, .d6⟩), none⟩,
            ⟨none, .store 1 (.t ⟨.d1, .d3, .d0⟩) (.t ⟨.d1, .d2, .d5⟩), none⟩,
            ⟨some ⟨.d1, .d3, .d1⟩, .fieldAddr 4 (.t ⟨.d0, .d0, .d6⟩), none⟩,
            ⟨none, .store 1 (.t ⟨.d1, .d3, .d1⟩) (.t ⟨.d1, .d2, .d7⟩), none⟩])))
          (.seq (.region [⟨some ⟨.d0, .d3, .d4⟩, .fieldAddr 10 (.t ⟨.d0, .d0, .d4⟩), none⟩,
            ⟨some ⟨.d0, .d3, .d5⟩, .load false 1 (.t ⟨.d0, .d3, .d4⟩), none⟩,
            ⟨some ⟨.d0, .d3, .d6⟩, .fieldAddr 7 (.t ⟨.d0, .d0, .d4⟩), none⟩,
            ⟨some ⟨.d0, .d3, .d7⟩, .load false 1 (.t ⟨.d0, .d3, .d6⟩), none⟩,
            ⟨some ⟨.d0, .d4, .d0⟩, .fieldAddr 8 (.t ⟨.d0, .d0, .d4⟩), none⟩,
            ⟨some ⟨.d0, .d4, .d1⟩, .load false 1 (.t ⟨.d0, .d4, .d0⟩), none⟩,
            ⟨some ⟨.d0, .d4, .d2⟩, .call 11 [(.t ⟨.d0, .d3, .d5⟩), (.t ⟨.d0, .d3, .d7⟩), (.t ⟨.d0, .d4, .d1⟩)], none⟩,
            ⟨some ⟨.d0, .d3, .d3⟩, .move (.t ⟨.d0, .d4, .d2⟩), none⟩,
            ⟨some ⟨.d0, .d4, .d3⟩, .extract 0 (.t ⟨.d0, .d3, .d3⟩), none⟩,
            ⟨some ⟨.d0, .d4, .d4⟩, .extract 1 (.t ⟨.d0, .d3, .d3⟩), none⟩,
            ⟨some ⟨.d0, .d1, .d1⟩, .alloc 4 [.int .i64 0, .int .i64 0, .string { data := #[] }], none⟩,
            ⟨none, .store 3 (.t ⟨.d0, .d1, .d1⟩) (.t ⟨.d0, .d4, .d3⟩), none⟩,
            ⟨some ⟨.d0, .d1, .d2⟩, .move (.t ⟨.d0, .d4, .d4⟩), none⟩])
          (.seq (.seq (.region [⟨some ⟨.d0, .d4, .d5⟩, .move (.t ⟨.d0, .d1, .d2⟩), none⟩,
            ⟨some ⟨.d0, .d4, .d6⟩, .bin .neq (.t ⟨.d0, .d4, .d5⟩) (.c (.int .i64 0)), none⟩])
          (.cond (.t ⟨.d0, .d4, .d6⟩)
            (.seq (.region [⟨some ⟨.d0, .d4, .d7⟩, .build [.int .u32 0, .int .u32 0, .int .i64 0, .int .i64 0, .int .i64 0] [], none⟩,
              ⟨some ⟨.d0, .d5, .d0⟩, .move (.t ⟨.d0, .d1, .d2⟩), none⟩,
              ⟨none, .store 5 (.t ⟨.d0, .d0, .d2⟩) (.t ⟨.d0, .d4, .d7⟩), none⟩,
              ⟨some ⟨.d0, .d0, .d3⟩, .move (.t ⟨.d0, .d5, .d0⟩), none⟩])
            (.ret))
            (.skip)))
          (.regionD [0, 1, 0, 4, 3, 19, 63, 127] [⟨some ⟨.d0, .d5, .d1⟩, .fieldAddr 0 (.t ⟨.d0, .d1, .d1⟩), none⟩,
            ⟨some ⟨.d0, .d5, .d2⟩, .load false 1 (.t ⟨.d0, .d5, .d1⟩), none⟩,
            ⟨some ⟨.d0, .d5, .d3⟩, .fieldAddr 1 (.t ⟨.d0, .d1, .d1⟩), none⟩,
            ⟨some ⟨.d0, .d5, .d4⟩, .load false 1 (.t ⟨.d0, .d5, .d3⟩), none⟩,
            ⟨some ⟨.d0, .d5, .d5⟩, .fieldAddr 3 (.t ⟨.d0, .d0, .d6⟩), none⟩,
            ⟨none, .store 1 (.t ⟨.d0, .d5, .d5⟩) (.t ⟨.d0, .d5, .d2⟩), none⟩,
            ⟨some ⟨.d0, .d5, .d6⟩, .fieldAddr 4 (.t ⟨.d0, .d0, .d6⟩), none⟩,
            ⟨none, .store 1 (.t ⟨.d0, .d5, .d6⟩) (.t ⟨.d0, .d5, .d4⟩), none⟩]))))))))))
  (.seq (.region [⟨some ⟨.d1, .d3, .d2⟩, .load true 5 (.t ⟨.d0, .d0, .d6⟩), none⟩,
    ⟨none, .store 5 (.t ⟨.d0, .d0, .d2⟩) (.t ⟨.d1, .d3, .d2⟩), none⟩,
    ⟨some ⟨.d0, .d0, .d3⟩, .move (.c (.int .i64 0)), none⟩])
  (.ret))))))
def r_swap_Ends : List XR := [.cell ⟨.d0, .d0, .d2⟩ true 5, .tmp ⟨.d0, .d0, .d3⟩]
theorem ok_swap_Ends : okC Try.prog Try.f4.ntmps (bodyOf Try.f4) x_swap_Ends = true := by kernel_rfl
theorem okr_swap_Ends : okRs Try.prog Try.f4.results.toList r_swap_Ends = true := by kernel_rfl

/-- custref.EndsOf -/
def x_custref_EndsOf : XC :=
  .seq (.region [⟨some ⟨.d0, .d0, .d2⟩, .alloc 0 [.int .u32 0, .int .u32 0, .int .i64 0, .int .i64 0, .int .i64 0], none⟩,
    ⟨some ⟨.d0, .d0, .d3⟩, .move (.c (.int .i64 0)), none⟩])
  (.seq (.region [⟨some ⟨.d0, .d0, .d7⟩, .move (.t ⟨.d0, .d0, .d0⟩), none⟩,
    ⟨some ⟨.d0, .d1, .d0⟩, .call 12 [(.t ⟨.d0, .d0, .d7⟩)], none⟩,
    ⟨some ⟨.d0, .d0, .d6⟩, .move (.t ⟨.d0, .d1, .d0⟩), none⟩,
    ⟨some ⟨.d0, .d1, .d1⟩, .extract 0 (.t ⟨.d0, .d0, .d6⟩), none⟩,
    ⟨some ⟨.d0, .d1, .d2⟩, .extract 1 (.t ⟨.d0, .d0, .d6⟩), none⟩,
    ⟨some ⟨.d0, .d0, .d4⟩, .alloc 1 [.int .i64 0, .int .i64 0, .bool false, .bool false, .int .i64 0, .int .i64 0, .int .i64 0, .int .u32 0, .int .u32 0, .string { data := #[] }, .string { data := #[] }], none⟩,
    ⟨none, .store 11 (.t ⟨.d0, .d0, .d4⟩) (.t ⟨.d0, .d1, .d1⟩), none⟩,
    ⟨some ⟨.d0, .d0, .d5⟩, .move (.t ⟨.d0, .d1, .d2⟩), none⟩])
  (.seq (.seq (.region [⟨some ⟨.d0, .d1, .d3⟩, .move (.t ⟨.d0, .d0, .d5⟩), none⟩,
    ⟨some ⟨.d0, .d1, .d4⟩, .bin .neq (.t ⟨.d0, .d1, .d3⟩) (.c (.int .i64 0)), none⟩])
  (.cond (.t ⟨.d0, .d1, .d4⟩)
    (.seq (.region [⟨some ⟨.d0, .d1, .d5⟩, .build [.int .u32 0, .int .u32 0, .int .i64 0, .int .i64 0, .int .i64 0] [], none⟩,
      ⟨some ⟨.d0, .d1, .d6⟩, .move (.t ⟨.d0, .d0, .d5⟩), none⟩,
      ⟨none, .store 5 (.t ⟨.d0, .d0, .d2⟩) (.t ⟨.d0, .d1, .d5⟩), none⟩,
      ⟨some ⟨.d0, .d0, .d3⟩, .move (.t ⟨.d0, .d1, .d6⟩), none⟩])
    (.ret))
    (.skip)))
  (.seq (.seq (.region [⟨some ⟨.d0, .d1, .d7⟩, .fieldAddr 6 (.t ⟨.d0, .d0, .d4⟩), none⟩,
    ⟨some ⟨.d0, .d2, .d0⟩, .load false 1 (.t ⟨.d0, .d1, .d7⟩), none⟩,
    ⟨some ⟨.d0, .d2, .d1⟩, .bin .neq (.t ⟨.d0, .d2, .d0⟩) (.c (.int .i64 6)), none⟩,
    ⟨some ⟨.d0, .d2, .d2⟩, .move (.t ⟨.d0, .d2, .d1⟩), none⟩,
    ⟨some ⟨.d0, .d2, .d3⟩, .fieldAddr 6 (.t ⟨.d0, .d0, .d4⟩), some (⟨.d0, .d2, .d2⟩, true)⟩,
    ⟨some ⟨.d0, .d2, .d4⟩, .load false 1 (.t ⟨.d0, .d2, .d3⟩), some (⟨.d0, .d2, .d2⟩, true)⟩,
    ⟨some ⟨.d0, .d2, .d5⟩, .bin .neq (.t ⟨.d0, .d2, .d4⟩) (.c (.int .i64 17)), some (⟨.d0, .d2, .d2⟩, true)⟩,
    ⟨some ⟨.d0, .d2, .d6⟩, .pick (.t ⟨.d0, .d2, .d2⟩) (.t ⟨.d0, .d2, .d5⟩) (.c (.bool false)), none⟩])
  (.cond (.t ⟨.d0, .d2, .d6⟩)
    (.seq (.region [⟨some ⟨.d0, .d2, .d7⟩, .build [.int .u32 0, .int .u32 0, .int .i64 0, .int .i64 0, .int .i64 0] [], none⟩,
      ⟨none, .store 5 (.t ⟨.d0, .d0, .d2⟩) (.t ⟨.d0, .d2, .d7⟩), none⟩,
      ⟨some ⟨.d0, .d0, .d3⟩, .move (.c (.int .i64 7)), none⟩])
    (.ret))
    (.skip)))
  (.seq (.seq (.region [⟨some ⟨.d0, .d3, .d0⟩, .fieldAddr 3 (.t ⟨.d0, .d0, .d4⟩), none⟩,
    ⟨some ⟨.d0, .d3, .d1⟩, .load false 1 (.t ⟨.d0, .d3, .d0⟩), none⟩,
    ⟨some ⟨.d0, .d3, .d2⟩, .move (.t ⟨.d0, .d3, .d1⟩), none⟩,
    ⟨some ⟨.d0, .d3, .d3⟩, .fieldAddr 4 (.t ⟨.d0, .d0, .d4⟩), some (⟨.d0, .d3, .d2⟩, false)⟩,
    ⟨some ⟨.d0, .d3, .d4⟩, .load false 1 (.t ⟨.d0, .d3, .d3⟩), some (⟨.d0, .d3, .d2⟩, false)⟩,
    ⟨some ⟨.d0, .d3, .d5⟩, .bin .gtr (.t ⟨.d0, .d3, .d4⟩) (.c (.int .i64 0)), some (⟨.d0, .d3, .d2⟩, false)⟩,
    ⟨some ⟨.d0, .d3, .d6⟩, .pick (.t ⟨.d0, .d3, .d2⟩) (.c (.bool true)) (.t ⟨.d0, .d3, .d5⟩), none⟩])
  (.cond (.t ⟨.d0, .d3, .d6⟩)
    (.seq (.region [⟨some ⟨.d0, .d3, .d7⟩, .build [.int .u32 0, .int .u32 0, .int .i64 0, .int .i64 0, .int .i64 0] [], none⟩,
      ⟨none, .store 5 (.t ⟨.d0, .d0, .d2⟩) (.t ⟨.d0, .d3, .d7⟩), none⟩,
      ⟨some ⟨.d0, .d0, .d3⟩, .move (.c (.int .i64 9)), none⟩])
    (.ret))
    (.skip)))
  (.seq (.seq (.region [⟨some ⟨.d0, .d4, .d0⟩, .fieldAddr 6 (.t ⟨.d0, .d0, .d4⟩), none⟩,
    ⟨some ⟨.d0, .d4, .d1⟩, .load false 1 (.t ⟨.d0, .d4, .d0⟩), none⟩,
    ⟨some ⟨.d0, .d4, .d2⟩, .bin .eql (.t ⟨.d0, .d4, .d1⟩) (.c (.int .i64 6)), none⟩])
  (.cond (.t ⟨.d0, .d4, .d2⟩)
    (.region [⟨some ⟨.d0, .d4, .d4⟩, .fieldAddr 10 (.t ⟨.d0, .d0, .d4⟩), none⟩,
      ⟨some ⟨.d0, .d4, .d5⟩, .load false 1 (.t ⟨.d0, .d4, .d4⟩), none⟩,
      ⟨some ⟨.d0, .d4, .d6⟩, .fieldAddr 7 (.t ⟨.d0, .d0, .d4⟩), none⟩,
      ⟨some ⟨.d0, .d4, .d7⟩, .load false 1 (.t ⟨.d0, .d4, .d6⟩), none⟩,
      ⟨some ⟨.d0, .d5, .d0⟩, .fieldAddr 8 (.t ⟨.d0, .d0, .d4⟩), none⟩,
      ⟨some ⟨.d0, .d5, .d1⟩, .load false 1 (.t ⟨.d0, .d5, .d0⟩), none⟩,
      ⟨some ⟨.d0, .d5, .d2⟩, .call 13 [(.t ⟨.d0, .d4, .d5⟩), (.t ⟨.d0, .d4, .d7⟩), (.t ⟨.d0, .d5, .d1⟩)], none⟩,
      ⟨some ⟨.d0, .d4, .d3⟩, .move (.t ⟨.d0, .d5, .d2⟩), none⟩,
      ⟨some ⟨.d0, .d5, .d3⟩, .extract 0 (.t ⟨.d0, .d4, .d3⟩), none⟩,
      ⟨some ⟨.d0, .d5, .d4⟩, .extract 1 (.t ⟨.d0, .d4, .d3⟩), none⟩,
      ⟨some ⟨.d0, .d0, .d5⟩, .move (.t ⟨.d0, .d5, .d4⟩), none⟩])
    (.region [⟨some ⟨.d0, .d5, .d6⟩, .fieldAddr 10 (.t ⟨.d0, .d0, .d4⟩), none⟩,
      ⟨some ⟨.d0, .d5, .d7⟩, .load false 1 (.t ⟨.d0, .d5, .d6⟩), none⟩,
      ⟨some ⟨.d0, .d6, .d0⟩, .fieldAddr 7 (.t ⟨.d0, .d0, .d4⟩), none⟩,
      ⟨some ⟨.d0, .d6, .d1⟩, .load false 1 (.t ⟨.d0, .d6, .d0⟩), none⟩,
      ⟨some ⟨.d0, .d6, .d2⟩, .fieldAddr 8 (.t ⟨.d0, .d0, .d4⟩), none⟩,
      ⟨some ⟨.d0, .d6, .d3⟩, .load false 1 (.t ⟨.d0, .d6, .d2⟩), none⟩,
      ⟨some ⟨.d0, .d6, .d4⟩, .call 14 [(.t ⟨.d0, .d5, .d7⟩), (.t ⟨.d0, .d6, .d1⟩), (.t ⟨.d0, .d6, .d3⟩)], none⟩,
      ⟨some ⟨.d0, .d5, .d5⟩, .move (.t ⟨.d0, .d6, .d4⟩), none⟩,
      ⟨some ⟨.d0, .d6, .d5⟩, .extract 0 (.t ⟨.d0, .d5, .d5⟩), none⟩,
      ⟨some ⟨.d0, .d6, .d6⟩, .extract 1 (.t ⟨.d0, .d5, .d5⟩), none⟩,
      ⟨some ⟨.d0, .d0, .d5⟩, .move (.t ⟨.d0, .d6, .d6⟩), none⟩])))
  (.seq (.seq (.region [⟨some ⟨.d0, .d6, .d7⟩, .move (.t ⟨.d0, .d0, .d5⟩), none⟩,
    ⟨some ⟨.d0, .d7, .d0⟩, .bin .neq (.t ⟨.d0, .d6, .d7⟩) (.c (.int .i64 0)), none⟩])
  (.cond (.t ⟨.d0, .d7, .d0⟩)
    (.seq (.region [⟨some ⟨.d0, .d7, .d1⟩, .build [.int .u32 0, .int .u32 0, .int .i64 0, .int .i64 0, .int .i64 0] [], none⟩,
      ⟨some ⟨.d0, .d7, .d2⟩, .move (.t ⟨.d0, .d0, .d5⟩), none⟩,
      ⟨none, .store 5 (.t ⟨.d0, .d0, .d2⟩) (.t ⟨.d0, .d7, .d1⟩), none⟩,
      ⟨some ⟨.d0, .d0, .d3⟩, .move (.t ⟨.d0, .d7, .d2⟩), none⟩])
    (.ret))
    (.skip)))
  (.seq (.regionD [0, 1, 0, 4, 0, 16, 0, 64, 192, 0, 512, 1984, 4095, 8191, 16383] [⟨some ⟨.d0, .d7, .d3⟩, .fieldAddr 7 (.t ⟨.d0, .d0, .d4⟩), none⟩,
    ⟨some ⟨.d0, .d7, .d4⟩, .load false 1 (.t ⟨.d0, .d7, .d3⟩), none⟩,
    ⟨some ⟨.d0, .d7, .d5⟩, .fieldAddr 8 (.t ⟨.d0, .d0, .d4⟩), none⟩,
    ⟨some ⟨.d0, .d7, .d6⟩, .load false 1 (.t ⟨.d0, .d7, .d5⟩), none⟩,
    ⟨some ⟨.d0, .d7, .d7⟩, .fieldAddr 6 (.t ⟨.d0, .d0, .d4⟩), none⟩,
    ⟨some ⟨.d1, .d0, .d0⟩, .load false 1 (.t ⟨.d0, .d7, .d7⟩), none⟩,
    ⟨some ⟨.d1, .d0, .d1⟩, .fieldAddr 10 (.t ⟨.d0, .d0, .d4⟩), none⟩,
    ⟨some ⟨.d1, .d0, .d2⟩, .load false 1 (.t ⟨.d1, .d0, .d1⟩), none⟩,
    ⟨some ⟨.d1, .d0, .d3⟩, .call 15 [(.t ⟨.d1, .d0, .d2⟩), (.c (.int .i64 0))], none⟩,
    ⟨some ⟨.d1, .d0, .d4⟩, .fieldAddr 10 (.t ⟨.d0, .d0, .d4⟩), none⟩,
    ⟨some ⟨.d1, .d0, .d5⟩, .load false 1 (.t ⟨.d1, .d0, .d4⟩), none⟩,
    ⟨some ⟨.d1, .d0, .d6⟩, .call 15 [(.t ⟨.d1, .d0, .d5⟩), (.c (.int .i64 2))], none⟩,
    ⟨some ⟨.d1, .d0, .d7⟩, .build [.int .u32 0, .int .u32 0, .int .i64 0, .int .i64 0, .int .i64 0] [(0, 1, (.t ⟨.d0, .d7, .d4⟩)), (1, 1, (.t ⟨.d0, .d7, .d6⟩)), (2, 1, (.t ⟨.d1, .d0, .d0⟩)), (3, 1, (.t ⟨.d1, .d0, .d3⟩)), (4, 1, (.t ⟨.d1, .d0, .d6⟩))], none⟩,
    ⟨none, .store 5 (.t ⟨.d0, .d0, .d2⟩) (.t ⟨.d1, .d0, .d7⟩), none⟩,
    ⟨some ⟨.d0, .d0, .d3⟩, .move (.c (.int .i64 0)), none⟩])
  (.ret))))))))
def r_custref_EndsOf : List XR := [.cell ⟨.d0, .d0, .d2⟩ true 5, .tmp ⟨.d0, .d0, .d3⟩]
theorem ok_custref_EndsOf : okC Try.prog Try.f5.ntmps (bodyOf Try.f5) x_custref_EndsOf = true := by kernel_rfl
theorem okr_custref_EndsOf : okRs Try.prog Try.f5.results.toList r_custref_EndsOf = true := by kernel_rfl

/-- swap.From -/
def x_swap_From : XC :=
  .seq (.region [⟨some ⟨.d0, .d0, .d6⟩, .move (.c (.string { data := #[] })), none⟩,
    ⟨some ⟨.d0, .d0, .d7⟩, .move (.c (.int .i64 0)), none⟩])
  (.seq (.region [⟨some ⟨.d0, .d1, .d0⟩, .move (.t ⟨.d0, .d0, .d0⟩), none⟩,
    ⟨some ⟨.d0, .d1, .d1⟩, .move (.t ⟨.d0, .d0, .d1⟩), none⟩,
    ⟨some ⟨.d0, .d1, .d2⟩, .move (.t ⟨.d0, .d0, .d2⟩), none⟩,
    ⟨some ⟨.d0, .d1, .d3⟩, .call 16 [(.t ⟨.d0, .d1, .d0⟩), (.t ⟨.d0, .d1, .d1⟩), (.t ⟨.d0, .d1, .d2⟩), (.c (.int .i64 12)), (.c (.int .i64 0))], none⟩,
    ⟨some ⟨.d0, .d1, .d4⟩, .extract 0 (.t ⟨.d0, .d1, .d3⟩), none⟩,
    ⟨some ⟨.d0, .d1, .d5⟩, .extract 1 (.t ⟨.d0, .d1, .d3⟩), none⟩,
    ⟨some ⟨.d0, .d0, .d6⟩, .move (.t ⟨.d0, .d1, .d4⟩), none⟩,
    ⟨some ⟨.d0, .d0, .d7⟩, .move (.t ⟨.d0, .d1, .d5⟩), none⟩])
  (.ret))
def r_swap_From : List XR := [.tmp ⟨.d0, .d0, .d6⟩, .tmp ⟨.d0, .d0, .d7⟩]
theorem ok_swap_From : okC Try.prog Try.f6.ntmps (bodyOf Try.f6) x_swap_From = true := by kernel_rfl
theorem okr_swap_From : okRs Try.prog Try.f6.results.toList r_swap_From = true := by kernel_rfl

/-- custref.Renamed -/
def x_custref_Renamed : XC :=
  .seq (.region [⟨some ⟨.d0, .d1, .d0⟩, .move (.c (.string { data := #[] })), none⟩,
    ⟨some ⟨.d0, .d1, .d1⟩, .move (.c (.int .i64 0)), none⟩])
  (.seq (.region [⟨some ⟨.d0, .d2, .d6⟩, .move (.t ⟨.d0, .d0, .d0⟩), none⟩,
    ⟨some ⟨.d0, .d2, .d7⟩, .call 5 [(.t ⟨.d0, .d2, .d6⟩)], none⟩,
    ⟨some ⟨.d0, .d2, .d5⟩, .move (.t ⟨.d0, .d2, .d7⟩), none⟩,
    ⟨some ⟨.d0, .d3, .d0⟩, .extract 0 (.t ⟨.d0, .d2, .d5⟩), none⟩,
    ⟨some ⟨.d0, .d3, .d1⟩, .extract 1 (.t ⟨.d0, .d2, .d5⟩), none⟩,
    ⟨some ⟨.d0, .d1, .d2⟩, .alloc 0 [.int .u32 0, .int .u32 0, .int .i64 0, .int .i64 0, .int .i64 0], none⟩,
    ⟨none, .store 5 (.t ⟨.d0, .d1, .d2⟩) (.t ⟨.d0, .d3, .d0⟩), none⟩,
    ⟨some ⟨.d0, .d1, .d3⟩, .move (.t ⟨.d0, .d3, .d1⟩), none⟩])
  (.seq (.seq (.region [⟨some ⟨.d0, .d3, .d2⟩, .move (.t ⟨.d0, .d1, .d3⟩), none⟩,
    ⟨some ⟨.d0, .d3, .d3⟩, .bin .neq (.t ⟨.d0, .d3, .d2⟩) (.c (.int .i64 0)), none⟩])
  (.cond (.t ⟨.d0, .d3, .d3⟩)
    (.seq (.region [⟨some ⟨.d0, .d3, .d4⟩, .move (.t ⟨.d0, .d1, .d3⟩), none⟩,
      ⟨some ⟨.d0, .d1, .d0⟩, .move (.c (.string { data := #[] })), none⟩,
      ⟨some ⟨.d0, .d1, .d1⟩, .move (.t ⟨.d0, .d3, .d4⟩), none⟩])
    (.ret))
    (.skip)))
  (.seq (.seq (.region [⟨some ⟨.d0, .d3, .d5⟩, .move (.t ⟨.d0, .d0, .d2⟩), none⟩,
    ⟨some ⟨.d0, .d3, .d6⟩, .call 17 [(.t ⟨.d0, .d3, .d5⟩), (.c (.int .i64 0)), (.c (.int .i64 65535))], none⟩,
    ⟨some ⟨.d0, .d3, .d7⟩, .un .not (.t ⟨.d0, .d3, .d6⟩), none⟩])
  (.cond (.t ⟨.d0, .d3, .d7⟩)
    (.seq (.region [⟨some ⟨.d0, .d1, .d0⟩, .move (.c (.string { data := #[] })), none⟩,
      ⟨some ⟨.d0, .d1, .d1⟩, .move (.c (.int .i64 1)), none⟩])
    (.ret))
    (.skip)))
  (.seq (.region [⟨some ⟨.d0, .d4, .d0⟩, .move (.t ⟨.d0, .d0, .d0⟩), none⟩,
    ⟨some ⟨.d0, .d4, .d1⟩, .strAt (.t ⟨.d0, .d4, .d0⟩) (.c (.int .i64 0)), none⟩,
    ⟨some ⟨.d0, .d4, .d2⟩, .convInt .i64 (.t ⟨.d0, .d4, .d1⟩), none⟩,
    ⟨some ⟨.d0, .d4, .d3⟩, .bin .rem (.t ⟨.d0, .d4, .d2⟩) (.c (.int .i64 16)), none⟩,
    ⟨some ⟨.d0, .d4, .d4⟩, .bin .mul (.c (.int .i64 4)) (.t ⟨.d0, .d4, .d3⟩), none⟩,
    ⟨some ⟨.d0, .d1, .d4⟩, .move (.t ⟨.d0, .d4, .d4⟩), none⟩])
  (.seq (.regionD [0, 0, 3, 0, 0, 0, 32, 120, 103, 511] [⟨some ⟨.d0, .d4, .d5⟩, .move (.t ⟨.d0, .d0, .d0⟩), none⟩,
    ⟨some ⟨.d0, .d4, .d6⟩, .move (.t ⟨.d0, .d1, .d4⟩), none⟩,
    ⟨some ⟨.d0, .d4, .d7⟩, .substr (.t ⟨.d0, .d4, .d5⟩) none (some (.t ⟨.d0, .d4, .d6⟩)), none⟩,
    ⟨some ⟨.d0, .d5, .d0⟩, .move (.t ⟨.d0, .d0, .d0⟩), none⟩,
    ⟨some ⟨.d0, .d5, .d1⟩, .move (.t ⟨.d0, .d1, .d4⟩), none⟩,
    ⟨some ⟨.d0, .d5, .d2⟩, .move (.t ⟨.d0, .d0, .d0⟩), none⟩,
    ⟨some ⟨.d0, .d5, .d3⟩, .call 15 [(.t ⟨.d0, .d5, .d2⟩), (.c (.int .i64 2))], none⟩,
    ⟨some ⟨.d0, .d5, .d4⟩, .substr (.t ⟨.d0, .d5, .d0⟩) (some (.t ⟨.d0, .d5, .d1⟩)) (some (.t ⟨.d0, .d5, .d3⟩)), none⟩,
    ⟨some ⟨.d0, .d1, .d5⟩, .move (.t ⟨.d0, .d4, .d7⟩), none⟩,
    ⟨some ⟨.d0, .d1, .d6⟩, .move (.t ⟨.d0, .d5, .d4⟩), none⟩])
  (.seq (.regionD [0, 1, 0, 4, 3, 31] [⟨some ⟨.d0, .d5, .d5⟩, .fieldAddr 1 (.t ⟨.d0, .d1, .d2⟩), none⟩,
    ⟨some ⟨.d0, .d5, .d6⟩, .load false 1 (.t ⟨.d0, .d5, .d5⟩), none⟩,
    ⟨some ⟨.d0, .d5, .d7⟩, .fieldAddr 4 (.t ⟨.d0, .d1, .d2⟩), none⟩,
    ⟨some ⟨.d0, .d6, .d0⟩, .load false 1 (.t ⟨.d0, .d5, .d7⟩), none⟩,
    ⟨some ⟨.d0, .d1, .d7⟩, .move (.t ⟨.d0, .d5, .d6⟩), none⟩,
    ⟨some ⟨.d0, .d2, .d0⟩, .move (.t ⟨.d0, .d6, .d0⟩), none⟩])
  (.seq (.seq (.region [⟨some ⟨.d0, .d6, .d1⟩, .move (.t ⟨.d0, .d0, .d3⟩), none⟩])
  (.cond (.t ⟨.d0, .d6, .d1⟩)
    (.regionD [0, 1, 0, 4, 3, 31] [⟨some ⟨.d0, .d6, .d2⟩, .fieldAddr 0 (.t ⟨.d0, .d1, .d2⟩), none⟩,
      ⟨some ⟨.d0, .d6, .d3⟩, .load false 1 (.t ⟨.d0, .d6, .d2⟩), none⟩,
      ⟨some ⟨.d0, .d6, .d4⟩, .fieldAddr 3 (.t ⟨.d0, .d1, .d2⟩), none⟩,
      ⟨some ⟨.d0, .d6, .d5⟩, .load false 1 (.t ⟨.d0, .d6, .d4⟩), none⟩,
      ⟨some ⟨.d0, .d1, .d7⟩, .move (.t ⟨.d0, .d6, .d3⟩), none⟩,
      ⟨some ⟨.d0, .d2, .d0⟩, .move (.t ⟨.d0, .d6, .d5⟩), none⟩])
    (.skip)))
  (.seq (.region [⟨some ⟨.d0, .d6, .d6⟩, .move (.t ⟨.d0, .d1, .d7⟩), none⟩,
    ⟨some ⟨.d0, .d6, .d7⟩, .convInt .i64 (.t ⟨.d0, .d6, .d6⟩), none⟩,
    ⟨some ⟨.d0, .d7, .d0⟩, .bin .quo (.t ⟨.d0, .d6, .d7⟩) (.c (.int .i64 65536)), none⟩,
    ⟨some ⟨.d0, .d7, .d1⟩, .move (.t ⟨.d0, .d0, .d1⟩), none⟩,
    ⟨some ⟨.d0, .d7, .d2⟩, .convInt .i64 (.t ⟨.d0, .d7, .d1⟩), none⟩,
    ⟨some ⟨.d0, .d7, .d3⟩, .bin .quo (.t ⟨.d0, .d7, .d2⟩) (.c (.int .i64 65536)), none⟩,
    ⟨some ⟨.d0, .d7, .d4⟩, .move (.t ⟨.d0, .d1, .d7⟩), none⟩,
    ⟨some ⟨.d0, .d7, .d5⟩, .convInt .i64 (.t ⟨.d0, .d7, .d4⟩), none⟩,
    ⟨some ⟨.d0, .d7, .d6⟩, .bin .rem (.t ⟨.d0, .d7, .d5⟩) (.c (.int .i64 65536)), none⟩,
    ⟨some ⟨.d0, .d7, .d7⟩, .move (.t ⟨.d0, .d0, .d1⟩), none⟩,
    ⟨some ⟨.d1, .d0, .d0⟩, .convInt .i64 (.t ⟨.d0, .d7, .d7⟩), none⟩,
    ⟨some ⟨.d1, .d0, .d1⟩, .bin .rem (.t ⟨.d1, .d0, .d0⟩) (.c (.int .i64 65536)), none⟩,
    ⟨some ⟨.d1, .d0, .d2⟩, .buildSlice 1 4 [.int .i64 0] [(0, (.t ⟨.d0, .d7, .d0⟩)), (1, (.t ⟨.d0, .d7, .d3⟩)), (2, (.t ⟨.d0, .d7, .d6⟩)), (3, (.t ⟨.d1, .d0, .d1⟩))], none⟩,
    ⟨some ⟨.d0, .d2, .d1⟩, .move (.t ⟨.d1, .d0, .d2⟩), none⟩])
  (.seq (.region [⟨some ⟨.d1, .d0, .d3⟩, .move (.t ⟨.d0, .d1, .d5⟩), none⟩,
    ⟨some ⟨.d1, .d0, .d4⟩, .call 15 [(.t ⟨.d1, .d0, .d3⟩), (.c (.int .i64 10))], none⟩,
    ⟨some ⟨.d1, .d0, .d5⟩, .move (.t ⟨.d0, .d2, .d1⟩), none⟩,
    ⟨some ⟨.d1, .d0, .d6⟩, .call 18 [(.t ⟨.d1, .d0, .d4⟩), (.t ⟨.d1, .d0, .d5⟩)], none⟩,
    ⟨some ⟨.d0, .d2, .d2⟩, .move (.t ⟨.d1, .d0, .d6⟩), none⟩])
  (.seq (.seq (.region [⟨some ⟨.d1, .d0, .d7⟩, .move (.t ⟨.d0, .d0, .d3⟩), none⟩])
  (.cond (.t ⟨.d1, .d0, .d7⟩)
    (.seq (.regionD [0, 1, 0, 4, 15, 0, 44, 127, 0, 256, 1023, 2047] [⟨some ⟨.d1, .d1, .d0⟩, .move (.t ⟨.d0, .d1, .d5⟩), none⟩,
      ⟨some ⟨.d1, .d1, .d1⟩, .substr (.t ⟨.d1, .d1, .d0⟩) none (some (.c (.int .i64 10))), none⟩,
      ⟨some ⟨.d1, .d1, .d2⟩, .move (.t ⟨.d0, .d2, .d2⟩), none⟩,
      ⟨some ⟨.d1, .d1, .d3⟩, .call 19 [(.t ⟨.d1, .d1, .d2⟩)], none⟩,
      ⟨some ⟨.d1, .d1, .d4⟩, .sbin .add (.t ⟨.d1, .d1, .d1⟩) (.t ⟨.d1, .d1, .d3⟩), none⟩,
      ⟨some ⟨.d1, .d1, .d5⟩, .move (.t ⟨.d0, .d0, .d1⟩), none⟩,
      ⟨some ⟨.d1, .d1, .d6⟩, .call 20 [(.t ⟨.d1, .d1, .d5⟩)], none⟩,
      ⟨some ⟨.d1, .d1, .d7⟩, .sbin .add (.t ⟨.d1, .d1, .d4⟩) (.t ⟨.d1, .d1, .d6⟩), none⟩,
      ⟨some ⟨.d1, .d2, .d0⟩, .move (.t ⟨.d0, .d1, .d5⟩), none⟩,
      ⟨some ⟨.d1, .d2, .d1⟩, .substr (.t ⟨.d1, .d2, .d0⟩) (some (.c (.int .i64 16))) none, none⟩,
      ⟨some ⟨.d1, .d2, .d2⟩, .sbin .add (.t ⟨.d1, .d1, .d7⟩) (.t ⟨.d1, .d2, .d1⟩), none⟩,
      ⟨some ⟨.d0, .d1, .d5⟩, .move (.t ⟨.d1, .d2, .d2⟩), none⟩])
    (.regionD [0, 1, 0, 4, 15, 31] [⟨some ⟨.d1, .d2, .d3⟩, .move (.t ⟨.d0, .d0, .d2⟩), none⟩,
      ⟨some ⟨.d1, .d2, .d4⟩, .call 19 [(.t ⟨.d1, .d2, .d3⟩)], none⟩,
      ⟨some ⟨.d1, .d2, .d5⟩, .move (.t ⟨.d0, .d1, .d6⟩), none⟩,
      ⟨some ⟨.d1, .d2, .d6⟩, .substr (.t ⟨.d1, .d2, .d5⟩) (some (.c (.int .i64 2))) none, none⟩,
      ⟨some ⟨.d1, .d2, .d7⟩, .sbin .add (.t ⟨.d1, .d2, .d4⟩) (.t ⟨.d1, .d2, .d6⟩), none⟩,
      ⟨some ⟨.d0, .d1, .d6⟩, .move (.t ⟨.d1, .d2, .d7⟩), none⟩]))
    (.seq (.regionD [0, 1, 0, 4, 15, 0, 32, 127, 0, 268, 1023, 0, 2048, 8191, 16383] [⟨some ⟨.d1, .d3, .d0⟩, .move (.t ⟨.d0, .d1, .d5⟩), none⟩,
      ⟨some ⟨.d1, .d3, .d1⟩, .substr (.t ⟨.d1, .d3, .d0⟩) none (some (.c (.int .i64 10))), none⟩,
      ⟨some ⟨.d1, .d3, .d2⟩, .move (.t ⟨.d0, .d2, .d2⟩), none⟩,
      ⟨some ⟨.d1, .d3, .d3⟩, .call 19 [(.t ⟨.d1, .d3, .d2⟩)], none⟩,
      ⟨some ⟨.d1, .d3, .d4⟩, .sbin .add (.t ⟨.d1, .d3, .d1⟩) (.t ⟨.d1, .d3, .d3⟩), none⟩,
      ⟨some ⟨.d1, .d3, .d5⟩, .move (.t ⟨.d0, .d1, .d5⟩), none⟩,
      ⟨some ⟨.d1, .d3, .d6⟩, .substr (.t ⟨.d1, .d3, .d5⟩) (some (.c (.int .i64 12))) (some (.c (.int .i64 16))), none⟩,
      ⟨some ⟨.d1, .d3, .d7⟩, .sbin .add (.t ⟨.d1, .d3, .d4⟩) (.t ⟨.d1, .d3, .d6⟩), none⟩,
      ⟨some ⟨.d1, .d4, .d0⟩, .move (.t ⟨.d0, .d0, .d1⟩), none⟩,
      ⟨some ⟨.d1, .d4, .d1⟩, .call 20 [(.t ⟨.d1, .d4, .d0⟩)], none⟩,
      ⟨some ⟨.d1, .d4, .d2⟩, .sbin .add (.t ⟨.d1, .d3, .d7⟩) (.t ⟨.d1, .d4, .d1⟩), none⟩,
      ⟨some ⟨.d1, .d4, .d3⟩, .move (.t ⟨.d0, .d1, .d5⟩), none⟩,
      ⟨some ⟨.d1, .d4, .d4⟩, .substr (.t ⟨.d1, .d4, .d3⟩) (some (.c (.int .i64 20))) none, none⟩,
      ⟨some ⟨.d1, .d4, .d5⟩, .sbin .add (.t ⟨.d1, .d4, .d2⟩) (.t ⟨.d1, .d4, .d4⟩), none⟩,
      ⟨some ⟨.d0, .d1, .d5⟩, .move (.t ⟨.d1, .d4, .d5⟩), none⟩])
    (.regionD [0, 1, 0, 4, 15, 0, 32, 127, 255] [⟨some ⟨.d1, .d4, .d6⟩, .move (.t ⟨.d0, .d1, .d6⟩), none⟩,
      ⟨some ⟨.d1, .d4, .d7⟩, .substr (.t ⟨.d1, .d4, .d6⟩) none (some (.c (.int .i64 2))), none⟩,
      ⟨some ⟨.d1, .d5, .d0⟩, .move (.t ⟨.d0, .d0, .d2⟩), none⟩,
      ⟨some ⟨.d1, .d5, .d1⟩, .call 19 [(.t ⟨.d1, .d5, .d0⟩)], none⟩,
      ⟨some ⟨.d1, .d5, .d2⟩, .sbin .add (.t ⟨.d1, .d4, .d7⟩) (.t ⟨.d1, .d5, .d1⟩), none⟩,
      ⟨some ⟨.d1, .d5, .d3⟩, .move (.t ⟨.d0, .d1, .d6⟩), none⟩,
      ⟨some ⟨.d1, .d5, .d4⟩, .substr (.t ⟨.d1, .d5, .d3⟩) (some (.c (.int .i64 4))) none, none⟩,
      ⟨some ⟨.d1, .d5, .d5⟩, .sbin .add (.t ⟨.d1, .d5, .d2⟩) (.t ⟨.d1, .d5, .d4⟩), none⟩,
      ⟨some ⟨.d0, .d1, .d6⟩, .move (.t ⟨.d1, .d5, .d5⟩), none⟩]))))
  (.seq (.region [⟨some ⟨.d0, .d2, .d3⟩, .move (.c (.int .i64 16)), none⟩])
  (.seq (.seq (.region [⟨some ⟨.d1, .d5, .d6⟩, .fieldAddr 2 (.t ⟨.d0, .d1, .d2⟩), none⟩,
    ⟨some ⟨.d1, .d5, .d7⟩, .load false 1 (.t ⟨.d1, .d5, .d6⟩), none⟩,
    ⟨some ⟨.d1, .d6, .d0⟩, .bin .eql (.t ⟨.d1, .d5, .d7⟩) (.c (.int .i64 17)), none⟩])
  (.cond (.t ⟨.d1, .d6, .d0⟩)
    (.region [⟨some ⟨.d0, .d2, .d3⟩, .move (.c (.int .i64 6)), none⟩])
    (.skip)))
  (.seq (.region [⟨some ⟨.d1, .d6, .d1⟩, .move (.t ⟨.d0, .d1, .d6⟩), none⟩,
    ⟨some ⟨.d1, .d6, .d2⟩, .move (.t ⟨.d0, .d2, .d3⟩), none⟩,
    ⟨some ⟨.d1, .d6, .d3⟩, .call 15 [(.t ⟨.d1, .d6, .d1⟩), (.t ⟨.d1, .d6, .d2⟩)], none⟩,
    ⟨some ⟨.d0, .d2, .d4⟩, .move (.t ⟨.d1, .d6, .d3⟩), none⟩])
  (.seq (.seq (.region [⟨some ⟨.d1, .d6, .d4⟩, .fieldAddr 2 (.t ⟨.d0, .d1, .d2⟩), none⟩,
    ⟨some ⟨.d1, .d6, .d5⟩, .load false 1 (.t ⟨.d1, .d6, .d4⟩), none⟩,
    ⟨some ⟨.d1, .d6, .d6⟩, .bin .eql (.t ⟨.d1, .d6, .d5⟩) (.c (.int .i64 6)), none⟩,
    ⟨some ⟨.d1, .d6, .d7⟩, .move (.t ⟨.d1, .d6, .d6⟩), none⟩,
    ⟨some ⟨.d1, .d7, .d0⟩, .move (.t ⟨.d0, .d2, .d4⟩), some (⟨.d1, .d6, .d7⟩, false)⟩,
    ⟨some ⟨.d1, .d7, .d1⟩, .bin .gtr (.t ⟨.d1, .d7, .d0⟩) (.c (.int .i64 0)), some (⟨.d1, .d6, .d7⟩, false)⟩,
    ⟨some ⟨.d1, .d7, .d2⟩, .pick (.t ⟨.d1, .d6, .d7⟩) (.c (.bool true)) (.t ⟨.d1, .d7, .d1⟩), none⟩])
  (.cond (.t ⟨.d1, .d7, .d2⟩)
    (.seq (.region [⟨some ⟨.d1, .d7, .d3⟩, .move (.t ⟨.d0, .d2, .d4⟩), none⟩,
      ⟨some ⟨.d1, .d7, .d4⟩, .move (.t ⟨.d0, .d2, .d1⟩), none⟩,
      ⟨some ⟨.d1, .d7, .d5⟩, .move (.t ⟨.d0, .d2, .d0⟩), none⟩,
      ⟨some ⟨.d1, .d7, .d6⟩, .move (.t ⟨.d0, .d0, .d2⟩), none⟩,
      ⟨some ⟨.d1, .d7, .d7⟩, .buildSlice 2 2 [.int .i64 0] [(0, (.t ⟨.d1, .d7, .d5⟩)), (1, (.t ⟨.d1, .d7, .d6⟩))], none⟩,
      ⟨some ⟨.d2, .d0, .d0⟩, .append 3 1 8 (.t ⟨.d1, .d7, .d4⟩) (.t ⟨.d1, .d7, .d7⟩), none⟩,
      ⟨some ⟨.d2, .d0, .d1⟩, .call 18 [(.t ⟨.d1, .d7, .d3⟩), (.t ⟨.d2, .d0, .d0⟩)], none⟩,
      ⟨some ⟨.d0, .d2, .d4⟩, .move (.t ⟨.d2, .d0, .d1⟩), none⟩])
    (.seq (.region [⟨some ⟨.d2, .d0, .d2⟩, .fieldAddr 2 (.t ⟨.d0, .d1, .d2⟩), none⟩,
      ⟨some ⟨.d2, .d0, .d3⟩, .load false 1 (.t ⟨.d2, .d0, .d2⟩), none⟩,
      ⟨some ⟨.d2, .d0, .d4⟩, .bin .eql (.t ⟨.d2, .d0, .d3⟩) (.c (.int .i64 17)), none⟩,
      ⟨some ⟨.d2, .d0, .d5⟩, .move (.t ⟨.d2, .d0, .d4⟩), none⟩,
      ⟨some ⟨.d2, .d0, .d6⟩, .move (.t ⟨.d0, .d2, .d4⟩), some (⟨.d2, .d0, .d5⟩, true)⟩,
      ⟨some ⟨.d2, .d0, .d7⟩, .bin .eql (.t ⟨.d2, .d0, .d6⟩) (.c (.int .i64 0)), some (⟨.d2, .d0, .d5⟩, true)⟩,
      ⟨some ⟨.d2, .d1, .d0⟩, .pick (.t ⟨.d2, .d0, .d5⟩) (.t ⟨.d2, .d0, .d7⟩) (.c (.bool false)), none⟩])
    (.cond (.t ⟨.d2, .d1, .d0⟩)
      (.region [⟨some ⟨.d0, .d2, .d4⟩, .move (.c (.int .i64 65535)), none⟩])
      (.skip))))
    (.skip)))
  (.seq (.regionD [0, 0, 0, 6, 15, 0, 32, 127, 0, 0, 512, 1792, 4095, 8191, 16383] [⟨some ⟨.d2, .d1, .d1⟩, .move (.t ⟨.d0, .d1, .d5⟩), none⟩,
    ⟨some ⟨.d2, .d1, .d2⟩, .move (.t ⟨.d0, .d1, .d6⟩), none⟩,
    ⟨some ⟨.d2, .d1, .d3⟩, .move (.t ⟨.d0, .d2, .d3⟩), none⟩,
    ⟨some ⟨.d2, .d1, .d4⟩, .substr (.t ⟨.d2, .d1, .d2⟩) none (some (.t ⟨.d2, .d1, .d3⟩)), none⟩,
    ⟨some ⟨.d2, .d1, .d5⟩, .sbin .add (.t ⟨.d2, .d1, .d1⟩) (.t ⟨.d2, .d1, .d4⟩), none⟩,
    ⟨some ⟨.d2, .d1, .d6⟩, .move (.t ⟨.d0, .d2, .d4⟩), none⟩,
    ⟨some ⟨.d2, .d1, .d7⟩, .call 19 [(.t ⟨.d2, .d1, .d6⟩)], none⟩,
    ⟨some ⟨.d2, .d2, .d0⟩, .sbin .add (.t ⟨.d2, .d1, .d5⟩) (.t ⟨.d2, .d1, .d7⟩), none⟩,
    ⟨some ⟨.d2, .d2, .d1⟩, .move (.t ⟨.d0, .d1, .d6⟩), none⟩,
    ⟨some ⟨.d2, .d2, .d2⟩, .move (.t ⟨.d0, .d2, .d3⟩), none⟩,
    ⟨some ⟨.d2, .d2, .d3⟩, .bin .add (.t ⟨.d2, .d2, .d2⟩) (.c (.int .i64 2)), none⟩,
    ⟨some ⟨.d2, .d2, .d4⟩, .substr (.t ⟨.d2, .d2, .d1⟩) (some (.t ⟨.d2, .d2, .d3⟩)) none, none⟩,
    ⟨some ⟨.d2, .d2, .d5⟩, .sbin .add (.t ⟨.d2, .d2, .d0⟩) (.t ⟨.d2, .d2, .d4⟩), none⟩,
    ⟨some ⟨.d0, .d1, .d0⟩, .move (.t ⟨.d2, .d2, .d5⟩), none⟩,
    ⟨some ⟨.d0, .d1, .d1⟩, .move (.c (.int .i64 0)), none⟩])
  (.ret))))))))))))))))
def r_custref_Renamed : List XR := [.tmp ⟨.d0, .d1, .d0⟩, .tmp ⟨.d0, .d1, .d1⟩]
theorem ok_custref_Renamed : okC Try.prog Try.f7.ntmps (bodyOf Try.f7) x_custref_Renamed = true := by kernel_rfl
theorem okr_custref_Renamed : okRs Try.prog Try.f7.results.toList r_custref_Renamed = true := by kernel_rfl

/-- swap.To -/
def x_swap_To : XC :=
  .seq (.region [⟨some ⟨.d0, .d0, .d6⟩, .move (.c (.string { data := #[] })), none⟩,
    ⟨some ⟨.d0, .d0, .d7⟩, .move (.c (.int .i64 0)), none⟩])
  (.seq (.region [⟨some ⟨.d0, .d1, .d0⟩, .move (.t ⟨.d0, .d0, .d0⟩), none⟩,
    ⟨some ⟨.d0, .d1, .d1⟩, .move (.t ⟨.d0, .d0, .d1⟩), none⟩,
    ⟨some ⟨.d0, .d1, .d2⟩, .move (.t ⟨.d0, .d0, .d2⟩), none⟩,
    ⟨some ⟨.d0, .d1, .d3⟩, .call 16 [(.t ⟨.d0, .d1, .d0⟩), (.t ⟨.d0, .d1, .d1⟩), (.t ⟨.d0, .d1, .d2⟩), (.c (.int .i64 16)), (.c (.int .i64 2))], none⟩,
    ⟨some ⟨.d0, .d1, .d4⟩, .extract 0 (.t ⟨.d0, .d1, .d3⟩), none⟩,
    ⟨some ⟨.d0, .d1, .d5⟩, .extract 1 (.t ⟨.d0, .d1, .d3⟩), none⟩,
    ⟨some ⟨.d0, .d0, .d6⟩, .move (.t ⟨.d0, .d1, .d4⟩), none⟩,
    ⟨some ⟨.d0, .d0, .d7⟩, .move (.t ⟨.d0, .d1, .d5⟩), none⟩])
  (.ret))
def r_swap_To : List XR := [.tmp ⟨.d0, .d0, .d6⟩, .tmp ⟨.d0, .d0, .d7⟩]
theorem ok_swap_To : okC Try.prog Try.f8.ntmps (bodyOf Try.f8) x_swap_To = true := by kernel_rfl
theorem okr_swap_To : okRs Try.prog Try.f8.results.toList r_swap_To = true := by kernel_rfl

/-- ip.Read -/
def x_ip_Read : XC :=
  .seq (.region [⟨some ⟨.d0, .d0, .d2⟩, .alloc 0 [.int .i64 0, .int .i64 0, .bool false, .bool false, .int .i64 0, .int .i64 0, .int .i64 0, .int .u32 0, .int .u32 0, .string { data := #[] }, .string { data := #[] }], none⟩,
    ⟨some ⟨.d0, .d0, .d3⟩, .move (.c (.int .i64 0)), none⟩])
  (.seq (.seq (.region [⟨some ⟨.d0, .d1, .d0⟩, .move (.t ⟨.d0, .d0, .d0⟩), none⟩,
    ⟨some ⟨.d0, .d1, .d1⟩, .slen (.t ⟨.d0, .d1, .d0⟩), none⟩,
    ⟨some ⟨.d0, .d1, .d2⟩, .bin .lss (.t ⟨.d0, .d1, .d1⟩) (.c (.int .i64 20)), none⟩])
  (.cond (.t ⟨.d0, .d1, .d2⟩)
    (.seq (.region [⟨some ⟨.d0, .d1, .d3⟩, .build [.int .i64 0, .int .i64 0, .bool false, .bool false, .int .i64 0, .int .i64 0, .int .i64 0, .int .u32 0, .int .u32 0, .string { data := #[] }, .string { data := #[] }] [], none⟩,
      ⟨none, .store 11 (.t ⟨.d0, .d0, .d2⟩) (.t ⟨.d0, .d1, .d3⟩), none⟩,
      ⟨some ⟨.d0, .d0, .d3⟩, .move (.c (.int .i64 3)), none⟩])
    (.ret))
    (.skip)))
  (.seq (.regionD [0, 1, 3, 7, 15, 0, 32, 127, 255] [⟨some ⟨.d0, .d1, .d4⟩, .move (.t ⟨.d0, .d0, .d0⟩), none⟩,
    ⟨some ⟨.d0, .d1, .d5⟩, .strAt (.t ⟨.d0, .d1, .d4⟩) (.c (.int .i64 0)), none⟩,
    ⟨some ⟨.d0, .d1, .d6⟩, .bin .and (.t ⟨.d0, .d1, .d5⟩) (.c (.int .u8 15)), none⟩,
    ⟨some ⟨.d0, .d1, .d7⟩, .convInt .i64 (.t ⟨.d0, .d1, .d6⟩), none⟩,
    ⟨some ⟨.d0, .d2, .d0⟩, .bin .mul (.t ⟨.d0, .d1, .d7⟩) (.c (.int .i64 4)), none⟩,
    ⟨some ⟨.d0, .d2, .d1⟩, .move (.t ⟨.d0, .d0, .d0⟩), none⟩,
    ⟨some ⟨.d0, .d2, .d2⟩, .call 21 [(.t ⟨.d0, .d2, .d1⟩), (.c (.int .i64 2))], none⟩,
    ⟨some ⟨.d0, .d0, .d4⟩, .move (.t ⟨.d0, .d2, .d0⟩), none⟩,
    ⟨some ⟨.d0, .d0, .d5⟩, .move (.t ⟨.d0, .d2, .d2⟩), none⟩])
  (.seq (.seq (.region [⟨some ⟨.d0, .d2, .d3⟩, .move (.t ⟨.d0, .d0, .d0⟩), none⟩,
    ⟨some ⟨.d0, .d2, .d4⟩, .slen (.t ⟨.d0, .d2, .d3⟩), none⟩,
    ⟨some ⟨.d0, .d2, .d5⟩, .move (.t ⟨.d0, .d0, .d4⟩), none⟩,
    ⟨some ⟨.d0, .d2, .d6⟩, .bin .lss (.t ⟨.d0, .d2, .d4⟩) (.t ⟨.d0, .d2, .d5⟩), none⟩,
    ⟨some ⟨.d0, .d2, .d7⟩, .move (.t ⟨.d0, .d2, .d6⟩), none⟩,
    ⟨some ⟨.d0, .d3, .d0⟩, .move (.t ⟨.d0, .d0, .d0⟩), some (⟨.d0, .d2, .d7⟩, false)⟩,
    ⟨some ⟨.d0, .d3, .d1⟩, .slen (.t ⟨.d0, .d3, .d0⟩), some (⟨.d0, .d2, .d7⟩, false)⟩,
    ⟨some ⟨.d0, .d3, .d2⟩, .move (.t ⟨.d0, .d0, .d5⟩), some (⟨.d0, .d2, .d7⟩, false)⟩,
    ⟨some ⟨.d0, .d3, .d3⟩, .bin .lss (.t ⟨.d0, .d3, .d1⟩) (.t ⟨.d0, .d3, .d2⟩), some (⟨.d0, .d2, .d7⟩, false)⟩,
    ⟨some ⟨.d0, .d3, .d4⟩, .pick (.t ⟨.d0, .d2, .d7⟩) (.c (.bool true)) (.t ⟨.d0, .d3, .d3⟩), none⟩])
  (.cond (.t ⟨.d0, .d3, .d4⟩)
    (.seq (.region [⟨some ⟨.d0, .d3, .d5⟩, .build [.int .i64 0, .int .i64 0, .bool false, .bool false, .int .i64 0, .int .i64 0, .int .i64 0, .int .u32 0, .int .u32 0, .string { data := #[] }, .string { data := #[] }] [], none⟩,
      ⟨none, .store 11 (.t ⟨.d0, .d0, .d2⟩) (.t ⟨.d0, .d3, .d5⟩), none⟩,
      ⟨some ⟨.d0, .d0, .d3⟩, .move (.c (.int .i64 3)), none⟩])
    (.ret))
    (.skip)))
  (.seq (.region [⟨some ⟨.d0, .d3, .d6⟩, .move (.t ⟨.d0, .d0, .d0⟩), none⟩,
    ⟨some ⟨.d0, .d3, .d7⟩, .call 21 [(.t ⟨.d0, .d3, .d6⟩), (.c (.int .i64 6))], none⟩,
    ⟨some ⟨.d0, .d0, .d6⟩, .move (.t ⟨.d0, .d3, .d7⟩), none⟩])
  (.seq (.seq (.region [⟨some ⟨.d0, .d4, .d0⟩, .move (.t ⟨.d0, .d0, .d0⟩), none⟩,
    ⟨some ⟨.d0, .d4, .d1⟩, .strAt (.t ⟨.d0, .d4, .d0⟩) (.c (.int .i64 0)), none⟩,
    ⟨some ⟨.d0, .d4, .d2⟩, .bin .shr (.t ⟨.d0, .d4, .d1⟩) (.c (.int .u64 4)), none⟩,
    ⟨some ⟨.d0, .d4, .d3⟩, .bin .neq (.t ⟨.d0, .d4, .d2⟩) (.c (.int .u8 4)), none⟩,
    ⟨some ⟨.d0, .d4, .d4⟩, .move (.t ⟨.d0, .d4, .d3⟩), none⟩,
    ⟨some ⟨.d0, .d4, .d5⟩, .move (.t ⟨.d0, .d0, .d4⟩), some (⟨.d0, .d4, .d4⟩, false)⟩,
    ⟨some ⟨.d0, .d4, .d6⟩, .bin .lss (.t ⟨.d0, .d4, .d5⟩) (.c (.int .i64 20)), some (⟨.d0, .d4, .d4⟩, false)⟩,
    ⟨some ⟨.d0, .d4, .d7⟩, .pick (.t ⟨.d0, .d4, .d4⟩) (.c (.bool true)) (.t ⟨.d0, .d4, .d6⟩), none⟩,
    ⟨some ⟨.d0, .d5, .d0⟩, .move (.t ⟨.d0, .d4, .d7⟩), none⟩,
    ⟨some ⟨.d0, .d5, .d1⟩, .move (.t ⟨.d0, .d0, .d5⟩), some (⟨.d0, .d5, .d0⟩, false)⟩,
    ⟨some ⟨.d0, .d5, .d2⟩, .move (.t ⟨.d0, .d0, .d4⟩), some (⟨.d0, .d5, .d0⟩, false)⟩,
    ⟨some ⟨.d0, .d5, .d3⟩, .bin .lss (.t ⟨.d0, .d5, .d1⟩) (.t ⟨.d0, .d5, .d2⟩), some (⟨.d0, .d5, .d0⟩, false)⟩,
    ⟨some ⟨.d0, .d5, .d4⟩, .pick (.t ⟨.d0, .d5, .d0⟩) (.c (.bool true)) (.t ⟨.d0, .d5, .d3⟩), none⟩,
    ⟨some ⟨.d0, .d5, .d5⟩, .move (.t ⟨.d0, .d5, .d4⟩), none⟩,
    ⟨some ⟨.d0, .d5, .d6⟩, .move (.t ⟨.d0, .d0, .d6⟩), some (⟨.d0, .d5, .d5⟩, false)⟩,
    ⟨some ⟨.d0, .d5, .d7⟩, .bin .shr (.t ⟨.d0, .d5, .d6⟩) (.c (.int .u64 15)), some (⟨.d0, .d5, .d5⟩, false)⟩,
    ⟨some ⟨.d0, .d6, .d0⟩, .bin .eql (.t ⟨.d0, .d5, .d7⟩) (.c (.int .i64 1)), some (⟨.d0, .d5, .d5⟩, false)⟩,
    ⟨some ⟨.d0, .d6, .d1⟩, .pick (.t ⟨.d0, .d5, .d5⟩) (.c (.bool true)) (.t ⟨.d0, .d6, .d0⟩), none⟩])
  (.cond (.t ⟨.d0, .d6, .d1⟩)
    (.seq (.region [⟨some ⟨.d0, .d6, .d2⟩, .build [.int .i64 0, .int .i64 0, .bool false, .bool false, .int .i64 0, .int .i64 0, .int .i64 0, .int .u32 0, .int .u32 0, .string { data := #[] }, .string { data := #[] }] [], none⟩,
      ⟨none, .store 11 (.t ⟨.d0, .d0, .d2⟩) (.t ⟨.d0, .d6, .d2⟩), none⟩,
      ⟨some ⟨.d0, .d0, .d3⟩, .move (.c (.int .i64 4)), none⟩])
    (.ret))
    (.skip)))
  (.seq (.regionD [0, 1, 3, 0, 8, 0, 32, 96, 224, 0, 512, 1536, 3584, 0, 8192, 0, 32768, 98304, 0, 262144, 786432, 0, 2097176, 0, 14680088, 0, 0, 100663296, 0, 0, 0, 1879048192, 4294967295, 0, 17179869183] [⟨some ⟨.d0, .d6, .d3⟩, .move (.t ⟨.d0, .d0, .d0⟩), none⟩,
    ⟨some ⟨.d0, .d6, .d4⟩, .strAt (.t ⟨.d0, .d6, .d3⟩) (.c (.int .i64 1)), none⟩,
    ⟨some ⟨.d0, .d6, .d5⟩, .convInt .i64 (.t ⟨.d0, .d6, .d4⟩), none⟩,
    ⟨some ⟨.d0, .d6, .d6⟩, .move (.t ⟨.d0, .d0, .d0⟩), none⟩,
    ⟨some ⟨.d0, .d6, .d7⟩, .call 21 [(.t ⟨.d0, .d6, .d6⟩), (.c (.int .i64 4))], none⟩,
    ⟨some ⟨.d0, .d7, .d0⟩, .move (.t ⟨.d0, .d0, .d6⟩), none⟩,
    ⟨some ⟨.d0, .d7, .d1⟩, .bin .shr (.t ⟨.d0, .d7, .d0⟩) (.c (.int .u64 14)), none⟩,
    ⟨some ⟨.d0, .d7, .d2⟩, .bin .and (.t ⟨.d0, .d7, .d1⟩) (.c (.int .i64 1)), none⟩,
    ⟨some ⟨.d0, .d7, .d3⟩, .bin .eql (.t ⟨.d0, .d7, .d2⟩) (.c (.int .i64 1)), none⟩,
    ⟨some ⟨.d0, .d7, .d4⟩, .move (.t ⟨.d0, .d0, .d6⟩), none⟩,
    ⟨some ⟨.d0, .d7, .d5⟩, .bin .shr (.t ⟨.d0, .d7, .d4⟩) (.c (.int .u64 13)), none⟩,
    ⟨some ⟨.d0, .d7, .d6⟩, .bin .and (.t ⟨.d0, .d7, .d5⟩) (.c (.int .i64 1)), none⟩,
    ⟨some ⟨.d0, .d7, .d7⟩, .bin .eql (.t ⟨.d0, .d7, .d6⟩) (.c (.int .i64 1)), none⟩,
    ⟨some ⟨.d1, .d0, .d0⟩, .move (.t ⟨.d0, .d0, .d6⟩), none⟩,
    ⟨some ⟨.d1, .d0, .d1⟩, .bin .and (.t ⟨.d1, .d0, .d0⟩) (.c (.int .i64 8191)), none⟩,
    ⟨some ⟨.d1, .d0, .d2⟩, .move (.t ⟨.d0, .d0, .d0⟩), none⟩,
    ⟨some ⟨.d1, .d0, .d3⟩, .strAt (.t ⟨.d1, .d0, .d2⟩) (.c (.int .i64 8)), none⟩,
    ⟨some ⟨.d1, .d0, .d4⟩, .convInt .i64 (.t ⟨.d1, .d0, .d3⟩), none⟩,
    ⟨some ⟨.d1, .d0, .d5⟩, .move (.t ⟨.d0, .d0, .d0⟩), none⟩,
    ⟨some ⟨.d1, .d0, .d6⟩, .strAt (.t ⟨.d1, .d0, .d5⟩) (.c (.int .i64 9)), none⟩,
    ⟨some ⟨.d1, .d0, .d7⟩, .convInt .i64 (.t ⟨.d1, .d0, .d6⟩), none⟩,
    ⟨some ⟨.d1, .d1, .d0⟩, .move (.t ⟨.d0, .d0, .d0⟩), none⟩,
    ⟨some ⟨.d1, .d1, .d1⟩, .call 22 [(.t ⟨.d1, .d1, .d0⟩), (.c (.int .i64 12))], none⟩,
    ⟨some ⟨.d1, .d1, .d2⟩, .move (.t ⟨.d0, .d0, .d0⟩), none⟩,
    ⟨some ⟨.d1, .d1, .d3⟩, .call 22 [(.t ⟨.d1, .d1, .d2⟩), (.c (.int .i64 16))], none⟩,
    ⟨some ⟨.d1, .d1, .d4⟩, .move (.t ⟨.d0, .d0, .d0⟩), none⟩,
    ⟨some ⟨.d1, .d1, .d5⟩, .move (.t ⟨.d0, .d0, .d4⟩), none⟩,
    ⟨some ⟨.d1, .d1, .d6⟩, .substr (.t ⟨.d1, .d1, .d4⟩) (some (.c (.int .i64 20))) (some (.t ⟨.d1, .d1, .d5⟩)), none⟩,
    ⟨some ⟨.d1, .d1, .d7⟩, .move (.t ⟨.d0, .d0, .d0⟩), none⟩,
    ⟨some ⟨.d1, .d2, .d0⟩, .move (.t ⟨.d0, .d0, .d4⟩), none⟩,
    ⟨some ⟨.d1, .d2, .d1⟩, .move (.t ⟨.d0, .d0, .d5⟩), none⟩,
    ⟨some ⟨.d1, .d2, .d2⟩, .substr (.t ⟨.d1, .d1, .d7⟩) (some (.t ⟨.d1, .d2, .d0⟩)) (some (.t ⟨.d1, .d2, .d1⟩)), none⟩,
    ⟨some ⟨.d1, .d2, .d3⟩, .build [.int .i64 0, .int .i64 0, .bool false, .bool false, .int .i64 0, .int .i64 0, .int .i64 0, .int .u32 0, .int .u32 0, .string { data := #[] }, .string { data := #[] }] [(0, 1, (.t ⟨.d0, .d6, .d5⟩)), (1, 1, (.t ⟨.d0, .d6, .d7⟩)), (2, 1, (.t ⟨.d0, .d7, .d3⟩)), (3, 1, (.t ⟨.d0, .d7, .d7⟩)), (4, 1, (.t ⟨.d1, .d0, .d1⟩)), (5, 1, (.t ⟨.d1, .d0, .d4⟩)), (6, 1, (.t ⟨.d1, .d0, .d7⟩)), (7, 1, (.t ⟨.d1, .d1, .d1⟩)), (8, 1, (.t ⟨.d1, .d1, .d3⟩)), (9, 1, (.t ⟨.d1, .d1, .d6⟩)), (10, 1, (.t ⟨.d1, .d2, .d2⟩))], none⟩,
    ⟨some ⟨.d0, .d0, .d7⟩, .alloc 1 [.int .i64 0, .int .i64 0, .bool false, .bool false, .int .i64 0, .int .i64 0, .int .i64 0, .int .u32 0, .int .u32 0, .string { data := #[] }, .string { data := #[] }], none⟩,
    ⟨none, .store 11 (.t ⟨.d0, .d0, .d7⟩) (.t ⟨.d1, .d2, .d3⟩), none⟩])
  (.seq (.seq (.region [⟨some ⟨.d1, .d2, .d4⟩, .load true 11 (.t ⟨.d0, .d0, .d7⟩), none⟩,
    ⟨some ⟨.d1, .d2, .d5⟩, .call 23 [(.t ⟨.d1, .d2, .d4⟩)], none⟩,
    ⟨some ⟨.d1, .d2, .d6⟩, .bin .neq (.t ⟨.d1, .d2, .d5⟩) (.c (.int .i64 0)), none⟩])
  (.cond (.t ⟨.d1, .d2, .d6⟩)
    (.seq (.region [⟨some ⟨.d1, .d2, .d7⟩, .build [.int .i64 0, .int .i64 0, .bool false, .bool false, .int .i64 0, .int .i64 0, .int .i64 0, .int .u32 0, .int .u32 0, .string { data := #[] }, .string { data := #[] }] [], none⟩,
      ⟨none, .store 11 (.t ⟨.d0, .d0, .d2⟩) (.t ⟨.d1, .d2, .d7⟩), none⟩,
      ⟨some ⟨.d0, .d0, .d3⟩, .move (.c (.int .i64 4)), none⟩])
    (.ret))
    (.skip)))
  (.seq (.seq (.region [⟨some ⟨.d1, .d3, .d0⟩, .move (.t ⟨.d0, .d0, .d0⟩), none⟩,
    ⟨some ⟨.d1, .d3, .d1⟩, .move (.t ⟨.d0, .d0, .d4⟩), none⟩,
    ⟨some ⟨.d1, .d3, .d2⟩, .substr (.t ⟨.d1, .d3, .d0⟩) none (some (.t ⟨.d1, .d3, .d1⟩)), none⟩,
    ⟨some ⟨.d1, .d3, .d3⟩, .call 24 [(.t ⟨.d1, .d3, .d2⟩)], none⟩,
    ⟨some ⟨.d1, .d3, .d4⟩, .un .not (.t ⟨.d1, .d3, .d3⟩), none⟩])
  (.cond (.t ⟨.d1, .d3, .d4⟩)
    (.seq (.region [⟨some ⟨.d1, .d3, .d5⟩, .build [.int .i64 0, .int .i64 0, .bool false, .bool false, .int .i64 0, .int .i64 0, .int .i64 0, .int .u32 0, .int .u32 0, .string { data := #[] }, .string { data := #[] }] [], none⟩,
      ⟨none, .store 11 (.t ⟨.d0, .d0, .d2⟩) (.t ⟨.d1, .d3, .d5⟩), none⟩,
      ⟨some ⟨.d0, .d0, .d3⟩, .move (.c (.int .i64 5)), none⟩])
    (.ret))
    (.skip)))
  (.seq (.region [⟨some ⟨.d1, .d3, .d6⟩, .load true 11 (.t ⟨.d0, .d0, .d7⟩), none⟩,
    ⟨none, .store 11 (.t ⟨.d0, .d0, .d2⟩) (.t ⟨.d1, .d3, .d6⟩), none⟩,
    ⟨some ⟨.d0, .d0, .d3⟩, .move (.c (.int .i64 0)), none⟩])
  (.ret))))))))))
def r_ip_Read : List XR := [.cell ⟨.d0, .d0, .d2⟩ true 11, .tmp ⟨.d0, .d0, .d3⟩]
theorem ok_ip_Read : okC Try.prog Try.f9.ntmps (bodyOf Try.f9) x_ip_Read = true := by kernel_rfl
theorem okr_ip_Read : okRs Try.prog Try.f9.results.toList r_ip_Read = true := by kernel_rfl

/-- tcp.Read -/
def x_tcp_Read : XC :=
  .seq (.region [⟨some ⟨.d0, .d0, .d6⟩, .alloc 0 [.int .i64 0, .int .i64 0, .int .u32 0, .int .u32 0, .int .i64 0, .int .i64 0, .int .i64 0, .slice none 0 0, .string { data := #[] }], none⟩,
    ⟨some ⟨.d0, .d0, .d7⟩, .move (.c (.int .i64 0)), none⟩])
  (.seq (.seq (.region [⟨some ⟨.d0, .d1, .d3⟩, .move (.t ⟨.d0, .d0, .d0⟩), none⟩,
    ⟨some ⟨.d0, .d1, .d4⟩, .slen (.t ⟨.d0, .d1, .d3⟩), none⟩,
    ⟨some ⟨.d0, .d1, .d5⟩, .bin .lss (.t ⟨.d0, .d1, .d4⟩) (.c (.int .i64 20)), none⟩])
  (.cond (.t ⟨.d0, .d1, .d5⟩)
    (.seq (.region [⟨some ⟨.d0, .d1, .d6⟩, .build [.int .i64 0, .int .i64 0, .int .u32 0, .int .u32 0, .int .i64 0, .int .i64 0, .int .i64 0, .slice none 0 0, .string { data := #[] }] [], none⟩,
      ⟨none, .store 9 (.t ⟨.d0, .d0, .d6⟩) (.t ⟨.d0, .d1, .d6⟩), none⟩,
      ⟨some ⟨.d0, .d0, .d7⟩, .move (.c (.int .i64 3)), none⟩])
    (.ret))
    (.skip)))
  (.seq (.region [⟨some ⟨.d0, .d1, .d7⟩, .move (.t ⟨.d0, .d0, .d0⟩), none⟩,
    ⟨some ⟨.d0, .d2, .d0⟩, .strAt (.t ⟨.d0, .d1, .d7⟩) (.c (.int .i64 12)), none⟩,
    ⟨some ⟨.d0, .d2, .d1⟩, .convInt .i64 (.t ⟨.d0, .d2, .d0⟩), none⟩,
    ⟨some ⟨.d0, .d2, .d2⟩, .bin .quo (.t ⟨.d0, .d2, .d1⟩) (.c (.int .i64 16)), none⟩,
    ⟨some ⟨.d0, .d2, .d3⟩, .bin .mul (.t ⟨.d0, .d2, .d2⟩) (.c (.int .i64 4)), none⟩,
    ⟨some ⟨.d0, .d1, .d0⟩, .move (.t ⟨.d0, .d2, .d3⟩), none⟩])
  (.seq (.block 0
    (.seq (.region [⟨some ⟨.d0, .d2, .d5⟩, .move (.t ⟨.d0, .d0, .d0⟩), none⟩,
      ⟨some ⟨.d0, .d2, .d6⟩, .slen (.t ⟨.d0, .d2, .d5⟩), none⟩,
      ⟨some ⟨.d0, .d2, .d7⟩, .move (.t ⟨.d0, .d1, .d0⟩), none⟩,
      ⟨some ⟨.d0, .d3, .d0⟩, .bin .lss (.t ⟨.d0, .d2, .d6⟩) (.t ⟨.d0, .d2, .d7⟩), none⟩,
      ⟨some ⟨.d0, .d2, .d4⟩, .move (.t ⟨.d0, .d3, .d0⟩), none⟩])
    (.cond (.t ⟨.d0, .d2, .d4⟩)
      (.seq (.region [⟨some ⟨.d0, .d3, .d1⟩, .build [.int .i64 0, .int .i64 0, .int .u32 0, .int .u32 0, .int .i64 0, .int .i64 0, .int .i64 0, .slice none 0 0, .string { data := #[] }] [], none⟩,
        ⟨none, .store 9 (.t ⟨.d0, .d0, .d6⟩) (.t ⟨.d0, .d3, .d1⟩), none⟩,
        ⟨some ⟨.d0, .d0, .d7⟩, .move (.c (.int .i64 3)), none⟩])
      (.ret))
      (.seq (.region [⟨some ⟨.d0, .d3, .d3⟩, .move (.t ⟨.d0, .d1, .d0⟩), none⟩,
        ⟨some ⟨.d0, .d3, .d4⟩, .bin .lss (.t ⟨.d0, .d3, .d3⟩) (.c (.int .i64 20)), none⟩,
        ⟨some ⟨.d0, .d3, .d5⟩, .move (.t ⟨.d0, .d3, .d4⟩), none⟩,
        ⟨some ⟨.d0, .d3, .d6⟩, .move (.t ⟨.d0, .d0, .d0⟩), some (⟨.d0, .d3, .d5⟩, false)⟩,
        ⟨some ⟨.d0, .d3, .d7⟩, .strAt (.t ⟨.d0, .d3, .d6⟩) (.c (.int .i64 12)), some (⟨.d0, .d3, .d5⟩, false)⟩,
        ⟨some ⟨.d0, .d4, .d0⟩, .bin .rem (.t ⟨.d0, .d3, .d7⟩) (.c (.int .u8 16)), some (⟨.d0, .d3, .d5⟩, false)⟩,
        ⟨some ⟨.d0, .d4, .d1⟩, .bin .neq (.t ⟨.d0, .d4, .d0⟩) (.c (.int .u8 0)), some (⟨.d0, .d3, .d5⟩, false)⟩,
        ⟨some ⟨.d0, .d4, .d2⟩, .pick (.t ⟨.d0, .d3, .d5⟩) (.c (.bool true)) (.t ⟨.d0, .d4, .d1⟩), none⟩,
        ⟨some ⟨.d0, .d3, .d2⟩, .move (.t ⟨.d0, .d4, .d2⟩), none⟩])
      (.cond (.t ⟨.d0, .d3, .d2⟩)
        (.seq (.region [⟨some ⟨.d0, .d4, .d3⟩, .build [.int .i64 0, .int .i64 0, .int .u32 0, .int .u32 0, .int .i64 0, .int .i64 0, .int .i64 0, .slice none 0 0, .string { data := #[] }] [], none⟩,
          ⟨none, .store 9 (.t ⟨.d0, .d0, .d6⟩) (.t ⟨.d0, .d4, .d3⟩), none⟩,
          ⟨some ⟨.d0, .d0, .d7⟩, .move (.c (.int .i64 4)), none⟩])
        (.ret))
        (.seq (.region [⟨some ⟨.d0, .d4, .d5⟩, .move (.t ⟨.d0, .d0, .d0⟩), none⟩,
          ⟨some ⟨.d0, .d4, .d6⟩, .slen (.t ⟨.d0, .d4, .d5⟩), none⟩,
          ⟨some ⟨.d0, .d4, .d7⟩, .move (.t ⟨.d0, .d1, .d0⟩), none⟩,
          ⟨some ⟨.d0, .d5, .d0⟩, .bin .sub (.t ⟨.d0, .d4, .d6⟩) (.t ⟨.d0, .d4, .d7⟩), none⟩,
          ⟨some ⟨.d0, .d5, .d1⟩, .bin .gtr (.t ⟨.d0, .d5, .d0⟩) (.c (.int .i64 65455)), none⟩,
          ⟨some ⟨.d0, .d4, .d4⟩, .move (.t ⟨.d0, .d5, .d1⟩), none⟩])
        (.cond (.t ⟨.d0, .d4, .d4⟩)
          (.seq (.region [⟨some ⟨.d0, .d5, .d2⟩, .build [.int .i64 0, .int .i64 0, .int .u32 0, .int .u32 0, .int .i64 0, .int .i64 0, .int .i64 0, .slice none 0 0, .string { data := #[] }] [], none⟩,
            ⟨none, .store 9 (.t ⟨.d0, .d0, .d6⟩) (.t ⟨.d0, .d5, .d2⟩), none⟩,
            ⟨some ⟨.d0, .d0, .d7⟩, .move (.c (.int .i64 2)), none⟩])
          (.ret))
          (.skip))))))))
  (.seq (.region [⟨some ⟨.d0, .d5, .d4⟩, .move (.t ⟨.d0, .d0, .d0⟩), none⟩,
    ⟨some ⟨.d0, .d5, .d5⟩, .move (.t ⟨.d0, .d1, .d0⟩), none⟩,
    ⟨some ⟨.d0, .d5, .d6⟩, .substr (.t ⟨.d0, .d5, .d4⟩) (some (.c (.int .i64 20))) (some (.t ⟨.d0, .d5, .d5⟩)), none⟩,
    ⟨some ⟨.d0, .d5, .d7⟩, .call 25 [(.t ⟨.d0, .d5, .d6⟩)], none⟩,
    ⟨some ⟨.d0, .d5, .d3⟩, .move (.t ⟨.d0, .d5, .d7⟩), none⟩,
    ⟨some ⟨.d0, .d6, .d0⟩, .extract 0 (.t ⟨.d0, .d5, .d3⟩), none⟩,
    ⟨some ⟨.d0, .d6, .d1⟩, .extract 1 (.t ⟨.d0, .d5, .d3⟩), none⟩,
    ⟨some ⟨.d0, .d1, .d1⟩, .move (.t ⟨.d0, .d6, .d0⟩), none⟩,
    ⟨some ⟨.d0, .d1, .d2⟩, .move (.t ⟨.d0, .d6, .d1⟩), none⟩])
  (.seq (.seq (.region [⟨some ⟨.d0, .d6, .d2⟩, .move (.t ⟨.d0, .d1, .d2⟩), none⟩,
    ⟨some ⟨.d0, .d6, .d3⟩, .un .not (.t ⟨.d0, .d6, .d2⟩), none⟩])
  (.cond (.t ⟨.d0, .d6, .d3⟩)
    (.seq (.region [⟨some ⟨.d0, .d6, .d4⟩, .build [.int .i64 0, .int .i64 0, .int .u32 0, .int .u32 0, .int .i64 0, .int .i64 0, .int .i64 0, .slice none 0 0, .string { data := #[] }] [], none⟩,
      ⟨none, .store 9 (.t ⟨.d0, .d0, .d6⟩) (.t ⟨.d0, .d6, .d4⟩), none⟩,
      ⟨some ⟨.d0, .d0, .d7⟩, .move (.c (.int .i64 4)), none⟩])
    (.ret))
    (.skip)))
  (.seq (.seq (.region [⟨some ⟨.d0, .d6, .d5⟩, .move (.t ⟨.d0, .d0, .d1⟩), none⟩,
    ⟨some ⟨.d0, .d6, .d6⟩, .move (.t ⟨.d0, .d0, .d2⟩), none⟩,
    ⟨some ⟨.d0, .d6, .d7⟩, .move (.t ⟨.d0, .d0, .d0⟩), none⟩,
    ⟨some ⟨.d0, .d7, .d0⟩, .slen (.t ⟨.d0, .d6, .d7⟩), none⟩,
    ⟨some ⟨.d0, .d7, .d1⟩, .call 26 [(.t ⟨.d0, .d6, .d5⟩), (.t ⟨.d0, .d6, .d6⟩), (.c (.int .i64 6)), (.t ⟨.d0, .d7, .d0⟩)], none⟩,
    ⟨some ⟨.d0, .d7, .d2⟩, .move (.t ⟨.d0, .d0, .d0⟩), none⟩,
    ⟨some ⟨.d0, .d7, .d3⟩, .sbin .add (.t ⟨.d0, .d7, .d1⟩) (.t ⟨.d0, .d7, .d2⟩), none⟩,
    ⟨some ⟨.d0, .d7, .d4⟩, .call 24 [(.t ⟨.d0, .d7, .d3⟩)], none⟩,
    ⟨some ⟨.d0, .d7, .d5⟩, .un .not (.t ⟨.d0, .d7, .d4⟩), none⟩])
  (.cond (.t ⟨.d0, .d7, .d5⟩)
    (.seq (.region [⟨some ⟨.d0, .d7, .d6⟩, .build [.int .i64 0, .int .i64 0, .int .u32 0, .int .u32 0, .int .i64 0, .int .i64 0, .int .i64 0, .slice none 0 0, .string { data := #[] }] [], none⟩,
      ⟨none, .store 9 (.t ⟨.d0, .d0, .d6⟩) (.t ⟨.d0, .d7, .d6⟩), none⟩,
      ⟨some ⟨.d0, .d0, .d7⟩, .move (.c (.int .i64 5)), none⟩])
    (.ret))
    (.skip)))
  (.seq (.regionD [0, 1, 0, 7, 0, 31, 0, 127, 0, 256, 768, 0, 2303, 0, 14591, 0, 0, 0, 196608, 524287, 1048575, 2097151] [⟨some ⟨.d0, .d7, .d7⟩, .move (.t ⟨.d0, .d0, .d0⟩), none⟩,
    ⟨some ⟨.d1, .d0, .d0⟩, .call 27 [(.t ⟨.d0, .d7, .d7⟩), (.c (.int .i64 0))], none⟩,
    ⟨some ⟨.d1, .d0, .d1⟩, .move (.t ⟨.d0, .d0, .d0⟩), none⟩,
    ⟨some ⟨.d1, .d0, .d2⟩, .call 27 [(.t ⟨.d1, .d0, .d1⟩), (.c (.int .i64 2))], none⟩,
    ⟨some ⟨.d1, .d0, .d3⟩, .move (.t ⟨.d0, .d0, .d0⟩), none⟩,
    ⟨some ⟨.d1, .d0, .d4⟩, .call 28 [(.t ⟨.d1, .d0, .d3⟩), (.c (.int .i64 4))], none⟩,
    ⟨some ⟨.d1, .d0, .d5⟩, .move (.t ⟨.d0, .d0, .d0⟩), none⟩,
    ⟨some ⟨.d1, .d0, .d6⟩, .call 28 [(.t ⟨.d1, .d0, .d5⟩), (.c (.int .i64 8))], none⟩,
    ⟨some ⟨.d1, .d0, .d7⟩, .move (.t ⟨.d0, .d0, .d0⟩), none⟩,
    ⟨some ⟨.d1, .d1, .d0⟩, .strAt (.t ⟨.d1, .d0, .d7⟩) (.c (.int .i64 13)), none⟩,
    ⟨some ⟨.d1, .d1, .d1⟩, .convInt .i64 (.t ⟨.d1, .d1, .d0⟩), none⟩,
    ⟨some ⟨.d1, .d1, .d2⟩, .move (.t ⟨.d0, .d0, .d0⟩), none⟩,
    ⟨some ⟨.d1, .d1, .d3⟩, .call 27 [(.t ⟨.d1, .d1, .d2⟩), (.c (.int .i64 14))], none⟩,
    ⟨some ⟨.d1, .d1, .d4⟩, .move (.t ⟨.d0, .d0, .d0⟩), none⟩,
    ⟨some ⟨.d1, .d1, .d5⟩, .call 27 [(.t ⟨.d1, .d1, .d4⟩), (.c (.int .i64 18))], none⟩,
    ⟨some ⟨.d1, .d1, .d6⟩, .move (.t ⟨.d0, .d1, .d1⟩), none⟩,
    ⟨some ⟨.d1, .d1, .d7⟩, .move (.t ⟨.d0, .d0, .d0⟩), none⟩,
    ⟨some ⟨.d1, .d2, .d0⟩, .move (.t ⟨.d0, .d1, .d0⟩), none⟩,
    ⟨some ⟨.d1, .d2, .d1⟩, .substr (.t ⟨.d1, .d1, .d7⟩) (some (.t ⟨.d1, .d2, .d0⟩)) none, none⟩,
    ⟨some ⟨.d1, .d2, .d2⟩, .build [.int .i64 0, .int .i64 0, .int .u32 0, .int .u32 0, .int .i64 0, .int .i64 0, .int .i64 0, .slice none 0 0, .string { data := #[] }] [(0, 1, (.t ⟨.d1, .d0, .d0⟩)), (1, 1, (.t ⟨.d1, .d0, .d2⟩)), (2, 1, (.t ⟨.d1, .d0, .d4⟩)), (3, 1, (.t ⟨.d1, .d0, .d6⟩)), (4, 1, (.t ⟨.d1, .d1, .d1⟩)), (5, 1, (.t ⟨.d1, .d1, .d3⟩)), (6, 1, (.t ⟨.d1, .d1, .d5⟩)), (7, 1, (.t ⟨.d1, .d1, .d6⟩)), (8, 1, (.t ⟨.d1, .d2, .d1⟩))], none⟩,
    ⟨none, .store 9 (.t ⟨.d0, .d0, .d6⟩) (.t ⟨.d1, .d2, .d2⟩), none⟩,
    ⟨some ⟨.d0, .d0, .d7⟩, .move (.c (.int .i64 0)), none⟩])
  (.ret))))))))
def r_tcp_Read : List XR := [.cell ⟨.d0, .d0, .d6⟩ true 9, .tmp ⟨.d0, .d0, .d7⟩]
theorem ok_tcp_Read : okC Try.prog Try.f10.ntmps (bodyOf Try.f10) x_tcp_Read = true := by kernel_rfl
theorem okr_tcp_Read : okRs Try.prog Try.f10.results.toList r_tcp_Read = true := by kernel_rfl

/-- dgram.Read -/
def x_dgram_Read : XC :=
  .seq (.region [⟨some ⟨.d0, .d0, .d6⟩, .alloc 0 [.int .i64 0, .int .i64 0, .string { data := #[] }], none⟩,
    ⟨some ⟨.d0, .d0, .d7⟩, .move (.c (.int .i64 0)), none⟩])
  (.seq (.seq (.region [⟨some ⟨.d0, .d1, .d1⟩, .move (.t ⟨.d0, .d0, .d0⟩), none⟩,
    ⟨some ⟨.d0, .d1, .d2⟩, .slen (.t ⟨.d0, .d1, .d1⟩), none⟩,
    ⟨some ⟨.d0, .d1, .d3⟩, .bin .lss (.t ⟨.d0, .d1, .d2⟩) (.c (.int .i64 8)), none⟩])
  (.cond (.t ⟨.d0, .d1, .d3⟩)
    (.seq (.region [⟨some ⟨.d0, .d1, .d4⟩, .build [.int .i64 0, .int .i64 0, .string { data := #[] }] [], none⟩,
      ⟨none, .store 3 (.t ⟨.d0, .d0, .d6⟩) (.t ⟨.d0, .d1, .d4⟩), none⟩,
      ⟨some ⟨.d0, .d0, .d7⟩, .move (.c (.int .i64 3)), none⟩])
    (.ret))
    (.skip)))
  (.seq (.region [⟨some ⟨.d0, .d1, .d5⟩, .move (.t ⟨.d0, .d0, .d0⟩), none⟩,
    ⟨some ⟨.d0, .d1, .d6⟩, .call 29 [(.t ⟨.d0, .d1, .d5⟩), (.c (.int .i64 4))], none⟩,
    ⟨some ⟨.d0, .d1, .d0⟩, .move (.t ⟨.d0, .d1, .d6⟩), none⟩])
  (.seq (.block 0
    (.seq (.region [⟨some ⟨.d0, .d2, .d0⟩, .move (.t ⟨.d0, .d0, .d0⟩), none⟩,
      ⟨some ⟨.d0, .d2, .d1⟩, .slen (.t ⟨.d0, .d2, .d0⟩), none⟩,
      ⟨some ⟨.d0, .d2, .d2⟩, .move (.t ⟨.d0, .d1, .d0⟩), none⟩,
      ⟨some ⟨.d0, .d2, .d3⟩, .bin .lss (.t ⟨.d0, .d2, .d1⟩) (.t ⟨.d0, .d2, .d2⟩), none⟩,
      ⟨some ⟨.d0, .d1, .d7⟩, .move (.t ⟨.d0, .d2, .d3⟩), none⟩])
    (.cond (.t ⟨.d0, .d1, .d7⟩)
      (.seq (.region [⟨some ⟨.d0, .d2, .d4⟩, .build [.int .i64 0, .int .i64 0, .string { data := #[] }] [], none⟩,
        ⟨none, .store 3 (.t ⟨.d0, .d0, .d6⟩) (.t ⟨.d0, .d2, .d4⟩), none⟩,
        ⟨some ⟨.d0, .d0, .d7⟩, .move (.c (.int .i64 3)), none⟩])
      (.ret))
      (.seq (.region [⟨some ⟨.d0, .d2, .d6⟩, .move (.t ⟨.d0, .d1, .d0⟩), none⟩,
        ⟨some ⟨.d0, .d2, .d7⟩, .bin .lss (.t ⟨.d0, .d2, .d6⟩) (.c (.int .i64 8)), none⟩,
        ⟨some ⟨.d0, .d3, .d0⟩, .move (.t ⟨.d0, .d2, .d7⟩), none⟩,
        ⟨some ⟨.d0, .d3, .d1⟩, .move (.t ⟨.d0, .d1, .d0⟩), some (⟨.d0, .d3, .d0⟩, false)⟩,
        ⟨some ⟨.d0, .d3, .d2⟩, .bin .gtr (.t ⟨.d0, .d3, .d1⟩) (.c (.int .i64 65515)), some (⟨.d0, .d3, .d0⟩, false)⟩,
        ⟨some ⟨.d0, .d3, .d3⟩, .pick (.t ⟨.d0, .d3, .d0⟩) (.c (.bool true)) (.t ⟨.d0, .d3, .d2⟩), none⟩,
        ⟨some ⟨.d0, .d2, .d5⟩, .move (.t ⟨.d0, .d3, .d3⟩), none⟩])
      (.cond (.t ⟨.d0, .d2, .d5⟩)
        (.seq (.region [⟨some ⟨.d0, .d3, .d4⟩, .build [.int .i64 0, .int .i64 0, .string { data := #[] }] [], none⟩,
          ⟨none, .store 3 (.t ⟨.d0, .d0, .d6⟩) (.t ⟨.d0, .d3, .d4⟩), none⟩,
          ⟨some ⟨.d0, .d0, .d7⟩, .move (.c (.int .i64 4)), none⟩])
        (.ret))
        (.seq (.regionD [0, 1, 3, 7, 15, 15, 15, 127, 15, 15, 783, 2047, 4095, 8191, 16383, 32767] [⟨some ⟨.d0, .d3, .d6⟩, .move (.t ⟨.d0, .d0, .d0⟩), none⟩,
          ⟨some ⟨.d0, .d3, .d7⟩, .call 29 [(.t ⟨.d0, .d3, .d6⟩), (.c (.int .i64 6))], none⟩,
          ⟨some ⟨.d0, .d4, .d0⟩, .bin .neq (.t ⟨.d0, .d3, .d7⟩) (.c (.int .i64 0)), none⟩,
          ⟨some ⟨.d0, .d4, .d1⟩, .move (.t ⟨.d0, .d4, .d0⟩), none⟩,
          ⟨some ⟨.d0, .d4, .d2⟩, .move (.t ⟨.d0, .d0, .d1⟩), some (⟨.d0, .d4, .d1⟩, true)⟩,
          ⟨some ⟨.d0, .d4, .d3⟩, .move (.t ⟨.d0, .d0, .d2⟩), some (⟨.d0, .d4, .d1⟩, true)⟩,
          ⟨some ⟨.d0, .d4, .d4⟩, .move (.t ⟨.d0, .d1, .d0⟩), some (⟨.d0, .d4, .d1⟩, true)⟩,
          ⟨some ⟨.d0, .d4, .d5⟩, .call 26 [(.t ⟨.d0, .d4, .d2⟩), (.t ⟨.d0, .d4, .d3⟩), (.c (.int .i64 17)), (.t ⟨.d0, .d4, .d4⟩)], some (⟨.d0, .d4, .d1⟩, true)⟩,
          ⟨some ⟨.d0, .d4, .d6⟩, .move (.t ⟨.d0, .d0, .d0⟩), some (⟨.d0, .d4, .d1⟩, true)⟩,
          ⟨some ⟨.d0, .d4, .d7⟩, .move (.t ⟨.d0, .d1, .d0⟩), some (⟨.d0, .d4, .d1⟩, true)⟩,
          ⟨some ⟨.d0, .d5, .d0⟩, .substr (.t ⟨.d0, .d4, .d6⟩) none (some (.t ⟨.d0, .d4, .d7⟩)), some (⟨.d0, .d4, .d1⟩, true)⟩,
          ⟨some ⟨.d0, .d5, .d1⟩, .sbin .add (.t ⟨.d0, .d4, .d5⟩) (.t ⟨.d0, .d5, .d0⟩), some (⟨.d0, .d4, .d1⟩, true)⟩,
          ⟨some ⟨.d0, .d5, .d2⟩, .call 24 [(.t ⟨.d0, .d5, .d1⟩)], some (⟨.d0, .d4, .d1⟩, true)⟩,
          ⟨some ⟨.d0, .d5, .d3⟩, .un .not (.t ⟨.d0, .d5, .d2⟩), some (⟨.d0, .d4, .d1⟩, true)⟩,
          ⟨some ⟨.d0, .d5, .d4⟩, .pick (.t ⟨.d0, .d4, .d1⟩) (.t ⟨.d0, .d5, .d3⟩) (.c (.bool false)), none⟩,
          ⟨some ⟨.d0, .d3, .d5⟩, .move (.t ⟨.d0, .d5, .d4⟩), none⟩])
        (.cond (.t ⟨.d0, .d3, .d5⟩)
          (.seq (.region [⟨some ⟨.d0, .d5, .d5⟩, .build [.int .i64 0, .int .i64 0, .string { data := #[] }] [], none⟩,
            ⟨none, .store 3 (.t ⟨.d0, .d0, .d6⟩) (.t ⟨.d0, .d5, .d5⟩), none⟩,
            ⟨some ⟨.d0, .d0, .d7⟩, .move (.c (.int .i64 5)), none⟩])
          (.ret))
          (.skip))))))))
  (.seq (.regionD [0, 1, 0, 7, 0, 0, 48, 127, 255, 511] [⟨some ⟨.d0, .d5, .d6⟩, .move (.t ⟨.d0, .d0, .d0⟩), none⟩,
    ⟨some ⟨.d0, .d5, .d7⟩, .call 29 [(.t ⟨.d0, .d5, .d6⟩), (.c (.int .i64 0))], none⟩,
    ⟨some ⟨.d0, .d6, .d0⟩, .move (.t ⟨.d0, .d0, .d0⟩), none⟩,
    ⟨some ⟨.d0, .d6, .d1⟩, .call 29 [(.t ⟨.d0, .d6, .d0⟩), (.c (.int .i64 2))], none⟩,
    ⟨some ⟨.d0, .d6, .d2⟩, .move (.t ⟨.d0, .d0, .d0⟩), none⟩,
    ⟨some ⟨.d0, .d6, .d3⟩, .move (.t ⟨.d0, .d1, .d0⟩), none⟩,
    ⟨some ⟨.d0, .d6, .d4⟩, .substr (.t ⟨.d0, .d6, .d2⟩) (some (.c (.int .i64 8))) (some (.t ⟨.d0, .d6, .d3⟩)), none⟩,
    ⟨some ⟨.d0, .d6, .d5⟩, .build [.int .i64 0, .int .i64 0, .string { data := #[] }] [(0, 1, (.t ⟨.d0, .d5, .d7⟩)), (1, 1, (.t ⟨.d0, .d6, .d1⟩)), (2, 1, (.t ⟨.d0, .d6, .d4⟩))], none⟩,
    ⟨none, .store 3 (.t ⟨.d0, .d0, .d6⟩) (.t ⟨.d0, .d6, .d5⟩), none⟩,
    ⟨some ⟨.d0, .d0, .d7⟩, .move (.c (.int .i64 0)), none⟩])
  (.ret)))))
def r_dgram_Read : List XR := [.cell ⟨.d0, .d0, .d6⟩ true 3, .tmp ⟨.d0, .d0, .d7⟩]
theorem ok_dgram_Read : okC Try.prog Try.f11.ntmps (bodyOf Try.f11) x_dgram_Read = true := by kernel_rfl
theorem okr_dgram_Read : okRs Try.prog Try.f11.results.toList r_dgram_Read = true := by kernel_rfl

/-- custref.TextPacket -/
def x_custref_TextPacket : XC :=
  .seq (.region [⟨some ⟨.d0, .d0, .d2⟩, .alloc 0 [.int .i64 0, .int .i64 0, .bool false, .bool false, .int .i64 0, .int .i64 0, .int .i64 0, .int .u32 0, .int .u32 0, .string { data := #[] }, .string { data := #[] }], none⟩,
    ⟨some ⟨.d0, .d0, .d3⟩, .move (.c (.int .i64 0)), none⟩])
  (.seq (.region [⟨some ⟨.d0, .d1, .d3⟩, .build [.int .i64 0, .int .i64 0, .bool false, .bool false, .int .i64 0, .int .i64 0, .int .i64 0, .int .u32 0, .int .u32 0, .string { data := #[] }, .string { data := #[] }] [], none⟩,
    ⟨some ⟨.d0, .d0, .d4⟩, .alloc 1 [.int .i64 0, .int .i64 0, .bool false, .bool false, .int .i64 0, .int .i64 0, .int .i64 0, .int .u32 0, .int .u32 0, .string { data := #[] }, .string { data := #[] }], none⟩,
    ⟨none, .store 11 (.t ⟨.d0, .d0, .d4⟩) (.t ⟨.d0, .d1, .d3⟩), none⟩])
  (.seq (.seq (.region [⟨some ⟨.d0, .d1, .d4⟩, .move (.t ⟨.d0, .d0, .d0⟩), none⟩,
    ⟨some ⟨.d0, .d1, .d5⟩, .slen (.t ⟨.d0, .d1, .d4⟩), none⟩,
    ⟨some ⟨.d0, .d1, .d6⟩, .bin .lss (.t ⟨.d0, .d1, .d5⟩) (.c (.int .i64 20)), none⟩])
  (.cond (.t ⟨.d0, .d1, .d6⟩)
    (.seq (.region [⟨some ⟨.d0, .d1, .d7⟩, .load true 11 (.t ⟨.d0, .d0, .d4⟩), none⟩,
      ⟨none, .store 11 (.t ⟨.d0, .d0, .d2⟩) (.t ⟨.d0, .d1, .d7⟩), none⟩,
      ⟨some ⟨.d0, .d0, .d3⟩, .move (.c (.int .i64 3)), none⟩])
    (.ret))
    (.skip)))
  (.seq (.regionD [0, 1, 3, 7, 15, 0, 32, 127, 255] [⟨some ⟨.d0, .d2, .d0⟩, .move (.t ⟨.d0, .d0, .d0⟩), none⟩,
    ⟨some ⟨.d0, .d2, .d1⟩, .strAt (.t ⟨.d0, .d2, .d0⟩) (.c (.int .i64 0)), none⟩,
    ⟨some ⟨.d0, .d2, .d2⟩, .convInt .i64 (.t ⟨.d0, .d2, .d1⟩), none⟩,
    ⟨some ⟨.d0, .d2, .d3⟩, .bin .rem (.t ⟨.d0, .d2, .d2⟩) (.c (.int .i64 16)), none⟩,
    ⟨some ⟨.d0, .d2, .d4⟩, .bin .mul (.c (.int .i64 4)) (.t ⟨.d0, .d2, .d3⟩), none⟩,
    ⟨some ⟨.d0, .d2, .d5⟩, .move (.t ⟨.d0, .d0, .d0⟩), none⟩,
    ⟨some ⟨.d0, .d2, .d6⟩, .call 15 [(.t ⟨.d0, .d2, .d5⟩), (.c (.int .i64 2))], none⟩,
    ⟨some ⟨.d0, .d0, .d5⟩, .move (.t ⟨.d0, .d2, .d4⟩), none⟩,
    ⟨some ⟨.d0, .d0, .d6⟩, .move (.t ⟨.d0, .d2, .d6⟩), none⟩])
  (.seq (.seq (.region [⟨some ⟨.d0, .d2, .d7⟩, .move (.t ⟨.d0, .d0, .d0⟩), none⟩,
    ⟨some ⟨.d0, .d3, .d0⟩, .slen (.t ⟨.d0, .d2, .d7⟩), none⟩,
    ⟨some ⟨.d0, .d3, .d1⟩, .move (.t ⟨.d0, .d0, .d5⟩), none⟩,
    ⟨some ⟨.d0, .d3, .d2⟩, .move (.t ⟨.d0, .d0, .d6⟩), none⟩,
    ⟨some ⟨.d0, .d3, .d3⟩, .maxI (.t ⟨.d0, .d3, .d1⟩) (.t ⟨.d0, .d3, .d2⟩), none⟩,
    ⟨some ⟨.d0, .d3, .d4⟩, .bin .lss (.t ⟨.d0, .d3, .d0⟩) (.t ⟨.d0, .d3, .d3⟩), none⟩])
  (.cond (.t ⟨.d0, .d3, .d4⟩)
    (.seq (.region [⟨some ⟨.d0, .d3, .d5⟩, .load true 11 (.t ⟨.d0, .d0, .d4⟩), none⟩,
      ⟨none, .store 11 (.t ⟨.d0, .d0, .d2⟩) (.t ⟨.d0, .d3, .d5⟩), none⟩,
      ⟨some ⟨.d0, .d0, .d3⟩, .move (.c (.int .i64 3)), none⟩])
    (.ret))
    (.skip)))
  (.seq (.region [⟨some ⟨.d0, .d3, .d6⟩, .move (.t ⟨.d0, .d0, .d0⟩), none⟩,
    ⟨some ⟨.d0, .d3, .d7⟩, .call 15 [(.t ⟨.d0, .d3, .d6⟩), (.c (.int .i64 6))], none⟩,
    ⟨some ⟨.d0, .d0, .d7⟩, .move (.t ⟨.d0, .d3, .d7⟩), none⟩])
  (.seq (.seq (.region [⟨some ⟨.d0, .d4, .d0⟩, .move (.t ⟨.d0, .d0, .d0⟩), none⟩,
    ⟨some ⟨.d0, .d4, .d1⟩, .strAt (.t ⟨.d0, .d4, .d0⟩) (.c (.int .i64 0)), none⟩,
    ⟨some ⟨.d0, .d4, .d2⟩, .convInt .i64 (.t ⟨.d0, .d4, .d1⟩), none⟩,
    ⟨some ⟨.d0, .d4, .d3⟩, .call 17 [(.t ⟨.d0, .d4, .d2⟩), (.c (.int .i64 69)), (.c (.int .i64 79))], none⟩,
    ⟨some ⟨.d0, .d4, .d4⟩, .un .not (.t ⟨.d0, .d4, .d3⟩), none⟩,
    ⟨some ⟨.d0, .d4, .d5⟩, .move (.t ⟨.d0, .d4, .d4⟩), none⟩,
    ⟨some ⟨.d0, .d4, .d6⟩, .move (.t ⟨.d0, .d0, .d6⟩), some (⟨.d0, .d4, .d5⟩, false)⟩,
    ⟨some ⟨.d0, .d4, .d7⟩, .move (.t ⟨.d0, .d0, .d5⟩), some (⟨.d0, .d4, .d5⟩, false)⟩,
    ⟨some ⟨.d0, .d5, .d0⟩, .bin .lss (.t ⟨.d0, .d4, .d6⟩) (.t ⟨.d0, .d4, .d7⟩), some (⟨.d0, .d4, .d5⟩, false)⟩,
    ⟨some ⟨.d0, .d5, .d1⟩, .pick (.t ⟨.d0, .d4, .d5⟩) (.c (.bool true)) (.t ⟨.d0, .d5, .d0⟩), none⟩,
    ⟨some ⟨.d0, .d5, .d2⟩, .move (.t ⟨.d0, .d5, .d1⟩), none⟩,
    ⟨some ⟨.d0, .d5, .d3⟩, .move (.t ⟨.d0, .d0, .d7⟩), some (⟨.d0, .d5, .d2⟩, false)⟩,
    ⟨some ⟨.d0, .d5, .d4⟩, .bin .geq (.t ⟨.d0, .d5, .d3⟩) (.c (.int .i64 32768)), some (⟨.d0, .d5, .d2⟩, false)⟩,
    ⟨some ⟨.d0, .d5, .d5⟩, .pick (.t ⟨.d0, .d5, .d2⟩) (.c (.bool true)) (.t ⟨.d0, .d5, .d4⟩), none⟩])
  (.cond (.t ⟨.d0, .d5, .d5⟩)
    (.seq (.region [⟨some ⟨.d0, .d5, .d6⟩, .load true 11 (.t ⟨.d0, .d0, .d4⟩), none⟩,
      ⟨none, .store 11 (.t ⟨.d0, .d0, .d2⟩) (.t ⟨.d0, .d5, .d6⟩), none⟩,
      ⟨some ⟨.d0, .d0, .d3⟩, .move (.c (.int .i64 4)), none⟩])
    (.ret))
    (.skip)))
  (.seq (.regionD [0, 1, 3, 0, 8, 0, 32, 0, 128, 384, 896, 0, 2048, 6144, 0, 16384, 49152, 0, 131072, 393216, 0, 1048600, 0, 7340056, 0, 0, 50331648, 0, 0, 0, 939524096, 2147483647, 0, 8589934591] [⟨some ⟨.d0, .d5, .d7⟩, .move (.t ⟨.d0, .d0, .d0⟩), none⟩,
    ⟨some ⟨.d0, .d6, .d0⟩, .strAt (.t ⟨.d0, .d5, .d7⟩) (.c (.int .i64 1)), none⟩,
    ⟨some ⟨.d0, .d6, .d1⟩, .convInt .i64 (.t ⟨.d0, .d6, .d0⟩), none⟩,
    ⟨some ⟨.d0, .d6, .d2⟩, .move (.t ⟨.d0, .d0, .d0⟩), none⟩,
    ⟨some ⟨.d0, .d6, .d3⟩, .call 15 [(.t ⟨.d0, .d6, .d2⟩), (.c (.int .i64 4))], none⟩,
    ⟨some ⟨.d0, .d6, .d4⟩, .move (.t ⟨.d0, .d0, .d7⟩), none⟩,
    ⟨some ⟨.d0, .d6, .d5⟩, .bin .rem (.t ⟨.d0, .d6, .d4⟩) (.c (.int .i64 8192)), none⟩,
    ⟨some ⟨.d0, .d6, .d6⟩, .move (.t ⟨.d0, .d0, .d7⟩), none⟩,
    ⟨some ⟨.d0, .d6, .d7⟩, .bin .quo (.t ⟨.d0, .d6, .d6⟩) (.c (.int .i64 8192)), none⟩,
    ⟨some ⟨.d0, .d7, .d0⟩, .bin .rem (.t ⟨.d0, .d6, .d7⟩) (.c (.int .i64 2)), none⟩,
    ⟨some ⟨.d0, .d7, .d1⟩, .bin .eql (.t ⟨.d0, .d7, .d0⟩) (.c (.int .i64 1)), none⟩,
    ⟨some ⟨.d0, .d7, .d2⟩, .move (.t ⟨.d0, .d0, .d7⟩), none⟩,
    ⟨some ⟨.d0, .d7, .d3⟩, .bin .quo (.t ⟨.d0, .d7, .d2⟩) (.c (.int .i64 16384)), none⟩,
    ⟨some ⟨.d0, .d7, .d4⟩, .bin .eql (.t ⟨.d0, .d7, .d3⟩) (.c (.int .i64 1)), none⟩,
    ⟨some ⟨.d0, .d7, .d5⟩, .move (.t ⟨.d0, .d0, .d0⟩), none⟩,
    ⟨some ⟨.d0, .d7, .d6⟩, .strAt (.t ⟨.d0, .d7, .d5⟩) (.c (.int .i64 8)), none⟩,
    ⟨some ⟨.d0, .d7, .d7⟩, .convInt .i64 (.t ⟨.d0, .d7, .d6⟩), none⟩,
    ⟨some ⟨.d1, .d0, .d0⟩, .move (.t ⟨.d0, .d0, .d0⟩), none⟩,
    ⟨some ⟨.d1, .d0, .d1⟩, .strAt (.t ⟨.d1, .d0, .d0⟩) (.c (.int .i64 9)), none⟩,
    ⟨some ⟨.d1, .d0, .d2⟩, .convInt .i64 (.t ⟨.d1, .d0, .d1⟩), none⟩,
    ⟨some ⟨.d1, .d0, .d3⟩, .move (.t ⟨.d0, .d0, .d0⟩), none⟩,
    ⟨some ⟨.d1, .d0, .d4⟩, .call 30 [(.t ⟨.d1, .d0, .d3⟩), (.c (.int .i64 12))], none⟩,
    ⟨some ⟨.d1, .d0, .d5⟩, .move (.t ⟨.d0, .d0, .d0⟩), none⟩,
    ⟨some ⟨.d1, .d0, .d6⟩, .call 30 [(.t ⟨.d1, .d0, .d5⟩), (.c (.int .i64 16))], none⟩,
    ⟨some ⟨.d1, .d0, .d7⟩, .move (.t ⟨.d0, .d0, .d0⟩), none⟩,
    ⟨some ⟨.d1, .d1, .d0⟩, .move (.t ⟨.d0, .d0, .d5⟩), none⟩,
    ⟨some ⟨.d1, .d1, .d1⟩, .substr (.t ⟨.d1, .d0, .d7⟩) (some (.c (.int .i64 20))) (some (.t ⟨.d1, .d1, .d0⟩)), none⟩,
    ⟨some ⟨.d1, .d1, .d2⟩, .move (.t ⟨.d0, .d0, .d0⟩), none⟩,
    ⟨some ⟨.d1, .d1, .d3⟩, .move (.t ⟨.d0, .d0, .d5⟩), none⟩,
    ⟨some ⟨.d1, .d1, .d4⟩, .move (.t ⟨.d0, .d0, .d6⟩), none⟩,
    ⟨some ⟨.d1, .d1, .d5⟩, .substr (.t ⟨.d1, .d1, .d2⟩) (some (.t ⟨.d1, .d1, .d3⟩)) (some (.t ⟨.d1, .d1, .d4⟩)), none⟩,
    ⟨some ⟨.d1, .d1, .d6⟩, .build [.int .i64 0, .int .i64 0, .bool false, .bool false, .int .i64 0, .int .i64 0, .int .i64 0, .int .u32 0, .int .u32 0, .string { data := #[] }, .string { data := #[] }] [(0, 1, (.t ⟨.d0, .d6, .d1⟩)), (1, 1, (.t ⟨.d0, .d6, .d3⟩)), (4, 1, (.t ⟨.d0, .d6, .d5⟩)), (3, 1, (.t ⟨.d0, .d7, .d1⟩)), (2, 1, (.t ⟨.d0, .d7, .d4⟩)), (5, 1, (.t ⟨.d0, .d7, .d7⟩)), (6, 1, (.t ⟨.d1, .d0, .d2⟩)), (7, 1, (.t ⟨.d1, .d0, .d4⟩)), (8, 1, (.t ⟨.d1, .d0, .d6⟩)), (9, 1, (.t ⟨.d1, .d1, .d1⟩)), (10, 1, (.t ⟨.d1, .d1, .d5⟩))], none⟩,
    ⟨some ⟨.d0, .d1, .d0⟩, .alloc 2 [.int .i64 0, .int .i64 0, .bool false, .bool false, .int .i64 0, .int .i64 0, .int .i64 0, .int .u32 0, .int .u32 0, .string { data := #[] }, .string { data := #[] }], none⟩,
    ⟨none, .store 11 (.t ⟨.d0, .d1, .d0⟩) (.t ⟨.d1, .d1, .d6⟩), none⟩])
  (.seq (.seq (.region [⟨some ⟨.d1, .d2, .d0⟩, .load true 11 (.t ⟨.d0, .d1, .d0⟩), none⟩,
    ⟨some ⟨.d1, .d2, .d1⟩, .call 31 [(.t ⟨.d1, .d2, .d0⟩)], none⟩,
    ⟨some ⟨.d1, .d1, .d7⟩, .move (.t ⟨.d1, .d2, .d1⟩), none⟩,
    ⟨some ⟨.d1, .d2, .d2⟩, .extract 0 (.t ⟨.d1, .d1, .d7⟩), none⟩,
    ⟨some ⟨.d1, .d2, .d3⟩, .extract 1 (.t ⟨.d1, .d1, .d7⟩), none⟩,
    ⟨some ⟨.d0, .d1, .d1⟩, .move (.t ⟨.d1, .d2, .d2⟩), none⟩,
    ⟨some ⟨.d0, .d1, .d2⟩, .move (.t ⟨.d1, .d2, .d3⟩), none⟩])
  (.seq (.region [⟨some ⟨.d1, .d2, .d4⟩, .move (.t ⟨.d0, .d1, .d2⟩), none⟩,
    ⟨some ⟨.d1, .d2, .d5⟩, .bin .neq (.t ⟨.d1, .d2, .d4⟩) (.c (.int .i64 0)), none⟩])
  (.cond (.t ⟨.d1, .d2, .d5⟩)
    (.seq (.region [⟨some ⟨.d1, .d2, .d6⟩, .load true 11 (.t ⟨.d0, .d0, .d4⟩), none⟩,
      ⟨none, .store 11 (.t ⟨.d0, .d0, .d2⟩) (.t ⟨.d1, .d2, .d6⟩), none⟩,
      ⟨some ⟨.d0, .d0, .d3⟩, .move (.c (.int .i64 4)), none⟩])
    (.ret))
    (.skip))))
  (.seq (.seq (.region [⟨some ⟨.d1, .d2, .d7⟩, .move (.t ⟨.d0, .d0, .d0⟩), none⟩,
    ⟨some ⟨.d1, .d3, .d0⟩, .move (.t ⟨.d0, .d0, .d5⟩), none⟩,
    ⟨some ⟨.d1, .d3, .d1⟩, .substr (.t ⟨.d1, .d2, .d7⟩) none (some (.t ⟨.d1, .d3, .d0⟩)), none⟩,
    ⟨some ⟨.d1, .d3, .d2⟩, .call 32 [(.c (.int .i64 0)), (.t ⟨.d1, .d3, .d1⟩)], none⟩,
    ⟨some ⟨.d1, .d3, .d3⟩, .bin .neq (.t ⟨.d1, .d3, .d2⟩) (.c (.int .i64 65535)), none⟩])
  (.cond (.t ⟨.d1, .d3, .d3⟩)
    (.seq (.region [⟨some ⟨.d1, .d3, .d4⟩, .load true 11 (.t ⟨.d0, .d0, .d4⟩), none⟩,
      ⟨none, .store 11 (.t ⟨.d0, .d0, .d2⟩) (.t ⟨.d1, .d3, .d4⟩), none⟩,
      ⟨some ⟨.d0, .d0, .d3⟩, .move (.c (.int .i64 5)), none⟩])
    (.ret))
    (.skip)))
  (.seq (.region [⟨some ⟨.d1, .d3, .d5⟩, .load true 11 (.t ⟨.d0, .d1, .d0⟩), none⟩,
    ⟨none, .store 11 (.t ⟨.d0, .d0, .d2⟩) (.t ⟨.d1, .d3, .d5⟩), none⟩,
    ⟨some ⟨.d0, .d0, .d3⟩, .move (.c (.int .i64 0)), none⟩])
  (.ret)))))))))))
def r_custref_TextPacket : List XR := [.cell ⟨.d0, .d0, .d2⟩ true 11, .tmp ⟨.d0, .d0, .d3⟩]
theorem ok_custref_TextPacket : okC Try.prog Try.f12.ntmps (bodyOf Try.f12) x_custref_TextPacket = true := by kernel_rfl
theorem okr_custref_TextPacket : okRs Try.prog Try.f12.results.toList r_custref_TextPacket = true := by kernel_rfl

/-- custref.TextSegment -/
def x_custref_TextSegment : XC :=
  .seq (.region [⟨some ⟨.d0, .d0, .d6⟩, .alloc 0 [.int .i64 0, .int .i64 0, .int .u32 0, .int .u32 0, .int .i64 0, .int .i64 0, .int .i64 0, .slice none 0 0, .string { data := #[] }], none⟩,
    ⟨some ⟨.d0, .d0, .d7⟩, .move (.c (.int .i64 0)), none⟩])
  (.seq (.region [⟨some ⟨.d0, .d1, .d4⟩, .build [.int .i64 0, .int .i64 0, .int .u32 0, .int .u32 0, .int .i64 0, .int .i64 0, .int .i64 0, .slice none 0 0, .string { data := #[] }] [], none⟩,
    ⟨some ⟨.d0, .d1, .d0⟩, .alloc 1 [.int .i64 0, .int .i64 0, .int .u32 0, .int .u32 0, .int .i64 0, .int .i64 0, .int .i64 0, .slice none 0 0, .string { data := #[] }], none⟩,
    ⟨none, .store 9 (.t ⟨.d0, .d1, .d0⟩) (.t ⟨.d0, .d1, .d4⟩), none⟩])
  (.seq (.seq (.region [⟨some ⟨.d0, .d1, .d5⟩, .move (.t ⟨.d0, .d0, .d0⟩), none⟩,
    ⟨some ⟨.d0, .d1, .d6⟩, .slen (.t ⟨.d0, .d1, .d5⟩), none⟩,
    ⟨some ⟨.d0, .d1, .d7⟩, .bin .lss (.t ⟨.d0, .d1, .d6⟩) (.c (.int .i64 20)), none⟩,
    ⟨some ⟨.d0, .d2, .d0⟩, .move (.t ⟨.d0, .d1, .d7⟩), none⟩,
    ⟨some ⟨.d0, .d2, .d1⟩, .move (.t ⟨.d0, .d0, .d0⟩), some (⟨.d0, .d2, .d0⟩, false)⟩,
    ⟨some ⟨.d0, .d2, .d2⟩, .slen (.t ⟨.d0, .d2, .d1⟩), some (⟨.d0, .d2, .d0⟩, false)⟩,
    ⟨some ⟨.d0, .d2, .d3⟩, .move (.t ⟨.d0, .d0, .d0⟩), some (⟨.d0, .d2, .d0⟩, false)⟩,
    ⟨some ⟨.d0, .d2, .d4⟩, .strAt (.t ⟨.d0, .d2, .d3⟩) (.c (.int .i64 12)), some (⟨.d0, .d2, .d0⟩, false)⟩,
    ⟨some ⟨.d0, .d2, .d5⟩, .convInt .i64 (.t ⟨.d0, .d2, .d4⟩), some (⟨.d0, .d2, .d0⟩, false)⟩,
    ⟨some ⟨.d0, .d2, .d6⟩, .bin .quo (.t ⟨.d0, .d2, .d5⟩) (.c (.int .i64 16)), some (⟨.d0, .d2, .d0⟩, false)⟩,
    ⟨some ⟨.d0, .d2, .d7⟩, .bin .mul (.t ⟨.d0, .d2, .d6⟩) (.c (.int .i64 4)), some (⟨.d0, .d2, .d0⟩, false)⟩,
    ⟨some ⟨.d0, .d3, .d0⟩, .bin .lss (.t ⟨.d0, .d2, .d2⟩) (.t ⟨.d0, .d2, .d7⟩), some (⟨.d0, .d2, .d0⟩, false)⟩,
    ⟨some ⟨.d0, .d3, .d1⟩, .pick (.t ⟨.d0, .d2, .d0⟩) (.c (.bool true)) (.t ⟨.d0, .d3, .d0⟩), none⟩])
  (.cond (.t ⟨.d0, .d3, .d1⟩)
    (.seq (.region [⟨some ⟨.d0, .d3, .d2⟩, .load true 9 (.t ⟨.d0, .d1, .d0⟩), none⟩,
      ⟨none, .store 9 (.t ⟨.d0, .d0, .d6⟩) (.t ⟨.d0, .d3, .d2⟩), none⟩,
      ⟨some ⟨.d0, .d0, .d7⟩, .move (.c (.int .i64 3)), none⟩])
    (.ret))
    (.skip)))
  (.seq (.region [⟨some ⟨.d0, .d3, .d3⟩, .move (.t ⟨.d0, .d0, .d0⟩), none⟩,
    ⟨some ⟨.d0, .d3, .d4⟩, .strAt (.t ⟨.d0, .d3, .d3⟩) (.c (.int .i64 12)), none⟩,
    ⟨some ⟨.d0, .d3, .d5⟩, .convInt .i64 (.t ⟨.d0, .d3, .d4⟩), none⟩,
    ⟨some ⟨.d0, .d3, .d6⟩, .bin .quo (.t ⟨.d0, .d3, .d5⟩) (.c (.int .i64 16)), none⟩,
    ⟨some ⟨.d0, .d3, .d7⟩, .bin .mul (.t ⟨.d0, .d3, .d6⟩) (.c (.int .i64 4)), none⟩,
    ⟨some ⟨.d0, .d1, .d1⟩, .move (.t ⟨.d0, .d3, .d7⟩), none⟩])
  (.seq (.seq (.region [⟨some ⟨.d0, .d4, .d0⟩, .move (.t ⟨.d0, .d1, .d1⟩), none⟩,
    ⟨some ⟨.d0, .d4, .d1⟩, .bin .lss (.t ⟨.d0, .d4, .d0⟩) (.c (.int .i64 20)), none⟩,
    ⟨some ⟨.d0, .d4, .d2⟩, .move (.t ⟨.d0, .d4, .d1⟩), none⟩,
    ⟨some ⟨.d0, .d4, .d3⟩, .move (.t ⟨.d0, .d0, .d0⟩), some (⟨.d0, .d4, .d2⟩, false)⟩,
    ⟨some ⟨.d0, .d4, .d4⟩, .strAt (.t ⟨.d0, .d4, .d3⟩) (.c (.int .i64 12)), some (⟨.d0, .d4, .d2⟩, false)⟩,
    ⟨some ⟨.d0, .d4, .d5⟩, .convInt .i64 (.t ⟨.d0, .d4, .d4⟩), some (⟨.d0, .d4, .d2⟩, false)⟩,
    ⟨some ⟨.d0, .d4, .d6⟩, .move (.t ⟨.d0, .d1, .d1⟩), some (⟨.d0, .d4, .d2⟩, false)⟩,
    ⟨some ⟨.d0, .d4, .d7⟩, .bin .mul (.c (.int .i64 4)) (.t ⟨.d0, .d4, .d6⟩), some (⟨.d0, .d4, .d2⟩, false)⟩,
    ⟨some ⟨.d0, .d5, .d0⟩, .bin .neq (.t ⟨.d0, .d4, .d5⟩) (.t ⟨.d0, .d4, .d7⟩), some (⟨.d0, .d4, .d2⟩, false)⟩,
    ⟨some ⟨.d0, .d5, .d1⟩, .pick (.t ⟨.d0, .d4, .d2⟩) (.c (.bool true)) (.t ⟨.d0, .d5, .d0⟩), none⟩])
  (.cond (.t ⟨.d0, .d5, .d1⟩)
    (.seq (.region [⟨some ⟨.d0, .d5, .d2⟩, .load true 9 (.t ⟨.d0, .d1, .d0⟩), none⟩,
      ⟨none, .store 9 (.t ⟨.d0, .d0, .d6⟩) (.t ⟨.d0, .d5, .d2⟩), none⟩,
      ⟨some ⟨.d0, .d0, .d7⟩, .move (.c (.int .i64 4)), none⟩])
    (.ret))
    (.skip)))
  (.seq (.seq (.region [⟨some ⟨.d0, .d5, .d3⟩, .move (.t ⟨.d0, .d0, .d0⟩), none⟩,
    ⟨some ⟨.d0, .d5, .d4⟩, .slen (.t ⟨.d0, .d5, .d3⟩), none⟩,
    ⟨some ⟨.d0, .d5, .d5⟩, .move (.t ⟨.d0, .d1, .d1⟩), none⟩,
    ⟨some ⟨.d0, .d5, .d6⟩, .bin .add (.c (.int .i64 65455)) (.t ⟨.d0, .d5, .d5⟩), none⟩,
    ⟨some ⟨.d0, .d5, .d7⟩, .bin .gtr (.t ⟨.d0, .d5, .d4⟩) (.t ⟨.d0, .d5, .d6⟩), none⟩])
  (.cond (.t ⟨.d0, .d5, .d7⟩)
    (.seq (.region [⟨some ⟨.d0, .d6, .d0⟩, .load true 9 (.t ⟨.d0, .d1, .d0⟩), none⟩,
      ⟨none, .store 9 (.t ⟨.d0, .d0, .d6⟩) (.t ⟨.d0, .d6, .d0⟩), none⟩,
      ⟨some ⟨.d0, .d0, .d7⟩, .move (.c (.int .i64 2)), none⟩])
    (.ret))
    (.skip)))
  (.seq (.region [⟨some ⟨.d0, .d6, .d2⟩, .move (.t ⟨.d0, .d0, .d0⟩), none⟩,
    ⟨some ⟨.d0, .d6, .d3⟩, .move (.t ⟨.d0, .d1, .d1⟩), none⟩,
    ⟨some ⟨.d0, .d6, .d4⟩, .substr (.t ⟨.d0, .d6, .d2⟩) (some (.c (.int .i64 20))) (some (.t ⟨.d0, .d6, .d3⟩)), none⟩,
    ⟨some ⟨.d0, .d6, .d5⟩, .call 33 [(.t ⟨.d0, .d6, .d4⟩)], none⟩,
    ⟨some ⟨.d0, .d6, .d1⟩, .move (.t ⟨.d0, .d6, .d5⟩), none⟩,
    ⟨some ⟨.d0, .d6, .d6⟩, .extract 0 (.t ⟨.d0, .d6, .d1⟩), none⟩,
    ⟨some ⟨.d0, .d6, .d7⟩, .extract 1 (.t ⟨.d0, .d6, .d1⟩), none⟩,
    ⟨some ⟨.d0, .d1, .d2⟩, .move (.t ⟨.d0, .d6, .d6⟩), none⟩,
    ⟨some ⟨.d0, .d1, .d3⟩, .move (.t ⟨.d0, .d6, .d7⟩), none⟩])
  (.seq (.seq (.region [⟨some ⟨.d0, .d7, .d0⟩, .move (.t ⟨.d0, .d1, .d3⟩), none⟩,
    ⟨some ⟨.d0, .d7, .d1⟩, .un .not (.t ⟨.d0, .d7, .d0⟩), none⟩])
  (.cond (.t ⟨.d0, .d7, .d1⟩)
    (.seq (.region [⟨some ⟨.d0, .d7, .d2⟩, .load true 9 (.t ⟨.d0, .d1, .d0⟩), none⟩,
      ⟨none, .store 9 (.t ⟨.d0, .d0, .d6⟩) (.t ⟨.d0, .d7, .d2⟩), none⟩,
      ⟨some ⟨.d0, .d0, .d7⟩, .move (.c (.int .i64 4)), none⟩])
    (.ret))
    (.skip)))
  (.seq (.seq (.region [⟨some ⟨.d0, .d7, .d3⟩, .move (.t ⟨.d0, .d0, .d1⟩), none⟩,
    ⟨some ⟨.d0, .d7, .d4⟩, .move (.t ⟨.d0, .d0, .d2⟩), none⟩,
    ⟨some ⟨.d0, .d7, .d5⟩, .move (.t ⟨.d0, .d0, .d0⟩), none⟩,
    ⟨some ⟨.d0, .d7, .d6⟩, .slen (.t ⟨.d0, .d7, .d5⟩), none⟩,
    ⟨some ⟨.d0, .d7, .d7⟩, .call 34 [(.t ⟨.d0, .d7, .d3⟩), (.t ⟨.d0, .d7, .d4⟩), (.c (.int .i64 6)), (.t ⟨.d0, .d7, .d6⟩)], none⟩,
    ⟨some ⟨.d1, .d0, .d0⟩, .call 32 [(.c (.int .i64 0)), (.t ⟨.d0, .d7, .d7⟩)], none⟩,
    ⟨some ⟨.d1, .d0, .d1⟩, .move (.t ⟨.d0, .d0, .d0⟩), none⟩,
    ⟨some ⟨.d1, .d0, .d2⟩, .call 32 [(.t ⟨.d1, .d0, .d0⟩), (.t ⟨.d1, .d0, .d1⟩)], none⟩,
    ⟨some ⟨.d1, .d0, .d3⟩, .bin .neq (.t ⟨.d1, .d0, .d2⟩) (.c (.int .i64 65535)), none⟩])
  (.cond (.t ⟨.d1, .d0, .d3⟩)
    (.seq (.region [⟨some ⟨.d1, .d0, .d4⟩, .load true 9 (.t ⟨.d0, .d1, .d0⟩), none⟩,
      ⟨none, .store 9 (.t ⟨.d0, .d0, .d6⟩) (.t ⟨.d1, .d0, .d4⟩), none⟩,
      ⟨some ⟨.d0, .d0, .d7⟩, .move (.c (.int .i64 5)), none⟩])
    (.ret))
    (.skip)))
  (.seq (.regionD [0, 1, 0, 7, 0, 31, 0, 127, 0, 256, 768, 0, 2303, 0, 14591, 0, 0, 0, 196608, 524287, 1048575, 2097151] [⟨some ⟨.d1, .d0, .d5⟩, .move (.t ⟨.d0, .d0, .d0⟩), none⟩,
    ⟨some ⟨.d1, .d0, .d6⟩, .call 15 [(.t ⟨.d1, .d0, .d5⟩), (.c (.int .i64 0))], none⟩,
    ⟨some ⟨.d1, .d0, .d7⟩, .move (.t ⟨.d0, .d0, .d0⟩), none⟩,
    ⟨some ⟨.d1, .d1, .d0⟩, .call 15 [(.t ⟨.d1, .d0, .d7⟩), (.c (.int .i64 2))], none⟩,
    ⟨some ⟨.d1, .d1, .d1⟩, .move (.t ⟨.d0, .d0, .d0⟩), none⟩,
    ⟨some ⟨.d1, .d1, .d2⟩, .call 30 [(.t ⟨.d1, .d1, .d1⟩), (.c (.int .i64 4))], none⟩,
    ⟨some ⟨.d1, .d1, .d3⟩, .move (.t ⟨.d0, .d0, .d0⟩), none⟩,
    ⟨some ⟨.d1, .d1, .d4⟩, .call 30 [(.t ⟨.d1, .d1, .d3⟩), (.c (.int .i64 8))], none⟩,
    ⟨some ⟨.d1, .d1, .d5⟩, .move (.t ⟨.d0, .d0, .d0⟩), none⟩,
    ⟨some ⟨.d1, .d1, .d6⟩, .strAt (.t ⟨.d1, .d1, .d5⟩) (.c (.int .i64 13)), none⟩,
    ⟨some ⟨.d1, .d1, .d7⟩, .convInt .i64 (.t ⟨.d1, .d1, .d6⟩), none⟩,
    ⟨some ⟨.d1, .d2, .d0⟩, .move (.t ⟨.d0, .d0, .d0⟩), none⟩,
    ⟨some ⟨.d1, .d2, .d1⟩, .call 15 [(.t ⟨.d1, .d2, .d0⟩), (.c (.int .i64 14))], none⟩,
    ⟨some ⟨.d1, .d2, .d2⟩, .move (.t ⟨.d0, .d0, .d0⟩), none⟩,
    ⟨some ⟨.d1, .d2, .d3⟩, .call 15 [(.t ⟨.d1, .d2, .d2⟩), (.c (.int .i64 18))], none⟩,
    ⟨some ⟨.d1, .d2, .d4⟩, .move (.t ⟨.d0, .d1, .d2⟩), none⟩,
    ⟨some ⟨.d1, .d2, .d5⟩, .move (.t ⟨.d0, .d0, .d0⟩), none⟩,
    ⟨some ⟨.d1, .d2, .d6⟩, .move (.t ⟨.d0, .d1, .d1⟩), none⟩,
    ⟨some ⟨.d1, .d2, .d7⟩, .substr (.t ⟨.d1, .d2, .d5⟩) (some (.t ⟨.d1, .d2, .d6⟩)) none, none⟩,
    ⟨some ⟨.d1, .d3, .d0⟩, .build [.int .i64 0, .int .i64 0, .int .u32 0, .int .u32 0, .int .i64 0, .int .i64 0, .int .i64 0, .slice none 0 0, .string { data := #[] }] [(0, 1, (.t ⟨.d1, .d0, .d6⟩)), (1, 1, (.t ⟨.d1, .d1, .d0⟩)), (2, 1, (.t ⟨.d1, .d1, .d2⟩)), (3, 1, (.t ⟨.d1, .d1, .d4⟩)), (4, 1, (.t ⟨.d1, .d1, .d7⟩)), (5, 1, (.t ⟨.d1, .d2, .d1⟩)), (6, 1, (.t ⟨.d1, .d2, .d3⟩)), (7, 1, (.t ⟨.d1, .d2, .d4⟩)), (8, 1, (.t ⟨.d1, .d2, .d7⟩))], none⟩,
    ⟨none, .store 9 (.t ⟨.d0, .d0, .d6⟩) (.t ⟨.d1, .d3, .d0⟩), none⟩,
    ⟨some ⟨.d0, .d0, .d7⟩, .move (.c (.int .i64 0)), none⟩])
  (.ret))))))))))
def r_custref_TextSegment : List XR := [.cell ⟨.d0, .d0, .d6⟩ true 9, .tmp ⟨.d0, .d0, .d7⟩]
theorem ok_custref_TextSegment : okC Try.prog Try.f13.ntmps (bodyOf Try.f13) x_custref_TextSegment = true := by kernel_rfl
theorem okr_custref_TextSegment : okRs Try.prog Try.f13.results.toList r_custref_TextSegment = true := by kernel_rfl

/-- custref.TextLetter -/
def x_custref_TextLetter : XC :=
  .seq (.region [⟨some ⟨.d0, .d0, .d6⟩, .alloc 0 [.int .i64 0, .int .i64 0, .string { data := #[] }], none⟩,
    ⟨some ⟨.d0, .d0, .d7⟩, .move (.c (.int .i64 0)), none⟩])
  (.seq (.region [⟨some ⟨.d0, .d1, .d2⟩, .build [.int .i64 0, .int .i64 0, .string { data := #[] }] [], none⟩,
    ⟨some ⟨.d0, .d1, .d0⟩, .alloc 1 [.int .i64 0, .int .i64 0, .string { data := #[] }], none⟩,
    ⟨none, .store 3 (.t ⟨.d0, .d1, .d0⟩) (.t ⟨.d0, .d1, .d2⟩), none⟩])
  (.seq (.seq (.region [⟨some ⟨.d0, .d1, .d3⟩, .move (.t ⟨.d0, .d0, .d0⟩), none⟩,
    ⟨some ⟨.d0, .d1, .d4⟩, .slen (.t ⟨.d0, .d1, .d3⟩), none⟩,
    ⟨some ⟨.d0, .d1, .d5⟩, .bin .lss (.t ⟨.d0, .d1, .d4⟩) (.c (.int .i64 8)), none⟩,
    ⟨some ⟨.d0, .d1, .d6⟩, .move (.t ⟨.d0, .d1, .d5⟩), none⟩,
    ⟨some ⟨.d0, .d1, .d7⟩, .move (.t ⟨.d0, .d0, .d0⟩), some (⟨.d0, .d1, .d6⟩, false)⟩,
    ⟨some ⟨.d0, .d2, .d0⟩, .slen (.t ⟨.d0, .d1, .d7⟩), some (⟨.d0, .d1, .d6⟩, false)⟩,
    ⟨some ⟨.d0, .d2, .d1⟩, .move (.t ⟨.d0, .d0, .d0⟩), some (⟨.d0, .d1, .d6⟩, false)⟩,
    ⟨some ⟨.d0, .d2, .d2⟩, .call 15 [(.t ⟨.d0, .d2, .d1⟩), (.c (.int .i64 4))], some (⟨.d0, .d1, .d6⟩, false)⟩,
    ⟨some ⟨.d0, .d2, .d3⟩, .bin .lss (.t ⟨.d0, .d2, .d0⟩) (.t ⟨.d0, .d2, .d2⟩), some (⟨.d0, .d1, .d6⟩, false)⟩,
    ⟨some ⟨.d0, .d2, .d4⟩, .pick (.t ⟨.d0, .d1, .d6⟩) (.c (.bool true)) (.t ⟨.d0, .d2, .d3⟩), none⟩])
  (.cond (.t ⟨.d0, .d2, .d4⟩)
    (.seq (.region [⟨some ⟨.d0, .d2, .d5⟩, .load true 3 (.t ⟨.d0, .d1, .d0⟩), none⟩,
      ⟨none, .store 3 (.t ⟨.d0, .d0, .d6⟩) (.t ⟨.d0, .d2, .d5⟩), none⟩,
      ⟨some ⟨.d0, .d0, .d7⟩, .move (.c (.int .i64 3)), none⟩])
    (.ret))
    (.skip)))
  (.seq (.region [⟨some ⟨.d0, .d2, .d6⟩, .move (.t ⟨.d0, .d0, .d0⟩), none⟩,
    ⟨some ⟨.d0, .d2, .d7⟩, .call 15 [(.t ⟨.d0, .d2, .d6⟩), (.c (.int .i64 4))], none⟩,
    ⟨some ⟨.d0, .d1, .d1⟩, .move (.t ⟨.d0, .d2, .d7⟩), none⟩])
  (.seq (.seq (.region [⟨some ⟨.d0, .d3, .d0⟩, .move (.t ⟨.d0, .d1, .d1⟩), none⟩,
    ⟨some ⟨.d0, .d3, .d1⟩, .call 17 [(.t ⟨.d0, .d3, .d0⟩), (.c (.int .i64 8)), (.c (.int .i64 65515))], none⟩,
    ⟨some ⟨.d0, .d3, .d2⟩, .un .not (.t ⟨.d0, .d3, .d1⟩), none⟩])
  (.cond (.t ⟨.d0, .d3, .d2⟩)
    (.seq (.region [⟨some ⟨.d0, .d3, .d3⟩, .load true 3 (.t ⟨.d0, .d1, .d0⟩), none⟩,
      ⟨none, .store 3 (.t ⟨.d0, .d0, .d6⟩) (.t ⟨.d0, .d3, .d3⟩), none⟩,
      ⟨some ⟨.d0, .d0, .d7⟩, .move (.c (.int .i64 4)), none⟩])
    (.ret))
    (.skip)))
  (.seq (.seq (.regionD [0, 1, 3, 7, 15, 15, 15, 127, 15, 15, 783, 2047, 4095, 8191, 16383] [⟨some ⟨.d0, .d3, .d4⟩, .move (.t ⟨.d0, .d0, .d0⟩), none⟩,
    ⟨some ⟨.d0, .d3, .d5⟩, .call 15 [(.t ⟨.d0, .d3, .d4⟩), (.c (.int .i64 6))], none⟩,
    ⟨some ⟨.d0, .d3, .d6⟩, .bin .gtr (.t ⟨.d0, .d3, .d5⟩) (.c (.int .i64 0)), none⟩,
    ⟨some ⟨.d0, .d3, .d7⟩, .move (.t ⟨.d0, .d3, .d6⟩), none⟩,
    ⟨some ⟨.d0, .d4, .d0⟩, .move (.t ⟨.d0, .d0, .d1⟩), some (⟨.d0, .d3, .d7⟩, true)⟩,
    ⟨some ⟨.d0, .d4, .d1⟩, .move (.t ⟨.d0, .d0, .d2⟩), some (⟨.d0, .d3, .d7⟩, true)⟩,
    ⟨some ⟨.d0, .d4, .d2⟩, .move (.t ⟨.d0, .d1, .d1⟩), some (⟨.d0, .d3, .d7⟩, true)⟩,
    ⟨some ⟨.d0, .d4, .d3⟩, .call 34 [(.t ⟨.d0, .d4, .d0⟩), (.t ⟨.d0, .d4, .d1⟩), (.c (.int .i64 17)), (.t ⟨.d0, .d4, .d2⟩)], some (⟨.d0, .d3, .d7⟩, true)⟩,
    ⟨some ⟨.d0, .d4, .d4⟩, .move (.t ⟨.d0, .d0, .d0⟩), some (⟨.d0, .d3, .d7⟩, true)⟩,
    ⟨some ⟨.d0, .d4, .d5⟩, .move (.t ⟨.d0, .d1, .d1⟩), some (⟨.d0, .d3, .d7⟩, true)⟩,
    ⟨some ⟨.d0, .d4, .d6⟩, .substr (.t ⟨.d0, .d4, .d4⟩) none (some (.t ⟨.d0, .d4, .d5⟩)), some (⟨.d0, .d3, .d7⟩, true)⟩,
    ⟨some ⟨.d0, .d4, .d7⟩, .sbin .add (.t ⟨.d0, .d4, .d3⟩) (.t ⟨.d0, .d4, .d6⟩), some (⟨.d0, .d3, .d7⟩, true)⟩,
    ⟨some ⟨.d0, .d5, .d0⟩, .call 32 [(.c (.int .i64 0)), (.t ⟨.d0, .d4, .d7⟩)], some (⟨.d0, .d3, .d7⟩, true)⟩,
    ⟨some ⟨.d0, .d5, .d1⟩, .bin .neq (.t ⟨.d0, .d5, .d0⟩) (.c (.int .i64 65535)), some (⟨.d0, .d3, .d7⟩, true)⟩,
    ⟨some ⟨.d0, .d5, .d2⟩, .pick (.t ⟨.d0, .d3, .d7⟩) (.t ⟨.d0, .d5, .d1⟩) (.c (.bool false)), none⟩])
  (.cond (.t ⟨.d0, .d5, .d2⟩)
    (.seq (.region [⟨some ⟨.d0, .d5, .d3⟩, .load true 3 (.t ⟨.d0, .d1, .d0⟩), none⟩,
      ⟨none, .store 3 (.t ⟨.d0, .d0, .d6⟩) (.t ⟨.d0, .d5, .d3⟩), none⟩,
      ⟨some ⟨.d0, .d0, .d7⟩, .move (.c (.int .i64 5)), none⟩])
    (.ret))
    (.skip)))
  (.seq (.regionD [0, 1, 0, 7, 0, 0, 48, 127, 255, 511] [⟨some ⟨.d0, .d5, .d4⟩, .move (.t ⟨.d0, .d0, .d0⟩), none⟩,
    ⟨some ⟨.d0, .d5, .d5⟩, .call 15 [(.t ⟨.d0, .d5, .d4⟩), (.c (.int .i64 0))], none⟩,
    ⟨some ⟨.d0, .d5, .d6⟩, .move (.t ⟨.d0, .d0, .d0⟩), none⟩,
    ⟨some ⟨.d0, .d5, .d7⟩, .call 15 [(.t ⟨.d0, .d5, .d6⟩), (.c (.int .i64 2))], none⟩,
    ⟨some ⟨.d0, .d6, .d0⟩, .move (.t ⟨.d0, .d0, .d0⟩), none⟩,
    ⟨some ⟨.d0, .d6, .d1⟩, .move (.t ⟨.d0, .d1, .d1⟩), none⟩,
    ⟨some ⟨.d0, .d6, .d2⟩, .substr (.t ⟨.d0, .d6, .d0⟩) (some (.c (.int .i64 8))) (some (.t ⟨.d0, .d6, .d1⟩)), none⟩,
    ⟨some ⟨.d0, .d6, .d3⟩, .build [.int .i64 0, .int .i64 0, .string { data := #[] }] [(0, 1, (.t ⟨.d0, .d5, .d5⟩)), (1, 1, (.t ⟨.d0, .d5, .d7⟩)), (2, 1, (.t ⟨.d0, .d6, .d2⟩))], none⟩,
    ⟨none, .store 3 (.t ⟨.d0, .d0, .d6⟩) (.t ⟨.d0, .d6, .d3⟩), none⟩,
    ⟨some ⟨.d0, .d0, .d7⟩, .move (.c (.int .i64 0)), none⟩])
  (.ret)))))))
def r_custref_TextLetter : List XR := [.cell ⟨.d0, .d0, .d6⟩ true 3, .tmp ⟨.d0, .d0, .d7⟩]
theorem ok_custref_TextLetter : okC Try.prog Try.f14.ntmps (bodyOf Try.f14) x_custref_TextLetter = true := by kernel_rfl
theorem okr_custref_TextLetter : okRs Try.prog Try.f14.results.toList r_custref_TextLetter = true := by kernel_rfl

/-- custref.WordAt -/
def x_custref_WordAt : XC :=
  .seq (.region [⟨some ⟨.d0, .d0, .d4⟩, .move (.c (.int .i64 0)), none⟩])
  (.seq (.region [⟨some ⟨.d0, .d0, .d6⟩, .move (.t ⟨.d0, .d0, .d0⟩), none⟩,
    ⟨some ⟨.d0, .d0, .d7⟩, .move (.t ⟨.d0, .d0, .d1⟩), none⟩,
    ⟨some ⟨.d0, .d1, .d0⟩, .strAt (.t ⟨.d0, .d0, .d6⟩) (.t ⟨.d0, .d0, .d7⟩), none⟩,
    ⟨some ⟨.d0, .d1, .d1⟩, .convInt .i64 (.t ⟨.d0, .d1, .d0⟩), none⟩,
    ⟨some ⟨.d0, .d1, .d2⟩, .bin .mul (.c (.int .i64 256)) (.t ⟨.d0, .d1, .d1⟩), none⟩,
    ⟨some ⟨.d0, .d0, .d5⟩, .move (.t ⟨.d0, .d1, .d2⟩), none⟩])
  (.seq (.seq (.region [⟨some ⟨.d0, .d1, .d3⟩, .move (.t ⟨.d0, .d0, .d1⟩), none⟩,
    ⟨some ⟨.d0, .d1, .d4⟩, .bin .add (.t ⟨.d0, .d1, .d3⟩) (.c (.int .i64 1)), none⟩,
    ⟨some ⟨.d0, .d1, .d5⟩, .move (.t ⟨.d0, .d0, .d0⟩), none⟩,
    ⟨some ⟨.d0, .d1, .d6⟩, .slen (.t ⟨.d0, .d1, .d5⟩), none⟩,
    ⟨some ⟨.d0, .d1, .d7⟩, .bin .lss (.t ⟨.d0, .d1, .d4⟩) (.t ⟨.d0, .d1, .d6⟩), none⟩])
  (.cond (.t ⟨.d0, .d1, .d7⟩)
    (.region [⟨some ⟨.d0, .d2, .d0⟩, .move (.t ⟨.d0, .d0, .d5⟩), none⟩,
      ⟨some ⟨.d0, .d2, .d1⟩, .move (.t ⟨.d0, .d0, .d0⟩), none⟩,
      ⟨some ⟨.d0, .d2, .d2⟩, .move (.t ⟨.d0, .d0, .d1⟩), none⟩,
      ⟨some ⟨.d0, .d2, .d3⟩, .bin .add (.t ⟨.d0, .d2, .d2⟩) (.c (.int .i64 1)), none⟩,
      ⟨some ⟨.d0, .d2, .d4⟩, .strAt (.t ⟨.d0, .d2, .d1⟩) (.t ⟨.d0, .d2, .d3⟩), none⟩,
      ⟨some ⟨.d0, .d2, .d5⟩, .convInt .i64 (.t ⟨.d0, .d2, .d4⟩), none⟩,
      ⟨some ⟨.d0, .d2, .d6⟩, .bin .add (.t ⟨.d0, .d2, .d0⟩) (.t ⟨.d0, .d2, .d5⟩), none⟩,
      ⟨some ⟨.d0, .d0, .d5⟩, .move (.t ⟨.d0, .d2, .d6⟩), none⟩])
    (.skip)))
  (.seq (.region [⟨some ⟨.d0, .d2, .d7⟩, .move (.t ⟨.d0, .d0, .d5⟩), none⟩,
    ⟨some ⟨.d0, .d0, .d4⟩, .move (.t ⟨.d0, .d2, .d7⟩), none⟩])
  (.ret))))
def r_custref_WordAt : List XR := [.tmp ⟨.d0, .d0, .d4⟩]
theorem ok_custref_WordAt : okC Try.prog Try.f15.ntmps (bodyOf Try.f15) x_custref_WordAt = true := by kernel_rfl
theorem okr_custref_WordAt : okRs Try.prog Try.f15.results.toList r_custref_WordAt = true := by kernel_rfl

/-- swap.swapped -/
def x_swap_swapped : XC :=
  .seq (.region [⟨some ⟨.d0, .d1, .d2⟩, .move (.c (.string { data := #[] })), none⟩,
    ⟨some ⟨.d0, .d1, .d3⟩, .move (.c (.int .i64 0)), none⟩])
  (.seq (.region [⟨some ⟨.d0, .d2, .d4⟩, .move (.t ⟨.d0, .d0, .d0⟩), none⟩,
    ⟨some ⟨.d0, .d2, .d5⟩, .call 4 [(.t ⟨.d0, .d2, .d4⟩)], none⟩,
    ⟨some ⟨.d0, .d2, .d3⟩, .move (.t ⟨.d0, .d2, .d5⟩), none⟩,
    ⟨some ⟨.d0, .d2, .d6⟩, .extract 0 (.t ⟨.d0, .d2, .d3⟩), none⟩,
    ⟨some ⟨.d0, .d2, .d7⟩, .extract 1 (.t ⟨.d0, .d2, .d3⟩), none⟩,
    ⟨some ⟨.d0, .d1, .d4⟩, .alloc 0 [.int .u32 0, .int .u32 0, .int .i64 0, .int .i64 0, .int .i64 0], none⟩,
    ⟨none, .store 5 (.t ⟨.d0, .d1, .d4⟩) (.t ⟨.d0, .d2, .d6⟩), none⟩,
    ⟨some ⟨.d0, .d1, .d5⟩, .move (.t ⟨.d0, .d2, .d7⟩), none⟩])
  (.seq (.seq (.region [⟨some ⟨.d0, .d3, .d0⟩, .move (.t ⟨.d0, .d1, .d5⟩), none⟩,
    ⟨some ⟨.d0, .d3, .d1⟩, .bin .neq (.t ⟨.d0, .d3, .d0⟩) (.c (.int .i64 0)), none⟩])
  (.cond (.t ⟨.d0, .d3, .d1⟩)
    (.seq (.region [⟨some ⟨.d0, .d3, .d2⟩, .move (.t ⟨.d0, .d1, .d5⟩), none⟩,
      ⟨some ⟨.d0, .d1, .d2⟩, .move (.c (.string { data := #[] })), none⟩,
      ⟨some ⟨.d0, .d1, .d3⟩, .move (.t ⟨.d0, .d3, .d2⟩), none⟩])
    (.ret))
    (.skip)))
  (.seq (.seq (.region [⟨some ⟨.d0, .d3, .d3⟩, .move (.t ⟨.d0, .d0, .d2⟩), none⟩,
    ⟨some ⟨.d0, .d3, .d4⟩, .bin .lss (.t ⟨.d0, .d3, .d3⟩) (.c (.int .i64 0)), none⟩,
    ⟨some ⟨.d0, .d3, .d5⟩, .move (.t ⟨.d0, .d3, .d4⟩), none⟩,
    ⟨some ⟨.d0, .d3, .d6⟩, .move (.t ⟨.d0, .d0, .d2⟩), some (⟨.d0, .d3, .d5⟩, false)⟩,
    ⟨some ⟨.d0, .d3, .d7⟩, .bin .gtr (.t ⟨.d0, .d3, .d6⟩) (.c (.int .i64 65535)), some (⟨.d0, .d3, .d5⟩, false)⟩,
    ⟨some ⟨.d0, .d4, .d0⟩, .pick (.t ⟨.d0, .d3, .d5⟩) (.c (.bool true)) (.t ⟨.d0, .d3, .d7⟩), none⟩])
  (.cond (.t ⟨.d0, .d4, .d0⟩)
    (.seq (.region [⟨some ⟨.d0, .d1, .d2⟩, .move (.c (.string { data := #[] })), none⟩,
      ⟨some ⟨.d0, .d1, .d3⟩, .move (.c (.int .i64 1)), none⟩])
    (.ret))
    (.skip)))
  (.seq (.region [⟨some ⟨.d0, .d4, .d1⟩, .move (.t ⟨.d0, .d0, .d0⟩), none⟩,
    ⟨some ⟨.d0, .d4, .d2⟩, .s2bO 1 (.t ⟨.d0, .d4, .d1⟩), none⟩,
    ⟨some ⟨.d0, .d1, .d6⟩, .move (.t ⟨.d0, .d4, .d2⟩), none⟩])
  (.seq (.region [⟨some ⟨.d0, .d4, .d3⟩, .move (.t ⟨.d0, .d1, .d6⟩), none⟩,
    ⟨some ⟨.d0, .d4, .d4⟩, .move (.t ⟨.d0, .d1, .d6⟩), none⟩,
    ⟨some ⟨.d0, .d4, .d5⟩, .call 35 [(.t ⟨.d0, .d4, .d4⟩), (.c (.int .i64 2))], none⟩,
    ⟨some ⟨.d0, .d4, .d6⟩, .slice 1 (.t ⟨.d0, .d4, .d3⟩) none (some (.t ⟨.d0, .d4, .d5⟩)) none, none⟩,
    ⟨some ⟨.d0, .d1, .d6⟩, .move (.t ⟨.d0, .d4, .d6⟩), none⟩])
  (.seq (.region [⟨some ⟨.d0, .d4, .d7⟩, .move (.t ⟨.d0, .d1, .d6⟩), none⟩,
    ⟨some ⟨.d0, .d5, .d0⟩, .indexSl 1 (.t ⟨.d0, .d4, .d7⟩) (.c (.int .i64 0)), none⟩,
    ⟨some ⟨.d0, .d5, .d1⟩, .load false 1 (.t ⟨.d0, .d5, .d0⟩), none⟩,
    ⟨some ⟨.d0, .d5, .d2⟩, .bin .and (.t ⟨.d0, .d5, .d1⟩) (.c (.int .u8 15)), none⟩,
    ⟨some ⟨.d0, .d5, .d3⟩, .convInt .i64 (.t ⟨.d0, .d5, .d2⟩), none⟩,
    ⟨some ⟨.d0, .d5, .d4⟩, .bin .mul (.t ⟨.d0, .d5, .d3⟩) (.c (.int .i64 4)), none⟩,
    ⟨some ⟨.d0, .d1, .d7⟩, .move (.t ⟨.d0, .d5, .d4⟩), none⟩])
  (.seq (.region [⟨some ⟨.d0, .d5, .d5⟩, .move (.t ⟨.d0, .d1, .d7⟩), none⟩,
    ⟨some ⟨.d0, .d5, .d6⟩, .bin .add (.t ⟨.d0, .d5, .d5⟩) (.c (.int .i64 16)), none⟩,
    ⟨some ⟨.d0, .d2, .d0⟩, .move (.t ⟨.d0, .d5, .d6⟩), none⟩])
  (.seq (.seq (.region [⟨some ⟨.d0, .d5, .d7⟩, .fieldAddr 2 (.t ⟨.d0, .d1, .d4⟩), none⟩,
    ⟨some ⟨.d0, .d6, .d0⟩, .load false 1 (.t ⟨.d0, .d5, .d7⟩), none⟩,
    ⟨some ⟨.d0, .d6, .d1⟩, .bin .eql (.t ⟨.d0, .d6, .d0⟩) (.c (.int .i64 17)), none⟩])
  (.cond (.t ⟨.d0, .d6, .d1⟩)
    (.region [⟨some ⟨.d0, .d6, .d2⟩, .move (.t ⟨.d0, .d1, .d7⟩), none⟩,
      ⟨some ⟨.d0, .d6, .d3⟩, .bin .add (.t ⟨.d0, .d6, .d2⟩) (.c (.int .i64 6)), none⟩,
      ⟨some ⟨.d0, .d2, .d0⟩, .move (.t ⟨.d0, .d6, .d3⟩), none⟩])
    (.skip)))
  (.seq (.region [⟨some ⟨.d0, .d6, .d4⟩, .move (.t ⟨.d0, .d2, .d0⟩), none⟩,
    ⟨some ⟨.d0, .d6, .d5⟩, .buildSlice 2 2 [.int .i64 0] [(0, (.c (.int .i64 10))), (1, (.t ⟨.d0, .d6, .d4⟩))], none⟩,
    ⟨some ⟨.d0, .d2, .d1⟩, .move (.t ⟨.d0, .d6, .d5⟩), none⟩])
  (.seq (.region [⟨some ⟨.d0, .d6, .d6⟩, .fieldAddr 2 (.t ⟨.d0, .d1, .d4⟩), none⟩,
    ⟨some ⟨.d0, .d6, .d7⟩, .load false 1 (.t ⟨.d0, .d6, .d6⟩), none⟩,
    ⟨some ⟨.d0, .d7, .d0⟩, .bin .eql (.t ⟨.d0, .d6, .d7⟩) (.c (.int .i64 17)), none⟩,
    ⟨some ⟨.d0, .d7, .d1⟩, .move (.t ⟨.d0, .d7, .d0⟩), none⟩,
    ⟨some ⟨.d0, .d7, .d2⟩, .move (.t ⟨.d0, .d1, .d6⟩), some (⟨.d0, .d7, .d1⟩, true)⟩,
    ⟨some ⟨.d0, .d7, .d3⟩, .move (.t ⟨.d0, .d2, .d0⟩), some (⟨.d0, .d7, .d1⟩, true)⟩,
    ⟨some ⟨.d0, .d7, .d4⟩, .call 35 [(.t ⟨.d0, .d7, .d2⟩), (.t ⟨.d0, .d7, .d3⟩)], some (⟨.d0, .d7, .d1⟩, true)⟩,
    ⟨some ⟨.d0, .d7, .d5⟩, .bin .eql (.t ⟨.d0, .d7, .d4⟩) (.c (.int .u16 0)), some (⟨.d0, .d7, .d1⟩, true)⟩,
    ⟨some ⟨.d0, .d7, .d6⟩, .pick (.t ⟨.d0, .d7, .d1⟩) (.t ⟨.d0, .d7, .d5⟩) (.c (.bool false)), none⟩,
    ⟨some ⟨.d0, .d2, .d2⟩, .move (.t ⟨.d0, .d7, .d6⟩), none⟩])
  (.seq (.seq (.region [⟨some ⟨.d0, .d7, .d7⟩, .move (.t ⟨.d0, .d2, .d2⟩), none⟩])
  (.cond (.t ⟨.d0, .d7, .d7⟩)
    (.region [⟨some ⟨.d1, .d0, .d0⟩, .move (.t ⟨.d0, .d2, .d1⟩), none⟩,
      ⟨some ⟨.d1, .d0, .d1⟩, .slice 1 (.t ⟨.d1, .d0, .d0⟩) none (some (.c (.int .i64 1))) none, none⟩,
      ⟨some ⟨.d0, .d2, .d1⟩, .move (.t ⟨.d1, .d0, .d1⟩), none⟩])
    (.skip)))
  (.seq (.region [⟨some ⟨.d1, .d0, .d2⟩, .move (.t ⟨.d0, .d1, .d6⟩), none⟩,
    ⟨some ⟨.d1, .d0, .d3⟩, .move (.t ⟨.d0, .d0, .d3⟩), none⟩,
    ⟨some ⟨.d1, .d0, .d4⟩, .move (.t ⟨.d0, .d0, .d1⟩), none⟩,
    ⟨some ⟨.d1, .d0, .d5⟩, .bin .shr (.t ⟨.d1, .d0, .d4⟩) (.c (.int .u64 16)), none⟩,
    ⟨some ⟨.d1, .d0, .d6⟩, .convInt .u16 (.t ⟨.d1, .d0, .d5⟩), none⟩,
    ⟨some ⟨.d1, .d0, .d7⟩, .move (.t ⟨.d0, .d2, .d1⟩), none⟩,
    ⟨some ⟨.d1, .d1, .d0⟩, .call 36 [(.t ⟨.d1, .d0, .d2⟩), (.t ⟨.d1, .d0, .d3⟩), (.t ⟨.d1, .d0, .d6⟩), (.t ⟨.d1, .d0, .d7⟩)], none⟩])
  (.seq (.region [⟨some ⟨.d1, .d1, .d1⟩, .move (.t ⟨.d0, .d1, .d6⟩), none⟩,
    ⟨some ⟨.d1, .d1, .d2⟩, .move (.t ⟨.d0, .d0, .d3⟩), none⟩,
    ⟨some ⟨.d1, .d1, .d3⟩, .bin .add (.t ⟨.d1, .d1, .d2⟩) (.c (.int .i64 2)), none⟩,
    ⟨some ⟨.d1, .d1, .d4⟩, .move (.t ⟨.d0, .d0, .d1⟩), none⟩,
    ⟨some ⟨.d1, .d1, .d5⟩, .convInt .u16 (.t ⟨.d1, .d1, .d4⟩), none⟩,
    ⟨some ⟨.d1, .d1, .d6⟩, .move (.t ⟨.d0, .d2, .d1⟩), none⟩,
    ⟨some ⟨.d1, .d1, .d7⟩, .call 36 [(.t ⟨.d1, .d1, .d1⟩), (.t ⟨.d1, .d1, .d3⟩), (.t ⟨.d1, .d1, .d5⟩), (.t ⟨.d1, .d1, .d6⟩)], none⟩])
  (.seq (.region [⟨some ⟨.d1, .d2, .d0⟩, .move (.t ⟨.d0, .d1, .d6⟩), none⟩,
    ⟨some ⟨.d1, .d2, .d1⟩, .move (.t ⟨.d0, .d1, .d7⟩), none⟩,
    ⟨some ⟨.d1, .d2, .d2⟩, .move (.t ⟨.d0, .d0, .d4⟩), none⟩,
    ⟨some ⟨.d1, .d2, .d3⟩, .bin .add (.t ⟨.d1, .d2, .d1⟩) (.t ⟨.d1, .d2, .d2⟩), none⟩,
    ⟨some ⟨.d1, .d2, .d4⟩, .move (.t ⟨.d0, .d0, .d2⟩), none⟩,
    ⟨some ⟨.d1, .d2, .d5⟩, .convInt .u16 (.t ⟨.d1, .d2, .d4⟩), none⟩,
    ⟨some ⟨.d1, .d2, .d6⟩, .move (.t ⟨.d0, .d2, .d1⟩), none⟩,
    ⟨some ⟨.d1, .d2, .d7⟩, .slice 1 (.t ⟨.d1, .d2, .d6⟩) (some (.c (.int .i64 1))) none none, none⟩,
    ⟨some ⟨.d1, .d3, .d0⟩, .call 36 [(.t ⟨.d1, .d2, .d0⟩), (.t ⟨.d1, .d2, .d3⟩), (.t ⟨.d1, .d2, .d5⟩), (.t ⟨.d1, .d2, .d7⟩)], none⟩])
  (.seq (.seq (.region [⟨some ⟨.d1, .d3, .d1⟩, .fieldAddr 2 (.t ⟨.d0, .d1, .d4⟩), none⟩,
    ⟨some ⟨.d1, .d3, .d2⟩, .load false 1 (.t ⟨.d1, .d3, .d1⟩), none⟩,
    ⟨some ⟨.d1, .d3, .d3⟩, .bin .eql (.t ⟨.d1, .d3, .d2⟩) (.c (.int .i64 17)), none⟩,
    ⟨some ⟨.d1, .d3, .d4⟩, .move (.t ⟨.d1, .d3, .d3⟩), none⟩,
    ⟨some ⟨.d1, .d3, .d5⟩, .move (.t ⟨.d0, .d2, .d2⟩), some (⟨.d1, .d3, .d4⟩, true)⟩,
    ⟨some ⟨.d1, .d3, .d6⟩, .un .not (.t ⟨.d1, .d3, .d5⟩), some (⟨.d1, .d3, .d4⟩, true)⟩,
    ⟨some ⟨.d1, .d3, .d7⟩, .pick (.t ⟨.d1, .d3, .d4⟩) (.t ⟨.d1, .d3, .d6⟩) (.c (.bool false)), none⟩,
    ⟨some ⟨.d1, .d4, .d0⟩, .move (.t ⟨.d1, .d3, .d7⟩), none⟩,
    ⟨some ⟨.d1, .d4, .d1⟩, .move (.t ⟨.d0, .d1, .d6⟩), some (⟨.d1, .d4, .d0⟩, true)⟩,
    ⟨some ⟨.d1, .d4, .d2⟩, .move (.t ⟨.d0, .d2, .d0⟩), some (⟨.d1, .d4, .d0⟩, true)⟩,
    ⟨some ⟨.d1, .d4, .d3⟩, .call 35 [(.t ⟨.d1, .d4, .d1⟩), (.t ⟨.d1, .d4, .d2⟩)], some (⟨.d1, .d4, .d0⟩, true)⟩,
    ⟨some ⟨.d1, .d4, .d4⟩, .bin .eql (.t ⟨.d1, .d4, .d3⟩) (.c (.int .u16 0)), some (⟨.d1, .d4, .d0⟩, true)⟩,
    ⟨some ⟨.d1, .d4, .d5⟩, .pick (.t ⟨.d1, .d4, .d0⟩) (.t ⟨.d1, .d4, .d4⟩) (.c (.bool false)), none⟩])
  (.cond (.t ⟨.d1, .d4, .d5⟩)
    (.region [⟨some ⟨.d1, .d4, .d6⟩, .move (.t ⟨.d0, .d1, .d6⟩), none⟩,
      ⟨some ⟨.d1, .d4, .d7⟩, .move (.t ⟨.d0, .d2, .d0⟩), none⟩,
      ⟨some ⟨.d1, .d5, .d0⟩, .call 37 [(.t ⟨.d1, .d4, .d6⟩), (.t ⟨.d1, .d4, .d7⟩), (.c (.int .u16 65535))], none⟩])
    (.skip)))
  (.seq (.region [⟨some ⟨.d1, .d5, .d1⟩, .move (.t ⟨.d0, .d1, .d6⟩), none⟩,
    ⟨some ⟨.d1, .d5, .d2⟩, .b2s (.t ⟨.d1, .d5, .d1⟩), none⟩,
    ⟨some ⟨.d0, .d1, .d2⟩, .move (.t ⟨.d1, .d5, .d2⟩), none⟩,
    ⟨some ⟨.d0, .d1, .d3⟩, .move (.c (.int .i64 0)), none⟩])
  (.ret)))))))))))))))))
def r_swap_swapped : List XR := [.tmp ⟨.d0, .d1, .d2⟩, .tmp ⟨.d0, .d1, .d3⟩]
theorem ok_swap_swapped : okC Try.prog Try.f16.ntmps (bodyOf Try.f16) x_swap_swapped = true := by kernel_rfl
theorem okr_swap_swapped : okRs Try.prog Try.f16.results.toList r_swap_swapped = true := by kernel_rfl

/-- custref.Between -/
def x_custref_Between : XC :=
  .seq (.region [⟨some ⟨.d0, .d0, .d6⟩, .move (.c (.bool false)), none⟩])
  (.seq (.region [⟨some ⟨.d0, .d0, .d7⟩, .move (.t ⟨.d0, .d0, .d1⟩), none⟩,
    ⟨some ⟨.d0, .d1, .d0⟩, .move (.t ⟨.d0, .d0, .d0⟩), none⟩,
    ⟨some ⟨.d0, .d1, .d1⟩, .bin .leq (.t ⟨.d0, .d0, .d7⟩) (.t ⟨.d0, .d1, .d0⟩), none⟩,
    ⟨some ⟨.d0, .d1, .d2⟩, .move (.t ⟨.d0, .d1, .d1⟩), none⟩,
    ⟨some ⟨.d0, .d1, .d3⟩, .move (.t ⟨.d0, .d0, .d0⟩), some (⟨.d0, .d1, .d2⟩, true)⟩,
    ⟨some ⟨.d0, .d1, .d4⟩, .move (.t ⟨.d0, .d0, .d2⟩), some (⟨.d0, .d1, .d2⟩, true)⟩,
    ⟨some ⟨.d0, .d1, .d5⟩, .bin .leq (.t ⟨.d0, .d1, .d3⟩) (.t ⟨.d0, .d1, .d4⟩), some (⟨.d0, .d1, .d2⟩, true)⟩,
    ⟨some ⟨.d0, .d1, .d6⟩, .pick (.t ⟨.d0, .d1, .d2⟩) (.t ⟨.d0, .d1, .d5⟩) (.c (.bool false)), none⟩,
    ⟨some ⟨.d0, .d0, .d6⟩, .move (.t ⟨.d0, .d1, .d6⟩), none⟩])
  (.ret))
def r_custref_Between : List XR := [.tmp ⟨.d0, .d0, .d6⟩]
theorem ok_custref_Between : okC Try.prog Try.f17.ntmps (bodyOf Try.f17) x_custref_Between = true := by kernel_rfl
theorem okr_custref_Between : okRs Try.prog Try.f17.results.toList r_custref_Between = true := by kernel_rfl

/-- custref.fixed -/
def x_custref_fixed : XC :=
  .seq (.region [⟨some ⟨.d0, .d0, .d4⟩, .move (.c (.int .i64 0)), none⟩])
  (.seq (.seq (.region [⟨some ⟨.d0, .d0, .d5⟩, .move (.c (.int .i64 0)), none⟩])
  (.block 0
    (.loop
      (.seq (.seq (.region [⟨some ⟨.d0, .d0, .d6⟩, .move (.t ⟨.d0, .d0, .d5⟩), none⟩,
        ⟨some ⟨.d0, .d0, .d7⟩, .move (.t ⟨.d0, .d0, .d1⟩), none⟩,
        ⟨some ⟨.d0, .d1, .d0⟩, .len (.t ⟨.d0, .d0, .d7⟩), none⟩,
        ⟨some ⟨.d0, .d1, .d1⟩, .bin .lss (.t ⟨.d0, .d0, .d6⟩) (.t ⟨.d0, .d1, .d0⟩), none⟩])
      (.cond (.t ⟨.d0, .d1, .d1⟩)
        (.skip)
        (.exit 0)))
      (.seq (.block 1
        (.regionD [0, 1, 0, 0, 12, 28, 60, 127, 0, 0, 512, 1792, 3840, 8191, 16383, 32767] [⟨some ⟨.d0, .d1, .d4⟩, .move (.t ⟨.d0, .d0, .d0⟩), none⟩,
          ⟨some ⟨.d0, .d1, .d5⟩, .bin .sub (.c (.int .i64 65535)) (.t ⟨.d0, .d1, .d4⟩), none⟩,
          ⟨some ⟨.d0, .d1, .d6⟩, .move (.t ⟨.d0, .d0, .d1⟩), none⟩,
          ⟨some ⟨.d0, .d1, .d7⟩, .move (.t ⟨.d0, .d0, .d5⟩), none⟩,
          ⟨some ⟨.d0, .d2, .d0⟩, .indexSl 1 (.t ⟨.d0, .d1, .d6⟩) (.t ⟨.d0, .d1, .d7⟩), none⟩,
          ⟨some ⟨.d0, .d2, .d1⟩, .load false 1 (.t ⟨.d0, .d2, .d0⟩), none⟩,
          ⟨some ⟨.d0, .d2, .d2⟩, .bin .sub (.c (.int .i64 65535)) (.t ⟨.d0, .d2, .d1⟩), none⟩,
          ⟨some ⟨.d0, .d2, .d3⟩, .call 38 [(.t ⟨.d0, .d1, .d5⟩), (.t ⟨.d0, .d2, .d2⟩)], none⟩,
          ⟨some ⟨.d0, .d2, .d4⟩, .move (.t ⟨.d0, .d0, .d1⟩), none⟩,
          ⟨some ⟨.d0, .d2, .d5⟩, .move (.t ⟨.d0, .d0, .d5⟩), none⟩,
          ⟨some ⟨.d0, .d2, .d6⟩, .bin .add (.t ⟨.d0, .d2, .d5⟩) (.c (.int .i64 1)), none⟩,
          ⟨some ⟨.d0, .d2, .d7⟩, .indexSl 1 (.t ⟨.d0, .d2, .d4⟩) (.t ⟨.d0, .d2, .d6⟩), none⟩,
          ⟨some ⟨.d0, .d3, .d0⟩, .load false 1 (.t ⟨.d0, .d2, .d7⟩), none⟩,
          ⟨some ⟨.d0, .d3, .d1⟩, .call 38 [(.t ⟨.d0, .d2, .d3⟩), (.t ⟨.d0, .d3, .d0⟩)], none⟩,
          ⟨some ⟨.d0, .d3, .d2⟩, .bin .sub (.c (.int .i64 65535)) (.t ⟨.d0, .d3, .d1⟩), none⟩,
          ⟨some ⟨.d0, .d0, .d0⟩, .move (.t ⟨.d0, .d3, .d2⟩), none⟩]))
      (.region [⟨some ⟨.d0, .d1, .d2⟩, .move (.t ⟨.d0, .d0, .d5⟩), none⟩,
        ⟨some ⟨.d0, .d1, .d3⟩, .bin .add (.t ⟨.d0, .d1, .d2⟩) (.c (.int .i64 2)), none⟩,
        ⟨some ⟨.d0, .d0, .d5⟩, .move (.t ⟨.d0, .d1, .d3⟩), none⟩]))))))
  (.seq (.region [⟨some ⟨.d0, .d3, .d3⟩, .move (.t ⟨.d0, .d0, .d0⟩), none⟩,
    ⟨some ⟨.d0, .d0, .d4⟩, .move (.t ⟨.d0, .d3, .d3⟩), none⟩])
  (.ret)))
def r_custref_fixed : List XR := [.tmp ⟨.d0, .d0, .d4⟩]
theorem ok_custref_fixed : okC Try.prog Try.f18.ntmps (bodyOf Try.f18) x_custref_fixed = true := by kernel_rfl
theorem okr_custref_fixed : okRs Try.prog Try.f18.results.toList r_custref_fixed = true := by kernel_rfl

/-- custref.Word -/
def x_custref_Word : XC :=
  .seq (.region [⟨some ⟨.d0, .d0, .d2⟩, .move (.c (.string { data := #[] })), none⟩])
  (.seq (.region [⟨some ⟨.d0, .d0, .d3⟩, .move (.t ⟨.d0, .d0, .d0⟩), none⟩,
    ⟨some ⟨.d0, .d0, .d4⟩, .bin .quo (.t ⟨.d0, .d0, .d3⟩) (.c (.int .i64 256)), none⟩,
    ⟨some ⟨.d0, .d0, .d5⟩, .move (.t ⟨.d0, .d0, .d0⟩), none⟩,
    ⟨some ⟨.d0, .d0, .d6⟩, .bin .rem (.t ⟨.d0, .d0, .d5⟩) (.c (.int .i64 256)), none⟩,
    ⟨some ⟨.d0, .d0, .d7⟩, .buildSlice 0 2 [.int .i64 0] [(0, (.t ⟨.d0, .d0, .d4⟩)), (1, (.t ⟨.d0, .d0, .d6⟩))], none⟩,
    ⟨some ⟨.d0, .d1, .d0⟩, .call 39 [(.t ⟨.d0, .d0, .d7⟩)], none⟩,
    ⟨some ⟨.d0, .d0, .d2⟩, .move (.t ⟨.d0, .d1, .d0⟩), none⟩])
  (.ret))
def r_custref_Word : List XR := [.tmp ⟨.d0, .d0, .d2⟩]
theorem ok_custref_Word : okC Try.prog Try.f19.ntmps (bodyOf Try.f19) x_custref_Word = true := by kernel_rfl
theorem okr_custref_Word : okRs Try.prog Try.f19.results.toList r_custref_Word = true := by kernel_rfl

/-- custref.Long -/
def x_custref_Long : XC :=
  .seq (.region [⟨some ⟨.d0, .d0, .d2⟩, .move (.c (.string { data := #[] })), none⟩])
  (.seq (.region [⟨some ⟨.d0, .d0, .d3⟩, .move (.t ⟨.d0, .d0, .d0⟩), none⟩,
    ⟨some ⟨.d0, .d0, .d4⟩, .bin .quo (.t ⟨.d0, .d0, .d3⟩) (.c (.int .u32 65536)), none⟩,
    ⟨some ⟨.d0, .d0, .d5⟩, .convInt .i64 (.t ⟨.d0, .d0, .d4⟩), none⟩,
    ⟨some ⟨.d0, .d0, .d6⟩, .call 19 [(.t ⟨.d0, .d0, .d5⟩)], none⟩,
    ⟨some ⟨.d0, .d0, .d7⟩, .move (.t ⟨.d0, .d0, .d0⟩), none⟩,
    ⟨some ⟨.d0, .d1, .d0⟩, .bin .rem (.t ⟨.d0, .d0, .d7⟩) (.c (.int .u32 65536)), none⟩,
    ⟨some ⟨.d0, .d1, .d1⟩, .convInt .i64 (.t ⟨.d0, .d1, .d0⟩), none⟩,
    ⟨some ⟨.d0, .d1, .d2⟩, .call 19 [(.t ⟨.d0, .d1, .d1⟩)], none⟩,
    ⟨some ⟨.d0, .d1, .d3⟩, .sbin .add (.t ⟨.d0, .d0, .d6⟩) (.t ⟨.d0, .d1, .d2⟩), none⟩,
    ⟨some ⟨.d0, .d0, .d2⟩, .move (.t ⟨.d0, .d1, .d3⟩), none⟩])
  (.ret))
def r_custref_Long : List XR := [.tmp ⟨.d0, .d0, .d2⟩]
theorem ok_custref_Long : okC Try.prog Try.f20.ntmps (bodyOf Try.f20) x_custref_Long = true := by kernel_rfl
theorem okr_custref_Long : okRs Try.prog Try.f20.results.toList r_custref_Long = true := by kernel_rfl

/-- ip.wordAt -/
def x_ip_wordAt : XC :=
  .seq (.region [⟨some ⟨.d0, .d0, .d4⟩, .move (.c (.int .i64 0)), none⟩])
  (.seq (.regionD [0, 0, 3, 7, 15, 0, 0, 64, 224, 480, 1023, 2047] [⟨some ⟨.d0, .d0, .d5⟩, .move (.t ⟨.d0, .d0, .d0⟩), none⟩,
    ⟨some ⟨.d0, .d0, .d6⟩, .move (.t ⟨.d0, .d0, .d1⟩), none⟩,
    ⟨some ⟨.d0, .d0, .d7⟩, .strAt (.t ⟨.d0, .d0, .d5⟩) (.t ⟨.d0, .d0, .d6⟩), none⟩,
    ⟨some ⟨.d0, .d1, .d0⟩, .convInt .i64 (.t ⟨.d0, .d0, .d7⟩), none⟩,
    ⟨some ⟨.d0, .d1, .d1⟩, .bin .shl (.t ⟨.d0, .d1, .d0⟩) (.c (.int .u64 8)), none⟩,
    ⟨some ⟨.d0, .d1, .d2⟩, .move (.t ⟨.d0, .d0, .d0⟩), none⟩,
    ⟨some ⟨.d0, .d1, .d3⟩, .move (.t ⟨.d0, .d0, .d1⟩), none⟩,
    ⟨some ⟨.d0, .d1, .d4⟩, .bin .add (.t ⟨.d0, .d1, .d3⟩) (.c (.int .i64 1)), none⟩,
    ⟨some ⟨.d0, .d1, .d5⟩, .strAt (.t ⟨.d0, .d1, .d2⟩) (.t ⟨.d0, .d1, .d4⟩), none⟩,
    ⟨some ⟨.d0, .d1, .d6⟩, .convInt .i64 (.t ⟨.d0, .d1, .d5⟩), none⟩,
    ⟨some ⟨.d0, .d1, .d7⟩, .bin .or (.t ⟨.d0, .d1, .d1⟩) (.t ⟨.d0, .d1, .d6⟩), none⟩,
    ⟨some ⟨.d0, .d0, .d4⟩, .move (.t ⟨.d0, .d1, .d7⟩), none⟩])
  (.ret))
def r_ip_wordAt : List XR := [.tmp ⟨.d0, .d0, .d4⟩]
theorem ok_ip_wordAt : okC Try.prog Try.f21.ntmps (bodyOf Try.f21) x_ip_wordAt = true := by kernel_rfl
theorem okr_ip_wordAt : okRs Try.prog Try.f21.results.toList r_ip_wordAt = true := by kernel_rfl

/-- ip.longAt -/
def x_ip_longAt : XC :=
  .seq (.region [⟨some ⟨.d0, .d0, .d4⟩, .move (.c (.int .u32 0)), none⟩])
  (.seq (.region [⟨some ⟨.d0, .d0, .d5⟩, .move (.t ⟨.d0, .d0, .d0⟩), none⟩,
    ⟨some ⟨.d0, .d0, .d6⟩, .move (.t ⟨.d0, .d0, .d1⟩), none⟩,
    ⟨some ⟨.d0, .d0, .d7⟩, .call 21 [(.t ⟨.d0, .d0, .d5⟩), (.t ⟨.d0, .d0, .d6⟩)], none⟩,
    ⟨some ⟨.d0, .d1, .d0⟩, .convInt .u32 (.t ⟨.d0, .d0, .d7⟩), none⟩,
    ⟨some ⟨.d0, .d1, .d1⟩, .bin .shl (.t ⟨.d0, .d1, .d0⟩) (.c (.int .u64 16)), none⟩,
    ⟨some ⟨.d0, .d1, .d2⟩, .move (.t ⟨.d0, .d0, .d0⟩), none⟩,
    ⟨some ⟨.d0, .d1, .d3⟩, .move (.t ⟨.d0, .d0, .d1⟩), none⟩,
    ⟨some ⟨.d0, .d1, .d4⟩, .bin .add (.t ⟨.d0, .d1, .d3⟩) (.c (.int .i64 2)), none⟩,
    ⟨some ⟨.d0, .d1, .d5⟩, .call 21 [(.t ⟨.d0, .d1, .d2⟩), (.t ⟨.d0, .d1, .d4⟩)], none⟩,
    ⟨some ⟨.d0, .d1, .d6⟩, .convInt .u32 (.t ⟨.d0, .d1, .d5⟩), none⟩,
    ⟨some ⟨.d0, .d1, .d7⟩, .bin .or (.t ⟨.d0, .d1, .d1⟩) (.t ⟨.d0, .d1, .d6⟩), none⟩,
    ⟨some ⟨.d0, .d0, .d4⟩, .move (.t ⟨.d0, .d1, .d7⟩), none⟩])
  (.ret))
def r_ip_longAt : List XR := [.tmp ⟨.d0, .d0, .d4⟩]
theorem ok_ip_longAt : okC Try.prog Try.f22.ntmps (bodyOf Try.f22) x_ip_longAt = true := by kernel_rfl
theorem okr_ip_longAt : okRs Try.prog Try.f22.results.toList r_ip_longAt = true := by kernel_rfl

/-- ip.refused -/
def x_ip_refused : XC :=
  .seq (.region [⟨some ⟨.d0, .d0, .d1⟩, .box 0 11 (.t ⟨.d0, .d0, .d0⟩), none⟩,
    ⟨some ⟨.d0, .d0, .d2⟩, .move (.c (.int .i64 0)), none⟩])
  (.seq (.block 0
    (.seq (.region [⟨some ⟨.d0, .d0, .d4⟩, .fieldAddr 0 (.t ⟨.d0, .d0, .d1⟩), none⟩,
      ⟨some ⟨.d0, .d0, .d5⟩, .load false 1 (.t ⟨.d0, .d0, .d4⟩), none⟩,
      ⟨some ⟨.d0, .d0, .d6⟩, .call 40 [(.t ⟨.d0, .d0, .d5⟩)], none⟩,
      ⟨some ⟨.d0, .d0, .d7⟩, .un .not (.t ⟨.d0, .d0, .d6⟩), none⟩,
      ⟨some ⟨.d0, .d1, .d0⟩, .move (.t ⟨.d0, .d0, .d7⟩), none⟩,
      ⟨some ⟨.d0, .d1, .d1⟩, .fieldAddr 5 (.t ⟨.d0, .d0, .d1⟩), some (⟨.d0, .d1, .d0⟩, false)⟩,
      ⟨some ⟨.d0, .d1, .d2⟩, .load false 1 (.t ⟨.d0, .d1, .d1⟩), some (⟨.d0, .d1, .d0⟩, false)⟩,
      ⟨some ⟨.d0, .d1, .d3⟩, .call 40 [(.t ⟨.d0, .d1, .d2⟩)], some (⟨.d0, .d1, .d0⟩, false)⟩,
      ⟨some ⟨.d0, .d1, .d4⟩, .un .not (.t ⟨.d0, .d1, .d3⟩), some (⟨.d0, .d1, .d0⟩, false)⟩,
      ⟨some ⟨.d0, .d1, .d5⟩, .pick (.t ⟨.d0, .d1, .d0⟩) (.c (.bool true)) (.t ⟨.d0, .d1, .d4⟩), none⟩,
      ⟨some ⟨.d0, .d1, .d6⟩, .move (.t ⟨.d0, .d1, .d5⟩), none⟩,
      ⟨some ⟨.d0, .d1, .d7⟩, .fieldAddr 6 (.t ⟨.d0, .d0, .d1⟩), some (⟨.d0, .d1, .d6⟩, false)⟩,
      ⟨some ⟨.d0, .d2, .d0⟩, .load false 1 (.t ⟨.d0, .d1, .d7⟩), some (⟨.d0, .d1, .d6⟩, false)⟩,
      ⟨some ⟨.d0, .d2, .d1⟩, .call 40 [(.t ⟨.d0, .d2, .d0⟩)], some (⟨.d0, .d1, .d6⟩, false)⟩,
      ⟨some ⟨.d0, .d2, .d2⟩, .un .not (.t ⟨.d0, .d2, .d1⟩), some (⟨.d0, .d1, .d6⟩, false)⟩,
      ⟨some ⟨.d0, .d2, .d3⟩, .pick (.t ⟨.d0, .d1, .d6⟩) (.c (.bool true)) (.t ⟨.d0, .d2, .d2⟩), none⟩,
      ⟨some ⟨.d0, .d2, .d4⟩, .move (.t ⟨.d0, .d2, .d3⟩), none⟩,
      ⟨some ⟨.d0, .d2, .d5⟩, .fieldAddr 1 (.t ⟨.d0, .d0, .d1⟩), some (⟨.d0, .d2, .d4⟩, false)⟩,
      ⟨some ⟨.d0, .d2, .d6⟩, .load false 1 (.t ⟨.d0, .d2, .d5⟩), some (⟨.d0, .d2, .d4⟩, false)⟩,
      ⟨some ⟨.d0, .d2, .d7⟩, .bin .lss (.t ⟨.d0, .d2, .d6⟩) (.c (.int .i64 0)), some (⟨.d0, .d2, .d4⟩, false)⟩,
      ⟨some ⟨.d0, .d3, .d0⟩, .pick (.t ⟨.d0, .d2, .d4⟩) (.c (.bool true)) (.t ⟨.d0, .d2, .d7⟩), none⟩,
      ⟨some ⟨.d0, .d3, .d1⟩, .move (.t ⟨.d0, .d3, .d0⟩), none⟩,
      ⟨some ⟨.d0, .d3, .d2⟩, .fieldAddr 1 (.t ⟨.d0, .d0, .d1⟩), some (⟨.d0, .d3, .d1⟩, false)⟩,
      ⟨some ⟨.d0, .d3, .d3⟩, .load false 1 (.t ⟨.d0, .d3, .d2⟩), some (⟨.d0, .d3, .d1⟩, false)⟩,
      ⟨some ⟨.d0, .d3, .d4⟩, .bin .gtr (.t ⟨.d0, .d3, .d3⟩) (.c (.int .i64 65535)), some (⟨.d0, .d3, .d1⟩, false)⟩,
      ⟨some ⟨.d0, .d3, .d5⟩, .pick (.t ⟨.d0, .d3, .d1⟩) (.c (.bool true)) (.t ⟨.d0, .d3, .d4⟩), none⟩,
      ⟨some ⟨.d0, .d3, .d6⟩, .move (.t ⟨.d0, .d3, .d5⟩), none⟩,
      ⟨some ⟨.d0, .d3, .d7⟩, .fieldAddr 4 (.t ⟨.d0, .d0, .d1⟩), some (⟨.d0, .d3, .d6⟩, false)⟩,
      ⟨some ⟨.d0, .d4, .d0⟩, .load false 1 (.t ⟨.d0, .d3, .d7⟩), some (⟨.d0, .d3, .d6⟩, false)⟩,
      ⟨some ⟨.d0, .d4, .d1⟩, .bin .lss (.t ⟨.d0, .d4, .d0⟩) (.c (.int .i64 0)), some (⟨.d0, .d3, .d6⟩, false)⟩,
      ⟨some ⟨.d0, .d4, .d2⟩, .pick (.t ⟨.d0, .d3, .d6⟩) (.c (.bool true)) (.t ⟨.d0, .d4, .d1⟩), none⟩,
      ⟨some ⟨.d0, .d4, .d3⟩, .move (.t ⟨.d0, .d4, .d2⟩), none⟩,
      ⟨some ⟨.d0, .d4, .d4⟩, .fieldAddr 4 (.t ⟨.d0, .d0, .d1⟩), some (⟨.d0, .d4, .d3⟩, false)⟩,
      ⟨some ⟨.d0, .d4, .d5⟩, .load false 1 (.t ⟨.d0, .d4, .d4⟩), some (⟨.d0, .d4, .d3⟩, false)⟩,
      ⟨some ⟨.d0, .d4, .d6⟩, .bin .gtr (.t ⟨.d0, .d4, .d5⟩) (.c (.int .i64 8191)), some (⟨.d0, .d4, .d3⟩, false)⟩,
      ⟨some ⟨.d0, .d4, .d7⟩, .pick (.t ⟨.d0, .d4, .d3⟩) (.c (.bool true)) (.t ⟨.d0, .d4, .d6⟩), none⟩,
      ⟨some ⟨.d0, .d5, .d0⟩, .move (.t ⟨.d0, .d4, .d7⟩), none⟩,
      ⟨some ⟨.d0, .d5, .d1⟩, .fieldAddr 9 (.t ⟨.d0, .d0, .d1⟩), some (⟨.d0, .d5, .d0⟩, false)⟩,
      ⟨some ⟨.d0, .d5, .d2⟩, .load false 1 (.t ⟨.d0, .d5, .d1⟩), some (⟨.d0, .d5, .d0⟩, false)⟩,
      ⟨some ⟨.d0, .d5, .d3⟩, .slen (.t ⟨.d0, .d5, .d2⟩), some (⟨.d0, .d5, .d0⟩, false)⟩,
      ⟨some ⟨.d0, .d5, .d4⟩, .bin .gtr (.t ⟨.d0, .d5, .d3⟩) (.c (.int .i64 40)), some (⟨.d0, .d5, .d0⟩, false)⟩,
      ⟨some ⟨.d0, .d5, .d5⟩, .pick (.t ⟨.d0, .d5, .d0⟩) (.c (.bool true)) (.t ⟨.d0, .d5, .d4⟩), none⟩,
      ⟨some ⟨.d0, .d5, .d6⟩, .move (.t ⟨.d0, .d5, .d5⟩), none⟩,
      ⟨some ⟨.d0, .d5, .d7⟩, .fieldAddr 9 (.t ⟨.d0, .d0, .d1⟩), some (⟨.d0, .d5, .d6⟩, false)⟩,
      ⟨some ⟨.d0, .d6, .d0⟩, .load false 1 (.t ⟨.d0, .d5, .d7⟩), some (⟨.d0, .d5, .d6⟩, false)⟩,
      ⟨some ⟨.d0, .d6, .d1⟩, .slen (.t ⟨.d0, .d6, .d0⟩), some (⟨.d0, .d5, .d6⟩, false)⟩,
      ⟨some ⟨.d0, .d6, .d2⟩, .bin .rem (.t ⟨.d0, .d6, .d1⟩) (.c (.int .i64 4)), some (⟨.d0, .d5, .d6⟩, false)⟩,
      ⟨some ⟨.d0, .d6, .d3⟩, .bin .neq (.t ⟨.d0, .d6, .d2⟩) (.c (.int .i64 0)), some (⟨.d0, .d5, .d6⟩, false)⟩,
      ⟨some ⟨.d0, .d6, .d4⟩, .pick (.t ⟨.d0, .d5, .d6⟩) (.c (.bool true)) (.t ⟨.d0, .d6, .d3⟩), none⟩,
      ⟨some ⟨.d0, .d0, .d3⟩, .move (.t ⟨.d0, .d6, .d4⟩), none⟩])
    (.cond (.t ⟨.d0, .d0, .d3⟩)
      (.seq (.region [⟨some ⟨.d0, .d0, .d2⟩, .move (.c (.int .i64 1)), none⟩])
      (.ret))
      (.seq (.region [⟨some ⟨.d0, .d6, .d6⟩, .fieldAddr 2 (.t ⟨.d0, .d0, .d1⟩), none⟩,
        ⟨some ⟨.d0, .d6, .d7⟩, .load false 1 (.t ⟨.d0, .d6, .d6⟩), none⟩,
        ⟨some ⟨.d0, .d7, .d0⟩, .move (.t ⟨.d0, .d6, .d7⟩), none⟩,
        ⟨some ⟨.d0, .d7, .d1⟩, .fieldAddr 3 (.t ⟨.d0, .d0, .d1⟩), some (⟨.d0, .d7, .d0⟩, true)⟩,
        ⟨some ⟨.d0, .d7, .d2⟩, .load false 1 (.t ⟨.d0, .d7, .d1⟩), some (⟨.d0, .d7, .d0⟩, true)⟩,
        ⟨some ⟨.d0, .d7, .d3⟩, .move (.t ⟨.d0, .d7, .d2⟩), some (⟨.d0, .d7, .d0⟩, true)⟩,
        ⟨some ⟨.d0, .d7, .d4⟩, .fieldAddr 4 (.t ⟨.d0, .d0, .d1⟩), some (⟨.d0, .d7, .d3⟩, false)⟩,
        ⟨some ⟨.d0, .d7, .d5⟩, .load false 1 (.t ⟨.d0, .d7, .d4⟩), some (⟨.d0, .d7, .d3⟩, false)⟩,
        ⟨some ⟨.d0, .d7, .d6⟩, .bin .neq (.t ⟨.d0, .d7, .d5⟩) (.c (.int .i64 0)), some (⟨.d0, .d7, .d3⟩, false)⟩,
        ⟨some ⟨.d0, .d7, .d7⟩, .pick (.t ⟨.d0, .d7, .d3⟩) (.c (.bool true)) (.t ⟨.d0, .d7, .d6⟩), some (⟨.d0, .d7, .d0⟩, true)⟩,
        ⟨some ⟨.d1, .d0, .d0⟩, .pick (.t ⟨.d0, .d7, .d0⟩) (.t ⟨.d0, .d7, .d7⟩) (.c (.bool false)), none⟩,
        ⟨some ⟨.d0, .d6, .d5⟩, .move (.t ⟨.d1, .d0, .d0⟩), none⟩])
      (.cond (.t ⟨.d0, .d6, .d5⟩)
        (.seq (.region [⟨some ⟨.d0, .d0, .d2⟩, .move (.c (.int .i64 4)), none⟩])
        (.ret))
        (.seq (.region [⟨some ⟨.d1, .d0, .d2⟩, .fieldAddr 10 (.t ⟨.d0, .d0, .d1⟩), none⟩,
          ⟨some ⟨.d1, .d0, .d3⟩, .load false 1 (.t ⟨.d1, .d0, .d2⟩), none⟩,
          ⟨some ⟨.d1, .d0, .d4⟩, .slen (.t ⟨.d1, .d0, .d3⟩), none⟩,
          ⟨some ⟨.d1, .d0, .d5⟩, .fieldAddr 9 (.t ⟨.d0, .d0, .d1⟩), none⟩,
          ⟨some ⟨.d1, .d0, .d6⟩, .load false 1 (.t ⟨.d1, .d0, .d5⟩), none⟩,
          ⟨some ⟨.d1, .d0, .d7⟩, .slen (.t ⟨.d1, .d0, .d6⟩), none⟩,
          ⟨some ⟨.d1, .d1, .d0⟩, .bin .sub (.c (.int .i64 65515)) (.t ⟨.d1, .d0, .d7⟩), none⟩,
          ⟨some ⟨.d1, .d1, .d1⟩, .bin .gtr (.t ⟨.d1, .d0, .d4⟩) (.t ⟨.d1, .d1, .d0⟩), none⟩,
          ⟨some ⟨.d1, .d0, .d1⟩, .move (.t ⟨.d1, .d1, .d1⟩), none⟩])
        (.cond (.t ⟨.d1, .d0, .d1⟩)
          (.seq (.region [⟨some ⟨.d0, .d0, .d2⟩, .move (.c (.int .i64 2)), none⟩])
          (.ret))
          (.skip))))))))
  (.seq (.region [⟨some ⟨.d0, .d0, .d2⟩, .move (.c (.int .i64 0)), none⟩])
  (.ret)))
def r_ip_refused : List XR := [.tmp ⟨.d0, .d0, .d2⟩]
theorem ok_ip_refused : okC Try.prog Try.f23.ntmps (bodyOf Try.f23) x_ip_refused = true := by kernel_rfl
theorem okr_ip_refused : okRs Try.prog Try.f23.results.toList r_ip_refused = true := by kernel_rfl

/-- sum.Right -/
def x_sum_Right : XC :=
  .seq (.region [⟨some ⟨.d0, .d0, .d2⟩, .move (.c (.bool false)), none⟩])
  (.seq (.region [⟨some ⟨.d0, .d0, .d3⟩, .move (.t ⟨.d0, .d0, .d0⟩), none⟩,
    ⟨some ⟨.d0, .d0, .d4⟩, .call 41 [(.c (.int .u16 0)), (.t ⟨.d0, .d0, .d3⟩)], none⟩,
    ⟨some ⟨.d0, .d0, .d5⟩, .bin .eql (.t ⟨.d0, .d0, .d4⟩) (.c (.int .u16 65535)), none⟩,
    ⟨some ⟨.d0, .d0, .d2⟩, .move (.t ⟨.d0, .d0, .d5⟩), none⟩])
  (.ret))
def r_sum_Right : List XR := [.tmp ⟨.d0, .d0, .d2⟩]
theorem ok_sum_Right : okC Try.prog Try.f24.ntmps (bodyOf Try.f24) x_sum_Right = true := by kernel_rfl
theorem okr_sum_Right : okRs Try.prog Try.f24.results.toList r_sum_Right = true := by kernel_rfl

/-- tcp.parse -/
def x_tcp_parse : XC :=
  .seq (.region [⟨some ⟨.d0, .d0, .d2⟩, .move (.c (.slice none 0 0)), none⟩,
    ⟨some ⟨.d0, .d0, .d3⟩, .move (.c (.bool false)), none⟩])
  (.seq (.region [⟨some ⟨.d0, .d0, .d4⟩, .move (.c (.slice none 0 0)), none⟩])
  (.seq (.block 0
    (.loop
      (.seq (.seq (.region [⟨some ⟨.d0, .d0, .d7⟩, .move (.t ⟨.d0, .d0, .d0⟩), none⟩,
        ⟨some ⟨.d0, .d1, .d0⟩, .sbin .neq (.t ⟨.d0, .d0, .d7⟩) (.c (.string { data := #[] })), none⟩,
        ⟨some ⟨.d0, .d1, .d1⟩, .move (.t ⟨.d0, .d1, .d0⟩), none⟩,
        ⟨some ⟨.d0, .d1, .d2⟩, .move (.t ⟨.d0, .d0, .d0⟩), some (⟨.d0, .d1, .d1⟩, true)⟩,
        ⟨some ⟨.d0, .d1, .d3⟩, .strAt (.t ⟨.d0, .d1, .d2⟩) (.c (.int .i64 0)), some (⟨.d0, .d1, .d1⟩, true)⟩,
        ⟨some ⟨.d0, .d1, .d4⟩, .bin .neq (.t ⟨.d0, .d1, .d3⟩) (.c (.int .u8 0)), some (⟨.d0, .d1, .d1⟩, true)⟩,
        ⟨some ⟨.d0, .d1, .d5⟩, .pick (.t ⟨.d0, .d1, .d1⟩) (.t ⟨.d0, .d1, .d4⟩) (.c (.bool false)), none⟩])
      (.cond (.t ⟨.d0, .d1, .d5⟩)
        (.skip)
        (.exit 0)))
      (.block 1
        (.seq (.seq (.region [⟨some ⟨.d0, .d1, .d6⟩, .move (.t ⟨.d0, .d0, .d0⟩), none⟩,
          ⟨some ⟨.d0, .d1, .d7⟩, .strAt (.t ⟨.d0, .d1, .d6⟩) (.c (.int .i64 0)), none⟩,
          ⟨some ⟨.d0, .d2, .d0⟩, .bin .eql (.t ⟨.d0, .d1, .d7⟩) (.c (.int .u8 1)), none⟩])
        (.cond (.t ⟨.d0, .d2, .d0⟩)
          (.seq (.regionD [0, 0, 2, 7, 0, 16, 15, 127] [⟨some ⟨.d0, .d2, .d1⟩, .move (.t ⟨.d0, .d0, .d4⟩), none⟩,
            ⟨some ⟨.d0, .d2, .d2⟩, .build [.int .i64 0, .string { data := #[] }] [(0, 1, (.c (.int .i64 1)))], none⟩,
            ⟨some ⟨.d0, .d2, .d3⟩, .buildSlice 0 1 [.int .i64 0, .string { data := #[] }] [(0, (.t ⟨.d0, .d2, .d2⟩))], none⟩,
            ⟨some ⟨.d0, .d2, .d4⟩, .append 1 2 24 (.t ⟨.d0, .d2, .d1⟩) (.t ⟨.d0, .d2, .d3⟩), none⟩,
            ⟨some ⟨.d0, .d2, .d5⟩, .move (.t ⟨.d0, .d0, .d0⟩), none⟩,
            ⟨some ⟨.d0, .d2, .d6⟩, .substr (.t ⟨.d0, .d2, .d5⟩) (some (.c (.int .i64 1))) none, none⟩,
            ⟨some ⟨.d0, .d0, .d4⟩, .move (.t ⟨.d0, .d2, .d4⟩), none⟩,
            ⟨some ⟨.d0, .d0, .d0⟩, .move (.t ⟨.d0, .d2, .d6⟩), none⟩])
          (.exit 1))
          (.skip)))
        (.seq (.seq (.region [⟨some ⟨.d0, .d2, .d7⟩, .move (.t ⟨.d0, .d0, .d0⟩), none⟩,
          ⟨some ⟨.d0, .d3, .d0⟩, .slen (.t ⟨.d0, .d2, .d7⟩), none⟩,
          ⟨some ⟨.d0, .d3, .d1⟩, .bin .lss (.t ⟨.d0, .d3, .d0⟩) (.c (.int .i64 2)), none⟩,
          ⟨some ⟨.d0, .d3, .d2⟩, .move (.t ⟨.d0, .d3, .d1⟩), none⟩,
          ⟨some ⟨.d0, .d3, .d3⟩, .move (.t ⟨.d0, .d0, .d0⟩), some (⟨.d0, .d3, .d2⟩, false)⟩,
          ⟨some ⟨.d0, .d3, .d4⟩, .strAt (.t ⟨.d0, .d3, .d3⟩) (.c (.int .i64 1)), some (⟨.d0, .d3, .d2⟩, false)⟩,
          ⟨some ⟨.d0, .d3, .d5⟩, .bin .lss (.t ⟨.d0, .d3, .d4⟩) (.c (.int .u8 2)), some (⟨.d0, .d3, .d2⟩, false)⟩,
          ⟨some ⟨.d0, .d3, .d6⟩, .pick (.t ⟨.d0, .d3, .d2⟩) (.c (.bool true)) (.t ⟨.d0, .d3, .d5⟩), none⟩,
          ⟨some ⟨.d0, .d3, .d7⟩, .move (.t ⟨.d0, .d3, .d6⟩), none⟩,
          ⟨some ⟨.d0, .d4, .d0⟩, .move (.t ⟨.d0, .d0, .d0⟩), some (⟨.d0, .d3, .d7⟩, false)⟩,
          ⟨some ⟨.d0, .d4, .d1⟩, .strAt (.t ⟨.d0, .d4, .d0⟩) (.c (.int .i64 1)), some (⟨.d0, .d3, .d7⟩, false)⟩,
          ⟨some ⟨.d0, .d4, .d2⟩, .convInt .i64 (.t ⟨.d0, .d4, .d1⟩), some (⟨.d0, .d3, .d7⟩, false)⟩,
          ⟨some ⟨.d0, .d4, .d3⟩, .move (.t ⟨.d0, .d0, .d0⟩), some (⟨.d0, .d3, .d7⟩, false)⟩,
          ⟨some ⟨.d0, .d4, .d4⟩, .slen (.t ⟨.d0, .d4, .d3⟩), some (⟨.d0, .d3, .d7⟩, false)⟩,
          ⟨some ⟨.d0, .d4, .d5⟩, .bin .gtr (.t ⟨.d0, .d4, .d2⟩) (.t ⟨.d0, .d4, .d4⟩), some (⟨.d0, .d3, .d7⟩, false)⟩,
          ⟨some ⟨.d0, .d4, .d6⟩, .pick (.t ⟨.d0, .d3, .d7⟩) (.c (.bool true)) (.t ⟨.d0, .d4, .d5⟩), none⟩])
        (.cond (.t ⟨.d0, .d4, .d6⟩)
          (.seq (.region [⟨some ⟨.d0, .d0, .d2⟩, .move (.c (.slice none 0 0)), none⟩,
            ⟨some ⟨.d0, .d0, .d3⟩, .move (.c (.bool false)), none⟩])
          (.ret))
          (.skip)))
        (.seq (.region [⟨some ⟨.d0, .d4, .d7⟩, .move (.t ⟨.d0, .d0, .d0⟩), none⟩,
          ⟨some ⟨.d0, .d5, .d0⟩, .strAt (.t ⟨.d0, .d4, .d7⟩) (.c (.int .i64 1)), none⟩,
          ⟨some ⟨.d0, .d5, .d1⟩, .convInt .i64 (.t ⟨.d0, .d5, .d0⟩), none⟩,
          ⟨some ⟨.d0, .d0, .d5⟩, .move (.t ⟨.d0, .d5, .d1⟩), none⟩])
        (.regionD [0, 0, 2, 6, 0, 0, 48, 126, 254, 511, 0, 0, 3072, 1023, 16383] [⟨some ⟨.d0, .d5, .d2⟩, .move (.t ⟨.d0, .d0, .d4⟩), none⟩,
          ⟨some ⟨.d0, .d5, .d3⟩, .move (.t ⟨.d0, .d0, .d0⟩), none⟩,
          ⟨some ⟨.d0, .d5, .d4⟩, .strAt (.t ⟨.d0, .d5, .d3⟩) (.c (.int .i64 0)), none⟩,
          ⟨some ⟨.d0, .d5, .d5⟩, .convInt .i64 (.t ⟨.d0, .d5, .d4⟩), none⟩,
          ⟨some ⟨.d0, .d5, .d6⟩, .move (.t ⟨.d0, .d0, .d0⟩), none⟩,
          ⟨some ⟨.d0, .d5, .d7⟩, .move (.t ⟨.d0, .d0, .d5⟩), none⟩,
          ⟨some ⟨.d0, .d6, .d0⟩, .substr (.t ⟨.d0, .d5, .d6⟩) (some (.c (.int .i64 2))) (some (.t ⟨.d0, .d5, .d7⟩)), none⟩,
          ⟨some ⟨.d0, .d6, .d1⟩, .build [.int .i64 0, .string { data := #[] }] [(0, 1, (.t ⟨.d0, .d5, .d5⟩)), (1, 1, (.t ⟨.d0, .d6, .d0⟩))], none⟩,
          ⟨some ⟨.d0, .d6, .d2⟩, .buildSlice 2 1 [.int .i64 0, .string { data := #[] }] [(0, (.t ⟨.d0, .d6, .d1⟩))], none⟩,
          ⟨some ⟨.d0, .d6, .d3⟩, .append 1 2 24 (.t ⟨.d0, .d5, .d2⟩) (.t ⟨.d0, .d6, .d2⟩), none⟩,
          ⟨some ⟨.d0, .d6, .d4⟩, .move (.t ⟨.d0, .d0, .d0⟩), none⟩,
          ⟨some ⟨.d0, .d6, .d5⟩, .move (.t ⟨.d0, .d0, .d5⟩), none⟩,
          ⟨some ⟨.d0, .d6, .d6⟩, .substr (.t ⟨.d0, .d6, .d4⟩) (some (.t ⟨.d0, .d6, .d5⟩)) none, none⟩,
          ⟨some ⟨.d0, .d0, .d4⟩, .move (.t ⟨.d0, .d6, .d3⟩), none⟩,
          ⟨some ⟨.d0, .d0, .d0⟩, .move (.t ⟨.d0, .d6, .d6⟩), none⟩]))))))))
  (.seq (.seq (.region [⟨some ⟨.d0, .d6, .d7⟩, .move (.t ⟨.d0, .d0, .d0⟩), none⟩,
    ⟨some ⟨.d0, .d7, .d0⟩, .slen (.t ⟨.d0, .d6, .d7⟩), none⟩,
    ⟨some ⟨.d0, .d7, .d1⟩, .move (.c (.int .i64 0)), none⟩])
  (.block 2
    (.loop
      (.seq (.region [⟨some ⟨.d0, .d7, .d2⟩, .bin .lss (.t ⟨.d0, .d7, .d1⟩) (.t ⟨.d0, .d7, .d0⟩), none⟩])
      (.seq (.cond (.t ⟨.d0, .d7, .d2⟩)
        (.skip)
        (.exit 2))
      (.seq (.block 3
        (.seq (.region [⟨some ⟨.d0, .d7, .d3⟩, .move (.t ⟨.d0, .d7, .d1⟩), none⟩,
          ⟨some ⟨.d0, .d0, .d6⟩, .move (.t ⟨.d0, .d7, .d3⟩), none⟩])
        (.seq (.region [⟨some ⟨.d0, .d7, .d4⟩, .move (.t ⟨.d0, .d0, .d0⟩), none⟩,
          ⟨some ⟨.d0, .d7, .d5⟩, .move (.t ⟨.d0, .d0, .d6⟩), none⟩,
          ⟨some ⟨.d0, .d7, .d6⟩, .strAt (.t ⟨.d0, .d7, .d4⟩) (.t ⟨.d0, .d7, .d5⟩), none⟩,
          ⟨some ⟨.d0, .d7, .d7⟩, .bin .neq (.t ⟨.d0, .d7, .d6⟩) (.c (.int .u8 0)), none⟩])
        (.cond (.t ⟨.d0, .d7, .d7⟩)
          (.seq (.region [⟨some ⟨.d0, .d0, .d2⟩, .move (.c (.slice none 0 0)), none⟩,
            ⟨some ⟨.d0, .d0, .d3⟩, .move (.c (.bool false)), none⟩])
          (.ret))
          (.skip)))))
      (.region [⟨some ⟨.d1, .d0, .d0⟩, .bin .add (.t ⟨.d0, .d7, .d1⟩) (.c (.int .i64 1)), none⟩,
        ⟨some ⟨.d0, .d7, .d1⟩, .move (.t ⟨.d1, .d0, .d0⟩), none⟩])))))))
  (.seq (.region [⟨some ⟨.d1, .d0, .d1⟩, .move (.t ⟨.d0, .d0, .d4⟩), none⟩,
    ⟨some ⟨.d0, .d0, .d2⟩, .move (.t ⟨.d1, .d0, .d1⟩), none⟩,
    ⟨some ⟨.d0, .d0, .d3⟩, .move (.c (.bool true)), none⟩])
  (.ret)))))
def r_tcp_parse : List XR := [.tmp ⟨.d0, .d0, .d2⟩, .tmp ⟨.d0, .d0, .d3⟩]
theorem ok_tcp_parse : okC Try.prog Try.f25.ntmps (bodyOf Try.f25) x_tcp_parse = true := by kernel_rfl
theorem okr_tcp_parse : okRs Try.prog Try.f25.results.toList r_tcp_parse = true := by kernel_rfl

/-- dgram.Under -/
def x_dgram_Under : XC :=
  .seq (.region [⟨some ⟨.d0, .d1, .d0⟩, .move (.c (.string { data := #[] })), none⟩])
  (.seq (.region [⟨some ⟨.d0, .d1, .d1⟩, .move (.t ⟨.d0, .d0, .d0⟩), none⟩,
    ⟨some ⟨.d0, .d1, .d2⟩, .call 42 [(.t ⟨.d0, .d1, .d1⟩)], none⟩,
    ⟨some ⟨.d0, .d1, .d3⟩, .move (.t ⟨.d0, .d0, .d1⟩), none⟩,
    ⟨some ⟨.d0, .d1, .d4⟩, .call 42 [(.t ⟨.d0, .d1, .d3⟩)], none⟩,
    ⟨some ⟨.d0, .d1, .d5⟩, .sbin .add (.t ⟨.d0, .d1, .d2⟩) (.t ⟨.d0, .d1, .d4⟩), none⟩,
    ⟨some ⟨.d0, .d1, .d6⟩, .move (.t ⟨.d0, .d0, .d2⟩), none⟩,
    ⟨some ⟨.d0, .d1, .d7⟩, .bin .and (.t ⟨.d0, .d1, .d6⟩) (.c (.int .i64 255)), none⟩,
    ⟨some ⟨.d0, .d2, .d0⟩, .call 43 [(.t ⟨.d0, .d1, .d7⟩)], none⟩,
    ⟨some ⟨.d0, .d2, .d1⟩, .sbin .add (.t ⟨.d0, .d1, .d5⟩) (.t ⟨.d0, .d2, .d0⟩), none⟩,
    ⟨some ⟨.d0, .d2, .d2⟩, .move (.t ⟨.d0, .d0, .d3⟩), none⟩,
    ⟨some ⟨.d0, .d2, .d3⟩, .call 43 [(.t ⟨.d0, .d2, .d2⟩)], none⟩,
    ⟨some ⟨.d0, .d2, .d4⟩, .sbin .add (.t ⟨.d0, .d2, .d1⟩) (.t ⟨.d0, .d2, .d3⟩), none⟩,
    ⟨some ⟨.d0, .d1, .d0⟩, .move (.t ⟨.d0, .d2, .d4⟩), none⟩])
  (.ret))
def r_dgram_Under : List XR := [.tmp ⟨.d0, .d1, .d0⟩]
theorem ok_dgram_Under : okC Try.prog Try.f26.ntmps (bodyOf Try.f26) x_dgram_Under = true := by kernel_rfl
theorem okr_dgram_Under : okRs Try.prog Try.f26.results.toList r_dgram_Under = true := by kernel_rfl

/-- tcp.wordAt -/
def x_tcp_wordAt : XC :=
  .seq (.region [⟨some ⟨.d0, .d0, .d4⟩, .move (.c (.int .i64 0)), none⟩])
  (.seq (.regionD [0, 0, 3, 7, 15, 0, 0, 64, 224, 480, 1023, 2047] [⟨some ⟨.d0, .d0, .d5⟩, .move (.t ⟨.d0, .d0, .d0⟩), none⟩,
    ⟨some ⟨.d0, .d0, .d6⟩, .move (.t ⟨.d0, .d0, .d1⟩), none⟩,
    ⟨some ⟨.d0, .d0, .d7⟩, .strAt (.t ⟨.d0, .d0, .d5⟩) (.t ⟨.d0, .d0, .d6⟩), none⟩,
    ⟨some ⟨.d0, .d1, .d0⟩, .convInt .i64 (.t ⟨.d0, .d0, .d7⟩), none⟩,
    ⟨some ⟨.d0, .d1, .d1⟩, .bin .shl (.t ⟨.d0, .d1, .d0⟩) (.c (.int .u64 8)), none⟩,
    ⟨some ⟨.d0, .d1, .d2⟩, .move (.t ⟨.d0, .d0, .d0⟩), none⟩,
    ⟨some ⟨.d0, .d1, .d3⟩, .move (.t ⟨.d0, .d0, .d1⟩), none⟩,
    ⟨some ⟨.d0, .d1, .d4⟩, .bin .add (.t ⟨.d0, .d1, .d3⟩) (.c (.int .i64 1)), none⟩,
    ⟨some ⟨.d0, .d1, .d5⟩, .strAt (.t ⟨.d0, .d1, .d2⟩) (.t ⟨.d0, .d1, .d4⟩), none⟩,
    ⟨some ⟨.d0, .d1, .d6⟩, .convInt .i64 (.t ⟨.d0, .d1, .d5⟩), none⟩,
    ⟨some ⟨.d0, .d1, .d7⟩, .bin .or (.t ⟨.d0, .d1, .d1⟩) (.t ⟨.d0, .d1, .d6⟩), none⟩,
    ⟨some ⟨.d0, .d0, .d4⟩, .move (.t ⟨.d0, .d1, .d7⟩), none⟩])
  (.ret))
def r_tcp_wordAt : List XR := [.tmp ⟨.d0, .d0, .d4⟩]
theorem ok_tcp_wordAt : okC Try.prog Try.f27.ntmps (bodyOf Try.f27) x_tcp_wordAt = true := by kernel_rfl
theorem okr_tcp_wordAt : okRs Try.prog Try.f27.results.toList r_tcp_wordAt = true := by kernel_rfl

/-- tcp.longAt -/
def x_tcp_longAt : XC :=
  .seq (.region [⟨some ⟨.d0, .d0, .d4⟩, .move (.c (.int .u32 0)), none⟩])
  (.seq (.region [⟨some ⟨.d0, .d0, .d5⟩, .move (.t ⟨.d0, .d0, .d0⟩), none⟩,
    ⟨some ⟨.d0, .d0, .d6⟩, .move (.t ⟨.d0, .d0, .d1⟩), none⟩,
    ⟨some ⟨.d0, .d0, .d7⟩, .call 27 [(.t ⟨.d0, .d0, .d5⟩), (.t ⟨.d0, .d0, .d6⟩)], none⟩,
    ⟨some ⟨.d0, .d1, .d0⟩, .convInt .u32 (.t ⟨.d0, .d0, .d7⟩), none⟩,
    ⟨some ⟨.d0, .d1, .d1⟩, .bin .shl (.t ⟨.d0, .d1, .d0⟩) (.c (.int .u64 16)), none⟩,
    ⟨some ⟨.d0, .d1, .d2⟩, .move (.t ⟨.d0, .d0, .d0⟩), none⟩,
    ⟨some ⟨.d0, .d1, .d3⟩, .move (.t ⟨.d0, .d0, .d1⟩), none⟩,
    ⟨some ⟨.d0, .d1, .d4⟩, .bin .add (.t ⟨.d0, .d1, .d3⟩) (.c (.int .i64 2)), none⟩,
    ⟨some ⟨.d0, .d1, .d5⟩, .call 27 [(.t ⟨.d0, .d1, .d2⟩), (.t ⟨.d0, .d1, .d4⟩)], none⟩,
    ⟨some ⟨.d0, .d1, .d6⟩, .convInt .u32 (.t ⟨.d0, .d1, .d5⟩), none⟩,
    ⟨some ⟨.d0, .d1, .d7⟩, .bin .or (.t ⟨.d0, .d1, .d1⟩) (.t ⟨.d0, .d1, .d6⟩), none⟩,
    ⟨some ⟨.d0, .d0, .d4⟩, .move (.t ⟨.d0, .d1, .d7⟩), none⟩])
  (.ret))
def r_tcp_longAt : List XR := [.tmp ⟨.d0, .d0, .d4⟩]
theorem ok_tcp_longAt : okC Try.prog Try.f28.ntmps (bodyOf Try.f28) x_tcp_longAt = true := by kernel_rfl
theorem okr_tcp_longAt : okRs Try.prog Try.f28.results.toList r_tcp_longAt = true := by kernel_rfl

/-- dgram.wordAt -/
def x_dgram_wordAt : XC :=
  .seq (.region [⟨some ⟨.d0, .d0, .d4⟩, .move (.c (.int .i64 0)), none⟩])
  (.seq (.regionD [0, 0, 3, 7, 15, 0, 0, 64, 224, 480, 1023, 2047] [⟨some ⟨.d0, .d0, .d5⟩, .move (.t ⟨.d0, .d0, .d0⟩), none⟩,
    ⟨some ⟨.d0, .d0, .d6⟩, .move (.t ⟨.d0, .d0, .d1⟩), none⟩,
    ⟨some ⟨.d0, .d0, .d7⟩, .strAt (.t ⟨.d0, .d0, .d5⟩) (.t ⟨.d0, .d0, .d6⟩), none⟩,
    ⟨some ⟨.d0, .d1, .d0⟩, .convInt .i64 (.t ⟨.d0, .d0, .d7⟩), none⟩,
    ⟨some ⟨.d0, .d1, .d1⟩, .bin .shl (.t ⟨.d0, .d1, .d0⟩) (.c (.int .u64 8)), none⟩,
    ⟨some ⟨.d0, .d1, .d2⟩, .move (.t ⟨.d0, .d0, .d0⟩), none⟩,
    ⟨some ⟨.d0, .d1, .d3⟩, .move (.t ⟨.d0, .d0, .d1⟩), none⟩,
    ⟨some ⟨.d0, .d1, .d4⟩, .bin .add (.t ⟨.d0, .d1, .d3⟩) (.c (.int .i64 1)), none⟩,
    ⟨some ⟨.d0, .d1, .d5⟩, .strAt (.t ⟨.d0, .d1, .d2⟩) (.t ⟨.d0, .d1, .d4⟩), none⟩,
    ⟨some ⟨.d0, .d1, .d6⟩, .convInt .i64 (.t ⟨.d0, .d1, .d5⟩), none⟩,
    ⟨some ⟨.d0, .d1, .d7⟩, .bin .or (.t ⟨.d0, .d1, .d1⟩) (.t ⟨.d0, .d1, .d6⟩), none⟩,
    ⟨some ⟨.d0, .d0, .d4⟩, .move (.t ⟨.d0, .d1, .d7⟩), none⟩])
  (.ret))
def r_dgram_wordAt : List XR := [.tmp ⟨.d0, .d0, .d4⟩]
theorem ok_dgram_wordAt : okC Try.prog Try.f29.ntmps (bodyOf Try.f29) x_dgram_wordAt = true := by kernel_rfl
theorem okr_dgram_wordAt : okRs Try.prog Try.f29.results.toList r_dgram_wordAt = true := by kernel_rfl

/-- custref.LongAt -/
def x_custref_LongAt : XC :=
  .seq (.region [⟨some ⟨.d0, .d0, .d4⟩, .move (.c (.int .u32 0)), none⟩])
  (.seq (.region [⟨some ⟨.d0, .d0, .d5⟩, .move (.t ⟨.d0, .d0, .d0⟩), none⟩,
    ⟨some ⟨.d0, .d0, .d6⟩, .move (.t ⟨.d0, .d0, .d1⟩), none⟩,
    ⟨some ⟨.d0, .d0, .d7⟩, .call 15 [(.t ⟨.d0, .d0, .d5⟩), (.t ⟨.d0, .d0, .d6⟩)], none⟩,
    ⟨some ⟨.d0, .d1, .d0⟩, .bin .mul (.c (.int .i64 65536)) (.t ⟨.d0, .d0, .d7⟩), none⟩,
    ⟨some ⟨.d0, .d1, .d1⟩, .move (.t ⟨.d0, .d0, .d0⟩), none⟩,
    ⟨some ⟨.d0, .d1, .d2⟩, .move (.t ⟨.d0, .d0, .d1⟩), none⟩,
    ⟨some ⟨.d0, .d1, .d3⟩, .bin .add (.t ⟨.d0, .d1, .d2⟩) (.c (.int .i64 2)), none⟩,
    ⟨some ⟨.d0, .d1, .d4⟩, .call 15 [(.t ⟨.d0, .d1, .d1⟩), (.t ⟨.d0, .d1, .d3⟩)], none⟩,
    ⟨some ⟨.d0, .d1, .d5⟩, .bin .add (.t ⟨.d0, .d1, .d0⟩) (.t ⟨.d0, .d1, .d4⟩), none⟩,
    ⟨some ⟨.d0, .d1, .d6⟩, .convInt .u32 (.t ⟨.d0, .d1, .d5⟩), none⟩,
    ⟨some ⟨.d0, .d0, .d4⟩, .move (.t ⟨.d0, .d1, .d6⟩), none⟩])
  (.ret))
def r_custref_LongAt : List XR := [.tmp ⟨.d0, .d0, .d4⟩]
theorem ok_custref_LongAt : okC Try.prog Try.f30.ntmps (bodyOf Try.f30) x_custref_LongAt = true := by kernel_rfl
theorem okr_custref_LongAt : okRs Try.prog Try.f30.results.toList r_custref_LongAt = true := by kernel_rfl

/-- custref.PacketText -/
def x_custref_PacketText : XC :=
  .seq (.region [⟨some ⟨.d0, .d0, .d1⟩, .box 0 11 (.t ⟨.d0, .d0, .d0⟩), none⟩,
    ⟨some ⟨.d0, .d0, .d2⟩, .move (.c (.string { data := #[] })), none⟩,
    ⟨some ⟨.d0, .d0, .d3⟩, .move (.c (.int .i64 0)), none⟩])
  (.seq (.region [⟨some ⟨.d0, .d0, .d7⟩, .fieldAddr 9 (.t ⟨.d0, .d0, .d1⟩), none⟩,
    ⟨some ⟨.d0, .d1, .d0⟩, .load false 1 (.t ⟨.d0, .d0, .d7⟩), none⟩,
    ⟨some ⟨.d0, .d1, .d1⟩, .slen (.t ⟨.d0, .d1, .d0⟩), none⟩,
    ⟨some ⟨.d0, .d0, .d4⟩, .move (.t ⟨.d0, .d1, .d1⟩), none⟩])
  (.seq (.seq (.region [⟨some ⟨.d0, .d1, .d2⟩, .fieldAddr 0 (.t ⟨.d0, .d0, .d1⟩), none⟩,
    ⟨some ⟨.d0, .d1, .d3⟩, .load false 1 (.t ⟨.d0, .d1, .d2⟩), none⟩,
    ⟨some ⟨.d0, .d1, .d4⟩, .call 17 [(.t ⟨.d0, .d1, .d3⟩), (.c (.int .i64 0)), (.c (.int .i64 255))], none⟩,
    ⟨some ⟨.d0, .d1, .d5⟩, .un .not (.t ⟨.d0, .d1, .d4⟩), none⟩,
    ⟨some ⟨.d0, .d1, .d6⟩, .move (.t ⟨.d0, .d1, .d5⟩), none⟩,
    ⟨some ⟨.d0, .d1, .d7⟩, .fieldAddr 5 (.t ⟨.d0, .d0, .d1⟩), some (⟨.d0, .d1, .d6⟩, false)⟩,
    ⟨some ⟨.d0, .d2, .d0⟩, .load false 1 (.t ⟨.d0, .d1, .d7⟩), some (⟨.d0, .d1, .d6⟩, false)⟩,
    ⟨some ⟨.d0, .d2, .d1⟩, .call 17 [(.t ⟨.d0, .d2, .d0⟩), (.c (.int .i64 0)), (.c (.int .i64 255))], some (⟨.d0, .d1, .d6⟩, false)⟩,
    ⟨some ⟨.d0, .d2, .d2⟩, .un .not (.t ⟨.d0, .d2, .d1⟩), some (⟨.d0, .d1, .d6⟩, false)⟩,
    ⟨some ⟨.d0, .d2, .d3⟩, .pick (.t ⟨.d0, .d1, .d6⟩) (.c (.bool true)) (.t ⟨.d0, .d2, .d2⟩), none⟩,
    ⟨some ⟨.d0, .d2, .d4⟩, .move (.t ⟨.d0, .d2, .d3⟩), none⟩,
    ⟨some ⟨.d0, .d2, .d5⟩, .fieldAddr 6 (.t ⟨.d0, .d0, .d1⟩), some (⟨.d0, .d2, .d4⟩, false)⟩,
    ⟨some ⟨.d0, .d2, .d6⟩, .load false 1 (.t ⟨.d0, .d2, .d5⟩), some (⟨.d0, .d2, .d4⟩, false)⟩,
    ⟨some ⟨.d0, .d2, .d7⟩, .call 17 [(.t ⟨.d0, .d2, .d6⟩), (.c (.int .i64 0)), (.c (.int .i64 255))], some (⟨.d0, .d2, .d4⟩, false)⟩,
    ⟨some ⟨.d0, .d3, .d0⟩, .un .not (.t ⟨.d0, .d2, .d7⟩), some (⟨.d0, .d2, .d4⟩, false)⟩,
    ⟨some ⟨.d0, .d3, .d1⟩, .pick (.t ⟨.d0, .d2, .d4⟩) (.c (.bool true)) (.t ⟨.d0, .d3, .d0⟩), none⟩,
    ⟨some ⟨.d0, .d3, .d2⟩, .move (.t ⟨.d0, .d3, .d1⟩), none⟩,
    ⟨some ⟨.d0, .d3, .d3⟩, .fieldAddr 1 (.t ⟨.d0, .d0, .d1⟩), some (⟨.d0, .d3, .d2⟩, false)⟩,
    ⟨some ⟨.d0, .d3, .d4⟩, .load false 1 (.t ⟨.d0, .d3, .d3⟩), some (⟨.d0, .d3, .d2⟩, false)⟩,
    ⟨some ⟨.d0, .d3, .d5⟩, .call 17 [(.t ⟨.d0, .d3, .d4⟩), (.c (.int .i64 0)), (.c (.int .i64 65535))], some (⟨.d0, .d3, .d2⟩, false)⟩,
    ⟨some ⟨.d0, .d3, .d6⟩, .un .not (.t ⟨.d0, .d3, .d5⟩), some (⟨.d0, .d3, .d2⟩, false)⟩,
    ⟨some ⟨.d0, .d3, .d7⟩, .pick (.t ⟨.d0, .d3, .d2⟩) (.c (.bool true)) (.t ⟨.d0, .d3, .d6⟩), none⟩,
    ⟨some ⟨.d0, .d4, .d0⟩, .move (.t ⟨.d0, .d3, .d7⟩), none⟩,
    ⟨some ⟨.d0, .d4, .d1⟩, .fieldAddr 4 (.t ⟨.d0, .d0, .d1⟩), some (⟨.d0, .d4, .d0⟩, false)⟩,
    ⟨some ⟨.d0, .d4, .d2⟩, .load false 1 (.t ⟨.d0, .d4, .d1⟩), some (⟨.d0, .d4, .d0⟩, false)⟩,
    ⟨some ⟨.d0, .d4, .d3⟩, .call 17 [(.t ⟨.d0, .d4, .d2⟩), (.c (.int .i64 0)), (.c (.int .i64 8191))], some (⟨.d0, .d4, .d0⟩, false)⟩,
    ⟨some ⟨.d0, .d4, .d4⟩, .un .not (.t ⟨.d0, .d4, .d3⟩), some (⟨.d0, .d4, .d0⟩, false)⟩,
    ⟨some ⟨.d0, .d4, .d5⟩, .pick (.t ⟨.d0, .d4, .d0⟩) (.c (.bool true)) (.t ⟨.d0, .d4, .d4⟩), none⟩,
    ⟨some ⟨.d0, .d4, .d6⟩, .move (.t ⟨.d0, .d4, .d5⟩), none⟩,
    ⟨some ⟨.d0, .d4, .d7⟩, .move (.t ⟨.d0, .d0, .d4⟩), some (⟨.d0, .d4, .d6⟩, false)⟩,
    ⟨some ⟨.d0, .d5, .d0⟩, .bin .gtr (.t ⟨.d0, .d4, .d7⟩) (.c (.int .i64 40)), some (⟨.d0, .d4, .d6⟩, false)⟩,
    ⟨some ⟨.d0, .d5, .d1⟩, .pick (.t ⟨.d0, .d4, .d6⟩) (.c (.bool true)) (.t ⟨.d0, .d5, .d0⟩), none⟩,
    ⟨some ⟨.d0, .d5, .d2⟩, .move (.t ⟨.d0, .d5, .d1⟩), none⟩,
    ⟨some ⟨.d0, .d5, .d3⟩, .move (.t ⟨.d0, .d0, .d4⟩), some (⟨.d0, .d5, .d2⟩, false)⟩,
    ⟨some ⟨.d0, .d5, .d4⟩, .bin .rem (.t ⟨.d0, .d5, .d3⟩) (.c (.int .i64 4)), some (⟨.d0, .d5, .d2⟩, false)⟩,
    ⟨some ⟨.d0, .d5, .d5⟩, .bin .gtr (.t ⟨.d0, .d5, .d4⟩) (.c (.int .i64 0)), some (⟨.d0, .d5, .d2⟩, false)⟩,
    ⟨some ⟨.d0, .d5, .d6⟩, .pick (.t ⟨.d0, .d5, .d2⟩) (.c (.bool true)) (.t ⟨.d0, .d5, .d5⟩), none⟩])
  (.cond (.t ⟨.d0, .d5, .d6⟩)
    (.seq (.region [⟨some ⟨.d0, .d0, .d2⟩, .move (.c (.string { data := #[] })), none⟩,
      ⟨some ⟨.d0, .d0, .d3⟩, .move (.c (.int .i64 1)), none⟩])
    (.ret))
    (.skip)))
  (.seq (.region [⟨some ⟨.d0, .d5, .d7⟩, .fieldAddr 4 (.t ⟨.d0, .d0, .d1⟩), none⟩,
    ⟨some ⟨.d0, .d6, .d0⟩, .load false 1 (.t ⟨.d0, .d5, .d7⟩), none⟩,
    ⟨some ⟨.d0, .d0, .d5⟩, .move (.t ⟨.d0, .d6, .d0⟩), none⟩])
  (.seq (.seq (.region [⟨some ⟨.d0, .d6, .d1⟩, .fieldAddr 2 (.t ⟨.d0, .d0, .d1⟩), none⟩,
    ⟨some ⟨.d0, .d6, .d2⟩, .load false 1 (.t ⟨.d0, .d6, .d1⟩), none⟩])
  (.cond (.t ⟨.d0, .d6, .d2⟩)
    (.seq (.seq (.region [⟨some ⟨.d0, .d6, .d3⟩, .fieldAddr 3 (.t ⟨.d0, .d0, .d1⟩), none⟩,
      ⟨some ⟨.d0, .d6, .d4⟩, .load false 1 (.t ⟨.d0, .d6, .d3⟩), none⟩,
      ⟨some ⟨.d0, .d6, .d5⟩, .move (.t ⟨.d0, .d6, .d4⟩), none⟩,
      ⟨some ⟨.d0, .d6, .d6⟩, .fieldAddr 4 (.t ⟨.d0, .d0, .d1⟩), some (⟨.d0, .d6, .d5⟩, false)⟩,
      ⟨some ⟨.d0, .d6, .d7⟩, .load false 1 (.t ⟨.d0, .d6, .d6⟩), some (⟨.d0, .d6, .d5⟩, false)⟩,
      ⟨some ⟨.d0, .d7, .d0⟩, .bin .gtr (.t ⟨.d0, .d6, .d7⟩) (.c (.int .i64 0)), some (⟨.d0, .d6, .d5⟩, false)⟩,
      ⟨some ⟨.d0, .d7, .d1⟩, .pick (.t ⟨.d0, .d6, .d5⟩) (.c (.bool true)) (.t ⟨.d0, .d7, .d0⟩), none⟩])
    (.cond (.t ⟨.d0, .d7, .d1⟩)
      (.seq (.region [⟨some ⟨.d0, .d0, .d2⟩, .move (.c (.string { data := #[] })), none⟩,
        ⟨some ⟨.d0, .d0, .d3⟩, .move (.c (.int .i64 4)), none⟩])
      (.ret))
      (.skip)))
    (.region [⟨some ⟨.d0, .d0, .d5⟩, .move (.c (.int .i64 16384)), none⟩]))
    (.skip)))
  (.seq (.seq (.region [⟨some ⟨.d0, .d7, .d2⟩, .fieldAddr 3 (.t ⟨.d0, .d0, .d1⟩), none⟩,
    ⟨some ⟨.d0, .d7, .d3⟩, .load false 1 (.t ⟨.d0, .d7, .d2⟩), none⟩])
  (.cond (.t ⟨.d0, .d7, .d3⟩)
    (.region [⟨some ⟨.d0, .d7, .d4⟩, .move (.t ⟨.d0, .d0, .d5⟩), none⟩,
      ⟨some ⟨.d0, .d7, .d5⟩, .bin .add (.t ⟨.d0, .d7, .d4⟩) (.c (.int .i64 8192)), none⟩,
      ⟨some ⟨.d0, .d0, .d5⟩, .move (.t ⟨.d0, .d7, .d5⟩), none⟩])
    (.skip)))
  (.seq (.seq (.region [⟨some ⟨.d0, .d7, .d6⟩, .move (.t ⟨.d0, .d0, .d4⟩), none⟩,
    ⟨some ⟨.d0, .d7, .d7⟩, .bin .add (.c (.int .i64 20)) (.t ⟨.d0, .d7, .d6⟩), none⟩,
    ⟨some ⟨.d1, .d0, .d0⟩, .fieldAddr 10 (.t ⟨.d0, .d0, .d1⟩), none⟩,
    ⟨some ⟨.d1, .d0, .d1⟩, .load false 1 (.t ⟨.d1, .d0, .d0⟩), none⟩,
    ⟨some ⟨.d1, .d0, .d2⟩, .slen (.t ⟨.d1, .d0, .d1⟩), none⟩,
    ⟨some ⟨.d1, .d0, .d3⟩, .bin .add (.t ⟨.d0, .d7, .d7⟩) (.t ⟨.d1, .d0, .d2⟩), none⟩,
    ⟨some ⟨.d1, .d0, .d4⟩, .bin .gtr (.t ⟨.d1, .d0, .d3⟩) (.c (.int .i64 65535)), none⟩])
  (.cond (.t ⟨.d1, .d0, .d4⟩)
    (.seq (.region [⟨some ⟨.d0, .d0, .d2⟩, .move (.c (.string { data := #[] })), none⟩,
      ⟨some ⟨.d0, .d0, .d3⟩, .move (.c (.int .i64 2)), none⟩])
    (.ret))
    (.skip)))
  (.seq (.regionD [0, 1, 3, 0, 8, 31, 63, 0, 128, 0, 512, 1536, 3968, 8191, 16383, 0, 32768, 114687, 262143, 0, 770047, 2097151, 0, 4194304, 0, 16777216, 62914560, 131842047, 268435455, 0, 536870912, 1876672511, 4294967295, 0, 8589934592, 29793959935, 68719476735, 0, 137438953472, 549755813887, 1099511627775] [⟨some ⟨.d1, .d0, .d5⟩, .move (.t ⟨.d0, .d0, .d4⟩), none⟩,
    ⟨some ⟨.d1, .d0, .d6⟩, .bin .quo (.t ⟨.d1, .d0, .d5⟩) (.c (.int .i64 4)), none⟩,
    ⟨some ⟨.d1, .d0, .d7⟩, .bin .add (.c (.int .i64 69)) (.t ⟨.d1, .d0, .d6⟩), none⟩,
    ⟨some ⟨.d1, .d1, .d0⟩, .fieldAddr 0 (.t ⟨.d0, .d0, .d1⟩), none⟩,
    ⟨some ⟨.d1, .d1, .d1⟩, .load false 1 (.t ⟨.d1, .d1, .d0⟩), none⟩,
    ⟨some ⟨.d1, .d1, .d2⟩, .buildSlice 1 2 [.int .i64 0] [(0, (.t ⟨.d1, .d0, .d7⟩)), (1, (.t ⟨.d1, .d1, .d1⟩))], none⟩,
    ⟨some ⟨.d1, .d1, .d3⟩, .call 39 [(.t ⟨.d1, .d1, .d2⟩)], none⟩,
    ⟨some ⟨.d1, .d1, .d4⟩, .move (.t ⟨.d0, .d0, .d4⟩), none⟩,
    ⟨some ⟨.d1, .d1, .d5⟩, .bin .add (.c (.int .i64 20)) (.t ⟨.d1, .d1, .d4⟩), none⟩,
    ⟨some ⟨.d1, .d1, .d6⟩, .fieldAddr 10 (.t ⟨.d0, .d0, .d1⟩), none⟩,
    ⟨some ⟨.d1, .d1, .d7⟩, .load false 1 (.t ⟨.d1, .d1, .d6⟩), none⟩,
    ⟨some ⟨.d1, .d2, .d0⟩, .slen (.t ⟨.d1, .d1, .d7⟩), none⟩,
    ⟨some ⟨.d1, .d2, .d1⟩, .bin .add (.t ⟨.d1, .d1, .d5⟩) (.t ⟨.d1, .d2, .d0⟩), none⟩,
    ⟨some ⟨.d1, .d2, .d2⟩, .call 19 [(.t ⟨.d1, .d2, .d1⟩)], none⟩,
    ⟨some ⟨.d1, .d2, .d3⟩, .sbin .add (.t ⟨.d1, .d1, .d3⟩) (.t ⟨.d1, .d2, .d2⟩), none⟩,
    ⟨some ⟨.d1, .d2, .d4⟩, .fieldAddr 1 (.t ⟨.d0, .d0, .d1⟩), none⟩,
    ⟨some ⟨.d1, .d2, .d5⟩, .load false 1 (.t ⟨.d1, .d2, .d4⟩), none⟩,
    ⟨some ⟨.d1, .d2, .d6⟩, .call 19 [(.t ⟨.d1, .d2, .d5⟩)], none⟩,
    ⟨some ⟨.d1, .d2, .d7⟩, .sbin .add (.t ⟨.d1, .d2, .d3⟩) (.t ⟨.d1, .d2, .d6⟩), none⟩,
    ⟨some ⟨.d1, .d3, .d0⟩, .move (.t ⟨.d0, .d0, .d5⟩), none⟩,
    ⟨some ⟨.d1, .d3, .d1⟩, .call 19 [(.t ⟨.d1, .d3, .d0⟩)], none⟩,
    ⟨some ⟨.d1, .d3, .d2⟩, .sbin .add (.t ⟨.d1, .d2, .d7⟩) (.t ⟨.d1, .d3, .d1⟩), none⟩,
    ⟨some ⟨.d1, .d3, .d3⟩, .fieldAddr 5 (.t ⟨.d0, .d0, .d1⟩), none⟩,
    ⟨some ⟨.d1, .d3, .d4⟩, .load false 1 (.t ⟨.d1, .d3, .d3⟩), none⟩,
    ⟨some ⟨.d1, .d3, .d5⟩, .fieldAddr 6 (.t ⟨.d0, .d0, .d1⟩), none⟩,
    ⟨some ⟨.d1, .d3, .d6⟩, .load false 1 (.t ⟨.d1, .d3, .d5⟩), none⟩,
    ⟨some ⟨.d1, .d3, .d7⟩, .buildSlice 2 4 [.int .i64 0] [(0, (.t ⟨.d1, .d3, .d4⟩)), (1, (.t ⟨.d1, .d3, .d6⟩)), (2, (.c (.int .i64 0))), (3, (.c (.int .i64 0)))], none⟩,
    ⟨some ⟨.d1, .d4, .d0⟩, .call 39 [(.t ⟨.d1, .d3, .d7⟩)], none⟩,
    ⟨some ⟨.d1, .d4, .d1⟩, .sbin .add (.t ⟨.d1, .d3, .d2⟩) (.t ⟨.d1, .d4, .d0⟩), none⟩,
    ⟨some ⟨.d1, .d4, .d2⟩, .fieldAddr 7 (.t ⟨.d0, .d0, .d1⟩), none⟩,
    ⟨some ⟨.d1, .d4, .d3⟩, .load false 1 (.t ⟨.d1, .d4, .d2⟩), none⟩,
    ⟨some ⟨.d1, .d4, .d4⟩, .call 20 [(.t ⟨.d1, .d4, .d3⟩)], none⟩,
    ⟨some ⟨.d1, .d4, .d5⟩, .sbin .add (.t ⟨.d1, .d4, .d1⟩) (.t ⟨.d1, .d4, .d4⟩), none⟩,
    ⟨some ⟨.d1, .d4, .d6⟩, .fieldAddr 8 (.t ⟨.d0, .d0, .d1⟩), none⟩,
    ⟨some ⟨.d1, .d4, .d7⟩, .load false 1 (.t ⟨.d1, .d4, .d6⟩), none⟩,
    ⟨some ⟨.d1, .d5, .d0⟩, .call 20 [(.t ⟨.d1, .d4, .d7⟩)], none⟩,
    ⟨some ⟨.d1, .d5, .d1⟩, .sbin .add (.t ⟨.d1, .d4, .d5⟩) (.t ⟨.d1, .d5, .d0⟩), none⟩,
    ⟨some ⟨.d1, .d5, .d2⟩, .fieldAddr 9 (.t ⟨.d0, .d0, .d1⟩), none⟩,
    ⟨some ⟨.d1, .d5, .d3⟩, .load false 1 (.t ⟨.d1, .d5, .d2⟩), none⟩,
    ⟨some ⟨.d1, .d5, .d4⟩, .sbin .add (.t ⟨.d1, .d5, .d1⟩) (.t ⟨.d1, .d5, .d3⟩), none⟩,
    ⟨some ⟨.d0, .d0, .d6⟩, .move (.t ⟨.d1, .d5, .d4⟩), none⟩])
  (.seq (.regionD [0, 1, 0, 4, 12, 31, 0, 64, 255, 0, 512, 2047, 4095, 8191] [⟨some ⟨.d1, .d5, .d5⟩, .move (.t ⟨.d0, .d0, .d6⟩), none⟩,
    ⟨some ⟨.d1, .d5, .d6⟩, .substr (.t ⟨.d1, .d5, .d5⟩) none (some (.c (.int .i64 10))), none⟩,
    ⟨some ⟨.d1, .d5, .d7⟩, .move (.t ⟨.d0, .d0, .d6⟩), none⟩,
    ⟨some ⟨.d1, .d6, .d0⟩, .call 44 [(.t ⟨.d1, .d5, .d7⟩)], none⟩,
    ⟨some ⟨.d1, .d6, .d1⟩, .call 19 [(.t ⟨.d1, .d6, .d0⟩)], none⟩,
    ⟨some ⟨.d1, .d6, .d2⟩, .sbin .add (.t ⟨.d1, .d5, .d6⟩) (.t ⟨.d1, .d6, .d1⟩), none⟩,
    ⟨some ⟨.d1, .d6, .d3⟩, .move (.t ⟨.d0, .d0, .d6⟩), none⟩,
    ⟨some ⟨.d1, .d6, .d4⟩, .substr (.t ⟨.d1, .d6, .d3⟩) (some (.c (.int .i64 12))) none, none⟩,
    ⟨some ⟨.d1, .d6, .d5⟩, .sbin .add (.t ⟨.d1, .d6, .d2⟩) (.t ⟨.d1, .d6, .d4⟩), none⟩,
    ⟨some ⟨.d1, .d6, .d6⟩, .fieldAddr 10 (.t ⟨.d0, .d0, .d1⟩), none⟩,
    ⟨some ⟨.d1, .d6, .d7⟩, .load false 1 (.t ⟨.d1, .d6, .d6⟩), none⟩,
    ⟨some ⟨.d1, .d7, .d0⟩, .sbin .add (.t ⟨.d1, .d6, .d5⟩) (.t ⟨.d1, .d6, .d7⟩), none⟩,
    ⟨some ⟨.d0, .d0, .d2⟩, .move (.t ⟨.d1, .d7, .d0⟩), none⟩,
    ⟨some ⟨.d0, .d0, .d3⟩, .move (.c (.int .i64 0)), none⟩])
  (.ret)))))))))
def r_custref_PacketText : List XR := [.tmp ⟨.d0, .d0, .d2⟩, .tmp ⟨.d0, .d0, .d3⟩]
theorem ok_custref_PacketText : okC Try.prog Try.f31.ntmps (bodyOf Try.f31) x_custref_PacketText = true := by kernel_rfl
theorem okr_custref_PacketText : okRs Try.prog Try.f31.results.toList r_custref_PacketText = true := by kernel_rfl

/-- custref.SumOf -/
def x_custref_SumOf : XC :=
  .seq (.region [⟨some ⟨.d0, .d0, .d4⟩, .move (.c (.int .i64 0)), none⟩])
  (.seq (.seq (.region [⟨some ⟨.d0, .d0, .d5⟩, .move (.c (.int .i64 0)), none⟩])
  (.block 0
    (.loop
      (.seq (.seq (.region [⟨some ⟨.d0, .d0, .d6⟩, .move (.t ⟨.d0, .d0, .d5⟩), none⟩,
        ⟨some ⟨.d0, .d0, .d7⟩, .move (.t ⟨.d0, .d0, .d1⟩), none⟩,
        ⟨some ⟨.d0, .d1, .d0⟩, .slen (.t ⟨.d0, .d0, .d7⟩), none⟩,
        ⟨some ⟨.d0, .d1, .d1⟩, .bin .lss (.t ⟨.d0, .d0, .d6⟩) (.t ⟨.d0, .d1, .d0⟩), none⟩])
      (.cond (.t ⟨.d0, .d1, .d1⟩)
        (.skip)
        (.exit 0)))
      (.seq (.block 1
        (.region [⟨some ⟨.d0, .d1, .d4⟩, .move (.t ⟨.d0, .d0, .d0⟩), none⟩,
          ⟨some ⟨.d0, .d1, .d5⟩, .move (.t ⟨.d0, .d0, .d1⟩), none⟩,
          ⟨some ⟨.d0, .d1, .d6⟩, .move (.t ⟨.d0, .d0, .d5⟩), none⟩,
          ⟨some ⟨.d0, .d1, .d7⟩, .call 15 [(.t ⟨.d0, .d1, .d5⟩), (.t ⟨.d0, .d1, .d6⟩)], none⟩,
          ⟨some ⟨.d0, .d2, .d0⟩, .call 38 [(.t ⟨.d0, .d1, .d4⟩), (.t ⟨.d0, .d1, .d7⟩)], none⟩,
          ⟨some ⟨.d0, .d0, .d0⟩, .move (.t ⟨.d0, .d2, .d0⟩), none⟩]))
      (.region [⟨some ⟨.d0, .d1, .d2⟩, .move (.t ⟨.d0, .d0, .d5⟩), none⟩,
        ⟨some ⟨.d0, .d1, .d3⟩, .bin .add (.t ⟨.d0, .d1, .d2⟩) (.c (.int .i64 2)), none⟩,
        ⟨some ⟨.d0, .d0, .d5⟩, .move (.t ⟨.d0, .d1, .d3⟩), none⟩]))))))
  (.seq (.region [⟨some ⟨.d0, .d2, .d1⟩, .move (.t ⟨.d0, .d0, .d0⟩), none⟩,
    ⟨some ⟨.d0, .d0, .d4⟩, .move (.t ⟨.d0, .d2, .d1⟩), none⟩])
  (.ret)))
def r_custref_SumOf : List XR := [.tmp ⟨.d0, .d0, .d4⟩]
theorem ok_custref_SumOf : okC Try.prog Try.f32.ntmps (bodyOf Try.f32) x_custref_SumOf = true := by kernel_rfl
theorem okr_custref_SumOf : okRs Try.prog Try.f32.results.toList r_custref_SumOf = true := by kernel_rfl

/-- custref.optionsOf -/
def x_custref_optionsOf : XC :=
  .seq (.region [⟨some ⟨.d0, .d0, .d2⟩, .move (.c (.slice none 0 0)), none⟩,
    ⟨some ⟨.d0, .d0, .d3⟩, .move (.c (.bool false)), none⟩])
  (.seq (.seq (.region [⟨some ⟨.d0, .d1, .d0⟩, .move (.t ⟨.d0, .d0, .d0⟩), none⟩,
    ⟨some ⟨.d0, .d1, .d1⟩, .call 45 [(.t ⟨.d0, .d1, .d0⟩), (.c (.string { data := #[0] }))], none⟩,
    ⟨some ⟨.d0, .d1, .d2⟩, .move (.t ⟨.d0, .d0, .d0⟩), none⟩,
    ⟨some ⟨.d0, .d1, .d3⟩, .slen (.t ⟨.d0, .d1, .d2⟩), none⟩,
    ⟨some ⟨.d0, .d1, .d4⟩, .bin .eql (.t ⟨.d0, .d1, .d1⟩) (.t ⟨.d0, .d1, .d3⟩), none⟩])
  (.cond (.t ⟨.d0, .d1, .d4⟩)
    (.seq (.region [⟨some ⟨.d0, .d0, .d2⟩, .move (.c (.slice none 0 0)), none⟩,
      ⟨some ⟨.d0, .d0, .d3⟩, .move (.c (.bool true)), none⟩])
    (.ret))
    (.skip)))
  (.seq (.seq (.region [⟨some ⟨.d0, .d1, .d5⟩, .move (.t ⟨.d0, .d0, .d0⟩), none⟩,
    ⟨some ⟨.d0, .d1, .d6⟩, .strAt (.t ⟨.d0, .d1, .d5⟩) (.c (.int .i64 0)), none⟩,
    ⟨some ⟨.d0, .d1, .d7⟩, .bin .eql (.t ⟨.d0, .d1, .d6⟩) (.c (.int .u8 0)), none⟩])
  (.cond (.t ⟨.d0, .d1, .d7⟩)
    (.seq (.region [⟨some ⟨.d0, .d0, .d2⟩, .move (.c (.slice none 0 0)), none⟩,
      ⟨some ⟨.d0, .d0, .d3⟩, .move (.c (.bool false)), none⟩])
    (.ret))
    (.skip)))
  (.seq (.region [⟨some ⟨.d0, .d0, .d4⟩, .move (.c (.int .i64 1)), none⟩])
  (.seq (.region [⟨some ⟨.d0, .d2, .d0⟩, .move (.t ⟨.d0, .d0, .d0⟩), none⟩,
    ⟨some ⟨.d0, .d2, .d1⟩, .strAt (.t ⟨.d0, .d2, .d0⟩) (.c (.int .i64 0)), none⟩,
    ⟨some ⟨.d0, .d2, .d2⟩, .convInt .i64 (.t ⟨.d0, .d2, .d1⟩), none⟩,
    ⟨some ⟨.d0, .d2, .d3⟩, .build [.int .i64 0, .string { data := #[] }] [(0, 1, (.t ⟨.d0, .d2, .d2⟩))], none⟩,
    ⟨some ⟨.d0, .d0, .d5⟩, .alloc 0 [.int .i64 0, .string { data := #[] }], none⟩,
    ⟨none, .store 2 (.t ⟨.d0, .d0, .d5⟩) (.t ⟨.d0, .d2, .d3⟩), none⟩])
  (.seq (.seq (.region [⟨some ⟨.d0, .d2, .d4⟩, .move (.t ⟨.d0, .d0, .d0⟩), none⟩,
    ⟨some ⟨.d0, .d2, .d5⟩, .strAt (.t ⟨.d0, .d2, .d4⟩) (.c (.int .i64 0)), none⟩,
    ⟨some ⟨.d0, .d2, .d6⟩, .bin .gtr (.t ⟨.d0, .d2, .d5⟩) (.c (.int .u8 1)), none⟩])
  (.cond (.t ⟨.d0, .d2, .d6⟩)
    (.seq (.seq (.region [⟨some ⟨.d0, .d2, .d7⟩, .move (.t ⟨.d0, .d0, .d0⟩), none⟩,
      ⟨some ⟨.d0, .d3, .d0⟩, .slen (.t ⟨.d0, .d2, .d7⟩), none⟩,
      ⟨some ⟨.d0, .d3, .d1⟩, .bin .lss (.t ⟨.d0, .d3, .d0⟩) (.c (.int .i64 2)), none⟩,
      ⟨some ⟨.d0, .d3, .d2⟩, .move (.t ⟨.d0, .d3, .d1⟩), none⟩,
      ⟨some ⟨.d0, .d3, .d3⟩, .move (.t ⟨.d0, .d0, .d0⟩), some (⟨.d0, .d3, .d2⟩, false)⟩,
      ⟨some ⟨.d0, .d3, .d4⟩, .strAt (.t ⟨.d0, .d3, .d3⟩) (.c (.int .i64 1)), some (⟨.d0, .d3, .d2⟩, false)⟩,
      ⟨some ⟨.d0, .d3, .d5⟩, .convInt .i64 (.t ⟨.d0, .d3, .d4⟩), some (⟨.d0, .d3, .d2⟩, false)⟩,
      ⟨some ⟨.d0, .d3, .d6⟩, .move (.t ⟨.d0, .d0, .d0⟩), some (⟨.d0, .d3, .d2⟩, false)⟩,
      ⟨some ⟨.d0, .d3, .d7⟩, .slen (.t ⟨.d0, .d3, .d6⟩), some (⟨.d0, .d3, .d2⟩, false)⟩,
      ⟨some ⟨.d0, .d4, .d0⟩, .call 17 [(.t ⟨.d0, .d3, .d5⟩), (.c (.int .i64 2)), (.t ⟨.d0, .d3, .d7⟩)], some (⟨.d0, .d3, .d2⟩, false)⟩,
      ⟨some ⟨.d0, .d4, .d1⟩, .un .not (.t ⟨.d0, .d4, .d0⟩), some (⟨.d0, .d3, .d2⟩, false)⟩,
      ⟨some ⟨.d0, .d4, .d2⟩, .pick (.t ⟨.d0, .d3, .d2⟩) (.c (.bool true)) (.t ⟨.d0, .d4, .d1⟩), none⟩])
    (.cond (.t ⟨.d0, .d4, .d2⟩)
      (.seq (.region [⟨some ⟨.d0, .d0, .d2⟩, .move (.c (.slice none 0 0)), none⟩,
        ⟨some ⟨.d0, .d0, .d3⟩, .move (.c (.bool false)), none⟩])
      (.ret))
      (.skip)))
    (.seq (.region [⟨some ⟨.d0, .d4, .d3⟩, .move (.t ⟨.d0, .d0, .d0⟩), none⟩,
      ⟨some ⟨.d0, .d4, .d4⟩, .strAt (.t ⟨.d0, .d4, .d3⟩) (.c (.int .i64 1)), none⟩,
      ⟨some ⟨.d0, .d4, .d5⟩, .convInt .i64 (.t ⟨.d0, .d4, .d4⟩), none⟩,
      ⟨some ⟨.d0, .d0, .d4⟩, .move (.t ⟨.d0, .d4, .d5⟩), none⟩])
    (.region [⟨some ⟨.d0, .d4, .d6⟩, .move (.t ⟨.d0, .d0, .d0⟩), none⟩,
      ⟨some ⟨.d0, .d4, .d7⟩, .move (.t ⟨.d0, .d0, .d4⟩), none⟩,
      ⟨some ⟨.d0, .d5, .d0⟩, .substr (.t ⟨.d0, .d4, .d6⟩) (some (.c (.int .i64 2))) (some (.t ⟨.d0, .d4, .d7⟩)), none⟩,
      ⟨some ⟨.d0, .d5, .d1⟩, .fieldAddr 1 (.t ⟨.d0, .d0, .d5⟩), none⟩,
      ⟨none, .store 1 (.t ⟨.d0, .d5, .d1⟩) (.t ⟨.d0, .d5, .d0⟩), none⟩])))
    (.skip)))
  (.seq (.region [⟨some ⟨.d0, .d5, .d3⟩, .move (.t ⟨.d0, .d0, .d0⟩), none⟩,
    ⟨some ⟨.d0, .d5, .d4⟩, .move (.t ⟨.d0, .d0, .d4⟩), none⟩,
    ⟨some ⟨.d0, .d5, .d5⟩, .substr (.t ⟨.d0, .d5, .d3⟩) (some (.t ⟨.d0, .d5, .d4⟩)) none, none⟩,
    ⟨some ⟨.d0, .d5, .d6⟩, .call 33 [(.t ⟨.d0, .d5, .d5⟩)], none⟩,
    ⟨some ⟨.d0, .d5, .d2⟩, .move (.t ⟨.d0, .d5, .d6⟩), none⟩,
    ⟨some ⟨.d0, .d5, .d7⟩, .extract 0 (.t ⟨.d0, .d5, .d2⟩), none⟩,
    ⟨some ⟨.d0, .d6, .d0⟩, .extract 1 (.t ⟨.d0, .d5, .d2⟩), none⟩,
    ⟨some ⟨.d0, .d0, .d6⟩, .move (.t ⟨.d0, .d5, .d7⟩), none⟩,
    ⟨some ⟨.d0, .d0, .d7⟩, .move (.t ⟨.d0, .d6, .d0⟩), none⟩])
  (.seq (.seq (.region [⟨some ⟨.d0, .d6, .d1⟩, .move (.t ⟨.d0, .d0, .d7⟩), none⟩,
    ⟨some ⟨.d0, .d6, .d2⟩, .un .not (.t ⟨.d0, .d6, .d1⟩), none⟩])
  (.cond (.t ⟨.d0, .d6, .d2⟩)
    (.seq (.region [⟨some ⟨.d0, .d0, .d2⟩, .move (.c (.slice none 0 0)), none⟩,
      ⟨some ⟨.d0, .d0, .d3⟩, .move (.c (.bool false)), none⟩])
    (.ret))
    (.skip)))
  (.seq (.region [⟨some ⟨.d0, .d6, .d3⟩, .load true 2 (.t ⟨.d0, .d0, .d5⟩), none⟩,
    ⟨some ⟨.d0, .d6, .d4⟩, .buildSlice 1 1 [.int .i64 0, .string { data := #[] }] [(0, (.t ⟨.d0, .d6, .d3⟩))], none⟩,
    ⟨some ⟨.d0, .d6, .d5⟩, .move (.t ⟨.d0, .d0, .d6⟩), none⟩,
    ⟨some ⟨.d0, .d6, .d6⟩, .append 2 2 24 (.t ⟨.d0, .d6, .d4⟩) (.t ⟨.d0, .d6, .d5⟩), none⟩,
    ⟨some ⟨.d0, .d0, .d2⟩, .move (.t ⟨.d0, .d6, .d6⟩), none⟩,
    ⟨some ⟨.d0, .d0, .d3⟩, .move (.c (.bool true)), none⟩])
  (.ret)))))))))
def r_custref_optionsOf : List XR := [.tmp ⟨.d0, .d0, .d2⟩, .tmp ⟨.d0, .d0, .d3⟩]
theorem ok_custref_optionsOf : okC Try.prog Try.f33.ntmps (bodyOf Try.f33) x_custref_optionsOf = true := by kernel_rfl
theorem okr_custref_optionsOf : okRs Try.prog Try.f33.results.toList r_custref_optionsOf = true := by kernel_rfl

/-- custref.UnderText -/
def x_custref_UnderText : XC :=
  .seq (.region [⟨some ⟨.d0, .d1, .d0⟩, .move (.c (.string { data := #[] })), none⟩])
  (.seq (.region [⟨some ⟨.d0, .d1, .d1⟩, .move (.t ⟨.d0, .d0, .d0⟩), none⟩,
    ⟨some ⟨.d0, .d1, .d2⟩, .call 20 [(.t ⟨.d0, .d1, .d1⟩)], none⟩,
    ⟨some ⟨.d0, .d1, .d3⟩, .move (.t ⟨.d0, .d0, .d1⟩), none⟩,
    ⟨some ⟨.d0, .d1, .d4⟩, .call 20 [(.t ⟨.d0, .d1, .d3⟩)], none⟩,
    ⟨some ⟨.d0, .d1, .d5⟩, .sbin .add (.t ⟨.d0, .d1, .d2⟩) (.t ⟨.d0, .d1, .d4⟩), none⟩,
    ⟨some ⟨.d0, .d1, .d6⟩, .move (.t ⟨.d0, .d0, .d2⟩), none⟩,
    ⟨some ⟨.d0, .d1, .d7⟩, .bin .rem (.t ⟨.d0, .d1, .d6⟩) (.c (.int .i64 256)), none⟩,
    ⟨some ⟨.d0, .d2, .d0⟩, .bin .add (.t ⟨.d0, .d1, .d7⟩) (.c (.int .i64 256)), none⟩,
    ⟨some ⟨.d0, .d2, .d1⟩, .bin .rem (.t ⟨.d0, .d2, .d0⟩) (.c (.int .i64 256)), none⟩,
    ⟨some ⟨.d0, .d2, .d2⟩, .call 19 [(.t ⟨.d0, .d2, .d1⟩)], none⟩,
    ⟨some ⟨.d0, .d2, .d3⟩, .sbin .add (.t ⟨.d0, .d1, .d5⟩) (.t ⟨.d0, .d2, .d2⟩), none⟩,
    ⟨some ⟨.d0, .d2, .d4⟩, .move (.t ⟨.d0, .d0, .d3⟩), none⟩,
    ⟨some ⟨.d0, .d2, .d5⟩, .bin .rem (.t ⟨.d0, .d2, .d4⟩) (.c (.int .i64 65536)), none⟩,
    ⟨some ⟨.d0, .d2, .d6⟩, .bin .add (.t ⟨.d0, .d2, .d5⟩) (.c (.int .i64 65536)), none⟩,
    ⟨some ⟨.d0, .d2, .d7⟩, .bin .rem (.t ⟨.d0, .d2, .d6⟩) (.c (.int .i64 65536)), none⟩,
    ⟨some ⟨.d0, .d3, .d0⟩, .call 19 [(.t ⟨.d0, .d2, .d7⟩)], none⟩,
    ⟨some ⟨.d0, .d3, .d1⟩, .sbin .add (.t ⟨.d0, .d2, .d3⟩) (.t ⟨.d0, .d3, .d0⟩), none⟩,
    ⟨some ⟨.d0, .d1, .d0⟩, .move (.t ⟨.d0, .d3, .d1⟩), none⟩])
  (.ret))
def r_custref_UnderText : List XR := [.tmp ⟨.d0, .d1, .d0⟩]
theorem ok_custref_UnderText : okC Try.prog Try.f34.ntmps (bodyOf Try.f34) x_custref_UnderText = true := by kernel_rfl
theorem okr_custref_UnderText : okRs Try.prog Try.f34.results.toList r_custref_UnderText = true := by kernel_rfl

/-- swap.packet).word -/
def x_swap_packet_word : XC :=
  .seq (.region [⟨some ⟨.d0, .d0, .d4⟩, .move (.c (.int .u16 0)), none⟩])
  (.seq (.regionD [0, 0, 3, 7, 15, 31, 0, 0, 128, 448, 960, 1984, 4095, 8191] [⟨some ⟨.d0, .d0, .d5⟩, .move (.t ⟨.d0, .d0, .d0⟩), none⟩,
    ⟨some ⟨.d0, .d0, .d6⟩, .move (.t ⟨.d0, .d0, .d1⟩), none⟩,
    ⟨some ⟨.d0, .d0, .d7⟩, .indexSl 1 (.t ⟨.d0, .d0, .d5⟩) (.t ⟨.d0, .d0, .d6⟩), none⟩,
    ⟨some ⟨.d0, .d1, .d0⟩, .load false 1 (.t ⟨.d0, .d0, .d7⟩), none⟩,
    ⟨some ⟨.d0, .d1, .d1⟩, .convInt .u16 (.t ⟨.d0, .d1, .d0⟩), none⟩,
    ⟨some ⟨.d0, .d1, .d2⟩, .bin .shl (.t ⟨.d0, .d1, .d1⟩) (.c (.int .u64 8)), none⟩,
    ⟨some ⟨.d0, .d1, .d3⟩, .move (.t ⟨.d0, .d0, .d0⟩), none⟩,
    ⟨some ⟨.d0, .d1, .d4⟩, .move (.t ⟨.d0, .d0, .d1⟩), none⟩,
    ⟨some ⟨.d0, .d1, .d5⟩, .bin .add (.t ⟨.d0, .d1, .d4⟩) (.c (.int .i64 1)), none⟩,
    ⟨some ⟨.d0, .d1, .d6⟩, .indexSl 1 (.t ⟨.d0, .d1, .d3⟩) (.t ⟨.d0, .d1, .d5⟩), none⟩,
    ⟨some ⟨.d0, .d1, .d7⟩, .load false 1 (.t ⟨.d0, .d1, .d6⟩), none⟩,
    ⟨some ⟨.d0, .d2, .d0⟩, .convInt .u16 (.t ⟨.d0, .d1, .d7⟩), none⟩,
    ⟨some ⟨.d0, .d2, .d1⟩, .bin .or (.t ⟨.d0, .d1, .d2⟩) (.t ⟨.d0, .d2, .d0⟩), none⟩,
    ⟨some ⟨.d0, .d0, .d4⟩, .move (.t ⟨.d0, .d2, .d1⟩), none⟩])
  (.ret))
def r_swap_packet_word : List XR := [.tmp ⟨.d0, .d0, .d4⟩]
theorem ok_swap_packet_word : okC Try.prog Try.f35.ntmps (bodyOf Try.f35) x_swap_packet_word = true := by kernel_rfl
theorem okr_swap_packet_word : okRs Try.prog Try.f35.results.toList r_swap_packet_word = true := by kernel_rfl

/-- swap.packet).change -/
def x_swap_packet_change : XC :=
  .seq (.region [⟨some ⟨.d0, .d1, .d3⟩, .move (.t ⟨.d0, .d0, .d0⟩), none⟩,
    ⟨some ⟨.d0, .d1, .d4⟩, .move (.t ⟨.d0, .d0, .d1⟩), none⟩,
    ⟨some ⟨.d0, .d1, .d5⟩, .call 35 [(.t ⟨.d0, .d1, .d3⟩), (.t ⟨.d0, .d1, .d4⟩)], none⟩,
    ⟨some ⟨.d0, .d1, .d0⟩, .move (.t ⟨.d0, .d1, .d5⟩), none⟩])
  (.seq (.region [⟨some ⟨.d0, .d1, .d6⟩, .move (.t ⟨.d0, .d0, .d0⟩), none⟩,
    ⟨some ⟨.d0, .d1, .d7⟩, .move (.t ⟨.d0, .d0, .d1⟩), none⟩,
    ⟨some ⟨.d0, .d2, .d0⟩, .move (.t ⟨.d0, .d0, .d2⟩), none⟩,
    ⟨some ⟨.d0, .d2, .d1⟩, .call 37 [(.t ⟨.d0, .d1, .d6⟩), (.t ⟨.d0, .d1, .d7⟩), (.t ⟨.d0, .d2, .d0⟩)], none⟩])
  (.seq (.region [⟨some ⟨.d0, .d2, .d2⟩, .move (.t ⟨.d0, .d0, .d3⟩), none⟩,
    ⟨some ⟨.d0, .d2, .d3⟩, .len (.t ⟨.d0, .d2, .d2⟩), none⟩,
    ⟨some ⟨.d0, .d2, .d4⟩, .move (.c (.int .i64 0)), none⟩])
  (.block 0
    (.loop
      (.seq (.region [⟨some ⟨.d0, .d2, .d5⟩, .bin .lss (.t ⟨.d0, .d2, .d4⟩) (.t ⟨.d0, .d2, .d3⟩), none⟩])
      (.seq (.cond (.t ⟨.d0, .d2, .d5⟩)
        (.skip)
        (.exit 0))
      (.seq (.block 1
        (.seq (.region [⟨some ⟨.d0, .d2, .d6⟩, .indexSl 1 (.t ⟨.d0, .d2, .d2⟩) (.t ⟨.d0, .d2, .d4⟩), none⟩,
          ⟨some ⟨.d0, .d2, .d7⟩, .load false 1 (.t ⟨.d0, .d2, .d6⟩), none⟩,
          ⟨some ⟨.d0, .d1, .d2⟩, .move (.t ⟨.d0, .d2, .d7⟩), none⟩])
        (.region [⟨some ⟨.d0, .d3, .d0⟩, .move (.t ⟨.d0, .d0, .d0⟩), none⟩,
          ⟨some ⟨.d0, .d3, .d1⟩, .move (.t ⟨.d0, .d1, .d2⟩), none⟩,
          ⟨some ⟨.d0, .d3, .d2⟩, .move (.t ⟨.d0, .d0, .d0⟩), none⟩,
          ⟨some ⟨.d0, .d3, .d3⟩, .move (.t ⟨.d0, .d1, .d2⟩), none⟩,
          ⟨some ⟨.d0, .d3, .d4⟩, .call 35 [(.t ⟨.d0, .d3, .d2⟩), (.t ⟨.d0, .d3, .d3⟩)], none⟩,
          ⟨some ⟨.d0, .d3, .d5⟩, .move (.t ⟨.d0, .d1, .d0⟩), none⟩,
          ⟨some ⟨.d0, .d3, .d6⟩, .move (.t ⟨.d0, .d0, .d2⟩), none⟩,
          ⟨some ⟨.d0, .d3, .d7⟩, .call 46 [(.t ⟨.d0, .d3, .d4⟩), (.t ⟨.d0, .d3, .d5⟩), (.t ⟨.d0, .d3, .d6⟩)], none⟩,
          ⟨some ⟨.d0, .d4, .d0⟩, .call 37 [(.t ⟨.d0, .d3, .d0⟩), (.t ⟨.d0, .d3, .d1⟩), (.t ⟨.d0, .d3, .d7⟩)], none⟩])))
      (.region [⟨some ⟨.d0, .d4, .d1⟩, .bin .add (.t ⟨.d0, .d2, .d4⟩) (.c (.int .i64 1)), none⟩,
        ⟨some ⟨.d0, .d2, .d4⟩, .move (.t ⟨.d0, .d4, .d1⟩), none⟩]))))))))
def r_swap_packet_change : List XR := []
theorem ok_swap_packet_change : okC Try.prog Try.f36.ntmps (bodyOf Try.f36) x_swap_packet_change = true := by kernel_rfl
theorem okr_swap_packet_change : okRs Try.prog Try.f36.results.toList r_swap_packet_change = true := by kernel_rfl

/-- swap.packet).put -/
def x_swap_packet_put : XC :=
  .region [⟨some ⟨.d0, .d0, .d6⟩, .move (.t ⟨.d0, .d0, .d0⟩), none⟩,
    ⟨some ⟨.d0, .d0, .d7⟩, .move (.t ⟨.d0, .d0, .d1⟩), none⟩,
    ⟨some ⟨.d0, .d1, .d0⟩, .move (.t ⟨.d0, .d0, .d0⟩), none⟩,
    ⟨some ⟨.d0, .d1, .d1⟩, .move (.t ⟨.d0, .d0, .d1⟩), none⟩,
    ⟨some ⟨.d0, .d1, .d2⟩, .bin .add (.t ⟨.d0, .d1, .d1⟩) (.c (.int .i64 1)), none⟩,
    ⟨some ⟨.d0, .d1, .d3⟩, .move (.t ⟨.d0, .d0, .d2⟩), none⟩,
    ⟨some ⟨.d0, .d1, .d4⟩, .bin .shr (.t ⟨.d0, .d1, .d3⟩) (.c (.int .u64 8)), none⟩,
    ⟨some ⟨.d0, .d1, .d5⟩, .convInt .u8 (.t ⟨.d0, .d1, .d4⟩), none⟩,
    ⟨some ⟨.d0, .d1, .d6⟩, .move (.t ⟨.d0, .d0, .d2⟩), none⟩,
    ⟨some ⟨.d0, .d1, .d7⟩, .convInt .u8 (.t ⟨.d0, .d1, .d6⟩), none⟩,
    ⟨some ⟨.d0, .d2, .d0⟩, .indexSl 1 (.t ⟨.d0, .d0, .d6⟩) (.t ⟨.d0, .d0, .d7⟩), none⟩,
    ⟨none, .store 1 (.t ⟨.d0, .d2, .d0⟩) (.t ⟨.d0, .d1, .d5⟩), none⟩,
    ⟨some ⟨.d0, .d2, .d1⟩, .indexSl 1 (.t ⟨.d0, .d1, .d0⟩) (.t ⟨.d0, .d1, .d2⟩), none⟩,
    ⟨none, .store 1 (.t ⟨.d0, .d2, .d1⟩) (.t ⟨.d0, .d1, .d7⟩), none⟩]
def r_swap_packet_put : List XR := []
theorem ok_swap_packet_put : okC Try.prog Try.f37.ntmps (bodyOf Try.f37) x_swap_packet_put = true := by kernel_rfl
theorem okr_swap_packet_put : okRs Try.prog Try.f37.results.toList r_swap_packet_put = true := by kernel_rfl

/-- custref.EndAround -/
def x_custref_EndAround : XC :=
  .seq (.region [⟨some ⟨.d0, .d0, .d4⟩, .move (.c (.int .i64 0)), none⟩])
  (.seq (.seq (.region [⟨some ⟨.d0, .d0, .d5⟩, .move (.t ⟨.d0, .d0, .d0⟩), none⟩,
    ⟨some ⟨.d0, .d0, .d6⟩, .move (.t ⟨.d0, .d0, .d1⟩), none⟩,
    ⟨some ⟨.d0, .d0, .d7⟩, .bin .add (.t ⟨.d0, .d0, .d5⟩) (.t ⟨.d0, .d0, .d6⟩), none⟩,
    ⟨some ⟨.d0, .d1, .d0⟩, .bin .gtr (.t ⟨.d0, .d0, .d7⟩) (.c (.int .i64 65535)), none⟩])
  (.cond (.t ⟨.d0, .d1, .d0⟩)
    (.seq (.region [⟨some ⟨.d0, .d1, .d1⟩, .move (.t ⟨.d0, .d0, .d0⟩), none⟩,
      ⟨some ⟨.d0, .d1, .d2⟩, .move (.t ⟨.d0, .d0, .d1⟩), none⟩,
      ⟨some ⟨.d0, .d1, .d3⟩, .bin .add (.t ⟨.d0, .d1, .d1⟩) (.t ⟨.d0, .d1, .d2⟩), none⟩,
      ⟨some ⟨.d0, .d1, .d4⟩, .bin .sub (.t ⟨.d0, .d1, .d3⟩) (.c (.int .i64 65535)), none⟩,
      ⟨some ⟨.d0, .d0, .d4⟩, .move (.t ⟨.d0, .d1, .d4⟩), none⟩])
    (.ret))
    (.skip)))
  (.seq (.region [⟨some ⟨.d0, .d1, .d5⟩, .move (.t ⟨.d0, .d0, .d0⟩), none⟩,
    ⟨some ⟨.d0, .d1, .d6⟩, .move (.t ⟨.d0, .d0, .d1⟩), none⟩,
    ⟨some ⟨.d0, .d1, .d7⟩, .bin .add (.t ⟨.d0, .d1, .d5⟩) (.t ⟨.d0, .d1, .d6⟩), none⟩,
    ⟨some ⟨.d0, .d0, .d4⟩, .move (.t ⟨.d0, .d1, .d7⟩), none⟩])
  (.ret)))
def r_custref_EndAround : List XR := [.tmp ⟨.d0, .d0, .d4⟩]
theorem ok_custref_EndAround : okC Try.prog Try.f38.ntmps (bodyOf Try.f38) x_custref_EndAround = true := by kernel_rfl
theorem okr_custref_EndAround : okRs Try.prog Try.f38.results.toList r_custref_EndAround = true := by kernel_rfl

/-- custref.Bytes -/
def x_custref_Bytes : XC :=
  .seq (.region [⟨some ⟨.d0, .d0, .d2⟩, .move (.c (.string { data := #[] })), none⟩])
  (.seq (.region [⟨some ⟨.d0, .d0, .d6⟩, .move (.t ⟨.d0, .d0, .d0⟩), none⟩,
    ⟨some ⟨.d0, .d0, .d7⟩, .len (.t ⟨.d0, .d0, .d6⟩), none⟩,
    ⟨some ⟨.d0, .d1, .d0⟩, .makeSlice 1 1 [.int .u8 0] (.t ⟨.d0, .d0, .d7⟩) (.t ⟨.d0, .d0, .d7⟩), none⟩,
    ⟨some ⟨.d0, .d0, .d3⟩, .move (.t ⟨.d0, .d1, .d0⟩), none⟩])
  (.seq (.seq (.region [⟨some ⟨.d0, .d1, .d1⟩, .move (.t ⟨.d0, .d0, .d0⟩), none⟩,
    ⟨some ⟨.d0, .d1, .d2⟩, .len (.t ⟨.d0, .d1, .d1⟩), none⟩,
    ⟨some ⟨.d0, .d1, .d3⟩, .move (.c (.int .i64 0)), none⟩])
  (.block 0
    (.loop
      (.seq (.region [⟨some ⟨.d0, .d1, .d4⟩, .bin .lss (.t ⟨.d0, .d1, .d3⟩) (.t ⟨.d0, .d1, .d2⟩), none⟩])
      (.seq (.cond (.t ⟨.d0, .d1, .d4⟩)
        (.skip)
        (.exit 0))
      (.seq (.block 1
        (.seq (.region [⟨some ⟨.d0, .d1, .d5⟩, .move (.t ⟨.d0, .d1, .d3⟩), none⟩,
          ⟨some ⟨.d0, .d1, .d6⟩, .indexSl 1 (.t ⟨.d0, .d1, .d1⟩) (.t ⟨.d0, .d1, .d3⟩), none⟩,
          ⟨some ⟨.d0, .d1, .d7⟩, .load false 1 (.t ⟨.d0, .d1, .d6⟩), none⟩,
          ⟨some ⟨.d0, .d0, .d4⟩, .move (.t ⟨.d0, .d1, .d5⟩), none⟩,
          ⟨some ⟨.d0, .d0, .d5⟩, .move (.t ⟨.d0, .d1, .d7⟩), none⟩])
        (.region [⟨some ⟨.d0, .d2, .d0⟩, .move (.t ⟨.d0, .d0, .d3⟩), none⟩,
          ⟨some ⟨.d0, .d2, .d1⟩, .move (.t ⟨.d0, .d0, .d4⟩), none⟩,
          ⟨some ⟨.d0, .d2, .d2⟩, .move (.t ⟨.d0, .d0, .d5⟩), none⟩,
          ⟨some ⟨.d0, .d2, .d3⟩, .convInt .u8 (.t ⟨.d0, .d2, .d2⟩), none⟩,
          ⟨some ⟨.d0, .d2, .d4⟩, .indexSl 1 (.t ⟨.d0, .d2, .d0⟩) (.t ⟨.d0, .d2, .d1⟩), none⟩,
          ⟨none, .store 1 (.t ⟨.d0, .d2, .d4⟩) (.t ⟨.d0, .d2, .d3⟩), none⟩])))
      (.region [⟨some ⟨.d0, .d2, .d5⟩, .bin .add (.t ⟨.d0, .d1, .d3⟩) (.c (.int .i64 1)), none⟩,
        ⟨some ⟨.d0, .d1, .d3⟩, .move (.t ⟨.d0, .d2, .d5⟩), none⟩])))))))
  (.seq (.region [⟨some ⟨.d0, .d2, .d6⟩, .move (.t ⟨.d0, .d0, .d3⟩), none⟩,
    ⟨some ⟨.d0, .d2, .d7⟩, .b2s (.t ⟨.d0, .d2, .d6⟩), none⟩,
    ⟨some ⟨.d0, .d0, .d2⟩, .move (.t ⟨.d0, .d2, .d7⟩), none⟩])
  (.ret))))
def r_custref_Bytes : List XR := [.tmp ⟨.d0, .d0, .d2⟩]
theorem ok_custref_Bytes : okC Try.prog Try.f39.ntmps (bodyOf Try.f39) x_custref_Bytes = true := by kernel_rfl
theorem okr_custref_Bytes : okRs Try.prog Try.f39.results.toList r_custref_Bytes = true := by kernel_rfl

/-- ip.byt -/
def x_ip_byt : XC :=
  .seq (.region [⟨some ⟨.d0, .d0, .d2⟩, .move (.c (.bool false)), none⟩])
  (.seq (.region [⟨some ⟨.d0, .d0, .d3⟩, .move (.t ⟨.d0, .d0, .d0⟩), none⟩,
    ⟨some ⟨.d0, .d0, .d4⟩, .bin .geq (.t ⟨.d0, .d0, .d3⟩) (.c (.int .i64 0)), none⟩,
    ⟨some ⟨.d0, .d0, .d5⟩, .move (.t ⟨.d0, .d0, .d4⟩), none⟩,
    ⟨some ⟨.d0, .d0, .d6⟩, .move (.t ⟨.d0, .d0, .d0⟩), some (⟨.d0, .d0, .d5⟩, true)⟩,
    ⟨some ⟨.d0, .d0, .d7⟩, .bin .leq (.t ⟨.d0, .d0, .d6⟩) (.c (.int .i64 255)), some (⟨.d0, .d0, .d5⟩, true)⟩,
    ⟨some ⟨.d0, .d1, .d0⟩, .pick (.t ⟨.d0, .d0, .d5⟩) (.t ⟨.d0, .d0, .d7⟩) (.c (.bool false)), none⟩,
    ⟨some ⟨.d0, .d0, .d2⟩, .move (.t ⟨.d0, .d1, .d0⟩), none⟩])
  (.ret))
def r_ip_byt : List XR := [.tmp ⟨.d0, .d0, .d2⟩]
theorem ok_ip_byt : okC Try.prog Try.f40.ntmps (bodyOf Try.f40) x_ip_byt = true := by kernel_rfl
theorem okr_ip_byt : okRs Try.prog Try.f40.results.toList r_ip_byt = true := by kernel_rfl

/-- sum.Add -/
def x_sum_Add : XC :=
  .seq (.region [⟨some ⟨.d0, .d0, .d4⟩, .move (.c (.int .u16 0)), none⟩])
  (.seq (.region [⟨some ⟨.d0, .d0, .d6⟩, .move (.t ⟨.d0, .d0, .d0⟩), none⟩,
    ⟨some ⟨.d0, .d0, .d7⟩, .convInt .u64 (.t ⟨.d0, .d0, .d6⟩), none⟩,
    ⟨some ⟨.d0, .d0, .d5⟩, .move (.t ⟨.d0, .d0, .d7⟩), none⟩])
  (.seq (.block 0
    (.loop
      (.seq (.seq (.region [⟨some ⟨.d0, .d1, .d0⟩, .move (.t ⟨.d0, .d0, .d1⟩), none⟩,
        ⟨some ⟨.d0, .d1, .d1⟩, .slen (.t ⟨.d0, .d1, .d0⟩), none⟩,
        ⟨some ⟨.d0, .d1, .d2⟩, .bin .gtr (.t ⟨.d0, .d1, .d1⟩) (.c (.int .i64 1)), none⟩])
      (.cond (.t ⟨.d0, .d1, .d2⟩)
        (.skip)
        (.exit 0)))
      (.seq (.block 1
        (.regionD [0, 0, 2, 6, 14, 0, 32, 96, 254, 511, 1023] [⟨some ⟨.d0, .d1, .d5⟩, .move (.t ⟨.d0, .d0, .d5⟩), none⟩,
          ⟨some ⟨.d0, .d1, .d6⟩, .move (.t ⟨.d0, .d0, .d1⟩), none⟩,
          ⟨some ⟨.d0, .d1, .d7⟩, .strAt (.t ⟨.d0, .d1, .d6⟩) (.c (.int .i64 0)), none⟩,
          ⟨some ⟨.d0, .d2, .d0⟩, .convInt .u64 (.t ⟨.d0, .d1, .d7⟩), none⟩,
          ⟨some ⟨.d0, .d2, .d1⟩, .bin .shl (.t ⟨.d0, .d2, .d0⟩) (.c (.int .u64 8)), none⟩,
          ⟨some ⟨.d0, .d2, .d2⟩, .move (.t ⟨.d0, .d0, .d1⟩), none⟩,
          ⟨some ⟨.d0, .d2, .d3⟩, .strAt (.t ⟨.d0, .d2, .d2⟩) (.c (.int .i64 1)), none⟩,
          ⟨some ⟨.d0, .d2, .d4⟩, .convInt .u64 (.t ⟨.d0, .d2, .d3⟩), none⟩,
          ⟨some ⟨.d0, .d2, .d5⟩, .bin .or (.t ⟨.d0, .d2, .d1⟩) (.t ⟨.d0, .d2, .d4⟩), none⟩,
          ⟨some ⟨.d0, .d2, .d6⟩, .bin .add (.t ⟨.d0, .d1, .d5⟩) (.t ⟨.d0, .d2, .d5⟩), none⟩,
          ⟨some ⟨.d0, .d0, .d5⟩, .move (.t ⟨.d0, .d2, .d6⟩), none⟩]))
      (.region [⟨some ⟨.d0, .d1, .d3⟩, .move (.t ⟨.d0, .d0, .d1⟩), none⟩,
        ⟨some ⟨.d0, .d1, .d4⟩, .substr (.t ⟨.d0, .d1, .d3⟩) (some (.c (.int .i64 2))) none, none⟩,
        ⟨some ⟨.d0, .d0, .d1⟩, .move (.t ⟨.d0, .d1, .d4⟩), none⟩])))))
  (.seq (.seq (.region [⟨some ⟨.d0, .d2, .d7⟩, .move (.t ⟨.d0, .d0, .d1⟩), none⟩,
    ⟨some ⟨.d0, .d3, .d0⟩, .sbin .neq (.t ⟨.d0, .d2, .d7⟩) (.c (.string { data := #[] })), none⟩])
  (.cond (.t ⟨.d0, .d3, .d0⟩)
    (.region [⟨some ⟨.d0, .d3, .d1⟩, .move (.t ⟨.d0, .d0, .d5⟩), none⟩,
      ⟨some ⟨.d0, .d3, .d2⟩, .move (.t ⟨.d0, .d0, .d1⟩), none⟩,
      ⟨some ⟨.d0, .d3, .d3⟩, .strAt (.t ⟨.d0, .d3, .d2⟩) (.c (.int .i64 0)), none⟩,
      ⟨some ⟨.d0, .d3, .d4⟩, .convInt .u64 (.t ⟨.d0, .d3, .d3⟩), none⟩,
      ⟨some ⟨.d0, .d3, .d5⟩, .bin .shl (.t ⟨.d0, .d3, .d4⟩) (.c (.int .u64 8)), none⟩,
      ⟨some ⟨.d0, .d3, .d6⟩, .bin .add (.t ⟨.d0, .d3, .d1⟩) (.t ⟨.d0, .d3, .d5⟩), none⟩,
      ⟨some ⟨.d0, .d0, .d5⟩, .move (.t ⟨.d0, .d3, .d6⟩), none⟩])
    (.skip)))
  (.seq (.region [⟨some ⟨.d0, .d3, .d7⟩, .move (.t ⟨.d0, .d0, .d5⟩), none⟩,
    ⟨some ⟨.d0, .d4, .d0⟩, .call 47 [(.t ⟨.d0, .d3, .d7⟩)], none⟩,
    ⟨some ⟨.d0, .d0, .d4⟩, .move (.t ⟨.d0, .d4, .d0⟩), none⟩])
  (.ret)))))
def r_sum_Add : List XR := [.tmp ⟨.d0, .d0, .d4⟩]
theorem ok_sum_Add : okC Try.prog Try.f41.ntmps (bodyOf Try.f41) x_sum_Add = true := by kernel_rfl
theorem okr_sum_Add : okRs Try.prog Try.f41.results.toList r_sum_Add = true := by kernel_rfl

/-- dgram.long -/
def x_dgram_long : XC :=
  .seq (.region [⟨some ⟨.d0, .d0, .d2⟩, .move (.c (.string { data := #[] })), none⟩])
  (.seq (.region [⟨some ⟨.d0, .d0, .d3⟩, .move (.t ⟨.d0, .d0, .d0⟩), none⟩,
    ⟨some ⟨.d0, .d0, .d4⟩, .bin .shr (.t ⟨.d0, .d0, .d3⟩) (.c (.int .u64 16)), none⟩,
    ⟨some ⟨.d0, .d0, .d5⟩, .convInt .i64 (.t ⟨.d0, .d0, .d4⟩), none⟩,
    ⟨some ⟨.d0, .d0, .d6⟩, .call 43 [(.t ⟨.d0, .d0, .d5⟩)], none⟩,
    ⟨some ⟨.d0, .d0, .d7⟩, .move (.t ⟨.d0, .d0, .d0⟩), none⟩,
    ⟨some ⟨.d0, .d1, .d0⟩, .convInt .i64 (.t ⟨.d0, .d0, .d7⟩), none⟩,
    ⟨some ⟨.d0, .d1, .d1⟩, .call 43 [(.t ⟨.d0, .d1, .d0⟩)], none⟩,
    ⟨some ⟨.d0, .d1, .d2⟩, .sbin .add (.t ⟨.d0, .d0, .d6⟩) (.t ⟨.d0, .d1, .d1⟩), none⟩,
    ⟨some ⟨.d0, .d0, .d2⟩, .move (.t ⟨.d0, .d1, .d2⟩), none⟩])
  (.ret))
def r_dgram_long : List XR := [.tmp ⟨.d0, .d0, .d2⟩]
theorem ok_dgram_long : okC Try.prog Try.f42.ntmps (bodyOf Try.f42) x_dgram_long = true := by kernel_rfl
theorem okr_dgram_long : okRs Try.prog Try.f42.results.toList r_dgram_long = true := by kernel_rfl

/-- dgram.word -/
def x_dgram_word : XC :=
  .seq (.region [⟨some ⟨.d0, .d0, .d2⟩, .move (.c (.string { data := #[] })), none⟩])
  (.seq (.region [⟨some ⟨.d0, .d0, .d3⟩, .move (.t ⟨.d0, .d0, .d0⟩), none⟩,
    ⟨some ⟨.d0, .d0, .d4⟩, .bin .shr (.t ⟨.d0, .d0, .d3⟩) (.c (.int .u64 8)), none⟩,
    ⟨some ⟨.d0, .d0, .d5⟩, .convInt .u8 (.t ⟨.d0, .d0, .d4⟩), none⟩,
    ⟨some ⟨.d0, .d0, .d6⟩, .move (.t ⟨.d0, .d0, .d0⟩), none⟩,
    ⟨some ⟨.d0, .d0, .d7⟩, .convInt .u8 (.t ⟨.d0, .d0, .d6⟩), none⟩,
    ⟨some ⟨.d0, .d1, .d0⟩, .buildSlice 0 2 [.int .u8 0] [(0, (.t ⟨.d0, .d0, .d5⟩)), (1, (.t ⟨.d0, .d0, .d7⟩))], none⟩,
    ⟨some ⟨.d0, .d1, .d1⟩, .b2s (.t ⟨.d0, .d1, .d0⟩), none⟩,
    ⟨some ⟨.d0, .d0, .d2⟩, .move (.t ⟨.d0, .d1, .d1⟩), none⟩])
  (.ret))
def r_dgram_word : List XR := [.tmp ⟨.d0, .d0, .d2⟩]
theorem ok_dgram_word : okC Try.prog Try.f43.ntmps (bodyOf Try.f43) x_dgram_word = true := by kernel_rfl
theorem okr_dgram_word : okRs Try.prog Try.f43.results.toList r_dgram_word = true := by kernel_rfl

/-- custref.Check -/
def x_custref_Check : XC :=
  .seq (.region [⟨some ⟨.d0, .d0, .d2⟩, .move (.c (.int .i64 0)), none⟩])
  (.seq (.region [⟨some ⟨.d0, .d0, .d3⟩, .move (.t ⟨.d0, .d0, .d0⟩), none⟩,
    ⟨some ⟨.d0, .d0, .d4⟩, .call 32 [(.c (.int .i64 0)), (.t ⟨.d0, .d0, .d3⟩)], none⟩,
    ⟨some ⟨.d0, .d0, .d5⟩, .bin .sub (.c (.int .i64 65535)) (.t ⟨.d0, .d0, .d4⟩), none⟩,
    ⟨some ⟨.d0, .d0, .d2⟩, .move (.t ⟨.d0, .d0, .d5⟩), none⟩])
  (.ret))
def r_custref_Check : List XR := [.tmp ⟨.d0, .d0, .d2⟩]
theorem ok_custref_Check : okC Try.prog Try.f44.ntmps (bodyOf Try.f44) x_custref_Check = true := by kernel_rfl
theorem okr_custref_Check : okRs Try.prog Try.f44.results.toList r_custref_Check = true := by kernel_rfl

/-- strings.Count -/
def x_strings_Count : XC :=
  .seq (.region [⟨some ⟨.d0, .d0, .d4⟩, .move (.c (.int .i64 0)), none⟩])
  (.seq (.seq (.region [⟨some ⟨.d0, .d0, .d7⟩, .move (.t ⟨.d0, .d0, .d1⟩), none⟩,
    ⟨some ⟨.d0, .d1, .d0⟩, .slen (.t ⟨.d0, .d0, .d7⟩), none⟩,
    ⟨some ⟨.d0, .d1, .d1⟩, .bin .eql (.t ⟨.d0, .d1, .d0⟩) (.c (.int .i64 0)), none⟩])
  (.cond (.t ⟨.d0, .d1, .d1⟩)
    (.seq (.region [⟨some ⟨.d0, .d1, .d2⟩, .move (.t ⟨.d0, .d0, .d0⟩), none⟩,
      ⟨some ⟨.d0, .d1, .d3⟩, .call 48 [(.t ⟨.d0, .d1, .d2⟩)], none⟩,
      ⟨some ⟨.d0, .d1, .d4⟩, .bin .add (.t ⟨.d0, .d1, .d3⟩) (.c (.int .i64 1)), none⟩,
      ⟨some ⟨.d0, .d0, .d4⟩, .move (.t ⟨.d0, .d1, .d4⟩), none⟩])
    (.ret))
    (.skip)))
  (.seq (.seq (.region [⟨some ⟨.d0, .d1, .d5⟩, .move (.t ⟨.d0, .d0, .d1⟩), none⟩,
    ⟨some ⟨.d0, .d1, .d6⟩, .slen (.t ⟨.d0, .d1, .d5⟩), none⟩,
    ⟨some ⟨.d0, .d1, .d7⟩, .bin .eql (.t ⟨.d0, .d1, .d6⟩) (.c (.int .i64 1)), none⟩])
  (.cond (.t ⟨.d0, .d1, .d7⟩)
    (.seq (.region [⟨some ⟨.d0, .d2, .d0⟩, .move (.t ⟨.d0, .d0, .d0⟩), none⟩,
      ⟨some ⟨.d0, .d2, .d1⟩, .move (.t ⟨.d0, .d0, .d1⟩), none⟩,
      ⟨some ⟨.d0, .d2, .d2⟩, .strAt (.t ⟨.d0, .d2, .d1⟩) (.c (.int .i64 0)), none⟩,
      ⟨some ⟨.d0, .d2, .d3⟩, .ext 1 [(.t ⟨.d0, .d2, .d0⟩), (.t ⟨.d0, .d2, .d2⟩)], none⟩,
      ⟨some ⟨.d0, .d0, .d4⟩, .move (.t ⟨.d0, .d2, .d3⟩), none⟩])
    (.ret))
    (.skip)))
  (.seq (.region [⟨some ⟨.d0, .d0, .d5⟩, .move (.c (.int .i64 0)), none⟩])
  (.block 0
    (.loop
      (.block 1
        (.seq (.region [⟨some ⟨.d0, .d2, .d4⟩, .move (.t ⟨.d0, .d0, .d0⟩), none⟩,
          ⟨some ⟨.d0, .d2, .d5⟩, .move (.t ⟨.d0, .d0, .d1⟩), none⟩,
          ⟨some ⟨.d0, .d2, .d6⟩, .call 50 [(.t ⟨.d0, .d2, .d4⟩), (.t ⟨.d0, .d2, .d5⟩)], none⟩,
          ⟨some ⟨.d0, .d0, .d6⟩, .move (.t ⟨.d0, .d2, .d6⟩), none⟩])
        (.seq (.seq (.region [⟨some ⟨.d0, .d2, .d7⟩, .move (.t ⟨.d0, .d0, .d6⟩), none⟩,
          ⟨some ⟨.d0, .d3, .d0⟩, .bin .eql (.t ⟨.d0, .d2, .d7⟩) (.c (.int .i64 (-1))), none⟩])
        (.cond (.t ⟨.d0, .d3, .d0⟩)
          (.seq (.region [⟨some ⟨.d0, .d3, .d1⟩, .move (.t ⟨.d0, .d0, .d5⟩), none⟩,
            ⟨some ⟨.d0, .d0, .d4⟩, .move (.t ⟨.d0, .d3, .d1⟩), none⟩])
          (.ret))
          (.skip)))
        (.seq (.region [⟨some ⟨.d0, .d3, .d2⟩, .move (.t ⟨.d0, .d0, .d5⟩), none⟩,
          ⟨some ⟨.d0, .d3, .d3⟩, .bin .add (.t ⟨.d0, .d3, .d2⟩) (.c (.int .i64 1)), none⟩,
          ⟨some ⟨.d0, .d0, .d5⟩, .move (.t ⟨.d0, .d3, .d3⟩), none⟩])
        (.region [⟨some ⟨.d0, .d3, .d4⟩, .move (.t ⟨.d0, .d0, .d0⟩), none⟩,
          ⟨some ⟨.d0, .d3, .d5⟩, .move (.t ⟨.d0, .d0, .d6⟩), none⟩,
          ⟨some ⟨.d0, .d3, .d6⟩, .move (.t ⟨.d0, .d0, .d1⟩), none⟩,
          ⟨some ⟨.d0, .d3, .d7⟩, .slen (.t ⟨.d0, .d3, .d6⟩), none⟩,
          ⟨some ⟨.d0, .d4, .d0⟩, .bin .add (.t ⟨.d0, .d3, .d5⟩) (.t ⟨.d0, .d3, .d7⟩), none⟩,
          ⟨some ⟨.d0, .d4, .d1⟩, .substr (.t ⟨.d0, .d3, .d4⟩) (some (.t ⟨.d0, .d4, .d0⟩)) none, none⟩,
          ⟨some ⟨.d0, .d0, .d0⟩, .move (.t ⟨.d0, .d4, .d1⟩), none⟩]))))))))))
def r_strings_Count : List XR := [.tmp ⟨.d0, .d0, .d4⟩]
theorem ok_strings_Count : okC Try.prog Try.f45.ntmps (bodyOf Try.f45) x_strings_Count = true := by kernel_rfl
theorem okr_strings_Count : okRs Try.prog Try.f45.results.toList r_strings_Count = true := by kernel_rfl

/-- sum.Fix -/
def x_sum_Fix : XC :=
  .seq (.region [⟨some ⟨.d0, .d0, .d6⟩, .move (.c (.int .u16 0)), none⟩])
  (.seq (.region [⟨some ⟨.d0, .d0, .d7⟩, .move (.t ⟨.d0, .d0, .d0⟩), none⟩,
    ⟨some ⟨.d0, .d1, .d0⟩, .un .xor (.t ⟨.d0, .d0, .d7⟩), none⟩,
    ⟨some ⟨.d0, .d1, .d1⟩, .convInt .u64 (.t ⟨.d0, .d1, .d0⟩), none⟩,
    ⟨some ⟨.d0, .d1, .d2⟩, .move (.t ⟨.d0, .d0, .d1⟩), none⟩,
    ⟨some ⟨.d0, .d1, .d3⟩, .un .xor (.t ⟨.d0, .d1, .d2⟩), none⟩,
    ⟨some ⟨.d0, .d1, .d4⟩, .convInt .u64 (.t ⟨.d0, .d1, .d3⟩), none⟩,
    ⟨some ⟨.d0, .d1, .d5⟩, .bin .add (.t ⟨.d0, .d1, .d1⟩) (.t ⟨.d0, .d1, .d4⟩), none⟩,
    ⟨some ⟨.d0, .d1, .d6⟩, .move (.t ⟨.d0, .d0, .d2⟩), none⟩,
    ⟨some ⟨.d0, .d1, .d7⟩, .convInt .u64 (.t ⟨.d0, .d1, .d6⟩), none⟩,
    ⟨some ⟨.d0, .d2, .d0⟩, .bin .add (.t ⟨.d0, .d1, .d5⟩) (.t ⟨.d0, .d1, .d7⟩), none⟩,
    ⟨some ⟨.d0, .d2, .d1⟩, .call 47 [(.t ⟨.d0, .d2, .d0⟩)], none⟩,
    ⟨some ⟨.d0, .d2, .d2⟩, .un .xor (.t ⟨.d0, .d2, .d1⟩), none⟩,
    ⟨some ⟨.d0, .d0, .d6⟩, .move (.t ⟨.d0, .d2, .d2⟩), none⟩])
  (.ret))
def r_sum_Fix : List XR := [.tmp ⟨.d0, .d0, .d6⟩]
theorem ok_sum_Fix : okC Try.prog Try.f46.ntmps (bodyOf Try.f46) x_sum_Fix = true := by kernel_rfl
theorem okr_sum_Fix : okRs Try.prog Try.f46.results.toList r_sum_Fix = true := by kernel_rfl

/-- sum.fold -/
def x_sum_fold : XC :=
  .seq (.region [⟨some ⟨.d0, .d0, .d2⟩, .move (.c (.int .u16 0)), none⟩])
  (.seq (.block 0
    (.loop
      (.seq (.seq (.region [⟨some ⟨.d0, .d0, .d3⟩, .move (.t ⟨.d0, .d0, .d0⟩), none⟩,
        ⟨some ⟨.d0, .d0, .d4⟩, .bin .gtr (.t ⟨.d0, .d0, .d3⟩) (.c (.int .u64 65535)), none⟩])
      (.cond (.t ⟨.d0, .d0, .d4⟩)
        (.skip)
        (.exit 0)))
      (.block 1
        (.region [⟨some ⟨.d0, .d0, .d5⟩, .move (.t ⟨.d0, .d0, .d0⟩), none⟩,
          ⟨some ⟨.d0, .d0, .d6⟩, .bin .shr (.t ⟨.d0, .d0, .d5⟩) (.c (.int .u64 16)), none⟩,
          ⟨some ⟨.d0, .d0, .d7⟩, .move (.t ⟨.d0, .d0, .d0⟩), none⟩,
          ⟨some ⟨.d0, .d1, .d0⟩, .bin .and (.t ⟨.d0, .d0, .d7⟩) (.c (.int .u64 65535)), none⟩,
          ⟨some ⟨.d0, .d1, .d1⟩, .bin .add (.t ⟨.d0, .d0, .d6⟩) (.t ⟨.d0, .d1, .d0⟩), none⟩,
          ⟨some ⟨.d0, .d0, .d0⟩, .move (.t ⟨.d0, .d1, .d1⟩), none⟩])))))
  (.seq (.region [⟨some ⟨.d0, .d1, .d2⟩, .move (.t ⟨.d0, .d0, .d0⟩), none⟩,
    ⟨some ⟨.d0, .d1, .d3⟩, .convInt .u16 (.t ⟨.d0, .d1, .d2⟩), none⟩,
    ⟨some ⟨.d0, .d0, .d2⟩, .move (.t ⟨.d0, .d1, .d3⟩), none⟩])
  (.ret)))
def r_sum_fold : List XR := [.tmp ⟨.d0, .d0, .d2⟩]
theorem ok_sum_fold : okC Try.prog Try.f47.ntmps (bodyOf Try.f47) x_sum_fold = true := by kernel_rfl
theorem okr_sum_fold : okRs Try.prog Try.f47.results.toList r_sum_fold = true := by kernel_rfl

/-- utf8.RuneCountInString -/
def x_utf8_RuneCountInString : XC :=
  .seq (.region [⟨some ⟨.d0, .d0, .d2⟩, .move (.c (.int .i64 0)), none⟩])
  (.seq (.seq (.region [⟨some ⟨.d0, .d0, .d3⟩, .move (.t ⟨.d0, .d0, .d0⟩), none⟩,
    ⟨some ⟨.d0, .d0, .d4⟩, .dead, none⟩])
  (.block 0
    (.loop
      (.seq (.region [⟨some ⟨.d0, .d0, .d5⟩, .dead, none⟩,
        ⟨some ⟨.d0, .d0, .d6⟩, .extract 0 (.t ⟨.d0, .d0, .d5⟩), none⟩])
      (.seq (.cond (.t ⟨.d0, .d0, .d6⟩)
        (.skip)
        (.exit 0))
      (.block 1
        (.region [⟨some ⟨.d0, .d0, .d7⟩, .move (.t ⟨.d0, .d0, .d2⟩), none⟩,
          ⟨some ⟨.d0, .d1, .d0⟩, .bin .add (.t ⟨.d0, .d0, .d7⟩) (.c (.int .i64 1)), none⟩,
          ⟨some ⟨.d0, .d0, .d2⟩, .move (.t ⟨.d0, .d1, .d0⟩), none⟩])))))))
  (.seq (.region [⟨some ⟨.d0, .d1, .d1⟩, .move (.t ⟨.d0, .d0, .d2⟩), none⟩,
    ⟨some ⟨.d0, .d0, .d2⟩, .move (.t ⟨.d0, .d1, .d1⟩), none⟩])
  (.ret)))
def r_utf8_RuneCountInString : List XR := [.tmp ⟨.d0, .d0, .d2⟩]
theorem ok_utf8_RuneCountInString : okC Try.prog Try.f48.ntmps (bodyOf Try.f48) x_utf8_RuneCountInString = true := by kernel_rfl
theorem okr_utf8_RuneCountInString : okRs Try.prog Try.f48.results.toList r_utf8_RuneCountInString = true := by kernel_rfl

/-- strings.Index -/
def x_strings_Index : XC :=
  .seq (.region [⟨some ⟨.d0, .d0, .d4⟩, .move (.c (.int .i64 0)), none⟩])
  (.seq (.region [⟨some ⟨.d0, .d0, .d5⟩, .move (.t ⟨.d0, .d0, .d0⟩), none⟩,
    ⟨some ⟨.d0, .d0, .d6⟩, .move (.t ⟨.d0, .d0, .d1⟩), none⟩,
    ⟨some ⟨.d0, .d0, .d7⟩, .call 51 [(.t ⟨.d0, .d0, .d5⟩), (.t ⟨.d0, .d0, .d6⟩)], none⟩,
    ⟨some ⟨.d0, .d0, .d4⟩, .move (.t ⟨.d0, .d0, .d7⟩), none⟩])
  (.ret))
def r_strings_Index : List XR := [.tmp ⟨.d0, .d0, .d4⟩]
theorem ok_strings_Index : okC Try.prog Try.f50.ntmps (bodyOf Try.f50) x_strings_Index = true := by kernel_rfl
theorem okr_strings_Index : okRs Try.prog Try.f50.results.toList r_strings_Index = true := by kernel_rfl

/-- stringslite.Index -/
def x_stringslite_Index : XC :=
  .seq (.region [⟨some ⟨.d0, .d0, .d4⟩, .move (.c (.int .i64 0)), none⟩])
  (.seq (.region [⟨some ⟨.d0, .d1, .d6⟩, .move (.t ⟨.d0, .d0, .d1⟩), none⟩,
    ⟨some ⟨.d0, .d1, .d7⟩, .slen (.t ⟨.d0, .d1, .d6⟩), none⟩,
    ⟨some ⟨.d0, .d0, .d5⟩, .move (.t ⟨.d0, .d1, .d7⟩), none⟩])
  (.seq (.block 0
    (.seq (.region [⟨some ⟨.d0, .d2, .d1⟩, .move (.t ⟨.d0, .d0, .d5⟩), none⟩,
      ⟨some ⟨.d0, .d2, .d2⟩, .bin .eql (.t ⟨.d0, .d2, .d1⟩) (.c (.int .i64 0)), none⟩,
      ⟨some ⟨.d0, .d2, .d3⟩, .move (.t ⟨.d0, .d2, .d2⟩), none⟩,
      ⟨some ⟨.d0, .d2, .d4⟩, .move (.t ⟨.d0, .d0, .d1⟩), some (⟨.d0, .d2, .d3⟩, false)⟩,
      ⟨some ⟨.d0, .d2, .d5⟩, .move (.t ⟨.d0, .d0, .d0⟩), some (⟨.d0, .d2, .d3⟩, false)⟩,
      ⟨some ⟨.d0, .d2, .d6⟩, .sbin .eql (.t ⟨.d0, .d2, .d4⟩) (.t ⟨.d0, .d2, .d5⟩), some (⟨.d0, .d2, .d3⟩, false)⟩,
      ⟨some ⟨.d0, .d2, .d7⟩, .pick (.t ⟨.d0, .d2, .d3⟩) (.c (.bool true)) (.t ⟨.d0, .d2, .d6⟩), none⟩,
      ⟨some ⟨.d0, .d2, .d0⟩, .move (.t ⟨.d0, .d2, .d7⟩), none⟩])
    (.cond (.t ⟨.d0, .d2, .d0⟩)
      (.seq (.region [⟨some ⟨.d0, .d0, .d4⟩, .move (.c (.int .i64 0)), none⟩])
      (.ret))
      (.seq (.region [⟨some ⟨.d0, .d3, .d1⟩, .move (.t ⟨.d0, .d0, .d5⟩), none⟩,
        ⟨some ⟨.d0, .d3, .d2⟩, .bin .eql (.t ⟨.d0, .d3, .d1⟩) (.c (.int .i64 1)), none⟩,
        ⟨some ⟨.d0, .d3, .d0⟩, .move (.t ⟨.d0, .d3, .d2⟩), none⟩])
      (.cond (.t ⟨.d0, .d3, .d0⟩)
        (.seq (.region [⟨some ⟨.d0, .d3, .d3⟩, .move (.t ⟨.d0, .d0, .d0⟩), none⟩,
          ⟨some ⟨.d0, .d3, .d4⟩, .move (.t ⟨.d0, .d0, .d1⟩), none⟩,
          ⟨some ⟨.d0, .d3, .d5⟩, .strAt (.t ⟨.d0, .d3, .d4⟩) (.c (.int .i64 0)), none⟩,
          ⟨some ⟨.d0, .d3, .d6⟩, .call 52 [(.t ⟨.d0, .d3, .d3⟩), (.t ⟨.d0, .d3, .d5⟩)], none⟩,
          ⟨some ⟨.d0, .d0, .d4⟩, .move (.t ⟨.d0, .d3, .d6⟩), none⟩])
        (.ret))
        (.seq (.region [⟨some ⟨.d0, .d4, .d0⟩, .move (.t ⟨.d0, .d0, .d5⟩), none⟩,
          ⟨some ⟨.d0, .d4, .d1⟩, .move (.t ⟨.d0, .d0, .d0⟩), none⟩,
          ⟨some ⟨.d0, .d4, .d2⟩, .slen (.t ⟨.d0, .d4, .d1⟩), none⟩,
          ⟨some ⟨.d0, .d4, .d3⟩, .bin .geq (.t ⟨.d0, .d4, .d0⟩) (.t ⟨.d0, .d4, .d2⟩), none⟩,
          ⟨some ⟨.d0, .d3, .d7⟩, .move (.t ⟨.d0, .d4, .d3⟩), none⟩])
        (.cond (.t ⟨.d0, .d3, .d7⟩)
          (.seq (.region [⟨some ⟨.d0, .d0, .d4⟩, .move (.c (.int .i64 (-1))), none⟩])
          (.ret))
          (.seq (.region [⟨some ⟨.d0, .d4, .d5⟩, .move (.t ⟨.d0, .d0, .d5⟩), none⟩,
            ⟨some ⟨.d0, .d4, .d6⟩, .load false 1 .g, none⟩,
            ⟨some ⟨.d0, .d4, .d7⟩, .bin .leq (.t ⟨.d0, .d4, .d5⟩) (.t ⟨.d0, .d4, .d6⟩), none⟩,
            ⟨some ⟨.d0, .d5, .d0⟩, .move (.t ⟨.d0, .d4, .d7⟩), none⟩,
            ⟨some ⟨.d0, .d5, .d1⟩, .move (.t ⟨.d0, .d0, .d0⟩), some (⟨.d0, .d5, .d0⟩, true)⟩,
            ⟨some ⟨.d0, .d5, .d2⟩, .slen (.t ⟨.d0, .d5, .d1⟩), some (⟨.d0, .d5, .d0⟩, true)⟩,
            ⟨some ⟨.d0, .d5, .d3⟩, .bin .leq (.t ⟨.d0, .d5, .d2⟩) (.c (.int .i64 64)), some (⟨.d0, .d5, .d0⟩, true)⟩,
            ⟨some ⟨.d0, .d5, .d4⟩, .pick (.t ⟨.d0, .d5, .d0⟩) (.t ⟨.d0, .d5, .d3⟩) (.c (.bool false)), none⟩,
            ⟨some ⟨.d0, .d4, .d4⟩, .move (.t ⟨.d0, .d5, .d4⟩), none⟩])
          (.cond (.t ⟨.d0, .d4, .d4⟩)
            (.seq (.region [⟨some ⟨.d0, .d5, .d5⟩, .move (.t ⟨.d0, .d0, .d0⟩), none⟩,
              ⟨some ⟨.d0, .d5, .d6⟩, .move (.t ⟨.d0, .d0, .d1⟩), none⟩,
              ⟨some ⟨.d0, .d5, .d7⟩, .dead, none⟩,
              ⟨some ⟨.d0, .d0, .d4⟩, .move (.t ⟨.d0, .d5, .d7⟩), none⟩])
            (.ret))
            (.skip))))))))))
  (.seq (.region [⟨some ⟨.d0, .d6, .d0⟩, .move (.t ⟨.d0, .d0, .d1⟩), none⟩,
    ⟨some ⟨.d0, .d6, .d1⟩, .strAt (.t ⟨.d0, .d6, .d0⟩) (.c (.int .i64 0)), none⟩,
    ⟨some ⟨.d0, .d0, .d6⟩, .move (.t ⟨.d0, .d6, .d1⟩), none⟩])
  (.seq (.region [⟨some ⟨.d0, .d6, .d2⟩, .move (.t ⟨.d0, .d0, .d1⟩), none⟩,
    ⟨some ⟨.d0, .d6, .d3⟩, .strAt (.t ⟨.d0, .d6, .d2⟩) (.c (.int .i64 1)), none⟩,
    ⟨some ⟨.d0, .d0, .d7⟩, .move (.t ⟨.d0, .d6, .d3⟩), none⟩])
  (.seq (.region [⟨some ⟨.d0, .d1, .d0⟩, .move (.c (.int .i64 0)), none⟩])
  (.seq (.region [⟨some ⟨.d0, .d6, .d4⟩, .move (.t ⟨.d0, .d0, .d0⟩), none⟩,
    ⟨some ⟨.d0, .d6, .d5⟩, .slen (.t ⟨.d0, .d6, .d4⟩), none⟩,
    ⟨some ⟨.d0, .d6, .d6⟩, .move (.t ⟨.d0, .d0, .d5⟩), none⟩,
    ⟨some ⟨.d0, .d6, .d7⟩, .bin .sub (.t ⟨.d0, .d6, .d5⟩) (.t ⟨.d0, .d6, .d6⟩), none⟩,
    ⟨some ⟨.d0, .d7, .d0⟩, .bin .add (.t ⟨.d0, .d6, .d7⟩) (.c (.int .i64 1)), none⟩,
    ⟨some ⟨.d0, .d1, .d1⟩, .move (.t ⟨.d0, .d7, .d0⟩), none⟩])
  (.seq (.region [⟨some ⟨.d0, .d1, .d2⟩, .move (.c (.int .i64 0)), none⟩])
  (.seq (.block 1
    (.loop
      (.seq (.seq (.region [⟨some ⟨.d0, .d7, .d1⟩, .move (.t ⟨.d0, .d1, .d0⟩), none⟩,
        ⟨some ⟨.d0, .d7, .d2⟩, .move (.t ⟨.d0, .d1, .d1⟩), none⟩,
        ⟨some ⟨.d0, .d7, .d3⟩, .bin .lss (.t ⟨.d0, .d7, .d1⟩) (.t ⟨.d0, .d7, .d2⟩), none⟩])
      (.cond (.t ⟨.d0, .d7, .d3⟩)
        (.skip)
        (.exit 1)))
      (.block 2
        (.seq (.seq (.region [⟨some ⟨.d0, .d7, .d4⟩, .move (.t ⟨.d0, .d0, .d0⟩), none⟩,
          ⟨some ⟨.d0, .d7, .d5⟩, .move (.t ⟨.d0, .d1, .d0⟩), none⟩,
          ⟨some ⟨.d0, .d7, .d6⟩, .strAt (.t ⟨.d0, .d7, .d4⟩) (.t ⟨.d0, .d7, .d5⟩), none⟩,
          ⟨some ⟨.d0, .d7, .d7⟩, .move (.t ⟨.d0, .d0, .d6⟩), none⟩,
          ⟨some ⟨.d1, .d0, .d0⟩, .bin .neq (.t ⟨.d0, .d7, .d6⟩) (.t ⟨.d0, .d7, .d7⟩), none⟩])
        (.cond (.t ⟨.d1, .d0, .d0⟩)
          (.seq (.region [⟨some ⟨.d1, .d0, .d1⟩, .move (.t ⟨.d0, .d0, .d0⟩), none⟩,
            ⟨some ⟨.d1, .d0, .d2⟩, .move (.t ⟨.d0, .d1, .d0⟩), none⟩,
            ⟨some ⟨.d1, .d0, .d3⟩, .bin .add (.t ⟨.d1, .d0, .d2⟩) (.c (.int .i64 1)), none⟩,
            ⟨some ⟨.d1, .d0, .d4⟩, .move (.t ⟨.d0, .d1, .d1⟩), none⟩,
            ⟨some ⟨.d1, .d0, .d5⟩, .substr (.t ⟨.d1, .d0, .d1⟩) (some (.t ⟨.d1, .d0, .d3⟩)) (some (.t ⟨.d1, .d0, .d4⟩)), none⟩,
            ⟨some ⟨.d1, .d0, .d6⟩, .move (.t ⟨.d0, .d0, .d6⟩), none⟩,
            ⟨some ⟨.d1, .d0, .d7⟩, .call 52 [(.t ⟨.d1, .d0, .d5⟩), (.t ⟨.d1, .d0, .d6⟩)], none⟩,
            ⟨some ⟨.d0, .d1, .d3⟩, .move (.t ⟨.d1, .d0, .d7⟩), none⟩])
          (.seq (.seq (.region [⟨some ⟨.d1, .d1, .d0⟩, .move (.t ⟨.d0, .d1, .d3⟩), none⟩,
            ⟨some ⟨.d1, .d1, .d1⟩, .bin .lss (.t ⟨.d1, .d1, .d0⟩) (.c (.int .i64 0)), none⟩])
          (.cond (.t ⟨.d1, .d1, .d1⟩)
            (.seq (.region [⟨some ⟨.d0, .d0, .d4⟩, .move (.c (.int .i64 (-1))), none⟩])
            (.ret))
            (.skip)))
          (.region [⟨some ⟨.d1, .d1, .d2⟩, .move (.t ⟨.d0, .d1, .d0⟩), none⟩,
            ⟨some ⟨.d1, .d1, .d3⟩, .move (.t ⟨.d0, .d1, .d3⟩), none⟩,
            ⟨some ⟨.d1, .d1, .d4⟩, .bin .add (.t ⟨.d1, .d1, .d3⟩) (.c (.int .i64 1)), none⟩,
            ⟨some ⟨.d1, .d1, .d5⟩, .bin .add (.t ⟨.d1, .d1, .d2⟩) (.t ⟨.d1, .d1, .d4⟩), none⟩,
            ⟨some ⟨.d0, .d1, .d0⟩, .move (.t ⟨.d1, .d1, .d5⟩), none⟩])))
          (.skip)))
        (.seq (.seq (.region [⟨some ⟨.d1, .d1, .d6⟩, .move (.t ⟨.d0, .d0, .d0⟩), none⟩,
          ⟨some ⟨.d1, .d1, .d7⟩, .move (.t ⟨.d0, .d1, .d0⟩), none⟩,
          ⟨some ⟨.d1, .d2, .d0⟩, .bin .add (.t ⟨.d1, .d1, .d7⟩) (.c (.int .i64 1)), none⟩,
          ⟨some ⟨.d1, .d2, .d1⟩, .strAt (.t ⟨.d1, .d1, .d6⟩) (.t ⟨.d1, .d2, .d0⟩), none⟩,
          ⟨some ⟨.d1, .d2, .d2⟩, .move (.t ⟨.d0, .d0, .d7⟩), none⟩,
          ⟨some ⟨.d1, .d2, .d3⟩, .bin .eql (.t ⟨.d1, .d2, .d1⟩) (.t ⟨.d1, .d2, .d2⟩), none⟩,
          ⟨some ⟨.d1, .d2, .d4⟩, .move (.t ⟨.d1, .d2, .d3⟩), none⟩,
          ⟨some ⟨.d1, .d2, .d5⟩, .move (.t ⟨.d0, .d0, .d0⟩), some (⟨.d1, .d2, .d4⟩, true)⟩,
          ⟨some ⟨.d1, .d2, .d6⟩, .move (.t ⟨.d0, .d1, .d0⟩), some (⟨.d1, .d2, .d4⟩, true)⟩,
          ⟨some ⟨.d1, .d2, .d7⟩, .move (.t ⟨.d0, .d1, .d0⟩), some (⟨.d1, .d2, .d4⟩, true)⟩,
          ⟨some ⟨.d1, .d3, .d0⟩, .move (.t ⟨.d0, .d0, .d5⟩), some (⟨.d1, .d2, .d4⟩, true)⟩,
          ⟨some ⟨.d1, .d3, .d1⟩, .bin .add (.t ⟨.d1, .d2, .d7⟩) (.t ⟨.d1, .d3, .d0⟩), some (⟨.d1, .d2, .d4⟩, true)⟩,
          ⟨some ⟨.d1, .d3, .d2⟩, .substr (.t ⟨.d1, .d2, .d5⟩) (some (.t ⟨.d1, .d2, .d6⟩)) (some (.t ⟨.d1, .d3, .d1⟩)), some (⟨.d1, .d2, .d4⟩, true)⟩,
          ⟨some ⟨.d1, .d3, .d3⟩, .move (.t ⟨.d0, .d0, .d1⟩), some (⟨.d1, .d2, .d4⟩, true)⟩,
          ⟨some ⟨.d1, .d3, .d4⟩, .sbin .eql (.t ⟨.d1, .d3, .d2⟩) (.t ⟨.d1, .d3, .d3⟩), some (⟨.d1, .d2, .d4⟩, true)⟩,
          ⟨some ⟨.d1, .d3, .d5⟩, .pick (.t ⟨.d1, .d2, .d4⟩) (.t ⟨.d1, .d3, .d4⟩) (.c (.bool false)), none⟩])
        (.cond (.t ⟨.d1, .d3, .d5⟩)
          (.seq (.region [⟨some ⟨.d1, .d3, .d6⟩, .move (.t ⟨.d0, .d1, .d0⟩), none⟩,
            ⟨some ⟨.d0, .d0, .d4⟩, .move (.t ⟨.d1, .d3, .d6⟩), none⟩])
          (.ret))
          (.skip)))
        (.seq (.region [⟨some ⟨.d1, .d3, .d7⟩, .move (.t ⟨.d0, .d1, .d0⟩), none⟩,
          ⟨some ⟨.d1, .d4, .d0⟩, .bin .add (.t ⟨.d1, .d3, .d7⟩) (.c (.int .i64 1)), none⟩,
          ⟨some ⟨.d0, .d1, .d0⟩, .move (.t ⟨.d1, .d4, .d0⟩), none⟩])
        (.seq (.region [⟨some ⟨.d1, .d4, .d1⟩, .move (.t ⟨.d0, .d1, .d2⟩), none⟩,
          ⟨some ⟨.d1, .d4, .d2⟩, .bin .add (.t ⟨.d1, .d4, .d1⟩) (.c (.int .i64 1)), none⟩,
          ⟨some ⟨.d0, .d1, .d2⟩, .move (.t ⟨.d1, .d4, .d2⟩), none⟩])
        (.seq (.region [⟨some ⟨.d1, .d4, .d3⟩, .move (.t ⟨.d0, .d0, .d5⟩), none⟩,
          ⟨some ⟨.d1, .d4, .d4⟩, .load false 1 .g, none⟩,
          ⟨some ⟨.d1, .d4, .d5⟩, .bin .leq (.t ⟨.d1, .d4, .d3⟩) (.t ⟨.d1, .d4, .d4⟩), none⟩,
          ⟨some ⟨.d1, .d4, .d6⟩, .move (.t ⟨.d1, .d4, .d5⟩), none⟩,
          ⟨some ⟨.d1, .d4, .d7⟩, .move (.t ⟨.d0, .d1, .d2⟩), some (⟨.d1, .d4, .d6⟩, true)⟩,
          ⟨some ⟨.d1, .d5, .d0⟩, .move (.t ⟨.d0, .d1, .d0⟩), some (⟨.d1, .d4, .d6⟩, true)⟩,
          ⟨some ⟨.d1, .d5, .d1⟩, .call 54 [(.t ⟨.d1, .d5, .d0⟩)], some (⟨.d1, .d4, .d6⟩, true)⟩,
          ⟨some ⟨.d1, .d5, .d2⟩, .bin .gtr (.t ⟨.d1, .d4, .d7⟩) (.t ⟨.d1, .d5, .d1⟩), some (⟨.d1, .d4, .d6⟩, true)⟩,
          ⟨some ⟨.d1, .d5, .d3⟩, .pick (.t ⟨.d1, .d4, .d6⟩) (.t ⟨.d1, .d5, .d2⟩) (.c (.bool false)), none⟩])
        (.cond (.t ⟨.d1, .d5, .d3⟩)
          (.seq (.region [⟨some ⟨.d1, .d5, .d4⟩, .move (.t ⟨.d0, .d0, .d0⟩), none⟩,
            ⟨some ⟨.d1, .d5, .d5⟩, .move (.t ⟨.d0, .d1, .d0⟩), none⟩,
            ⟨some ⟨.d1, .d5, .d6⟩, .substr (.t ⟨.d1, .d5, .d4⟩) (some (.t ⟨.d1, .d5, .d5⟩)) none, none⟩,
            ⟨some ⟨.d1, .d5, .d7⟩, .move (.t ⟨.d0, .d0, .d1⟩), none⟩,
            ⟨some ⟨.d1, .d6, .d0⟩, .dead, none⟩,
            ⟨some ⟨.d0, .d1, .d4⟩, .move (.t ⟨.d1, .d6, .d0⟩), none⟩])
          (.seq (.seq (.region [⟨some ⟨.d1, .d6, .d1⟩, .move (.t ⟨.d0, .d1, .d4⟩), none⟩,
            ⟨some ⟨.d1, .d6, .d2⟩, .bin .geq (.t ⟨.d1, .d6, .d1⟩) (.c (.int .i64 0)), none⟩])
          (.cond (.t ⟨.d1, .d6, .d2⟩)
            (.seq (.region [⟨some ⟨.d1, .d6, .d3⟩, .move (.t ⟨.d0, .d1, .d4⟩), none⟩,
              ⟨some ⟨.d1, .d6, .d4⟩, .move (.t ⟨.d0, .d1, .d0⟩), none⟩,
              ⟨some ⟨.d1, .d6, .d5⟩, .bin .add (.t ⟨.d1, .d6, .d3⟩) (.t ⟨.d1, .d6, .d4⟩), none⟩,
              ⟨some ⟨.d0, .d0, .d4⟩, .move (.t ⟨.d1, .d6, .d5⟩), none⟩])
            (.ret))
            (.skip)))
          (.seq (.region [⟨some ⟨.d0, .d0, .d4⟩, .move (.c (.int .i64 (-1))), none⟩])
          (.ret))))
          (.seq (.region [⟨some ⟨.d1, .d6, .d6⟩, .move (.t ⟨.d0, .d0, .d5⟩), none⟩,
            ⟨some ⟨.d1, .d6, .d7⟩, .load false 1 .g, none⟩,
            ⟨some ⟨.d1, .d7, .d0⟩, .bin .gtr (.t ⟨.d1, .d6, .d6⟩) (.t ⟨.d1, .d6, .d7⟩), none⟩,
            ⟨some ⟨.d1, .d7, .d1⟩, .move (.t ⟨.d1, .d7, .d0⟩), none⟩,
            ⟨some ⟨.d1, .d7, .d2⟩, .move (.t ⟨.d0, .d1, .d2⟩), some (⟨.d1, .d7, .d1⟩, true)⟩,
            ⟨some ⟨.d1, .d7, .d3⟩, .move (.t ⟨.d0, .d1, .d0⟩), some (⟨.d1, .d7, .d1⟩, true)⟩,
            ⟨some ⟨.d1, .d7, .d4⟩, .bin .shr (.t ⟨.d1, .d7, .d3⟩) (.c (.int .u64 4)), some (⟨.d1, .d7, .d1⟩, true)⟩,
            ⟨some ⟨.d1, .d7, .d5⟩, .bin .add (.c (.int .i64 4)) (.t ⟨.d1, .d7, .d4⟩), some (⟨.d1, .d7, .d1⟩, true)⟩,
            ⟨some ⟨.d1, .d7, .d6⟩, .bin .geq (.t ⟨.d1, .d7, .d2⟩) (.t ⟨.d1, .d7, .d5⟩), some (⟨.d1, .d7, .d1⟩, true)⟩,
            ⟨some ⟨.d1, .d7, .d7⟩, .pick (.t ⟨.d1, .d7, .d1⟩) (.t ⟨.d1, .d7, .d6⟩) (.c (.bool false)), none⟩,
            ⟨some ⟨.d2, .d0, .d0⟩, .move (.t ⟨.d1, .d7, .d7⟩), none⟩,
            ⟨some ⟨.d2, .d0, .d1⟩, .move (.t ⟨.d0, .d1, .d0⟩), some (⟨.d2, .d0, .d0⟩, true)⟩,
            ⟨some ⟨.d2, .d0, .d2⟩, .move (.t ⟨.d0, .d1, .d1⟩), some (⟨.d2, .d0, .d0⟩, true)⟩,
            ⟨some ⟨.d2, .d0, .d3⟩, .bin .lss (.t ⟨.d2, .d0, .d1⟩) (.t ⟨.d2, .d0, .d2⟩), some (⟨.d2, .d0, .d0⟩, true)⟩,
            ⟨some ⟨.d2, .d0, .d4⟩, .pick (.t ⟨.d2, .d0, .d0⟩) (.t ⟨.d2, .d0, .d3⟩) (.c (.bool false)), none⟩])
          (.cond (.t ⟨.d2, .d0, .d4⟩)
            (.seq (.region [⟨some ⟨.d2, .d0, .d5⟩, .move (.t ⟨.d0, .d0, .d0⟩), none⟩,
              ⟨some ⟨.d2, .d0, .d6⟩, .move (.t ⟨.d0, .d1, .d0⟩), none⟩,
              ⟨some ⟨.d2, .d0, .d7⟩, .substr (.t ⟨.d2, .d0, .d5⟩) (some (.t ⟨.d2, .d0, .d6⟩)) none, none⟩,
              ⟨some ⟨.d2, .d1, .d0⟩, .move (.t ⟨.d0, .d0, .d1⟩), none⟩,
              ⟨some ⟨.d2, .d1, .d1⟩, .call 55 [(.t ⟨.d2, .d0, .d7⟩), (.t ⟨.d2, .d1, .d0⟩)], none⟩,
              ⟨some ⟨.d0, .d1, .d5⟩, .move (.t ⟨.d2, .d1, .d1⟩), none⟩])
            (.seq (.seq (.region [⟨some ⟨.d2, .d1, .d2⟩, .move (.t ⟨.d0, .d1, .d5⟩), none⟩,
              ⟨some ⟨.d2, .d1, .d3⟩, .bin .lss (.t ⟨.d2, .d1, .d2⟩) (.c (.int .i64 0)), none⟩])
            (.cond (.t ⟨.d2, .d1, .d3⟩)
              (.seq (.region [⟨some ⟨.d0, .d0, .d4⟩, .move (.c (.int .i64 (-1))), none⟩])
              (.ret))
              (.skip)))
            (.seq (.region [⟨some ⟨.d2, .d1, .d4⟩, .move (.t ⟨.d0, .d1, .d0⟩), none⟩,
              ⟨some ⟨.d2, .d1, .d5⟩, .move (.t ⟨.d0, .d1, .d5⟩), none⟩,
              ⟨some ⟨.d2, .d1, .d6⟩, .bin .add (.t ⟨.d2, .d1, .d4⟩) (.t ⟨.d2, .d1, .d5⟩), none⟩,
              ⟨some ⟨.d0, .d0, .d4⟩, .move (.t ⟨.d2, .d1, .d6⟩), none⟩])
            (.ret))))
            (.skip)))))))))))))
  (.seq (.region [⟨some ⟨.d0, .d0, .d4⟩, .move (.c (.int .i64 (-1))), none⟩])
  (.ret))))))))))
def r_stringslite_Index : List XR := [.tmp ⟨.d0, .d0, .d4⟩]
theorem ok_stringslite_Index : okC Try.prog Try.f51.ntmps (bodyOf Try.f51) x_stringslite_Index = true := by kernel_rfl
theorem okr_stringslite_Index : okRs Try.prog Try.f51.results.toList r_stringslite_Index = true := by kernel_rfl

/-- stringslite.IndexByte -/
def x_stringslite_IndexByte : XC :=
  .seq (.region [⟨some ⟨.d0, .d0, .d4⟩, .move (.c (.int .i64 0)), none⟩])
  (.seq (.region [⟨some ⟨.d0, .d0, .d5⟩, .move (.t ⟨.d0, .d0, .d0⟩), none⟩,
    ⟨some ⟨.d0, .d0, .d6⟩, .move (.t ⟨.d0, .d0, .d1⟩), none⟩,
    ⟨some ⟨.d0, .d0, .d7⟩, .ext 0 [(.t ⟨.d0, .d0, .d5⟩), (.t ⟨.d0, .d0, .d6⟩)], none⟩,
    ⟨some ⟨.d0, .d0, .d4⟩, .move (.t ⟨.d0, .d0, .d7⟩), none⟩])
  (.ret))
def r_stringslite_IndexByte : List XR := [.tmp ⟨.d0, .d0, .d4⟩]
theorem ok_stringslite_IndexByte : okC Try.prog Try.f52.ntmps (bodyOf Try.f52) x_stringslite_IndexByte = true := by kernel_rfl
theorem okr_stringslite_IndexByte : okRs Try.prog Try.f52.results.toList r_stringslite_IndexByte = true := by kernel_rfl

/-- bytealg.Cutover -/
def x_bytealg_Cutover : XC :=
  .seq (.region [⟨some ⟨.d0, .d0, .d2⟩, .move (.c (.int .i64 0)), none⟩])
  (.seq (.region [⟨some ⟨.d0, .d0, .d3⟩, .move (.t ⟨.d0, .d0, .d0⟩), none⟩,
    ⟨some ⟨.d0, .d0, .d4⟩, .bin .add (.t ⟨.d0, .d0, .d3⟩) (.c (.int .i64 16)), none⟩,
    ⟨some ⟨.d0, .d0, .d5⟩, .bin .quo (.t ⟨.d0, .d0, .d4⟩) (.c (.int .i64 8)), none⟩,
    ⟨some ⟨.d0, .d0, .d2⟩, .move (.t ⟨.d0, .d0, .d5⟩), none⟩])
  (.ret))
def r_bytealg_Cutover : List XR := [.tmp ⟨.d0, .d0, .d2⟩]
theorem ok_bytealg_Cutover : okC Try.prog Try.f54.ntmps (bodyOf Try.f54) x_bytealg_Cutover = true := by kernel_rfl
theorem okr_bytealg_Cutover : okRs Try.prog Try.f54.results.toList r_bytealg_Cutover = true := by kernel_rfl

/-- bytealg.IndexRabinKarp -/
def x_bytealg_IndexRabinKarp_string : XC :=
  .seq (.region [⟨some ⟨.d0, .d0, .d4⟩, .move (.c (.int .i64 0)), none⟩])
  (.seq (.region [⟨some ⟨.d0, .d1, .d4⟩, .move (.t ⟨.d0, .d0, .d1⟩), none⟩,
    ⟨some ⟨.d0, .d1, .d5⟩, .call 57 [(.t ⟨.d0, .d1, .d4⟩)], none⟩,
    ⟨some ⟨.d0, .d1, .d3⟩, .move (.t ⟨.d0, .d1, .d5⟩), none⟩,
    ⟨some ⟨.d0, .d1, .d6⟩, .extract 0 (.t ⟨.d0, .d1, .d3⟩), none⟩,
    ⟨some ⟨.d0, .d1, .d7⟩, .extract 1 (.t ⟨.d0, .d1, .d3⟩), none⟩,
    ⟨some ⟨.d0, .d0, .d5⟩, .move (.t ⟨.d0, .d1, .d6⟩), none⟩,
    ⟨some ⟨.d0, .d0, .d6⟩, .move (.t ⟨.d0, .d1, .d7⟩), none⟩])
  (.seq (.region [⟨some ⟨.d0, .d2, .d0⟩, .move (.t ⟨.d0, .d0, .d1⟩), none⟩,
    ⟨some ⟨.d0, .d2, .d1⟩, .slen (.t ⟨.d0, .d2, .d0⟩), none⟩,
    ⟨some ⟨.d0, .d0, .d7⟩, .move (.t ⟨.d0, .d2, .d1⟩), none⟩])
  (.seq (.region [⟨some ⟨.d0, .d1, .d0⟩, .move (.c (.int .u32 0)), none⟩])
  (.seq (.seq (.region [⟨some ⟨.d0, .d1, .d1⟩, .move (.c (.int .i64 0)), none⟩])
  (.block 0
    (.loop
      (.seq (.seq (.region [⟨some ⟨.d0, .d2, .d2⟩, .move (.t ⟨.d0, .d1, .d1⟩), none⟩,
        ⟨some ⟨.d0, .d2, .d3⟩, .move (.t ⟨.d0, .d0, .d7⟩), none⟩,
        ⟨some ⟨.d0, .d2, .d4⟩, .bin .lss (.t ⟨.d0, .d2, .d2⟩) (.t ⟨.d0, .d2, .d3⟩), none⟩])
      (.cond (.t ⟨.d0, .d2, .d4⟩)
        (.skip)
        (.exit 0)))
      (.seq (.block 1
        (.region [⟨some ⟨.d0, .d2, .d7⟩, .move (.t ⟨.d0, .d1, .d0⟩), none⟩,
          ⟨some ⟨.d0, .d3, .d0⟩, .bin .mul (.t ⟨.d0, .d2, .d7⟩) (.c (.int .u32 16777619)), none⟩,
          ⟨some ⟨.d0, .d3, .d1⟩, .move (.t ⟨.d0, .d0, .d0⟩), none⟩,
          ⟨some ⟨.d0, .d3, .d2⟩, .move (.t ⟨.d0, .d1, .d1⟩), none⟩,
          ⟨some ⟨.d0, .d3, .d3⟩, .strAt (.t ⟨.d0, .d3, .d1⟩) (.t ⟨.d0, .d3, .d2⟩), none⟩,
          ⟨some ⟨.d0, .d3, .d4⟩, .convInt .u32 (.t ⟨.d0, .d3, .d3⟩), none⟩,
          ⟨some ⟨.d0, .d3, .d5⟩, .bin .add (.t ⟨.d0, .d3, .d0⟩) (.t ⟨.d0, .d3, .d4⟩), none⟩,
          ⟨some ⟨.d0, .d1, .d0⟩, .move (.t ⟨.d0, .d3, .d5⟩), none⟩]))
      (.region [⟨some ⟨.d0, .d2, .d5⟩, .move (.t ⟨.d0, .d1, .d1⟩), none⟩,
        ⟨some ⟨.d0, .d2, .d6⟩, .bin .add (.t ⟨.d0, .d2, .d5⟩) (.c (.int .i64 1)), none⟩,
        ⟨some ⟨.d0, .d1, .d1⟩, .move (.t ⟨.d0, .d2, .d6⟩), none⟩]))))))
  (.seq (.seq (.region [⟨some ⟨.d0, .d3, .d6⟩, .move (.t ⟨.d0, .d1, .d0⟩), none⟩,
    ⟨some ⟨.d0, .d3, .d7⟩, .move (.t ⟨.d0, .d0, .d5⟩), none⟩,
    ⟨some ⟨.d0, .d4, .d0⟩, .bin .eql (.t ⟨.d0, .d3, .d6⟩) (.t ⟨.d0, .d3, .d7⟩), none⟩,
    ⟨some ⟨.d0, .d4, .d1⟩, .move (.t ⟨.d0, .d4, .d0⟩), none⟩,
    ⟨some ⟨.d0, .d4, .d2⟩, .move (.t ⟨.d0, .d0, .d0⟩), some (⟨.d0, .d4, .d1⟩, true)⟩,
    ⟨some ⟨.d0, .d4, .d3⟩, .move (.t ⟨.d0, .d0, .d7⟩), some (⟨.d0, .d4, .d1⟩, true)⟩,
    ⟨some ⟨.d0, .d4, .d4⟩, .substr (.t ⟨.d0, .d4, .d2⟩) none (some (.t ⟨.d0, .d4, .d3⟩)), some (⟨.d0, .d4, .d1⟩, true)⟩,
    ⟨some ⟨.d0, .d4, .d5⟩, .move (.t ⟨.d0, .d0, .d1⟩), some (⟨.d0, .d4, .d1⟩, true)⟩,
    ⟨some ⟨.d0, .d4, .d6⟩, .sbin .eql (.t ⟨.d0, .d4, .d4⟩) (.t ⟨.d0, .d4, .d5⟩), some (⟨.d0, .d4, .d1⟩, true)⟩,
    ⟨some ⟨.d0, .d4, .d7⟩, .pick (.t ⟨.d0, .d4, .d1⟩) (.t ⟨.d0, .d4, .d6⟩) (.c (.bool false)), none⟩])
  (.cond (.t ⟨.d0, .d4, .d7⟩)
    (.seq (.region [⟨some ⟨.d0, .d0, .d4⟩, .move (.c (.int .i64 0)), none⟩])
    (.ret))
    (.skip)))
  (.seq (.seq (.region [⟨some ⟨.d0, .d5, .d0⟩, .move (.t ⟨.d0, .d0, .d7⟩), none⟩,
    ⟨some ⟨.d0, .d1, .d2⟩, .move (.t ⟨.d0, .d5, .d0⟩), none⟩])
  (.block 2
    (.loop
      (.seq (.seq (.region [⟨some ⟨.d0, .d5, .d1⟩, .move (.t ⟨.d0, .d1, .d2⟩), none⟩,
        ⟨some ⟨.d0, .d5, .d2⟩, .move (.t ⟨.d0, .d0, .d0⟩), none⟩,
        ⟨some ⟨.d0, .d5, .d3⟩, .slen (.t ⟨.d0, .d5, .d2⟩), none⟩,
        ⟨some ⟨.d0, .d5, .d4⟩, .bin .lss (.t ⟨.d0, .d5, .d1⟩) (.t ⟨.d0, .d5, .d3⟩), none⟩])
      (.cond (.t ⟨.d0, .d5, .d4⟩)
        (.skip)
        (.exit 2)))
      (.block 3
        (.seq (.region [⟨some ⟨.d0, .d5, .d5⟩, .move (.t ⟨.d0, .d1, .d0⟩), none⟩,
          ⟨some ⟨.d0, .d5, .d6⟩, .bin .mul (.t ⟨.d0, .d5, .d5⟩) (.c (.int .u32 16777619)), none⟩,
          ⟨some ⟨.d0, .d1, .d0⟩, .move (.t ⟨.d0, .d5, .d6⟩), none⟩])
        (.seq (.region [⟨some ⟨.d0, .d5, .d7⟩, .move (.t ⟨.d0, .d1, .d0⟩), none⟩,
          ⟨some ⟨.d0, .d6, .d0⟩, .move (.t ⟨.d0, .d0, .d0⟩), none⟩,
          ⟨some ⟨.d0, .d6, .d1⟩, .move (.t ⟨.d0, .d1, .d2⟩), none⟩,
          ⟨some ⟨.d0, .d6, .d2⟩, .strAt (.t ⟨.d0, .d6, .d0⟩) (.t ⟨.d0, .d6, .d1⟩), none⟩,
          ⟨some ⟨.d0, .d6, .d3⟩, .convInt .u32 (.t ⟨.d0, .d6, .d2⟩), none⟩,
          ⟨some ⟨.d0, .d6, .d4⟩, .bin .add (.t ⟨.d0, .d5, .d7⟩) (.t ⟨.d0, .d6, .d3⟩), none⟩,
          ⟨some ⟨.d0, .d1, .d0⟩, .move (.t ⟨.d0, .d6, .d4⟩), none⟩])
        (.seq (.region [⟨some ⟨.d0, .d6, .d5⟩, .move (.t ⟨.d0, .d1, .d0⟩), none⟩,
          ⟨some ⟨.d0, .d6, .d6⟩, .move (.t ⟨.d0, .d0, .d6⟩), none⟩,
          ⟨some ⟨.d0, .d6, .d7⟩, .move (.t ⟨.d0, .d0, .d0⟩), none⟩,
          ⟨some ⟨.d0, .d7, .d0⟩, .move (.t ⟨.d0, .d1, .d2⟩), none⟩,
          ⟨some ⟨.d0, .d7, .d1⟩, .move (.t ⟨.d0, .d0, .d7⟩), none⟩,
          ⟨some ⟨.d0, .d7, .d2⟩, .bin .sub (.t ⟨.d0, .d7, .d0⟩) (.t ⟨.d0, .d7, .d1⟩), none⟩,
          ⟨some ⟨.d0, .d7, .d3⟩, .strAt (.t ⟨.d0, .d6, .d7⟩) (.t ⟨.d0, .d7, .d2⟩), none⟩,
          ⟨some ⟨.d0, .d7, .d4⟩, .convInt .u32 (.t ⟨.d0, .d7, .d3⟩), none⟩,
          ⟨some ⟨.d0, .d7, .d5⟩, .bin .mul (.t ⟨.d0, .d6, .d6⟩) (.t ⟨.d0, .d7, .d4⟩), none⟩,
          ⟨some ⟨.d0, .d7, .d6⟩, .bin .sub (.t ⟨.d0, .d6, .d5⟩) (.t ⟨.d0, .d7, .d5⟩), none⟩,
          ⟨some ⟨.d0, .d1, .d0⟩, .move (.t ⟨.d0, .d7, .d6⟩), none⟩])
        (.seq (.region [⟨some ⟨.d0, .d7, .d7⟩, .move (.t ⟨.d0, .d1, .d2⟩), none⟩,
          ⟨some ⟨.d1, .d0, .d0⟩, .bin .add (.t ⟨.d0, .d7, .d7⟩) (.c (.int .i64 1)), none⟩,
          ⟨some ⟨.d0, .d1, .d2⟩, .move (.t ⟨.d1, .d0, .d0⟩), none⟩])
        (.seq (.region [⟨some ⟨.d1, .d0, .d1⟩, .move (.t ⟨.d0, .d1, .d0⟩), none⟩,
          ⟨some ⟨.d1, .d0, .d2⟩, .move (.t ⟨.d0, .d0, .d5⟩), none⟩,
          ⟨some ⟨.d1, .d0, .d3⟩, .bin .eql (.t ⟨.d1, .d0, .d1⟩) (.t ⟨.d1, .d0, .d2⟩), none⟩,
          ⟨some ⟨.d1, .d0, .d4⟩, .move (.t ⟨.d1, .d0, .d3⟩), none⟩,
          ⟨some ⟨.d1, .d0, .d5⟩, .move (.t ⟨.d0, .d0, .d0⟩), some (⟨.d1, .d0, .d4⟩, true)⟩,
          ⟨some ⟨.d1, .d0, .d6⟩, .move (.t ⟨.d0, .d1, .d2⟩), some (⟨.d1, .d0, .d4⟩, true)⟩,
          ⟨some ⟨.d1, .d0, .d7⟩, .move (.t ⟨.d0, .d0, .d7⟩), some (⟨.d1, .d0, .d4⟩, true)⟩,
          ⟨some ⟨.d1, .d1, .d0⟩, .bin .sub (.t ⟨.d1, .d0, .d6⟩) (.t ⟨.d1, .d0, .d7⟩), some (⟨.d1, .d0, .d4⟩, true)⟩,
          ⟨some ⟨.d1, .d1, .d1⟩, .move (.t ⟨.d0, .d1, .d2⟩), some (⟨.d1, .d0, .d4⟩, true)⟩,
          ⟨some ⟨.d1, .d1, .d2⟩, .substr (.t ⟨.d1, .d0, .d5⟩) (some (.t ⟨.d1, .d1, .d0⟩)) (some (.t ⟨.d1, .d1, .d1⟩)), some (⟨.d1, .d0, .d4⟩, true)⟩,
          ⟨some ⟨.d1, .d1, .d3⟩, .move (.t ⟨.d0, .d0, .d1⟩), some (⟨.d1, .d0, .d4⟩, true)⟩,
          ⟨some ⟨.d1, .d1, .d4⟩, .sbin .eql (.t ⟨.d1, .d1, .d2⟩) (.t ⟨.d1, .d1, .d3⟩), some (⟨.d1, .d0, .d4⟩, true)⟩,
          ⟨some ⟨.d1, .d1, .d5⟩, .pick (.t ⟨.d1, .d0, .d4⟩) (.t ⟨.d1, .d1, .d4⟩) (.c (.bool false)), none⟩])
        (.cond (.t ⟨.d1, .d1, .d5⟩)
          (.seq (.region [⟨some ⟨.d1, .d1, .d6⟩, .move (.t ⟨.d0, .d1, .d2⟩), none⟩,
            ⟨some ⟨.d1, .d1, .d7⟩, .move (.t ⟨.d0, .d0, .d7⟩), none⟩,
            ⟨some ⟨.d1, .d2, .d0⟩, .bin .sub (.t ⟨.d1, .d1, .d6⟩) (.t ⟨.d1, .d1, .d7⟩), none⟩,
            ⟨some ⟨.d0, .d0, .d4⟩, .move (.t ⟨.d1, .d2, .d0⟩), none⟩])
          (.ret))
          (.skip))))))))))))
  (.seq (.region [⟨some ⟨.d0, .d0, .d4⟩, .move (.c (.int .i64 (-1))), none⟩])
  (.ret))))))))
def r_bytealg_IndexRabinKarp_string : List XR := [.tmp ⟨.d0, .d0, .d4⟩]
theorem ok_bytealg_IndexRabinKarp_string : okC Try.prog Try.f55.ntmps (bodyOf Try.f55) x_bytealg_IndexRabinKarp_string = true := by kernel_rfl
theorem okr_bytealg_IndexRabinKarp_string : okRs Try.prog Try.f55.results.toList r_bytealg_IndexRabinKarp_string = true := by kernel_rfl

/-- bytealg.hashStr -/
def x_bytealg_hashStr_string : XC :=
  .seq (.region [⟨some ⟨.d0, .d0, .d2⟩, .move (.c (.int .u32 0)), none⟩,
    ⟨some ⟨.d0, .d0, .d3⟩, .move (.c (.int .u32 0)), none⟩])
  (.seq (.region [⟨some ⟨.d0, .d0, .d4⟩, .move (.c (.int .u32 0)), none⟩])
  (.seq (.seq (.region [⟨some ⟨.d0, .d0, .d5⟩, .move (.c (.int .i64 0)), none⟩])
  (.block 0
    (.loop
      (.seq (.seq (.region [⟨some ⟨.d0, .d1, .d1⟩, .move (.t ⟨.d0, .d0, .d5⟩), none⟩,
        ⟨some ⟨.d0, .d1, .d2⟩, .move (.t ⟨.d0, .d0, .d0⟩), none⟩,
        ⟨some ⟨.d0, .d1, .d3⟩, .slen (.t ⟨.d0, .d1, .d2⟩), none⟩,
        ⟨some ⟨.d0, .d1, .d4⟩, .bin .lss (.t ⟨.d0, .d1, .d1⟩) (.t ⟨.d0, .d1, .d3⟩), none⟩])
      (.cond (.t ⟨.d0, .d1, .d4⟩)
        (.skip)
        (.exit 0)))
      (.seq (.block 1
        (.region [⟨some ⟨.d0, .d1, .d7⟩, .move (.t ⟨.d0, .d0, .d4⟩), none⟩,
          ⟨some ⟨.d0, .d2, .d0⟩, .bin .mul (.t ⟨.d0, .d1, .d7⟩) (.c (.int .u32 16777619)), none⟩,
          ⟨some ⟨.d0, .d2, .d1⟩, .move (.t ⟨.d0, .d0, .d0⟩), none⟩,
          ⟨some ⟨.d0, .d2, .d2⟩, .move (.t ⟨.d0, .d0, .d5⟩), none⟩,
          ⟨some ⟨.d0, .d2, .d3⟩, .strAt (.t ⟨.d0, .d2, .d1⟩) (.t ⟨.d0, .d2, .d2⟩), none⟩,
          ⟨some ⟨.d0, .d2, .d4⟩, .convInt .u32 (.t ⟨.d0, .d2, .d3⟩), none⟩,
          ⟨some ⟨.d0, .d2, .d5⟩, .bin .add (.t ⟨.d0, .d2, .d0⟩) (.t ⟨.d0, .d2, .d4⟩), none⟩,
          ⟨some ⟨.d0, .d0, .d4⟩, .move (.t ⟨.d0, .d2, .d5⟩), none⟩]))
      (.region [⟨some ⟨.d0, .d1, .d5⟩, .move (.t ⟨.d0, .d0, .d5⟩), none⟩,
        ⟨some ⟨.d0, .d1, .d6⟩, .bin .add (.t ⟨.d0, .d1, .d5⟩) (.c (.int .i64 1)), none⟩,
        ⟨some ⟨.d0, .d0, .d5⟩, .move (.t ⟨.d0, .d1, .d6⟩), none⟩]))))))
  (.seq (.region [⟨some ⟨.d0, .d0, .d6⟩, .move (.c (.int .u32 1)), none⟩,
    ⟨some ⟨.d0, .d0, .d7⟩, .move (.c (.int .u32 16777619)), none⟩])
  (.seq (.seq (.region [⟨some ⟨.d0, .d2, .d6⟩, .move (.t ⟨.d0, .d0, .d0⟩), none⟩,
    ⟨some ⟨.d0, .d2, .d7⟩, .slen (.t ⟨.d0, .d2, .d6⟩), none⟩,
    ⟨some ⟨.d0, .d1, .d0⟩, .move (.t ⟨.d0, .d2, .d7⟩), none⟩])
  (.block 2
    (.loop
      (.seq (.seq (.region [⟨some ⟨.d0, .d3, .d0⟩, .move (.t ⟨.d0, .d1, .d0⟩), none⟩,
        ⟨some ⟨.d0, .d3, .d1⟩, .bin .gtr (.t ⟨.d0, .d3, .d0⟩) (.c (.int .i64 0)), none⟩])
      (.cond (.t ⟨.d0, .d3, .d1⟩)
        (.skip)
        (.exit 2)))
      (.seq (.block 3
        (.seq (.seq (.region [⟨some ⟨.d0, .d3, .d4⟩, .move (.t ⟨.d0, .d1, .d0⟩), none⟩,
          ⟨some ⟨.d0, .d3, .d5⟩, .bin .and (.t ⟨.d0, .d3, .d4⟩) (.c (.int .i64 1)), none⟩,
          ⟨some ⟨.d0, .d3, .d6⟩, .bin .neq (.t ⟨.d0, .d3, .d5⟩) (.c (.int .i64 0)), none⟩])
        (.cond (.t ⟨.d0, .d3, .d6⟩)
          (.region [⟨some ⟨.d0, .d3, .d7⟩, .move (.t ⟨.d0, .d0, .d6⟩), none⟩,
            ⟨some ⟨.d0, .d4, .d0⟩, .move (.t ⟨.d0, .d0, .d7⟩), none⟩,
            ⟨some ⟨.d0, .d4, .d1⟩, .bin .mul (.t ⟨.d0, .d3, .d7⟩) (.t ⟨.d0, .d4, .d0⟩), none⟩,
            ⟨some ⟨.d0, .d0, .d6⟩, .move (.t ⟨.d0, .d4, .d1⟩), none⟩])
          (.skip)))
        (.region [⟨some ⟨.d0, .d4, .d2⟩, .move (.t ⟨.d0, .d0, .d7⟩), none⟩,
          ⟨some ⟨.d0, .d4, .d3⟩, .move (.t ⟨.d0, .d0, .d7⟩), none⟩,
          ⟨some ⟨.d0, .d4, .d4⟩, .bin .mul (.t ⟨.d0, .d4, .d2⟩) (.t ⟨.d0, .d4, .d3⟩), none⟩,
          ⟨some ⟨.d0, .d0, .d7⟩, .move (.t ⟨.d0, .d4, .d4⟩), none⟩])))
      (.region [⟨some ⟨.d0, .d3, .d2⟩, .move (.t ⟨.d0, .d1, .d0⟩), none⟩,
        ⟨some ⟨.d0, .d3, .d3⟩, .bin .shr (.t ⟨.d0, .d3, .d2⟩) (.c (.int .u64 1)), none⟩,
        ⟨some ⟨.d0, .d1, .d0⟩, .move (.t ⟨.d0, .d3, .d3⟩), none⟩]))))))
  (.seq (.region [⟨some ⟨.d0, .d4, .d5⟩, .move (.t ⟨.d0, .d0, .d4⟩), none⟩,
    ⟨some ⟨.d0, .d4, .d6⟩, .move (.t ⟨.d0, .d0, .d6⟩), none⟩,
    ⟨some ⟨.d0, .d0, .d2⟩, .move (.t ⟨.d0, .d4, .d5⟩), none⟩,
    ⟨some ⟨.d0, .d0, .d3⟩, .move (.t ⟨.d0, .d4, .d6⟩), none⟩])
  (.ret))))))
def r_bytealg_hashStr_string : List XR := [.tmp ⟨.d0, .d0, .d2⟩, .tmp ⟨.d0, .d0, .d3⟩]
theorem ok_bytealg_hashStr_string : okC Try.prog Try.f57.ntmps (bodyOf Try.f57) x_bytealg_hashStr_string = true := by kernel_rfl
theorem okr_bytealg_hashStr_string : okRs Try.prog Try.f57.results.toList r_bytealg_hashStr_string = true := by kernel_rfl
end Go.Proofs.Ythdghenfidkdcaa
