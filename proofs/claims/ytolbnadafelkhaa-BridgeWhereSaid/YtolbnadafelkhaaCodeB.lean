/-
  The functions of the program in short form, and that the model's code is what they stand for. Printed by xgen.py.
-/
import Derived.Test.YtolbnadafelkhaaFw
import Derived.Test.YtolbnadafelkhaaProg
import Derived.KernelRfl
namespace Go.Proofs.Ytolbnadafelkhaa
set_option linter.unusedVariables false
set_option maxRecDepth 100000

/-- custlaw.BridgeWhere -/
def x_custlaw_BridgeWhere : XC :=
  .seq (.region [⟨some ⟨.d0, .d0, .d3⟩, .box 0 3 (.t ⟨.d0, .d0, .d0⟩), none⟩,
    ⟨some ⟨.d0, .d0, .d4⟩, .box 1 6 (.t ⟨.d0, .d0, .d1⟩), none⟩,
    ⟨some ⟨.d0, .d0, .d6⟩, .move (.c (.bool false)), none⟩])
  (.seq (.region [⟨some ⟨.d0, .d1, .d4⟩, .load true 3 (.t ⟨.d0, .d0, .d3⟩), none⟩,
    ⟨some ⟨.d0, .d1, .d5⟩, .load true 6 (.t ⟨.d0, .d0, .d4⟩), none⟩,
    ⟨some ⟨.d0, .d1, .d6⟩, .move (.t ⟨.d0, .d0, .d2⟩), none⟩,
    ⟨some ⟨.d0, .d1, .d7⟩, .call 29 [(.t ⟨.d0, .d1, .d4⟩), (.t ⟨.d0, .d1, .d5⟩), (.t ⟨.d0, .d1, .d6⟩)], none⟩,
    ⟨some ⟨.d0, .d1, .d3⟩, .move (.t ⟨.d0, .d1, .d7⟩), none⟩,
    ⟨some ⟨.d0, .d2, .d0⟩, .extract 0 (.t ⟨.d0, .d1, .d3⟩), none⟩,
    ⟨some ⟨.d0, .d2, .d1⟩, .extract 1 (.t ⟨.d0, .d1, .d3⟩), none⟩,
    ⟨some ⟨.d0, .d0, .d7⟩, .move (.t ⟨.d0, .d2, .d0⟩), none⟩,
    ⟨some ⟨.d0, .d1, .d0⟩, .move (.t ⟨.d0, .d2, .d1⟩), none⟩])
  (.seq (.region [⟨some ⟨.d0, .d2, .d2⟩, .load true 3 (.t ⟨.d0, .d0, .d3⟩), none⟩,
    ⟨some ⟨.d0, .d2, .d3⟩, .call 30 [(.t ⟨.d0, .d2, .d2⟩)], none⟩,
    ⟨some ⟨.d0, .d1, .d1⟩, .move (.c (.int .i64 0)), none⟩,
    ⟨some ⟨.d0, .d1, .d2⟩, .move (.t ⟨.d0, .d2, .d3⟩), none⟩])
  (.seq (.seq (.region [⟨some ⟨.d0, .d2, .d4⟩, .move (.t ⟨.d0, .d1, .d2⟩), none⟩,
    ⟨some ⟨.d0, .d2, .d5⟩, .bin .eql (.t ⟨.d0, .d2, .d4⟩) (.c (.int .i64 0)), none⟩,
    ⟨some ⟨.d0, .d2, .d6⟩, .move (.t ⟨.d0, .d2, .d5⟩), none⟩,
    ⟨some ⟨.d0, .d2, .d7⟩, .move (.t ⟨.d0, .d0, .d2⟩), some (⟨.d0, .d2, .d6⟩, true)⟩,
    ⟨some ⟨.d0, .d3, .d0⟩, .call 11 [(.t ⟨.d0, .d2, .d7⟩), (.c (.int .i64 0)), (.c (.int .i64 1099511627776))], some (⟨.d0, .d2, .d6⟩, true)⟩,
    ⟨some ⟨.d0, .d3, .d1⟩, .un .not (.t ⟨.d0, .d3, .d0⟩), some (⟨.d0, .d2, .d6⟩, true)⟩,
    ⟨some ⟨.d0, .d3, .d2⟩, .pick (.t ⟨.d0, .d2, .d6⟩) (.t ⟨.d0, .d3, .d1⟩) (.c (.bool false)), none⟩])
  (.cond (.t ⟨.d0, .d3, .d2⟩)
    (.region [⟨some ⟨.d0, .d1, .d2⟩, .move (.c (.int .i64 1)), none⟩])
    (.skip)))
  (.seq (.seq (.region [⟨some ⟨.d0, .d3, .d3⟩, .move (.t ⟨.d0, .d1, .d2⟩), none⟩,
    ⟨some ⟨.d0, .d3, .d4⟩, .bin .eql (.t ⟨.d0, .d3, .d3⟩) (.c (.int .i64 0)), none⟩])
  (.cond (.t ⟨.d0, .d3, .d4⟩)
    (.seq (.region [⟨some ⟨.d0, .d3, .d5⟩, .load true 3 (.t ⟨.d0, .d0, .d3⟩), none⟩,
      ⟨some ⟨.d0, .d3, .d6⟩, .load true 6 (.t ⟨.d0, .d0, .d4⟩), none⟩,
      ⟨some ⟨.d0, .d3, .d7⟩, .move (.t ⟨.d0, .d0, .d2⟩), none⟩,
      ⟨some ⟨.d0, .d4, .d0⟩, .call 31 [(.t ⟨.d0, .d3, .d5⟩), (.t ⟨.d0, .d3, .d6⟩), (.t ⟨.d0, .d3, .d7⟩)], none⟩,
      ⟨some ⟨.d0, .d1, .d1⟩, .move (.t ⟨.d0, .d4, .d0⟩), none⟩])
    (.seq (.region [⟨some ⟨.d0, .d4, .d1⟩, .move (.t ⟨.d0, .d1, .d1⟩), none⟩,
      ⟨some ⟨.d0, .d4, .d2⟩, .bin .lss (.t ⟨.d0, .d4, .d1⟩) (.c (.int .i64 0)), none⟩])
    (.cond (.t ⟨.d0, .d4, .d2⟩)
      (.region [⟨some ⟨.d0, .d1, .d1⟩, .move (.c (.int .i64 0)), none⟩,
        ⟨some ⟨.d0, .d1, .d2⟩, .move (.c (.int .i64 7)), none⟩])
      (.skip))))
    (.skip)))
  (.seq (.region [⟨some ⟨.d0, .d4, .d3⟩, .move (.t ⟨.d0, .d0, .d7⟩), none⟩,
    ⟨some ⟨.d0, .d4, .d4⟩, .move (.t ⟨.d0, .d1, .d1⟩), none⟩,
    ⟨some ⟨.d0, .d4, .d5⟩, .bin .eql (.t ⟨.d0, .d4, .d3⟩) (.t ⟨.d0, .d4, .d4⟩), none⟩,
    ⟨some ⟨.d0, .d4, .d6⟩, .move (.t ⟨.d0, .d4, .d5⟩), none⟩,
    ⟨some ⟨.d0, .d4, .d7⟩, .move (.t ⟨.d0, .d1, .d0⟩), some (⟨.d0, .d4, .d6⟩, true)⟩,
    ⟨some ⟨.d0, .d5, .d0⟩, .move (.t ⟨.d0, .d1, .d2⟩), some (⟨.d0, .d4, .d6⟩, true)⟩,
    ⟨some ⟨.d0, .d5, .d1⟩, .bin .eql (.t ⟨.d0, .d4, .d7⟩) (.t ⟨.d0, .d5, .d0⟩), some (⟨.d0, .d4, .d6⟩, true)⟩,
    ⟨some ⟨.d0, .d5, .d2⟩, .pick (.t ⟨.d0, .d4, .d6⟩) (.t ⟨.d0, .d5, .d1⟩) (.c (.bool false)), none⟩,
    ⟨some ⟨.d0, .d0, .d6⟩, .move (.t ⟨.d0, .d5, .d2⟩), none⟩])
  (.ret))))))
def r_custlaw_BridgeWhere : List XR := [.tmp ⟨.d0, .d0, .d6⟩]
theorem ok_custlaw_BridgeWhere : okC Try.prog Try.f8.ntmps (bodyOf Try.f8) x_custlaw_BridgeWhere = true := by kernel_rfl
theorem okr_custlaw_BridgeWhere : okRs Try.prog Try.f8.results.toList r_custlaw_BridgeWhere = true := by kernel_rfl

/-- custref.Between -/
def x_custref_Between : XC :=
  .seq (.region [⟨some ⟨.d0, .d0, .d6⟩, .move (.c (.bool false)), none⟩])
  (.seq (.region [⟨some ⟨.d0, .d0, .d7⟩, .move (.t ⟨.d0, .d0, .d1⟩), none⟩,
    ⟨some ⟨.d0, .d1, .d0⟩, .move (.t ⟨.d0, .d0, .d0⟩), none⟩,
    ⟨some ⟨.d0, .d1, .d1⟩, .bin .leq (.t ⟨.d0, .d0, .d7⟩) (.t ⟨.d0, .d1, .d0⟩), none⟩,
    ⟨some ⟨.d0, .d1, .d2⟩, .move (.t ⟨.d0, .d1, .d1⟩), none⟩,
    ⟨some ⟨.d0, .d1, .d3⟩, .move (.t ⟨.d0, .d0, .d0⟩), some (⟨.d0, .d1, .d2⟩, true)⟩,
    ⟨some ⟨.d0, .d1, .d4⟩, .move (.t ⟨.d0, .d0, .d2⟩), some (⟨.d0, .d1, .d2⟩, true)⟩,
    ⟨some ⟨.d0, .d1, .d5⟩, .bin .leq (.t ⟨.d0, .d1, .d3⟩) (.t ⟨.d0, .d1, .d4⟩), some (⟨.d0, .d1, .d2⟩, true)⟩,
    ⟨some ⟨.d0, .d1, .d6⟩, .pick (.t ⟨.d0, .d1, .d2⟩) (.t ⟨.d0, .d1, .d5⟩) (.c (.bool false)), none⟩,
    ⟨some ⟨.d0, .d0, .d6⟩, .move (.t ⟨.d0, .d1, .d6⟩), none⟩])
  (.ret))
def r_custref_Between : List XR := [.tmp ⟨.d0, .d0, .d6⟩]
theorem ok_custref_Between : okC Try.prog Try.f11.ntmps (bodyOf Try.f11) x_custref_Between = true := by kernel_rfl
theorem okr_custref_Between : okRs Try.prog Try.f11.results.toList r_custref_Between = true := by kernel_rfl

/-- bridge.Where -/
def x_bridge_Where : XC :=
  .seq (.region [⟨some ⟨.d0, .d0, .d3⟩, .box 0 3 (.t ⟨.d0, .d0, .d0⟩), none⟩,
    ⟨some ⟨.d0, .d0, .d4⟩, .box 1 6 (.t ⟨.d0, .d0, .d1⟩), none⟩,
    ⟨some ⟨.d0, .d0, .d6⟩, .move (.c (.int .i64 0)), none⟩,
    ⟨some ⟨.d0, .d0, .d7⟩, .move (.c (.int .i64 0)), none⟩])
  (.seq (.seq (.region [⟨some ⟨.d0, .d1, .d3⟩, .load true 3 (.t ⟨.d0, .d0, .d3⟩), none⟩,
    ⟨some ⟨.d0, .d1, .d4⟩, .call 40 [(.t ⟨.d0, .d1, .d3⟩)], none⟩,
    ⟨some ⟨.d0, .d1, .d0⟩, .move (.t ⟨.d0, .d1, .d4⟩), none⟩])
  (.seq (.region [⟨some ⟨.d0, .d1, .d5⟩, .move (.t ⟨.d0, .d1, .d0⟩), none⟩,
    ⟨some ⟨.d0, .d1, .d6⟩, .bin .neq (.t ⟨.d0, .d1, .d5⟩) (.c (.int .i64 0)), none⟩])
  (.cond (.t ⟨.d0, .d1, .d6⟩)
    (.seq (.region [⟨some ⟨.d0, .d1, .d7⟩, .move (.t ⟨.d0, .d1, .d0⟩), none⟩,
      ⟨some ⟨.d0, .d0, .d6⟩, .move (.c (.int .i64 0)), none⟩,
      ⟨some ⟨.d0, .d0, .d7⟩, .move (.t ⟨.d0, .d1, .d7⟩), none⟩])
    (.ret))
    (.skip))))
  (.seq (.seq (.region [⟨some ⟨.d0, .d2, .d0⟩, .move (.t ⟨.d0, .d0, .d2⟩), none⟩,
    ⟨some ⟨.d0, .d2, .d1⟩, .bin .lss (.t ⟨.d0, .d2, .d0⟩) (.c (.int .i64 0)), none⟩,
    ⟨some ⟨.d0, .d2, .d2⟩, .move (.t ⟨.d0, .d2, .d1⟩), none⟩,
    ⟨some ⟨.d0, .d2, .d3⟩, .move (.t ⟨.d0, .d0, .d2⟩), some (⟨.d0, .d2, .d2⟩, false)⟩,
    ⟨some ⟨.d0, .d2, .d4⟩, .bin .gtr (.t ⟨.d0, .d2, .d3⟩) (.c (.int .i64 1099511627776)), some (⟨.d0, .d2, .d2⟩, false)⟩,
    ⟨some ⟨.d0, .d2, .d5⟩, .pick (.t ⟨.d0, .d2, .d2⟩) (.c (.bool true)) (.t ⟨.d0, .d2, .d4⟩), none⟩])
  (.cond (.t ⟨.d0, .d2, .d5⟩)
    (.seq (.region [⟨some ⟨.d0, .d0, .d6⟩, .move (.c (.int .i64 0)), none⟩,
      ⟨some ⟨.d0, .d0, .d7⟩, .move (.c (.int .i64 1)), none⟩])
    (.ret))
    (.skip)))
  (.seq (.region [⟨some ⟨.d0, .d2, .d7⟩, .load true 3 (.t ⟨.d0, .d0, .d3⟩), none⟩,
    ⟨some ⟨.d0, .d3, .d0⟩, .load true 6 (.t ⟨.d0, .d0, .d4⟩), none⟩,
    ⟨some ⟨.d0, .d3, .d1⟩, .move (.t ⟨.d0, .d0, .d2⟩), none⟩,
    ⟨some ⟨.d0, .d3, .d2⟩, .call 41 [(.t ⟨.d0, .d2, .d7⟩), (.t ⟨.d0, .d3, .d0⟩), (.t ⟨.d0, .d3, .d1⟩)], none⟩,
    ⟨some ⟨.d0, .d2, .d6⟩, .move (.t ⟨.d0, .d3, .d2⟩), none⟩,
    ⟨some ⟨.d0, .d3, .d3⟩, .extract 0 (.t ⟨.d0, .d2, .d6⟩), none⟩,
    ⟨some ⟨.d0, .d3, .d4⟩, .extract 1 (.t ⟨.d0, .d2, .d6⟩), none⟩,
    ⟨some ⟨.d0, .d1, .d1⟩, .move (.t ⟨.d0, .d3, .d3⟩), none⟩,
    ⟨some ⟨.d0, .d1, .d2⟩, .move (.t ⟨.d0, .d3, .d4⟩), none⟩])
  (.seq (.seq (.region [⟨some ⟨.d0, .d3, .d5⟩, .move (.t ⟨.d0, .d1, .d2⟩), none⟩,
    ⟨some ⟨.d0, .d3, .d6⟩, .un .not (.t ⟨.d0, .d3, .d5⟩), none⟩])
  (.cond (.t ⟨.d0, .d3, .d6⟩)
    (.seq (.region [⟨some ⟨.d0, .d0, .d6⟩, .move (.c (.int .i64 0)), none⟩,
      ⟨some ⟨.d0, .d0, .d7⟩, .move (.c (.int .i64 7)), none⟩])
    (.ret))
    (.skip)))
  (.seq (.region [⟨some ⟨.d0, .d3, .d7⟩, .move (.t ⟨.d0, .d1, .d1⟩), none⟩,
    ⟨some ⟨.d0, .d0, .d6⟩, .move (.t ⟨.d0, .d3, .d7⟩), none⟩,
    ⟨some ⟨.d0, .d0, .d7⟩, .move (.c (.int .i64 0)), none⟩])
  (.ret))))))
def r_bridge_Where : List XR := [.tmp ⟨.d0, .d0, .d6⟩, .tmp ⟨.d0, .d0, .d7⟩]
theorem ok_bridge_Where : okC Try.prog Try.f29.ntmps (bodyOf Try.f29) x_bridge_Where = true := by kernel_rfl
theorem okr_bridge_Where : okRs Try.prog Try.f29.results.toList r_bridge_Where = true := by kernel_rfl

/-- custref.BridgeRight -/
def x_custref_BridgeRight : XC :=
  .seq (.region [⟨some ⟨.d0, .d0, .d1⟩, .box 0 3 (.t ⟨.d0, .d0, .d0⟩), none⟩,
    ⟨some ⟨.d0, .d0, .d2⟩, .move (.c (.int .i64 0)), none⟩])
  (.seq (.seq (.region [⟨some ⟨.d0, .d0, .d7⟩, .fieldAddr 0 (.t ⟨.d0, .d0, .d1⟩), none⟩,
    ⟨some ⟨.d0, .d1, .d0⟩, .load false 1 (.t ⟨.d0, .d0, .d7⟩), none⟩,
    ⟨some ⟨.d0, .d1, .d1⟩, .call 11 [(.t ⟨.d0, .d1, .d0⟩), (.c (.int .i64 2)), (.c (.int .i64 16))], none⟩,
    ⟨some ⟨.d0, .d1, .d2⟩, .un .not (.t ⟨.d0, .d1, .d1⟩), none⟩,
    ⟨some ⟨.d0, .d1, .d3⟩, .move (.t ⟨.d0, .d1, .d2⟩), none⟩,
    ⟨some ⟨.d0, .d1, .d4⟩, .fieldAddr 1 (.t ⟨.d0, .d0, .d1⟩), some (⟨.d0, .d1, .d3⟩, false)⟩,
    ⟨some ⟨.d0, .d1, .d5⟩, .load false 1 (.t ⟨.d0, .d1, .d4⟩), some (⟨.d0, .d1, .d3⟩, false)⟩,
    ⟨some ⟨.d0, .d1, .d6⟩, .call 11 [(.t ⟨.d0, .d1, .d5⟩), (.c (.int .i64 1)), (.c (.int .i64 1000000))], some (⟨.d0, .d1, .d3⟩, false)⟩,
    ⟨some ⟨.d0, .d1, .d7⟩, .un .not (.t ⟨.d0, .d1, .d6⟩), some (⟨.d0, .d1, .d3⟩, false)⟩,
    ⟨some ⟨.d0, .d2, .d0⟩, .pick (.t ⟨.d0, .d1, .d3⟩) (.c (.bool true)) (.t ⟨.d0, .d1, .d7⟩), none⟩])
  (.cond (.t ⟨.d0, .d2, .d0⟩)
    (.seq (.region [⟨some ⟨.d0, .d0, .d2⟩, .move (.c (.int .i64 1)), none⟩])
    (.ret))
    (.skip)))
  (.seq (.seq (.region [⟨some ⟨.d0, .d2, .d1⟩, .fieldAddr 2 (.t ⟨.d0, .d0, .d1⟩), none⟩,
    ⟨some ⟨.d0, .d2, .d2⟩, .load false 1 (.t ⟨.d0, .d2, .d1⟩), none⟩,
    ⟨some ⟨.d0, .d2, .d3⟩, .len (.t ⟨.d0, .d2, .d2⟩), none⟩,
    ⟨some ⟨.d0, .d2, .d4⟩, .bin .gtr (.t ⟨.d0, .d2, .d3⟩) (.c (.int .i64 64)), none⟩])
  (.cond (.t ⟨.d0, .d2, .d4⟩)
    (.seq (.region [⟨some ⟨.d0, .d0, .d2⟩, .move (.c (.int .i64 2)), none⟩])
    (.ret))
    (.skip)))
  (.seq (.seq (.region [⟨some ⟨.d0, .d2, .d5⟩, .fieldAddr 2 (.t ⟨.d0, .d0, .d1⟩), none⟩,
    ⟨some ⟨.d0, .d2, .d6⟩, .load false 1 (.t ⟨.d0, .d2, .d5⟩), none⟩,
    ⟨some ⟨.d0, .d2, .d7⟩, .len (.t ⟨.d0, .d2, .d6⟩), none⟩,
    ⟨some ⟨.d0, .d3, .d0⟩, .move (.c (.int .i64 0)), none⟩])
  (.block 0
    (.loop
      (.seq (.region [⟨some ⟨.d0, .d3, .d1⟩, .bin .lss (.t ⟨.d0, .d3, .d0⟩) (.t ⟨.d0, .d2, .d7⟩), none⟩])
      (.seq (.cond (.t ⟨.d0, .d3, .d1⟩)
        (.skip)
        (.exit 0))
      (.seq (.block 1
        (.seq (.region [⟨some ⟨.d0, .d3, .d2⟩, .move (.t ⟨.d0, .d3, .d0⟩), none⟩,
          ⟨some ⟨.d0, .d3, .d3⟩, .indexSl 8 (.t ⟨.d0, .d2, .d6⟩) (.t ⟨.d0, .d3, .d0⟩), none⟩,
          ⟨some ⟨.d0, .d3, .d4⟩, .load true 8 (.t ⟨.d0, .d3, .d3⟩), none⟩,
          ⟨some ⟨.d0, .d0, .d4⟩, .alloc 1 [.int .u8 0, .int .u8 0, .int .u8 0, .int .u8 0, .int .u8 0, .int .u8 0, .int .i64 0, .int .i64 0], none⟩,
          ⟨some ⟨.d0, .d0, .d3⟩, .move (.t ⟨.d0, .d3, .d2⟩), none⟩,
          ⟨none, .store 8 (.t ⟨.d0, .d0, .d4⟩) (.t ⟨.d0, .d3, .d4⟩), none⟩])
        (.seq (.seq (.region [⟨some ⟨.d0, .d3, .d5⟩, .fieldAddr 6 (.t ⟨.d0, .d0, .d4⟩), none⟩,
          ⟨some ⟨.d0, .d3, .d6⟩, .load false 1 (.t ⟨.d0, .d3, .d5⟩), none⟩,
          ⟨some ⟨.d0, .d3, .d7⟩, .fieldAddr 0 (.t ⟨.d0, .d0, .d1⟩), none⟩,
          ⟨some ⟨.d0, .d4, .d0⟩, .load false 1 (.t ⟨.d0, .d3, .d7⟩), none⟩,
          ⟨some ⟨.d0, .d4, .d1⟩, .bin .sub (.t ⟨.d0, .d4, .d0⟩) (.c (.int .i64 1)), none⟩,
          ⟨some ⟨.d0, .d4, .d2⟩, .call 11 [(.t ⟨.d0, .d3, .d6⟩), (.c (.int .i64 0)), (.t ⟨.d0, .d4, .d1⟩)], none⟩,
          ⟨some ⟨.d0, .d4, .d3⟩, .un .not (.t ⟨.d0, .d4, .d2⟩), none⟩,
          ⟨some ⟨.d0, .d4, .d4⟩, .move (.t ⟨.d0, .d4, .d3⟩), none⟩,
          ⟨some ⟨.d0, .d4, .d5⟩, .fieldAddr 7 (.t ⟨.d0, .d0, .d4⟩), some (⟨.d0, .d4, .d4⟩, false)⟩,
          ⟨some ⟨.d0, .d4, .d6⟩, .load false 1 (.t ⟨.d0, .d4, .d5⟩), some (⟨.d0, .d4, .d4⟩, false)⟩,
          ⟨some ⟨.d0, .d4, .d7⟩, .call 11 [(.t ⟨.d0, .d4, .d6⟩), (.c (.int .i64 0)), (.c (.int .i64 1099511627776))], some (⟨.d0, .d4, .d4⟩, false)⟩,
          ⟨some ⟨.d0, .d5, .d0⟩, .un .not (.t ⟨.d0, .d4, .d7⟩), some (⟨.d0, .d4, .d4⟩, false)⟩,
          ⟨some ⟨.d0, .d5, .d1⟩, .pick (.t ⟨.d0, .d4, .d4⟩) (.c (.bool true)) (.t ⟨.d0, .d5, .d0⟩), none⟩,
          ⟨some ⟨.d0, .d5, .d2⟩, .move (.t ⟨.d0, .d5, .d1⟩), none⟩,
          ⟨some ⟨.d0, .d5, .d3⟩, .fieldAddr 0 (.t ⟨.d0, .d0, .d4⟩), some (⟨.d0, .d5, .d2⟩, false)⟩,
          ⟨some ⟨.d0, .d5, .d4⟩, .indexArr 1 6 (.t ⟨.d0, .d5, .d3⟩) (.c (.int .i64 0)), some (⟨.d0, .d5, .d2⟩, false)⟩,
          ⟨some ⟨.d0, .d5, .d5⟩, .load false 1 (.t ⟨.d0, .d5, .d4⟩), some (⟨.d0, .d5, .d2⟩, false)⟩,
          ⟨some ⟨.d0, .d5, .d6⟩, .bin .rem (.t ⟨.d0, .d5, .d5⟩) (.c (.int .u8 2)), some (⟨.d0, .d5, .d2⟩, false)⟩,
          ⟨some ⟨.d0, .d5, .d7⟩, .bin .eql (.t ⟨.d0, .d5, .d6⟩) (.c (.int .u8 1)), some (⟨.d0, .d5, .d2⟩, false)⟩,
          ⟨some ⟨.d0, .d6, .d0⟩, .pick (.t ⟨.d0, .d5, .d2⟩) (.c (.bool true)) (.t ⟨.d0, .d5, .d7⟩), none⟩])
        (.cond (.t ⟨.d0, .d6, .d0⟩)
          (.seq (.region [⟨some ⟨.d0, .d0, .d2⟩, .move (.c (.int .i64 4)), none⟩])
          (.ret))
          (.skip)))
        (.seq (.region [⟨some ⟨.d0, .d6, .d1⟩, .fieldAddr 2 (.t ⟨.d0, .d0, .d1⟩), none⟩,
          ⟨some ⟨.d0, .d6, .d2⟩, .load false 1 (.t ⟨.d0, .d6, .d1⟩), none⟩,
          ⟨some ⟨.d0, .d6, .d3⟩, .move (.t ⟨.d0, .d0, .d3⟩), none⟩,
          ⟨some ⟨.d0, .d6, .d4⟩, .slice 8 (.t ⟨.d0, .d6, .d2⟩) none (some (.t ⟨.d0, .d6, .d3⟩)) none, none⟩,
          ⟨some ⟨.d0, .d6, .d5⟩, .len (.t ⟨.d0, .d6, .d4⟩), none⟩,
          ⟨some ⟨.d0, .d6, .d6⟩, .move (.c (.int .i64 0)), none⟩])
        (.block 2
          (.loop
            (.seq (.region [⟨some ⟨.d0, .d6, .d7⟩, .bin .lss (.t ⟨.d0, .d6, .d6⟩) (.t ⟨.d0, .d6, .d5⟩), none⟩])
            (.seq (.cond (.t ⟨.d0, .d6, .d7⟩)
              (.skip)
              (.exit 2))
            (.seq (.block 3
              (.seq (.region [⟨some ⟨.d0, .d7, .d0⟩, .indexSl 8 (.t ⟨.d0, .d6, .d4⟩) (.t ⟨.d0, .d6, .d6⟩), none⟩,
                ⟨some ⟨.d0, .d7, .d1⟩, .load true 8 (.t ⟨.d0, .d7, .d0⟩), none⟩,
                ⟨some ⟨.d0, .d0, .d6⟩, .alloc 2 [.int .u8 0, .int .u8 0, .int .u8 0, .int .u8 0, .int .u8 0, .int .u8 0, .int .i64 0, .int .i64 0], none⟩,
                ⟨none, .store 8 (.t ⟨.d0, .d0, .d6⟩) (.t ⟨.d0, .d7, .d1⟩), none⟩])
              (.seq (.region [⟨some ⟨.d0, .d7, .d2⟩, .fieldAddr 0 (.t ⟨.d0, .d0, .d6⟩), none⟩,
                ⟨some ⟨.d0, .d7, .d3⟩, .load true 6 (.t ⟨.d0, .d7, .d2⟩), none⟩,
                ⟨some ⟨.d0, .d7, .d4⟩, .fieldAddr 0 (.t ⟨.d0, .d0, .d4⟩), none⟩,
                ⟨some ⟨.d0, .d7, .d5⟩, .load true 6 (.t ⟨.d0, .d7, .d4⟩), none⟩,
                ⟨some ⟨.d0, .d7, .d6⟩, .eqs false [0, 0, 0, 0, 0, 0] (.t ⟨.d0, .d7, .d3⟩) (.t ⟨.d0, .d7, .d5⟩), none⟩,
                ⟨some ⟨.d0, .d7, .d7⟩, .move (.t ⟨.d0, .d7, .d6⟩), none⟩,
                ⟨some ⟨.d1, .d0, .d0⟩, .fieldAddr 7 (.t ⟨.d0, .d0, .d6⟩), some (⟨.d0, .d7, .d7⟩, false)⟩,
                ⟨some ⟨.d1, .d0, .d1⟩, .load false 1 (.t ⟨.d1, .d0, .d0⟩), some (⟨.d0, .d7, .d7⟩, false)⟩,
                ⟨some ⟨.d1, .d0, .d2⟩, .fieldAddr 7 (.t ⟨.d0, .d0, .d4⟩), some (⟨.d0, .d7, .d7⟩, false)⟩,
                ⟨some ⟨.d1, .d0, .d3⟩, .load false 1 (.t ⟨.d1, .d0, .d2⟩), some (⟨.d0, .d7, .d7⟩, false)⟩,
                ⟨some ⟨.d1, .d0, .d4⟩, .bin .gtr (.t ⟨.d1, .d0, .d1⟩) (.t ⟨.d1, .d0, .d3⟩), some (⟨.d0, .d7, .d7⟩, false)⟩,
                ⟨some ⟨.d1, .d0, .d5⟩, .pick (.t ⟨.d0, .d7, .d7⟩) (.c (.bool true)) (.t ⟨.d1, .d0, .d4⟩), none⟩])
              (.cond (.t ⟨.d1, .d0, .d5⟩)
                (.seq (.region [⟨some ⟨.d0, .d0, .d2⟩, .move (.c (.int .i64 4)), none⟩])
                (.ret))
                (.skip)))))
            (.region [⟨some ⟨.d1, .d0, .d6⟩, .bin .add (.t ⟨.d0, .d6, .d6⟩) (.c (.int .i64 1)), none⟩,
              ⟨some ⟨.d0, .d6, .d6⟩, .move (.t ⟨.d1, .d0, .d6⟩), none⟩]))))))))))
      (.region [⟨some ⟨.d1, .d0, .d7⟩, .bin .add (.t ⟨.d0, .d3, .d0⟩) (.c (.int .i64 1)), none⟩,
        ⟨some ⟨.d0, .d3, .d0⟩, .move (.t ⟨.d1, .d0, .d7⟩), none⟩])))))))
  (.seq (.region [⟨some ⟨.d0, .d0, .d2⟩, .move (.c (.int .i64 0)), none⟩])
  (.ret)))))
def r_custref_BridgeRight : List XR := [.tmp ⟨.d0, .d0, .d2⟩]
theorem ok_custref_BridgeRight : okC Try.prog Try.f30.ntmps (bodyOf Try.f30) x_custref_BridgeRight = true := by kernel_rfl
theorem okr_custref_BridgeRight : okRs Try.prog Try.f30.results.toList r_custref_BridgeRight = true := by kernel_rfl

/-- custref.PortOf -/
def x_custref_PortOf : XC :=
  .seq (.region [⟨some ⟨.d0, .d0, .d3⟩, .box 0 3 (.t ⟨.d0, .d0, .d0⟩), none⟩,
    ⟨some ⟨.d0, .d0, .d4⟩, .box 1 6 (.t ⟨.d0, .d0, .d1⟩), none⟩,
    ⟨some ⟨.d0, .d0, .d6⟩, .move (.c (.int .i64 0)), none⟩])
  (.seq (.region [⟨some ⟨.d0, .d0, .d7⟩, .move (.c (.int .i64 (-1))), none⟩])
  (.seq (.seq (.region [⟨some ⟨.d0, .d1, .d2⟩, .fieldAddr 2 (.t ⟨.d0, .d0, .d3⟩), none⟩,
    ⟨some ⟨.d0, .d1, .d3⟩, .load false 1 (.t ⟨.d0, .d1, .d2⟩), none⟩,
    ⟨some ⟨.d0, .d1, .d4⟩, .len (.t ⟨.d0, .d1, .d3⟩), none⟩,
    ⟨some ⟨.d0, .d1, .d5⟩, .move (.c (.int .i64 0)), none⟩])
  (.block 0
    (.loop
      (.seq (.region [⟨some ⟨.d0, .d1, .d6⟩, .bin .lss (.t ⟨.d0, .d1, .d5⟩) (.t ⟨.d0, .d1, .d4⟩), none⟩])
      (.seq (.cond (.t ⟨.d0, .d1, .d6⟩)
        (.skip)
        (.exit 0))
      (.seq (.block 1
        (.seq (.region [⟨some ⟨.d0, .d1, .d7⟩, .indexSl 8 (.t ⟨.d0, .d1, .d3⟩) (.t ⟨.d0, .d1, .d5⟩), none⟩,
          ⟨some ⟨.d0, .d2, .d0⟩, .load true 8 (.t ⟨.d0, .d1, .d7⟩), none⟩,
          ⟨some ⟨.d0, .d1, .d1⟩, .alloc 2 [.int .u8 0, .int .u8 0, .int .u8 0, .int .u8 0, .int .u8 0, .int .u8 0, .int .i64 0, .int .i64 0], none⟩,
          ⟨none, .store 8 (.t ⟨.d0, .d1, .d1⟩) (.t ⟨.d0, .d2, .d0⟩), none⟩])
        (.seq (.region [⟨some ⟨.d0, .d2, .d1⟩, .fieldAddr 0 (.t ⟨.d0, .d1, .d1⟩), none⟩,
          ⟨some ⟨.d0, .d2, .d2⟩, .load true 6 (.t ⟨.d0, .d2, .d1⟩), none⟩,
          ⟨some ⟨.d0, .d2, .d3⟩, .load true 6 (.t ⟨.d0, .d0, .d4⟩), none⟩,
          ⟨some ⟨.d0, .d2, .d4⟩, .eqs false [0, 0, 0, 0, 0, 0] (.t ⟨.d0, .d2, .d2⟩) (.t ⟨.d0, .d2, .d3⟩), none⟩,
          ⟨some ⟨.d0, .d2, .d5⟩, .move (.t ⟨.d0, .d2, .d4⟩), none⟩,
          ⟨some ⟨.d0, .d2, .d6⟩, .fieldAddr 7 (.t ⟨.d0, .d1, .d1⟩), some (⟨.d0, .d2, .d5⟩, true)⟩,
          ⟨some ⟨.d0, .d2, .d7⟩, .load false 1 (.t ⟨.d0, .d2, .d6⟩), some (⟨.d0, .d2, .d5⟩, true)⟩,
          ⟨some ⟨.d0, .d3, .d0⟩, .fieldAddr 1 (.t ⟨.d0, .d0, .d3⟩), some (⟨.d0, .d2, .d5⟩, true)⟩,
          ⟨some ⟨.d0, .d3, .d1⟩, .load false 1 (.t ⟨.d0, .d3, .d0⟩), some (⟨.d0, .d2, .d5⟩, true)⟩,
          ⟨some ⟨.d0, .d3, .d2⟩, .bin .add (.t ⟨.d0, .d2, .d7⟩) (.t ⟨.d0, .d3, .d1⟩), some (⟨.d0, .d2, .d5⟩, true)⟩,
          ⟨some ⟨.d0, .d3, .d3⟩, .move (.t ⟨.d0, .d0, .d2⟩), some (⟨.d0, .d2, .d5⟩, true)⟩,
          ⟨some ⟨.d0, .d3, .d4⟩, .bin .geq (.t ⟨.d0, .d3, .d2⟩) (.t ⟨.d0, .d3, .d3⟩), some (⟨.d0, .d2, .d5⟩, true)⟩,
          ⟨some ⟨.d0, .d3, .d5⟩, .pick (.t ⟨.d0, .d2, .d5⟩) (.t ⟨.d0, .d3, .d4⟩) (.c (.bool false)), none⟩])
        (.cond (.t ⟨.d0, .d3, .d5⟩)
          (.region [⟨some ⟨.d0, .d3, .d6⟩, .fieldAddr 6 (.t ⟨.d0, .d1, .d1⟩), none⟩,
            ⟨some ⟨.d0, .d3, .d7⟩, .load false 1 (.t ⟨.d0, .d3, .d6⟩), none⟩,
            ⟨some ⟨.d0, .d0, .d7⟩, .move (.t ⟨.d0, .d3, .d7⟩), none⟩])
          (.skip)))))
      (.region [⟨some ⟨.d0, .d4, .d0⟩, .bin .add (.t ⟨.d0, .d1, .d5⟩) (.c (.int .i64 1)), none⟩,
        ⟨some ⟨.d0, .d1, .d5⟩, .move (.t ⟨.d0, .d4, .d0⟩), none⟩])))))))
  (.seq (.region [⟨some ⟨.d0, .d4, .d1⟩, .move (.t ⟨.d0, .d0, .d7⟩), none⟩,
    ⟨some ⟨.d0, .d0, .d6⟩, .move (.t ⟨.d0, .d4, .d1⟩), none⟩])
  (.ret))))
def r_custref_PortOf : List XR := [.tmp ⟨.d0, .d0, .d6⟩]
theorem ok_custref_PortOf : okC Try.prog Try.f31.ntmps (bodyOf Try.f31) x_custref_PortOf = true := by kernel_rfl
theorem okr_custref_PortOf : okRs Try.prog Try.f31.results.toList r_custref_PortOf = true := by kernel_rfl

/-- bridge.Check -/
def x_bridge_Check : XC :=
  .seq (.region [⟨some ⟨.d0, .d0, .d1⟩, .box 0 3 (.t ⟨.d0, .d0, .d0⟩), none⟩,
    ⟨some ⟨.d0, .d0, .d2⟩, .move (.c (.int .i64 0)), none⟩])
  (.seq (.seq (.region [⟨some ⟨.d0, .d0, .d7⟩, .fieldAddr 0 (.t ⟨.d0, .d0, .d1⟩), none⟩,
    ⟨some ⟨.d0, .d1, .d0⟩, .load false 1 (.t ⟨.d0, .d0, .d7⟩), none⟩,
    ⟨some ⟨.d0, .d1, .d1⟩, .bin .lss (.t ⟨.d0, .d1, .d0⟩) (.c (.int .i64 2)), none⟩,
    ⟨some ⟨.d0, .d1, .d2⟩, .move (.t ⟨.d0, .d1, .d1⟩), none⟩,
    ⟨some ⟨.d0, .d1, .d3⟩, .fieldAddr 0 (.t ⟨.d0, .d0, .d1⟩), some (⟨.d0, .d1, .d2⟩, false)⟩,
    ⟨some ⟨.d0, .d1, .d4⟩, .load false 1 (.t ⟨.d0, .d1, .d3⟩), some (⟨.d0, .d1, .d2⟩, false)⟩,
    ⟨some ⟨.d0, .d1, .d5⟩, .bin .gtr (.t ⟨.d0, .d1, .d4⟩) (.c (.int .i64 16)), some (⟨.d0, .d1, .d2⟩, false)⟩,
    ⟨some ⟨.d0, .d1, .d6⟩, .pick (.t ⟨.d0, .d1, .d2⟩) (.c (.bool true)) (.t ⟨.d0, .d1, .d5⟩), none⟩,
    ⟨some ⟨.d0, .d1, .d7⟩, .move (.t ⟨.d0, .d1, .d6⟩), none⟩,
    ⟨some ⟨.d0, .d2, .d0⟩, .fieldAddr 1 (.t ⟨.d0, .d0, .d1⟩), some (⟨.d0, .d1, .d7⟩, false)⟩,
    ⟨some ⟨.d0, .d2, .d1⟩, .load false 1 (.t ⟨.d0, .d2, .d0⟩), some (⟨.d0, .d1, .d7⟩, false)⟩,
    ⟨some ⟨.d0, .d2, .d2⟩, .bin .lss (.t ⟨.d0, .d2, .d1⟩) (.c (.int .i64 1)), some (⟨.d0, .d1, .d7⟩, false)⟩,
    ⟨some ⟨.d0, .d2, .d3⟩, .pick (.t ⟨.d0, .d1, .d7⟩) (.c (.bool true)) (.t ⟨.d0, .d2, .d2⟩), none⟩,
    ⟨some ⟨.d0, .d2, .d4⟩, .move (.t ⟨.d0, .d2, .d3⟩), none⟩,
    ⟨some ⟨.d0, .d2, .d5⟩, .fieldAddr 1 (.t ⟨.d0, .d0, .d1⟩), some (⟨.d0, .d2, .d4⟩, false)⟩,
    ⟨some ⟨.d0, .d2, .d6⟩, .load false 1 (.t ⟨.d0, .d2, .d5⟩), some (⟨.d0, .d2, .d4⟩, false)⟩,
    ⟨some ⟨.d0, .d2, .d7⟩, .bin .gtr (.t ⟨.d0, .d2, .d6⟩) (.c (.int .i64 1000000)), some (⟨.d0, .d2, .d4⟩, false)⟩,
    ⟨some ⟨.d0, .d3, .d0⟩, .pick (.t ⟨.d0, .d2, .d4⟩) (.c (.bool true)) (.t ⟨.d0, .d2, .d7⟩), none⟩])
  (.cond (.t ⟨.d0, .d3, .d0⟩)
    (.seq (.region [⟨some ⟨.d0, .d0, .d2⟩, .move (.c (.int .i64 1)), none⟩])
    (.ret))
    (.skip)))
  (.seq (.seq (.region [⟨some ⟨.d0, .d3, .d1⟩, .fieldAddr 2 (.t ⟨.d0, .d0, .d1⟩), none⟩,
    ⟨some ⟨.d0, .d3, .d2⟩, .load false 1 (.t ⟨.d0, .d3, .d1⟩), none⟩,
    ⟨some ⟨.d0, .d3, .d3⟩, .len (.t ⟨.d0, .d3, .d2⟩), none⟩,
    ⟨some ⟨.d0, .d3, .d4⟩, .bin .gtr (.t ⟨.d0, .d3, .d3⟩) (.c (.int .i64 64)), none⟩])
  (.cond (.t ⟨.d0, .d3, .d4⟩)
    (.seq (.region [⟨some ⟨.d0, .d0, .d2⟩, .move (.c (.int .i64 2)), none⟩])
    (.ret))
    (.skip)))
  (.seq (.region [⟨some ⟨.d0, .d0, .d3⟩, .move (.c (.int .i64 0)), none⟩])
  (.seq (.region [⟨some ⟨.d0, .d3, .d5⟩, .makeMapL 1 (.cells [.u8, .u8, .u8, .u8, .u8, .u8]) (.int .i64 0) (.agg [.int .u8 0, .int .u8 0, .int .u8 0, .int .u8 0, .int .u8 0, .int .u8 0].toArray), none⟩,
    ⟨some ⟨.d0, .d0, .d4⟩, .move (.t ⟨.d0, .d3, .d5⟩), none⟩])
  (.seq (.seq (.region [⟨some ⟨.d0, .d3, .d6⟩, .fieldAddr 2 (.t ⟨.d0, .d0, .d1⟩), none⟩,
    ⟨some ⟨.d0, .d3, .d7⟩, .load false 1 (.t ⟨.d0, .d3, .d6⟩), none⟩,
    ⟨some ⟨.d0, .d4, .d0⟩, .len (.t ⟨.d0, .d3, .d7⟩), none⟩,
    ⟨some ⟨.d0, .d4, .d1⟩, .move (.c (.int .i64 0)), none⟩])
  (.block 0
    (.loop
      (.seq (.region [⟨some ⟨.d0, .d4, .d2⟩, .bin .lss (.t ⟨.d0, .d4, .d1⟩) (.t ⟨.d0, .d4, .d0⟩), none⟩])
      (.seq (.cond (.t ⟨.d0, .d4, .d2⟩)
        (.skip)
        (.exit 0))
      (.seq (.block 1
        (.seq (.region [⟨some ⟨.d0, .d4, .d3⟩, .indexSl 8 (.t ⟨.d0, .d3, .d7⟩) (.t ⟨.d0, .d4, .d1⟩), none⟩,
          ⟨some ⟨.d0, .d4, .d4⟩, .load true 8 (.t ⟨.d0, .d4, .d3⟩), none⟩,
          ⟨some ⟨.d0, .d0, .d6⟩, .alloc 2 [.int .u8 0, .int .u8 0, .int .u8 0, .int .u8 0, .int .u8 0, .int .u8 0, .int .i64 0, .int .i64 0], none⟩,
          ⟨none, .store 8 (.t ⟨.d0, .d0, .d6⟩) (.t ⟨.d0, .d4, .d4⟩), none⟩])
        (.seq (.seq (.regionD [0, 0, 2, 7, 15, 7, 39, 127] [⟨some ⟨.d0, .d4, .d5⟩, .move (.t ⟨.d0, .d0, .d4⟩), none⟩,
          ⟨some ⟨.d0, .d4, .d6⟩, .fieldAddr 0 (.t ⟨.d0, .d0, .d6⟩), none⟩,
          ⟨some ⟨.d0, .d4, .d7⟩, .load true 6 (.t ⟨.d0, .d4, .d6⟩), none⟩,
          ⟨some ⟨.d0, .d5, .d0⟩, .mgetL (.cells [.u8, .u8, .u8, .u8, .u8, .u8]) (.int .i64 0) (.t ⟨.d0, .d4, .d5⟩) (.t ⟨.d0, .d4, .d7⟩), none⟩,
          ⟨some ⟨.d0, .d5, .d1⟩, .bin .add (.t ⟨.d0, .d5, .d0⟩) (.c (.int .i64 1)), none⟩,
          ⟨some ⟨.d0, .d5, .d2⟩, .mentry (.cells [.u8, .u8, .u8, .u8, .u8, .u8]) (.int .i64 0) (.t ⟨.d0, .d4, .d5⟩) (.t ⟨.d0, .d4, .d7⟩), none⟩,
          ⟨some ⟨.d0, .d5, .d3⟩, .extract 1 (.t ⟨.d0, .d5, .d2⟩), none⟩,
          ⟨none, .estore (.cells [.u8, .u8, .u8, .u8, .u8, .u8]) (.t ⟨.d0, .d4, .d5⟩) (.t ⟨.d0, .d5, .d3⟩) (.t ⟨.d0, .d5, .d1⟩), none⟩])
        (.seq (.region [⟨some ⟨.d0, .d5, .d4⟩, .fieldAddr 6 (.t ⟨.d0, .d0, .d6⟩), none⟩,
          ⟨some ⟨.d0, .d5, .d5⟩, .load false 1 (.t ⟨.d0, .d5, .d4⟩), none⟩,
          ⟨some ⟨.d0, .d5, .d6⟩, .bin .lss (.t ⟨.d0, .d5, .d5⟩) (.c (.int .i64 0)), none⟩,
          ⟨some ⟨.d0, .d5, .d7⟩, .move (.t ⟨.d0, .d5, .d6⟩), none⟩,
          ⟨some ⟨.d0, .d6, .d0⟩, .fieldAddr 6 (.t ⟨.d0, .d0, .d6⟩), some (⟨.d0, .d5, .d7⟩, false)⟩,
          ⟨some ⟨.d0, .d6, .d1⟩, .load false 1 (.t ⟨.d0, .d6, .d0⟩), some (⟨.d0, .d5, .d7⟩, false)⟩,
          ⟨some ⟨.d0, .d6, .d2⟩, .fieldAddr 0 (.t ⟨.d0, .d0, .d1⟩), some (⟨.d0, .d5, .d7⟩, false)⟩,
          ⟨some ⟨.d0, .d6, .d3⟩, .load false 1 (.t ⟨.d0, .d6, .d2⟩), some (⟨.d0, .d5, .d7⟩, false)⟩,
          ⟨some ⟨.d0, .d6, .d4⟩, .bin .geq (.t ⟨.d0, .d6, .d1⟩) (.t ⟨.d0, .d6, .d3⟩), some (⟨.d0, .d5, .d7⟩, false)⟩,
          ⟨some ⟨.d0, .d6, .d5⟩, .pick (.t ⟨.d0, .d5, .d7⟩) (.c (.bool true)) (.t ⟨.d0, .d6, .d4⟩), none⟩,
          ⟨some ⟨.d0, .d6, .d6⟩, .move (.t ⟨.d0, .d6, .d5⟩), none⟩,
          ⟨some ⟨.d0, .d6, .d7⟩, .fieldAddr 7 (.t ⟨.d0, .d0, .d6⟩), some (⟨.d0, .d6, .d6⟩, false)⟩,
          ⟨some ⟨.d0, .d7, .d0⟩, .load false 1 (.t ⟨.d0, .d6, .d7⟩), some (⟨.d0, .d6, .d6⟩, false)⟩,
          ⟨some ⟨.d0, .d7, .d1⟩, .move (.t ⟨.d0, .d0, .d3⟩), some (⟨.d0, .d6, .d6⟩, false)⟩,
          ⟨some ⟨.d0, .d7, .d2⟩, .bin .lss (.t ⟨.d0, .d7, .d0⟩) (.t ⟨.d0, .d7, .d1⟩), some (⟨.d0, .d6, .d6⟩, false)⟩,
          ⟨some ⟨.d0, .d7, .d3⟩, .pick (.t ⟨.d0, .d6, .d6⟩) (.c (.bool true)) (.t ⟨.d0, .d7, .d2⟩), none⟩,
          ⟨some ⟨.d0, .d7, .d4⟩, .move (.t ⟨.d0, .d7, .d3⟩), none⟩,
          ⟨some ⟨.d0, .d7, .d5⟩, .fieldAddr 7 (.t ⟨.d0, .d0, .d6⟩), some (⟨.d0, .d7, .d4⟩, false)⟩,
          ⟨some ⟨.d0, .d7, .d6⟩, .load false 1 (.t ⟨.d0, .d7, .d5⟩), some (⟨.d0, .d7, .d4⟩, false)⟩,
          ⟨some ⟨.d0, .d7, .d7⟩, .bin .gtr (.t ⟨.d0, .d7, .d6⟩) (.c (.int .i64 1099511627776)), some (⟨.d0, .d7, .d4⟩, false)⟩,
          ⟨some ⟨.d1, .d0, .d0⟩, .pick (.t ⟨.d0, .d7, .d4⟩) (.c (.bool true)) (.t ⟨.d0, .d7, .d7⟩), none⟩,
          ⟨some ⟨.d1, .d0, .d1⟩, .move (.t ⟨.d1, .d0, .d0⟩), none⟩,
          ⟨some ⟨.d1, .d0, .d2⟩, .fieldAddr 0 (.t ⟨.d0, .d0, .d6⟩), some (⟨.d1, .d0, .d1⟩, false)⟩,
          ⟨some ⟨.d1, .d0, .d3⟩, .load true 6 (.t ⟨.d1, .d0, .d2⟩), some (⟨.d1, .d0, .d1⟩, false)⟩,
          ⟨some ⟨.d1, .d0, .d4⟩, .call 42 [(.t ⟨.d1, .d0, .d3⟩)], some (⟨.d1, .d0, .d1⟩, false)⟩,
          ⟨some ⟨.d1, .d0, .d5⟩, .pick (.t ⟨.d1, .d0, .d1⟩) (.c (.bool true)) (.t ⟨.d1, .d0, .d4⟩), none⟩,
          ⟨some ⟨.d1, .d0, .d6⟩, .move (.t ⟨.d1, .d0, .d5⟩), none⟩,
          ⟨some ⟨.d1, .d0, .d7⟩, .move (.t ⟨.d0, .d0, .d4⟩), some (⟨.d1, .d0, .d6⟩, false)⟩,
          ⟨some ⟨.d1, .d1, .d0⟩, .fieldAddr 0 (.t ⟨.d0, .d0, .d6⟩), some (⟨.d1, .d0, .d6⟩, false)⟩,
          ⟨some ⟨.d1, .d1, .d1⟩, .load true 6 (.t ⟨.d1, .d1, .d0⟩), some (⟨.d1, .d0, .d6⟩, false)⟩,
          ⟨some ⟨.d1, .d1, .d2⟩, .mgetL (.cells [.u8, .u8, .u8, .u8, .u8, .u8]) (.int .i64 0) (.t ⟨.d1, .d0, .d7⟩) (.t ⟨.d1, .d1, .d1⟩), some (⟨.d1, .d0, .d6⟩, false)⟩,
          ⟨some ⟨.d1, .d1, .d3⟩, .bin .gtr (.t ⟨.d1, .d1, .d2⟩) (.c (.int .i64 1)), some (⟨.d1, .d0, .d6⟩, false)⟩,
          ⟨some ⟨.d1, .d1, .d4⟩, .pick (.t ⟨.d1, .d0, .d6⟩) (.c (.bool true)) (.t ⟨.d1, .d1, .d3⟩), none⟩])
        (.cond (.t ⟨.d1, .d1, .d4⟩)
          (.seq (.region [⟨some ⟨.d0, .d0, .d2⟩, .move (.c (.int .i64 4)), none⟩])
          (.ret))
          (.skip))))
        (.region [⟨some ⟨.d1, .d1, .d5⟩, .fieldAddr 7 (.t ⟨.d0, .d0, .d6⟩), none⟩,
          ⟨some ⟨.d1, .d1, .d6⟩, .load false 1 (.t ⟨.d1, .d1, .d5⟩), none⟩,
          ⟨some ⟨.d0, .d0, .d3⟩, .move (.t ⟨.d1, .d1, .d6⟩), none⟩]))))
      (.region [⟨some ⟨.d1, .d1, .d7⟩, .bin .add (.t ⟨.d0, .d4, .d1⟩) (.c (.int .i64 1)), none⟩,
        ⟨some ⟨.d0, .d4, .d1⟩, .move (.t ⟨.d1, .d1, .d7⟩), none⟩])))))))
  (.seq (.region [⟨some ⟨.d0, .d0, .d2⟩, .move (.c (.int .i64 0)), none⟩])
  (.ret)))))))
def r_bridge_Check : List XR := [.tmp ⟨.d0, .d0, .d2⟩]
theorem ok_bridge_Check : okC Try.prog Try.f40.ntmps (bodyOf Try.f40) x_bridge_Check = true := by kernel_rfl
theorem okr_bridge_Check : okRs Try.prog Try.f40.results.toList r_bridge_Check = true := by kernel_rfl

/-- bridge.find -/
def x_bridge_find : XC :=
  .seq (.region [⟨some ⟨.d0, .d0, .d3⟩, .box 0 3 (.t ⟨.d0, .d0, .d0⟩), none⟩,
    ⟨some ⟨.d0, .d0, .d4⟩, .box 1 6 (.t ⟨.d0, .d0, .d1⟩), none⟩,
    ⟨some ⟨.d0, .d0, .d6⟩, .move (.c (.int .i64 0)), none⟩,
    ⟨some ⟨.d0, .d0, .d7⟩, .move (.c (.bool false)), none⟩])
  (.seq (.seq (.region [⟨some ⟨.d0, .d1, .d2⟩, .fieldAddr 2 (.t ⟨.d0, .d0, .d3⟩), none⟩,
    ⟨some ⟨.d0, .d1, .d3⟩, .load false 1 (.t ⟨.d0, .d1, .d2⟩), none⟩,
    ⟨some ⟨.d0, .d1, .d4⟩, .len (.t ⟨.d0, .d1, .d3⟩), none⟩,
    ⟨some ⟨.d0, .d1, .d5⟩, .move (.c (.int .i64 0)), none⟩])
  (.block 0
    (.loop
      (.seq (.region [⟨some ⟨.d0, .d1, .d6⟩, .bin .lss (.t ⟨.d0, .d1, .d5⟩) (.t ⟨.d0, .d1, .d4⟩), none⟩])
      (.seq (.cond (.t ⟨.d0, .d1, .d6⟩)
        (.skip)
        (.exit 0))
      (.seq (.block 1
        (.seq (.region [⟨some ⟨.d0, .d1, .d7⟩, .indexSl 8 (.t ⟨.d0, .d1, .d3⟩) (.t ⟨.d0, .d1, .d5⟩), none⟩,
          ⟨some ⟨.d0, .d2, .d0⟩, .load true 8 (.t ⟨.d0, .d1, .d7⟩), none⟩,
          ⟨some ⟨.d0, .d1, .d1⟩, .alloc 2 [.int .u8 0, .int .u8 0, .int .u8 0, .int .u8 0, .int .u8 0, .int .u8 0, .int .i64 0, .int .i64 0], none⟩,
          ⟨none, .store 8 (.t ⟨.d0, .d1, .d1⟩) (.t ⟨.d0, .d2, .d0⟩), none⟩])
        (.seq (.region [⟨some ⟨.d0, .d2, .d1⟩, .fieldAddr 0 (.t ⟨.d0, .d1, .d1⟩), none⟩,
          ⟨some ⟨.d0, .d2, .d2⟩, .load true 6 (.t ⟨.d0, .d2, .d1⟩), none⟩,
          ⟨some ⟨.d0, .d2, .d3⟩, .load true 6 (.t ⟨.d0, .d0, .d4⟩), none⟩,
          ⟨some ⟨.d0, .d2, .d4⟩, .eqs false [0, 0, 0, 0, 0, 0] (.t ⟨.d0, .d2, .d2⟩) (.t ⟨.d0, .d2, .d3⟩), none⟩,
          ⟨some ⟨.d0, .d2, .d5⟩, .move (.t ⟨.d0, .d2, .d4⟩), none⟩,
          ⟨some ⟨.d0, .d2, .d6⟩, .move (.t ⟨.d0, .d0, .d2⟩), some (⟨.d0, .d2, .d5⟩, true)⟩,
          ⟨some ⟨.d0, .d2, .d7⟩, .fieldAddr 7 (.t ⟨.d0, .d1, .d1⟩), some (⟨.d0, .d2, .d5⟩, true)⟩,
          ⟨some ⟨.d0, .d3, .d0⟩, .load false 1 (.t ⟨.d0, .d2, .d7⟩), some (⟨.d0, .d2, .d5⟩, true)⟩,
          ⟨some ⟨.d0, .d3, .d1⟩, .bin .sub (.t ⟨.d0, .d2, .d6⟩) (.t ⟨.d0, .d3, .d0⟩), some (⟨.d0, .d2, .d5⟩, true)⟩,
          ⟨some ⟨.d0, .d3, .d2⟩, .fieldAddr 1 (.t ⟨.d0, .d0, .d3⟩), some (⟨.d0, .d2, .d5⟩, true)⟩,
          ⟨some ⟨.d0, .d3, .d3⟩, .load false 1 (.t ⟨.d0, .d3, .d2⟩), some (⟨.d0, .d2, .d5⟩, true)⟩,
          ⟨some ⟨.d0, .d3, .d4⟩, .bin .leq (.t ⟨.d0, .d3, .d1⟩) (.t ⟨.d0, .d3, .d3⟩), some (⟨.d0, .d2, .d5⟩, true)⟩,
          ⟨some ⟨.d0, .d3, .d5⟩, .pick (.t ⟨.d0, .d2, .d5⟩) (.t ⟨.d0, .d3, .d4⟩) (.c (.bool false)), none⟩])
        (.cond (.t ⟨.d0, .d3, .d5⟩)
          (.seq (.region [⟨some ⟨.d0, .d3, .d6⟩, .fieldAddr 6 (.t ⟨.d0, .d1, .d1⟩), none⟩,
            ⟨some ⟨.d0, .d3, .d7⟩, .load false 1 (.t ⟨.d0, .d3, .d6⟩), none⟩,
            ⟨some ⟨.d0, .d0, .d6⟩, .move (.t ⟨.d0, .d3, .d7⟩), none⟩,
            ⟨some ⟨.d0, .d0, .d7⟩, .move (.c (.bool true)), none⟩])
          (.ret))
          (.skip)))))
      (.region [⟨some ⟨.d0, .d4, .d0⟩, .bin .add (.t ⟨.d0, .d1, .d5⟩) (.c (.int .i64 1)), none⟩,
        ⟨some ⟨.d0, .d1, .d5⟩, .move (.t ⟨.d0, .d4, .d0⟩), none⟩])))))))
  (.seq (.region [⟨some ⟨.d0, .d0, .d6⟩, .move (.c (.int .i64 0)), none⟩,
    ⟨some ⟨.d0, .d0, .d7⟩, .move (.c (.bool false)), none⟩])
  (.ret)))
def r_bridge_find : List XR := [.tmp ⟨.d0, .d0, .d6⟩, .tmp ⟨.d0, .d0, .d7⟩]
theorem ok_bridge_find : okC Try.prog Try.f41.ntmps (bodyOf Try.f41) x_bridge_find = true := by kernel_rfl
theorem okr_bridge_find : okRs Try.prog Try.f41.results.toList r_bridge_find = true := by kernel_rfl

/-- eth.Many -/
def x_eth_Many : XC :=
  .seq (.region [⟨some ⟨.d0, .d0, .d1⟩, .box 0 6 (.t ⟨.d0, .d0, .d0⟩), none⟩,
    ⟨some ⟨.d0, .d0, .d2⟩, .move (.c (.bool false)), none⟩])
  (.seq (.region [⟨some ⟨.d0, .d0, .d3⟩, .indexArr 1 6 (.t ⟨.d0, .d0, .d1⟩) (.c (.int .i64 0)), none⟩,
    ⟨some ⟨.d0, .d0, .d4⟩, .load false 1 (.t ⟨.d0, .d0, .d3⟩), none⟩,
    ⟨some ⟨.d0, .d0, .d5⟩, .bin .and (.t ⟨.d0, .d0, .d4⟩) (.c (.int .u8 1)), none⟩,
    ⟨some ⟨.d0, .d0, .d6⟩, .bin .eql (.t ⟨.d0, .d0, .d5⟩) (.c (.int .u8 1)), none⟩,
    ⟨some ⟨.d0, .d0, .d2⟩, .move (.t ⟨.d0, .d0, .d6⟩), none⟩])
  (.ret))
def r_eth_Many : List XR := [.tmp ⟨.d0, .d0, .d2⟩]
theorem ok_eth_Many : okC Try.prog Try.f42.ntmps (bodyOf Try.f42) x_eth_Many = true := by kernel_rfl
theorem okr_eth_Many : okRs Try.prog Try.f42.results.toList r_eth_Many = true := by kernel_rfl
end Go.Proofs.Ytolbnadafelkhaa
