/-
  The functions of the program in short form, and that the model's code is what they stand for. Printed by xgen.py.
-/
import Derived.Test.YtecnnfhebcnkbaaDoorFw
import Derived.Test.YtecnnfhebcnkbaaDoorProg
import Derived.KernelRfl
namespace Go.Proofs.YtecnnfhebcnkbaaDoor
set_option linter.unusedVariables false
set_option maxRecDepth 100000

/-- custlaw.PortsSays -/
def x_custlaw_PortsSays : XC :=
  .seq (.region [⟨some ⟨.d0, .d0, .d2⟩, .box 0 2 (.t ⟨.d0, .d0, .d0⟩), none⟩,
    ⟨some ⟨.d0, .d0, .d4⟩, .move (.c (.bool false)), none⟩])
  (.seq (.region [⟨some ⟨.d0, .d2, .d3⟩, .load true 2 (.t ⟨.d0, .d0, .d2⟩), none⟩,
    ⟨some ⟨.d0, .d2, .d4⟩, .move (.t ⟨.d0, .d0, .d1⟩), none⟩,
    ⟨some ⟨.d0, .d2, .d5⟩, .call 4 [(.t ⟨.d0, .d2, .d3⟩), (.t ⟨.d0, .d2, .d4⟩)], none⟩,
    ⟨some ⟨.d0, .d2, .d2⟩, .move (.t ⟨.d0, .d2, .d5⟩), none⟩,
    ⟨some ⟨.d0, .d2, .d6⟩, .extract 0 (.t ⟨.d0, .d2, .d2⟩), none⟩,
    ⟨some ⟨.d0, .d2, .d7⟩, .extract 1 (.t ⟨.d0, .d2, .d2⟩), none⟩,
    ⟨some ⟨.d0, .d3, .d0⟩, .extract 2 (.t ⟨.d0, .d2, .d2⟩), none⟩,
    ⟨some ⟨.d0, .d0, .d5⟩, .alloc 1 [.int .i64 0, .int .u64 0], none⟩,
    ⟨none, .store 2 (.t ⟨.d0, .d0, .d5⟩) (.t ⟨.d0, .d2, .d6⟩), none⟩,
    ⟨some ⟨.d0, .d0, .d6⟩, .move (.t ⟨.d0, .d2, .d7⟩), none⟩,
    ⟨some ⟨.d0, .d0, .d7⟩, .move (.t ⟨.d0, .d3, .d0⟩), none⟩])
  (.seq (.region [⟨some ⟨.d0, .d3, .d2⟩, .load true 2 (.t ⟨.d0, .d0, .d2⟩), none⟩,
    ⟨some ⟨.d0, .d3, .d3⟩, .move (.t ⟨.d0, .d0, .d1⟩), none⟩,
    ⟨some ⟨.d0, .d3, .d4⟩, .call 5 [(.t ⟨.d0, .d3, .d2⟩), (.t ⟨.d0, .d3, .d3⟩)], none⟩,
    ⟨some ⟨.d0, .d3, .d1⟩, .move (.t ⟨.d0, .d3, .d4⟩), none⟩,
    ⟨some ⟨.d0, .d3, .d5⟩, .extract 0 (.t ⟨.d0, .d3, .d1⟩), none⟩,
    ⟨some ⟨.d0, .d3, .d6⟩, .extract 1 (.t ⟨.d0, .d3, .d1⟩), none⟩,
    ⟨some ⟨.d0, .d3, .d7⟩, .extract 2 (.t ⟨.d0, .d3, .d1⟩), none⟩,
    ⟨some ⟨.d0, .d1, .d0⟩, .alloc 2 [.int .i64 0, .int .u64 0], none⟩,
    ⟨none, .store 2 (.t ⟨.d0, .d1, .d0⟩) (.t ⟨.d0, .d3, .d5⟩), none⟩,
    ⟨some ⟨.d0, .d1, .d1⟩, .move (.t ⟨.d0, .d3, .d6⟩), none⟩,
    ⟨some ⟨.d0, .d1, .d2⟩, .move (.t ⟨.d0, .d3, .d7⟩), none⟩])
  (.seq (.region [⟨some ⟨.d0, .d4, .d1⟩, .load true 2 (.t ⟨.d0, .d0, .d2⟩), none⟩,
    ⟨some ⟨.d0, .d4, .d2⟩, .move (.t ⟨.d0, .d0, .d1⟩), none⟩,
    ⟨some ⟨.d0, .d4, .d3⟩, .call 6 [(.t ⟨.d0, .d4, .d1⟩), (.t ⟨.d0, .d4, .d2⟩)], none⟩,
    ⟨some ⟨.d0, .d4, .d0⟩, .move (.t ⟨.d0, .d4, .d3⟩), none⟩,
    ⟨some ⟨.d0, .d4, .d4⟩, .extract 0 (.t ⟨.d0, .d4, .d0⟩), none⟩,
    ⟨some ⟨.d0, .d4, .d5⟩, .extract 1 (.t ⟨.d0, .d4, .d0⟩), none⟩,
    ⟨some ⟨.d0, .d1, .d3⟩, .alloc 3 [.int .i64 0, .int .u64 0], none⟩,
    ⟨none, .store 2 (.t ⟨.d0, .d1, .d3⟩) (.t ⟨.d0, .d4, .d4⟩), none⟩,
    ⟨some ⟨.d0, .d1, .d4⟩, .move (.t ⟨.d0, .d4, .d5⟩), none⟩])
  (.seq (.region [⟨some ⟨.d0, .d4, .d7⟩, .load true 2 (.t ⟨.d0, .d0, .d2⟩), none⟩,
    ⟨some ⟨.d0, .d5, .d0⟩, .move (.t ⟨.d0, .d0, .d1⟩), none⟩,
    ⟨some ⟨.d0, .d5, .d1⟩, .call 7 [(.t ⟨.d0, .d4, .d7⟩), (.t ⟨.d0, .d5, .d0⟩)], none⟩,
    ⟨some ⟨.d0, .d4, .d6⟩, .move (.t ⟨.d0, .d5, .d1⟩), none⟩,
    ⟨some ⟨.d0, .d5, .d2⟩, .extract 0 (.t ⟨.d0, .d4, .d6⟩), none⟩,
    ⟨some ⟨.d0, .d5, .d3⟩, .extract 1 (.t ⟨.d0, .d4, .d6⟩), none⟩,
    ⟨some ⟨.d0, .d1, .d5⟩, .alloc 4 [.int .i64 0, .int .u64 0], none⟩,
    ⟨none, .store 2 (.t ⟨.d0, .d1, .d5⟩) (.t ⟨.d0, .d5, .d2⟩), none⟩,
    ⟨some ⟨.d0, .d1, .d6⟩, .move (.t ⟨.d0, .d5, .d3⟩), none⟩])
  (.seq (.region [⟨some ⟨.d0, .d5, .d5⟩, .load true 2 (.t ⟨.d0, .d0, .d2⟩), none⟩,
    ⟨some ⟨.d0, .d5, .d6⟩, .call 8 [(.t ⟨.d0, .d5, .d5⟩)], none⟩,
    ⟨some ⟨.d0, .d5, .d4⟩, .move (.t ⟨.d0, .d5, .d6⟩), none⟩,
    ⟨some ⟨.d0, .d5, .d7⟩, .extract 0 (.t ⟨.d0, .d5, .d4⟩), none⟩,
    ⟨some ⟨.d0, .d6, .d0⟩, .extract 1 (.t ⟨.d0, .d5, .d4⟩), none⟩,
    ⟨some ⟨.d0, .d1, .d7⟩, .move (.t ⟨.d0, .d5, .d7⟩), none⟩,
    ⟨some ⟨.d0, .d2, .d0⟩, .move (.t ⟨.d0, .d6, .d0⟩), none⟩])
  (.seq (.region [⟨some ⟨.d0, .d2, .d1⟩, .move (.c (.int .i64 0)), none⟩])
  (.seq (.seq (.region [⟨some ⟨.d0, .d6, .d1⟩, .load true 2 (.t ⟨.d0, .d0, .d2⟩), none⟩,
    ⟨some ⟨.d0, .d6, .d2⟩, .call 9 [(.t ⟨.d0, .d6, .d1⟩)], none⟩,
    ⟨some ⟨.d0, .d6, .d3⟩, .bin .eql (.t ⟨.d0, .d6, .d2⟩) (.c (.int .i64 0)), none⟩])
  (.cond (.t ⟨.d0, .d6, .d3⟩)
    (.region [⟨some ⟨.d0, .d6, .d4⟩, .load true 2 (.t ⟨.d0, .d0, .d2⟩), none⟩,
      ⟨some ⟨.d0, .d6, .d5⟩, .call 10 [(.t ⟨.d0, .d6, .d4⟩)], none⟩,
      ⟨some ⟨.d0, .d6, .d6⟩, .len (.t ⟨.d0, .d6, .d5⟩), none⟩,
      ⟨some ⟨.d0, .d2, .d1⟩, .move (.t ⟨.d0, .d6, .d6⟩), none⟩])
    (.skip)))
  (.seq (.region [⟨some ⟨.d0, .d6, .d7⟩, .load true 2 (.t ⟨.d0, .d0, .d5⟩), none⟩,
    ⟨some ⟨.d0, .d7, .d0⟩, .load true 2 (.t ⟨.d0, .d1, .d0⟩), none⟩,
    ⟨some ⟨.d0, .d7, .d1⟩, .eqs false [0, 0] (.t ⟨.d0, .d6, .d7⟩) (.t ⟨.d0, .d7, .d0⟩), none⟩,
    ⟨some ⟨.d0, .d7, .d2⟩, .move (.t ⟨.d0, .d7, .d1⟩), none⟩,
    ⟨some ⟨.d0, .d7, .d3⟩, .move (.t ⟨.d0, .d0, .d6⟩), some (⟨.d0, .d7, .d2⟩, true)⟩,
    ⟨some ⟨.d0, .d7, .d4⟩, .move (.t ⟨.d0, .d1, .d1⟩), some (⟨.d0, .d7, .d2⟩, true)⟩,
    ⟨some ⟨.d0, .d7, .d5⟩, .bin .eql (.t ⟨.d0, .d7, .d3⟩) (.t ⟨.d0, .d7, .d4⟩), some (⟨.d0, .d7, .d2⟩, true)⟩,
    ⟨some ⟨.d0, .d7, .d6⟩, .pick (.t ⟨.d0, .d7, .d2⟩) (.t ⟨.d0, .d7, .d5⟩) (.c (.bool false)), none⟩,
    ⟨some ⟨.d0, .d7, .d7⟩, .move (.t ⟨.d0, .d7, .d6⟩), none⟩,
    ⟨some ⟨.d1, .d0, .d0⟩, .move (.t ⟨.d0, .d0, .d7⟩), some (⟨.d0, .d7, .d7⟩, true)⟩,
    ⟨some ⟨.d1, .d0, .d1⟩, .move (.t ⟨.d0, .d1, .d2⟩), some (⟨.d0, .d7, .d7⟩, true)⟩,
    ⟨some ⟨.d1, .d0, .d2⟩, .bin .eql (.t ⟨.d1, .d0, .d0⟩) (.t ⟨.d1, .d0, .d1⟩), some (⟨.d0, .d7, .d7⟩, true)⟩,
    ⟨some ⟨.d1, .d0, .d3⟩, .pick (.t ⟨.d0, .d7, .d7⟩) (.t ⟨.d1, .d0, .d2⟩) (.c (.bool false)), none⟩,
    ⟨some ⟨.d1, .d0, .d4⟩, .move (.t ⟨.d1, .d0, .d3⟩), none⟩,
    ⟨some ⟨.d1, .d0, .d5⟩, .load true 2 (.t ⟨.d0, .d1, .d3⟩), some (⟨.d1, .d0, .d4⟩, true)⟩,
    ⟨some ⟨.d1, .d0, .d6⟩, .load true 2 (.t ⟨.d0, .d1, .d5⟩), some (⟨.d1, .d0, .d4⟩, true)⟩,
    ⟨some ⟨.d1, .d0, .d7⟩, .eqs false [0, 0] (.t ⟨.d1, .d0, .d5⟩) (.t ⟨.d1, .d0, .d6⟩), some (⟨.d1, .d0, .d4⟩, true)⟩,
    ⟨some ⟨.d1, .d1, .d0⟩, .pick (.t ⟨.d1, .d0, .d4⟩) (.t ⟨.d1, .d0, .d7⟩) (.c (.bool false)), none⟩,
    ⟨some ⟨.d1, .d1, .d1⟩, .move (.t ⟨.d1, .d1, .d0⟩), none⟩,
    ⟨some ⟨.d1, .d1, .d2⟩, .move (.t ⟨.d0, .d1, .d4⟩), some (⟨.d1, .d1, .d1⟩, true)⟩,
    ⟨some ⟨.d1, .d1, .d3⟩, .move (.t ⟨.d0, .d1, .d6⟩), some (⟨.d1, .d1, .d1⟩, true)⟩,
    ⟨some ⟨.d1, .d1, .d4⟩, .bin .eql (.t ⟨.d1, .d1, .d2⟩) (.t ⟨.d1, .d1, .d3⟩), some (⟨.d1, .d1, .d1⟩, true)⟩,
    ⟨some ⟨.d1, .d1, .d5⟩, .pick (.t ⟨.d1, .d1, .d1⟩) (.t ⟨.d1, .d1, .d4⟩) (.c (.bool false)), none⟩,
    ⟨some ⟨.d1, .d1, .d6⟩, .move (.t ⟨.d1, .d1, .d5⟩), none⟩,
    ⟨some ⟨.d1, .d1, .d7⟩, .move (.t ⟨.d0, .d1, .d7⟩), some (⟨.d1, .d1, .d6⟩, true)⟩,
    ⟨some ⟨.d1, .d2, .d0⟩, .move (.t ⟨.d0, .d2, .d1⟩), some (⟨.d1, .d1, .d6⟩, true)⟩,
    ⟨some ⟨.d1, .d2, .d1⟩, .bin .eql (.t ⟨.d1, .d1, .d7⟩) (.t ⟨.d1, .d2, .d0⟩), some (⟨.d1, .d1, .d6⟩, true)⟩,
    ⟨some ⟨.d1, .d2, .d2⟩, .pick (.t ⟨.d1, .d1, .d6⟩) (.t ⟨.d1, .d2, .d1⟩) (.c (.bool false)), none⟩,
    ⟨some ⟨.d1, .d2, .d3⟩, .move (.t ⟨.d1, .d2, .d2⟩), none⟩,
    ⟨some ⟨.d1, .d2, .d4⟩, .move (.t ⟨.d0, .d2, .d0⟩), some (⟨.d1, .d2, .d3⟩, true)⟩,
    ⟨some ⟨.d1, .d2, .d5⟩, .load true 2 (.t ⟨.d0, .d0, .d2⟩), some (⟨.d1, .d2, .d3⟩, true)⟩,
    ⟨some ⟨.d1, .d2, .d6⟩, .call 9 [(.t ⟨.d1, .d2, .d5⟩)], some (⟨.d1, .d2, .d3⟩, true)⟩,
    ⟨some ⟨.d1, .d2, .d7⟩, .bin .eql (.t ⟨.d1, .d2, .d4⟩) (.t ⟨.d1, .d2, .d6⟩), some (⟨.d1, .d2, .d3⟩, true)⟩,
    ⟨some ⟨.d1, .d3, .d0⟩, .pick (.t ⟨.d1, .d2, .d3⟩) (.t ⟨.d1, .d2, .d7⟩) (.c (.bool false)), none⟩,
    ⟨some ⟨.d1, .d3, .d1⟩, .move (.t ⟨.d1, .d3, .d0⟩), none⟩,
    ⟨some ⟨.d1, .d3, .d2⟩, .load true 2 (.t ⟨.d0, .d0, .d2⟩), some (⟨.d1, .d3, .d1⟩, true)⟩,
    ⟨some ⟨.d1, .d3, .d3⟩, .call 11 [(.t ⟨.d1, .d3, .d2⟩)], some (⟨.d1, .d3, .d1⟩, true)⟩,
    ⟨some ⟨.d1, .d3, .d4⟩, .move (.t ⟨.d0, .d2, .d0⟩), some (⟨.d1, .d3, .d1⟩, true)⟩,
    ⟨some ⟨.d1, .d3, .d5⟩, .bin .eql (.t ⟨.d1, .d3, .d3⟩) (.t ⟨.d1, .d3, .d4⟩), some (⟨.d1, .d3, .d1⟩, true)⟩,
    ⟨some ⟨.d1, .d3, .d6⟩, .pick (.t ⟨.d1, .d3, .d1⟩) (.t ⟨.d1, .d3, .d5⟩) (.c (.bool false)), none⟩,
    ⟨some ⟨.d0, .d0, .d4⟩, .move (.t ⟨.d1, .d3, .d6⟩), none⟩])
  (.ret)))))))))
def r_custlaw_PortsSays : List XR := [.tmp ⟨.d0, .d0, .d4⟩]
theorem ok_custlaw_PortsSays : okC Tryd.prog Tryd.f3.ntmps (bodyOf Tryd.f3) x_custlaw_PortsSays = true := by kernel_rfl
theorem okr_custlaw_PortsSays : okRs Tryd.prog Tryd.f3.results.toList r_custlaw_PortsSays = true := by kernel_rfl

/-- ports.Let -/
def x_ports_Let : XC :=
  .seq (.region [⟨some ⟨.d0, .d0, .d2⟩, .box 0 2 (.t ⟨.d0, .d0, .d0⟩), none⟩,
    ⟨some ⟨.d0, .d0, .d4⟩, .alloc 1 [.int .i64 0, .int .u64 0], none⟩,
    ⟨some ⟨.d0, .d0, .d5⟩, .move (.c (.int .i64 0)), none⟩,
    ⟨some ⟨.d0, .d0, .d6⟩, .move (.c (.int .i64 0)), none⟩])
  (.seq (.region [⟨some ⟨.d0, .d1, .d3⟩, .load true 2 (.t ⟨.d0, .d0, .d2⟩), none⟩,
    ⟨some ⟨.d0, .d1, .d4⟩, .call 11 [(.t ⟨.d0, .d1, .d3⟩)], none⟩,
    ⟨some ⟨.d0, .d0, .d7⟩, .move (.t ⟨.d0, .d1, .d4⟩), none⟩])
  (.seq (.block 0
    (.seq (.region [⟨some ⟨.d0, .d1, .d6⟩, .move (.t ⟨.d0, .d0, .d7⟩), none⟩,
      ⟨some ⟨.d0, .d1, .d7⟩, .bin .neq (.t ⟨.d0, .d1, .d6⟩) (.c (.int .i64 0)), none⟩,
      ⟨some ⟨.d0, .d1, .d5⟩, .move (.t ⟨.d0, .d1, .d7⟩), none⟩])
    (.cond (.t ⟨.d0, .d1, .d5⟩)
      (.skip)
      (.seq (.region [⟨some ⟨.d0, .d2, .d1⟩, .move (.t ⟨.d0, .d0, .d1⟩), none⟩,
        ⟨some ⟨.d0, .d2, .d2⟩, .bin .lss (.t ⟨.d0, .d2, .d1⟩) (.c (.int .i64 0)), none⟩,
        ⟨some ⟨.d0, .d2, .d3⟩, .move (.t ⟨.d0, .d2, .d2⟩), none⟩,
        ⟨some ⟨.d0, .d2, .d4⟩, .move (.t ⟨.d0, .d0, .d1⟩), some (⟨.d0, .d2, .d3⟩, false)⟩,
        ⟨some ⟨.d0, .d2, .d5⟩, .bin .gtr (.t ⟨.d0, .d2, .d4⟩) (.c (.int .i64 65535)), some (⟨.d0, .d2, .d3⟩, false)⟩,
        ⟨some ⟨.d0, .d2, .d6⟩, .pick (.t ⟨.d0, .d2, .d3⟩) (.c (.bool true)) (.t ⟨.d0, .d2, .d5⟩), none⟩,
        ⟨some ⟨.d0, .d2, .d0⟩, .move (.t ⟨.d0, .d2, .d6⟩), none⟩])
      (.cond (.t ⟨.d0, .d2, .d0⟩)
        (.region [⟨some ⟨.d0, .d0, .d7⟩, .move (.c (.int .i64 1)), none⟩])
        (.seq (.region [⟨some ⟨.d0, .d3, .d0⟩, .fieldAddr 1 (.t ⟨.d0, .d0, .d2⟩), none⟩,
          ⟨some ⟨.d0, .d3, .d1⟩, .load false 1 (.t ⟨.d0, .d3, .d0⟩), none⟩,
          ⟨some ⟨.d0, .d3, .d2⟩, .bin .eql (.t ⟨.d0, .d3, .d1⟩) (.c (.int .u64 18446744073709551615)), none⟩,
          ⟨some ⟨.d0, .d2, .d7⟩, .move (.t ⟨.d0, .d3, .d2⟩), none⟩])
        (.cond (.t ⟨.d0, .d2, .d7⟩)
          (.region [⟨some ⟨.d0, .d0, .d7⟩, .move (.c (.int .i64 6)), none⟩])
          (.skip))))))))
  (.seq (.seq (.region [⟨some ⟨.d0, .d3, .d3⟩, .move (.t ⟨.d0, .d0, .d7⟩), none⟩,
    ⟨some ⟨.d0, .d3, .d4⟩, .bin .neq (.t ⟨.d0, .d3, .d3⟩) (.c (.int .i64 0)), none⟩])
  (.cond (.t ⟨.d0, .d3, .d4⟩)
    (.seq (.region [⟨some ⟨.d0, .d3, .d5⟩, .build [.int .i64 0, .int .u64 0] [], none⟩,
      ⟨some ⟨.d0, .d3, .d6⟩, .move (.t ⟨.d0, .d0, .d7⟩), none⟩,
      ⟨none, .store 2 (.t ⟨.d0, .d0, .d4⟩) (.t ⟨.d0, .d3, .d5⟩), none⟩,
      ⟨some ⟨.d0, .d0, .d5⟩, .move (.c (.int .i64 0)), none⟩,
      ⟨some ⟨.d0, .d0, .d6⟩, .move (.t ⟨.d0, .d3, .d6⟩), none⟩])
    (.ret))
    (.skip)))
  (.seq (.region [⟨some ⟨.d0, .d3, .d7⟩, .fieldAddr 1 (.t ⟨.d0, .d0, .d2⟩), none⟩,
    ⟨some ⟨.d0, .d4, .d0⟩, .load false 1 (.t ⟨.d0, .d3, .d7⟩), none⟩,
    ⟨some ⟨.d0, .d4, .d1⟩, .un .xor (.t ⟨.d0, .d4, .d0⟩), none⟩,
    ⟨some ⟨.d0, .d1, .d0⟩, .move (.t ⟨.d0, .d4, .d1⟩), none⟩])
  (.seq (.region [⟨some ⟨.d0, .d4, .d2⟩, .move (.t ⟨.d0, .d0, .d1⟩), none⟩,
    ⟨some ⟨.d0, .d4, .d3⟩, .fieldAddr 0 (.t ⟨.d0, .d0, .d2⟩), none⟩,
    ⟨some ⟨.d0, .d4, .d4⟩, .load false 1 (.t ⟨.d0, .d4, .d3⟩), none⟩,
    ⟨some ⟨.d0, .d4, .d5⟩, .bin .sub (.t ⟨.d0, .d4, .d2⟩) (.t ⟨.d0, .d4, .d4⟩), none⟩,
    ⟨some ⟨.d0, .d1, .d1⟩, .move (.t ⟨.d0, .d4, .d5⟩), none⟩])
  (.seq (.seq (.region [⟨some ⟨.d0, .d4, .d6⟩, .move (.t ⟨.d0, .d1, .d1⟩), none⟩,
    ⟨some ⟨.d0, .d4, .d7⟩, .bin .lss (.t ⟨.d0, .d4, .d6⟩) (.c (.int .i64 0)), none⟩,
    ⟨some ⟨.d0, .d5, .d0⟩, .move (.t ⟨.d0, .d4, .d7⟩), none⟩,
    ⟨some ⟨.d0, .d5, .d1⟩, .move (.t ⟨.d0, .d1, .d1⟩), some (⟨.d0, .d5, .d0⟩, false)⟩,
    ⟨some ⟨.d0, .d5, .d2⟩, .bin .gtr (.t ⟨.d0, .d5, .d1⟩) (.c (.int .i64 63)), some (⟨.d0, .d5, .d0⟩, false)⟩,
    ⟨some ⟨.d0, .d5, .d3⟩, .pick (.t ⟨.d0, .d5, .d0⟩) (.c (.bool true)) (.t ⟨.d0, .d5, .d2⟩), none⟩,
    ⟨some ⟨.d0, .d5, .d4⟩, .move (.t ⟨.d0, .d5, .d3⟩), none⟩,
    ⟨some ⟨.d0, .d5, .d5⟩, .move (.t ⟨.d0, .d1, .d0⟩), some (⟨.d0, .d5, .d4⟩, false)⟩,
    ⟨some ⟨.d0, .d5, .d6⟩, .move (.t ⟨.d0, .d1, .d1⟩), some (⟨.d0, .d5, .d4⟩, false)⟩,
    ⟨some ⟨.d0, .d5, .d7⟩, .bin .shr (.t ⟨.d0, .d5, .d5⟩) (.t ⟨.d0, .d5, .d6⟩), some (⟨.d0, .d5, .d4⟩, false)⟩,
    ⟨some ⟨.d0, .d6, .d0⟩, .bin .and (.t ⟨.d0, .d5, .d7⟩) (.c (.int .u64 1)), some (⟨.d0, .d5, .d4⟩, false)⟩,
    ⟨some ⟨.d0, .d6, .d1⟩, .bin .eql (.t ⟨.d0, .d6, .d0⟩) (.c (.int .u64 0)), some (⟨.d0, .d5, .d4⟩, false)⟩,
    ⟨some ⟨.d0, .d6, .d2⟩, .pick (.t ⟨.d0, .d5, .d4⟩) (.c (.bool true)) (.t ⟨.d0, .d6, .d1⟩), none⟩])
  (.cond (.t ⟨.d0, .d6, .d2⟩)
    (.seq (.region [⟨some ⟨.d0, .d6, .d3⟩, .move (.t ⟨.d0, .d1, .d0⟩), none⟩,
      ⟨some ⟨.d0, .d6, .d4⟩, .move (.t ⟨.d0, .d0, .d1⟩), none⟩,
      ⟨some ⟨.d0, .d6, .d5⟩, .bin .and (.t ⟨.d0, .d6, .d4⟩) (.c (.int .i64 1)), none⟩,
      ⟨some ⟨.d0, .d6, .d6⟩, .bin .shl (.c (.int .u64 6148914691236517205)) (.t ⟨.d0, .d6, .d5⟩), none⟩,
      ⟨some ⟨.d0, .d6, .d7⟩, .bin .and (.t ⟨.d0, .d6, .d3⟩) (.t ⟨.d0, .d6, .d6⟩), none⟩,
      ⟨some ⟨.d0, .d1, .d2⟩, .move (.t ⟨.d0, .d6, .d7⟩), none⟩])
    (.seq (.seq (.region [⟨some ⟨.d0, .d7, .d0⟩, .move (.t ⟨.d0, .d1, .d2⟩), none⟩,
      ⟨some ⟨.d0, .d7, .d1⟩, .bin .eql (.t ⟨.d0, .d7, .d0⟩) (.c (.int .u64 0)), none⟩])
    (.cond (.t ⟨.d0, .d7, .d1⟩)
      (.region [⟨some ⟨.d0, .d7, .d2⟩, .move (.t ⟨.d0, .d1, .d0⟩), none⟩,
        ⟨some ⟨.d0, .d1, .d2⟩, .move (.t ⟨.d0, .d7, .d2⟩), none⟩])
      (.skip)))
    (.region [⟨some ⟨.d0, .d7, .d3⟩, .move (.t ⟨.d0, .d1, .d2⟩), none⟩,
      ⟨some ⟨.d0, .d7, .d4⟩, .call 12 [(.t ⟨.d0, .d7, .d3⟩)], none⟩,
      ⟨some ⟨.d0, .d1, .d1⟩, .move (.t ⟨.d0, .d7, .d4⟩), none⟩])))
    (.skip)))
  (.seq (.regionD [0, 1, 0, 4, 15, 31, 63] [⟨some ⟨.d0, .d7, .d5⟩, .fieldAddr 1 (.t ⟨.d0, .d0, .d2⟩), none⟩,
    ⟨some ⟨.d0, .d7, .d6⟩, .load false 1 (.t ⟨.d0, .d7, .d5⟩), none⟩,
    ⟨some ⟨.d0, .d7, .d7⟩, .move (.t ⟨.d0, .d1, .d1⟩), none⟩,
    ⟨some ⟨.d1, .d0, .d0⟩, .bin .shl (.c (.int .u64 1)) (.t ⟨.d0, .d7, .d7⟩), none⟩,
    ⟨some ⟨.d1, .d0, .d1⟩, .bin .or (.t ⟨.d0, .d7, .d6⟩) (.t ⟨.d1, .d0, .d0⟩), none⟩,
    ⟨some ⟨.d1, .d0, .d2⟩, .fieldAddr 1 (.t ⟨.d0, .d0, .d2⟩), none⟩,
    ⟨none, .store 1 (.t ⟨.d1, .d0, .d2⟩) (.t ⟨.d1, .d0, .d1⟩), none⟩])
  (.seq (.regionD [0, 0, 2, 0, 14, 1, 63, 127] [⟨some ⟨.d1, .d0, .d3⟩, .load true 2 (.t ⟨.d0, .d0, .d2⟩), none⟩,
    ⟨some ⟨.d1, .d0, .d4⟩, .fieldAddr 0 (.t ⟨.d0, .d0, .d2⟩), none⟩,
    ⟨some ⟨.d1, .d0, .d5⟩, .load false 1 (.t ⟨.d1, .d0, .d4⟩), none⟩,
    ⟨some ⟨.d1, .d0, .d6⟩, .move (.t ⟨.d0, .d1, .d1⟩), none⟩,
    ⟨some ⟨.d1, .d0, .d7⟩, .bin .add (.t ⟨.d1, .d0, .d5⟩) (.t ⟨.d1, .d0, .d6⟩), none⟩,
    ⟨none, .store 2 (.t ⟨.d0, .d0, .d4⟩) (.t ⟨.d1, .d0, .d3⟩), none⟩,
    ⟨some ⟨.d0, .d0, .d5⟩, .move (.t ⟨.d1, .d0, .d7⟩), none⟩,
    ⟨some ⟨.d0, .d0, .d6⟩, .move (.c (.int .i64 0)), none⟩])
  (.ret)))))))))
def r_ports_Let : List XR := [.cell ⟨.d0, .d0, .d4⟩ true 2, .tmp ⟨.d0, .d0, .d5⟩, .tmp ⟨.d0, .d0, .d6⟩]
theorem ok_ports_Let : okC Tryd.prog Tryd.f4.ntmps (bodyOf Tryd.f4) x_ports_Let = true := by kernel_rfl
theorem okr_ports_Let : okRs Tryd.prog Tryd.f4.results.toList r_ports_Let = true := by kernel_rfl

/-- custref.PortsLet -/
def x_custref_PortsLet : XC :=
  .seq (.region [⟨some ⟨.d0, .d0, .d2⟩, .box 0 2 (.t ⟨.d0, .d0, .d0⟩), none⟩,
    ⟨some ⟨.d0, .d0, .d3⟩, .box 1 1 (.t ⟨.d0, .d0, .d1⟩), none⟩,
    ⟨some ⟨.d0, .d0, .d4⟩, .alloc 2 [.int .i64 0, .int .u64 0], none⟩,
    ⟨some ⟨.d0, .d0, .d5⟩, .move (.c (.int .i64 0)), none⟩,
    ⟨some ⟨.d0, .d0, .d6⟩, .move (.c (.int .i64 0)), none⟩])
  (.seq (.seq (.region [⟨some ⟨.d0, .d1, .d3⟩, .load true 2 (.t ⟨.d0, .d0, .d2⟩), none⟩,
    ⟨some ⟨.d0, .d1, .d4⟩, .call 9 [(.t ⟨.d0, .d1, .d3⟩)], none⟩,
    ⟨some ⟨.d0, .d0, .d7⟩, .move (.t ⟨.d0, .d1, .d4⟩), none⟩])
  (.seq (.region [⟨some ⟨.d0, .d1, .d5⟩, .move (.t ⟨.d0, .d0, .d7⟩), none⟩,
    ⟨some ⟨.d0, .d1, .d6⟩, .bin .neq (.t ⟨.d0, .d1, .d5⟩) (.c (.int .i64 0)), none⟩])
  (.cond (.t ⟨.d0, .d1, .d6⟩)
    (.seq (.region [⟨some ⟨.d0, .d1, .d7⟩, .build [.int .i64 0, .int .u64 0] [], none⟩,
      ⟨some ⟨.d0, .d2, .d0⟩, .move (.t ⟨.d0, .d0, .d7⟩), none⟩,
      ⟨none, .store 2 (.t ⟨.d0, .d0, .d4⟩) (.t ⟨.d0, .d1, .d7⟩), none⟩,
      ⟨some ⟨.d0, .d0, .d5⟩, .move (.c (.int .i64 0)), none⟩,
      ⟨some ⟨.d0, .d0, .d6⟩, .move (.t ⟨.d0, .d2, .d0⟩), none⟩])
    (.ret))
    (.skip))))
  (.seq (.seq (.region [⟨some ⟨.d0, .d2, .d1⟩, .load false 1 (.t ⟨.d0, .d0, .d3⟩), none⟩,
    ⟨some ⟨.d0, .d2, .d2⟩, .call 13 [(.t ⟨.d0, .d2, .d1⟩), (.c (.int .i64 0)), (.c (.int .i64 65535))], none⟩,
    ⟨some ⟨.d0, .d2, .d3⟩, .un .not (.t ⟨.d0, .d2, .d2⟩), none⟩])
  (.cond (.t ⟨.d0, .d2, .d3⟩)
    (.seq (.region [⟨some ⟨.d0, .d2, .d4⟩, .build [.int .i64 0, .int .u64 0] [], none⟩,
      ⟨none, .store 2 (.t ⟨.d0, .d0, .d4⟩) (.t ⟨.d0, .d2, .d4⟩), none⟩,
      ⟨some ⟨.d0, .d0, .d5⟩, .move (.c (.int .i64 0)), none⟩,
      ⟨some ⟨.d0, .d0, .d6⟩, .move (.c (.int .i64 1)), none⟩])
    (.ret))
    (.skip)))
  (.seq (.region [⟨some ⟨.d0, .d2, .d5⟩, .load true 2 (.t ⟨.d0, .d0, .d2⟩), none⟩,
    ⟨some ⟨.d0, .d2, .d6⟩, .call 10 [(.t ⟨.d0, .d2, .d5⟩)], none⟩,
    ⟨some ⟨.d0, .d1, .d0⟩, .move (.t ⟨.d0, .d2, .d6⟩), none⟩])
  (.seq (.seq (.region [⟨some ⟨.d0, .d2, .d7⟩, .move (.t ⟨.d0, .d1, .d0⟩), none⟩,
    ⟨some ⟨.d0, .d3, .d0⟩, .len (.t ⟨.d0, .d2, .d7⟩), none⟩,
    ⟨some ⟨.d0, .d3, .d1⟩, .bin .eql (.t ⟨.d0, .d3, .d0⟩) (.c (.int .i64 0)), none⟩])
  (.cond (.t ⟨.d0, .d3, .d1⟩)
    (.seq (.region [⟨some ⟨.d0, .d3, .d2⟩, .build [.int .i64 0, .int .u64 0] [], none⟩,
      ⟨none, .store 2 (.t ⟨.d0, .d0, .d4⟩) (.t ⟨.d0, .d3, .d2⟩), none⟩,
      ⟨some ⟨.d0, .d0, .d5⟩, .move (.c (.int .i64 0)), none⟩,
      ⟨some ⟨.d0, .d0, .d6⟩, .move (.c (.int .i64 6)), none⟩])
    (.ret))
    (.skip)))
  (.seq (.region [⟨some ⟨.d0, .d3, .d3⟩, .move (.t ⟨.d0, .d1, .d0⟩), none⟩,
    ⟨some ⟨.d0, .d3, .d4⟩, .indexSl 1 (.t ⟨.d0, .d3, .d3⟩) (.c (.int .i64 0)), none⟩,
    ⟨some ⟨.d0, .d3, .d5⟩, .load false 1 (.t ⟨.d0, .d3, .d4⟩), none⟩,
    ⟨some ⟨.d0, .d1, .d1⟩, .move (.t ⟨.d0, .d3, .d5⟩), none⟩])
  (.seq (.seq (.region [⟨some ⟨.d0, .d3, .d6⟩, .move (.t ⟨.d0, .d1, .d0⟩), none⟩,
    ⟨some ⟨.d0, .d3, .d7⟩, .mkfn 15 [] [(.t ⟨.d0, .d0, .d3⟩)], none⟩,
    ⟨some ⟨.d0, .d4, .d0⟩, .call 14 [(.t ⟨.d0, .d3, .d6⟩), (.t ⟨.d0, .d3, .d7⟩)], none⟩,
    ⟨some ⟨.d0, .d1, .d2⟩, .move (.t ⟨.d0, .d4, .d0⟩), none⟩])
  (.seq (.region [⟨some ⟨.d0, .d4, .d1⟩, .move (.t ⟨.d0, .d1, .d2⟩), none⟩,
    ⟨some ⟨.d0, .d4, .d2⟩, .bin .geq (.t ⟨.d0, .d4, .d1⟩) (.c (.int .i64 0)), none⟩])
  (.cond (.t ⟨.d0, .d4, .d2⟩)
    (.region [⟨some ⟨.d0, .d4, .d3⟩, .move (.t ⟨.d0, .d1, .d0⟩), none⟩,
      ⟨some ⟨.d0, .d4, .d4⟩, .move (.t ⟨.d0, .d1, .d2⟩), none⟩,
      ⟨some ⟨.d0, .d4, .d5⟩, .indexSl 1 (.t ⟨.d0, .d4, .d3⟩) (.t ⟨.d0, .d4, .d4⟩), none⟩,
      ⟨some ⟨.d0, .d4, .d6⟩, .load false 1 (.t ⟨.d0, .d4, .d5⟩), none⟩,
      ⟨some ⟨.d0, .d1, .d1⟩, .move (.t ⟨.d0, .d4, .d6⟩), none⟩])
    (.skip))))
  (.seq (.seq (.region [⟨some ⟨.d0, .d4, .d7⟩, .move (.t ⟨.d0, .d1, .d0⟩), none⟩,
    ⟨some ⟨.d0, .d5, .d0⟩, .load false 1 (.t ⟨.d0, .d0, .d3⟩), none⟩,
    ⟨some ⟨.d0, .d5, .d1⟩, .call 16 [(.t ⟨.d0, .d4, .d7⟩), (.t ⟨.d0, .d5, .d0⟩)], none⟩])
  (.cond (.t ⟨.d0, .d5, .d1⟩)
    (.region [⟨some ⟨.d0, .d5, .d2⟩, .load false 1 (.t ⟨.d0, .d0, .d3⟩), none⟩,
      ⟨some ⟨.d0, .d1, .d1⟩, .move (.t ⟨.d0, .d5, .d2⟩), none⟩])
    (.skip)))
  (.seq (.regionD [0, 1, 0, 4, 0, 0, 32, 112, 240, 508, 1023, 0, 2047, 8191, 16383] [⟨some ⟨.d0, .d5, .d3⟩, .fieldAddr 0 (.t ⟨.d0, .d0, .d2⟩), none⟩,
    ⟨some ⟨.d0, .d5, .d4⟩, .load false 1 (.t ⟨.d0, .d5, .d3⟩), none⟩,
    ⟨some ⟨.d0, .d5, .d5⟩, .fieldAddr 1 (.t ⟨.d0, .d0, .d2⟩), none⟩,
    ⟨some ⟨.d0, .d5, .d6⟩, .load false 1 (.t ⟨.d0, .d5, .d5⟩), none⟩,
    ⟨some ⟨.d0, .d5, .d7⟩, .move (.t ⟨.d0, .d1, .d1⟩), none⟩,
    ⟨some ⟨.d0, .d6, .d0⟩, .fieldAddr 0 (.t ⟨.d0, .d0, .d2⟩), none⟩,
    ⟨some ⟨.d0, .d6, .d1⟩, .load false 1 (.t ⟨.d0, .d6, .d0⟩), none⟩,
    ⟨some ⟨.d0, .d6, .d2⟩, .bin .sub (.t ⟨.d0, .d5, .d7⟩) (.t ⟨.d0, .d6, .d1⟩), none⟩,
    ⟨some ⟨.d0, .d6, .d3⟩, .bin .shl (.c (.int .u64 1)) (.t ⟨.d0, .d6, .d2⟩), none⟩,
    ⟨some ⟨.d0, .d6, .d4⟩, .bin .add (.t ⟨.d0, .d5, .d6⟩) (.t ⟨.d0, .d6, .d3⟩), none⟩,
    ⟨some ⟨.d0, .d6, .d5⟩, .build [.int .i64 0, .int .u64 0] [(0, 1, (.t ⟨.d0, .d5, .d4⟩)), (1, 1, (.t ⟨.d0, .d6, .d4⟩))], none⟩,
    ⟨some ⟨.d0, .d6, .d6⟩, .move (.t ⟨.d0, .d1, .d1⟩), none⟩,
    ⟨none, .store 2 (.t ⟨.d0, .d0, .d4⟩) (.t ⟨.d0, .d6, .d5⟩), none⟩,
    ⟨some ⟨.d0, .d0, .d5⟩, .move (.t ⟨.d0, .d6, .d6⟩), none⟩,
    ⟨some ⟨.d0, .d0, .d6⟩, .move (.c (.int .i64 0)), none⟩])
  (.ret)))))))))
def r_custref_PortsLet : List XR := [.cell ⟨.d0, .d0, .d4⟩ true 2, .tmp ⟨.d0, .d0, .d5⟩, .tmp ⟨.d0, .d0, .d6⟩]
theorem ok_custref_PortsLet : okC Tryd.prog Tryd.f5.ntmps (bodyOf Tryd.f5) x_custref_PortsLet = true := by kernel_rfl
theorem okr_custref_PortsLet : okRs Tryd.prog Tryd.f5.results.toList r_custref_PortsLet = true := by kernel_rfl

/-- ports.End -/
def x_ports_End : XC :=
  .seq (.region [⟨some ⟨.d0, .d0, .d2⟩, .box 0 2 (.t ⟨.d0, .d0, .d0⟩), none⟩,
    ⟨some ⟨.d0, .d0, .d4⟩, .alloc 1 [.int .i64 0, .int .u64 0], none⟩,
    ⟨some ⟨.d0, .d0, .d5⟩, .move (.c (.int .i64 0)), none⟩])
  (.seq (.seq (.region [⟨some ⟨.d0, .d0, .d7⟩, .load true 2 (.t ⟨.d0, .d0, .d2⟩), none⟩,
    ⟨some ⟨.d0, .d1, .d0⟩, .call 11 [(.t ⟨.d0, .d0, .d7⟩)], none⟩,
    ⟨some ⟨.d0, .d0, .d6⟩, .move (.t ⟨.d0, .d1, .d0⟩), none⟩])
  (.seq (.region [⟨some ⟨.d0, .d1, .d1⟩, .move (.t ⟨.d0, .d0, .d6⟩), none⟩,
    ⟨some ⟨.d0, .d1, .d2⟩, .bin .neq (.t ⟨.d0, .d1, .d1⟩) (.c (.int .i64 0)), none⟩])
  (.cond (.t ⟨.d0, .d1, .d2⟩)
    (.seq (.region [⟨some ⟨.d0, .d1, .d3⟩, .build [.int .i64 0, .int .u64 0] [], none⟩,
      ⟨some ⟨.d0, .d1, .d4⟩, .move (.t ⟨.d0, .d0, .d6⟩), none⟩,
      ⟨none, .store 2 (.t ⟨.d0, .d0, .d4⟩) (.t ⟨.d0, .d1, .d3⟩), none⟩,
      ⟨some ⟨.d0, .d0, .d5⟩, .move (.t ⟨.d0, .d1, .d4⟩), none⟩])
    (.ret))
    (.skip))))
  (.seq (.seq (.region [⟨some ⟨.d0, .d1, .d5⟩, .move (.t ⟨.d0, .d0, .d1⟩), none⟩,
    ⟨some ⟨.d0, .d1, .d6⟩, .fieldAddr 0 (.t ⟨.d0, .d0, .d2⟩), none⟩,
    ⟨some ⟨.d0, .d1, .d7⟩, .load false 1 (.t ⟨.d0, .d1, .d6⟩), none⟩,
    ⟨some ⟨.d0, .d2, .d0⟩, .bin .lss (.t ⟨.d0, .d1, .d5⟩) (.t ⟨.d0, .d1, .d7⟩), none⟩,
    ⟨some ⟨.d0, .d2, .d1⟩, .move (.t ⟨.d0, .d2, .d0⟩), none⟩,
    ⟨some ⟨.d0, .d2, .d2⟩, .move (.t ⟨.d0, .d0, .d1⟩), some (⟨.d0, .d2, .d1⟩, false)⟩,
    ⟨some ⟨.d0, .d2, .d3⟩, .fieldAddr 0 (.t ⟨.d0, .d0, .d2⟩), some (⟨.d0, .d2, .d1⟩, false)⟩,
    ⟨some ⟨.d0, .d2, .d4⟩, .load false 1 (.t ⟨.d0, .d2, .d3⟩), some (⟨.d0, .d2, .d1⟩, false)⟩,
    ⟨some ⟨.d0, .d2, .d5⟩, .bin .add (.t ⟨.d0, .d2, .d4⟩) (.c (.int .i64 63)), some (⟨.d0, .d2, .d1⟩, false)⟩,
    ⟨some ⟨.d0, .d2, .d6⟩, .bin .gtr (.t ⟨.d0, .d2, .d2⟩) (.t ⟨.d0, .d2, .d5⟩), some (⟨.d0, .d2, .d1⟩, false)⟩,
    ⟨some ⟨.d0, .d2, .d7⟩, .pick (.t ⟨.d0, .d2, .d1⟩) (.c (.bool true)) (.t ⟨.d0, .d2, .d6⟩), none⟩,
    ⟨some ⟨.d0, .d3, .d0⟩, .move (.t ⟨.d0, .d2, .d7⟩), none⟩,
    ⟨some ⟨.d0, .d3, .d1⟩, .fieldAddr 1 (.t ⟨.d0, .d0, .d2⟩), some (⟨.d0, .d3, .d0⟩, false)⟩,
    ⟨some ⟨.d0, .d3, .d2⟩, .load false 1 (.t ⟨.d0, .d3, .d1⟩), some (⟨.d0, .d3, .d0⟩, false)⟩,
    ⟨some ⟨.d0, .d3, .d3⟩, .move (.t ⟨.d0, .d0, .d1⟩), some (⟨.d0, .d3, .d0⟩, false)⟩,
    ⟨some ⟨.d0, .d3, .d4⟩, .fieldAddr 0 (.t ⟨.d0, .d0, .d2⟩), some (⟨.d0, .d3, .d0⟩, false)⟩,
    ⟨some ⟨.d0, .d3, .d5⟩, .load false 1 (.t ⟨.d0, .d3, .d4⟩), some (⟨.d0, .d3, .d0⟩, false)⟩,
    ⟨some ⟨.d0, .d3, .d6⟩, .bin .sub (.t ⟨.d0, .d3, .d3⟩) (.t ⟨.d0, .d3, .d5⟩), some (⟨.d0, .d3, .d0⟩, false)⟩,
    ⟨some ⟨.d0, .d3, .d7⟩, .bin .shr (.t ⟨.d0, .d3, .d2⟩) (.t ⟨.d0, .d3, .d6⟩), some (⟨.d0, .d3, .d0⟩, false)⟩,
    ⟨some ⟨.d0, .d4, .d0⟩, .bin .and (.t ⟨.d0, .d3, .d7⟩) (.c (.int .u64 1)), some (⟨.d0, .d3, .d0⟩, false)⟩,
    ⟨some ⟨.d0, .d4, .d1⟩, .bin .eql (.t ⟨.d0, .d4, .d0⟩) (.c (.int .u64 0)), some (⟨.d0, .d3, .d0⟩, false)⟩,
    ⟨some ⟨.d0, .d4, .d2⟩, .pick (.t ⟨.d0, .d3, .d0⟩) (.c (.bool true)) (.t ⟨.d0, .d4, .d1⟩), none⟩])
  (.cond (.t ⟨.d0, .d4, .d2⟩)
    (.seq (.region [⟨some ⟨.d0, .d4, .d3⟩, .build [.int .i64 0, .int .u64 0] [], none⟩,
      ⟨none, .store 2 (.t ⟨.d0, .d0, .d4⟩) (.t ⟨.d0, .d4, .d3⟩), none⟩,
      ⟨some ⟨.d0, .d0, .d5⟩, .move (.c (.int .i64 7)), none⟩])
    (.ret))
    (.skip)))
  (.seq (.regionD [0, 1, 0, 0, 8, 28, 60, 127, 255, 511] [⟨some ⟨.d0, .d4, .d4⟩, .fieldAddr 1 (.t ⟨.d0, .d0, .d2⟩), none⟩,
    ⟨some ⟨.d0, .d4, .d5⟩, .load false 1 (.t ⟨.d0, .d4, .d4⟩), none⟩,
    ⟨some ⟨.d0, .d4, .d6⟩, .move (.t ⟨.d0, .d0, .d1⟩), none⟩,
    ⟨some ⟨.d0, .d4, .d7⟩, .fieldAddr 0 (.t ⟨.d0, .d0, .d2⟩), none⟩,
    ⟨some ⟨.d0, .d5, .d0⟩, .load false 1 (.t ⟨.d0, .d4, .d7⟩), none⟩,
    ⟨some ⟨.d0, .d5, .d1⟩, .bin .sub (.t ⟨.d0, .d4, .d6⟩) (.t ⟨.d0, .d5, .d0⟩), none⟩,
    ⟨some ⟨.d0, .d5, .d2⟩, .bin .shl (.c (.int .u64 1)) (.t ⟨.d0, .d5, .d1⟩), none⟩,
    ⟨some ⟨.d0, .d5, .d3⟩, .bin .xor (.t ⟨.d0, .d4, .d5⟩) (.t ⟨.d0, .d5, .d2⟩), none⟩,
    ⟨some ⟨.d0, .d5, .d4⟩, .fieldAddr 1 (.t ⟨.d0, .d0, .d2⟩), none⟩,
    ⟨none, .store 1 (.t ⟨.d0, .d5, .d4⟩) (.t ⟨.d0, .d5, .d3⟩), none⟩])
  (.seq (.region [⟨some ⟨.d0, .d5, .d5⟩, .load true 2 (.t ⟨.d0, .d0, .d2⟩), none⟩,
    ⟨none, .store 2 (.t ⟨.d0, .d0, .d4⟩) (.t ⟨.d0, .d5, .d5⟩), none⟩,
    ⟨some ⟨.d0, .d0, .d5⟩, .move (.c (.int .i64 0)), none⟩])
  (.ret)))))
def r_ports_End : List XR := [.cell ⟨.d0, .d0, .d4⟩ true 2, .tmp ⟨.d0, .d0, .d5⟩]
theorem ok_ports_End : okC Tryd.prog Tryd.f6.ntmps (bodyOf Tryd.f6) x_ports_End = true := by kernel_rfl
theorem okr_ports_End : okRs Tryd.prog Tryd.f6.results.toList r_ports_End = true := by kernel_rfl

/-- custref.PortsEnd -/
def x_custref_PortsEnd : XC :=
  .seq (.region [⟨some ⟨.d0, .d0, .d2⟩, .box 0 2 (.t ⟨.d0, .d0, .d0⟩), none⟩,
    ⟨some ⟨.d0, .d0, .d4⟩, .alloc 1 [.int .i64 0, .int .u64 0], none⟩,
    ⟨some ⟨.d0, .d0, .d5⟩, .move (.c (.int .i64 0)), none⟩])
  (.seq (.seq (.region [⟨some ⟨.d0, .d0, .d7⟩, .load true 2 (.t ⟨.d0, .d0, .d2⟩), none⟩,
    ⟨some ⟨.d0, .d1, .d0⟩, .call 9 [(.t ⟨.d0, .d0, .d7⟩)], none⟩,
    ⟨some ⟨.d0, .d0, .d6⟩, .move (.t ⟨.d0, .d1, .d0⟩), none⟩])
  (.seq (.region [⟨some ⟨.d0, .d1, .d1⟩, .move (.t ⟨.d0, .d0, .d6⟩), none⟩,
    ⟨some ⟨.d0, .d1, .d2⟩, .bin .neq (.t ⟨.d0, .d1, .d1⟩) (.c (.int .i64 0)), none⟩])
  (.cond (.t ⟨.d0, .d1, .d2⟩)
    (.seq (.region [⟨some ⟨.d0, .d1, .d3⟩, .build [.int .i64 0, .int .u64 0] [], none⟩,
      ⟨some ⟨.d0, .d1, .d4⟩, .move (.t ⟨.d0, .d0, .d6⟩), none⟩,
      ⟨none, .store 2 (.t ⟨.d0, .d0, .d4⟩) (.t ⟨.d0, .d1, .d3⟩), none⟩,
      ⟨some ⟨.d0, .d0, .d5⟩, .move (.t ⟨.d0, .d1, .d4⟩), none⟩])
    (.ret))
    (.skip))))
  (.seq (.seq (.region [⟨some ⟨.d0, .d1, .d5⟩, .move (.t ⟨.d0, .d0, .d1⟩), none⟩,
    ⟨some ⟨.d0, .d1, .d6⟩, .fieldAddr 0 (.t ⟨.d0, .d0, .d2⟩), none⟩,
    ⟨some ⟨.d0, .d1, .d7⟩, .load false 1 (.t ⟨.d0, .d1, .d6⟩), none⟩,
    ⟨some ⟨.d0, .d2, .d0⟩, .fieldAddr 0 (.t ⟨.d0, .d0, .d2⟩), none⟩,
    ⟨some ⟨.d0, .d2, .d1⟩, .load false 1 (.t ⟨.d0, .d2, .d0⟩), none⟩,
    ⟨some ⟨.d0, .d2, .d2⟩, .bin .add (.t ⟨.d0, .d2, .d1⟩) (.c (.int .i64 63)), none⟩,
    ⟨some ⟨.d0, .d2, .d3⟩, .call 13 [(.t ⟨.d0, .d1, .d5⟩), (.t ⟨.d0, .d1, .d7⟩), (.t ⟨.d0, .d2, .d2⟩)], none⟩,
    ⟨some ⟨.d0, .d2, .d4⟩, .un .not (.t ⟨.d0, .d2, .d3⟩), none⟩,
    ⟨some ⟨.d0, .d2, .d5⟩, .move (.t ⟨.d0, .d2, .d4⟩), none⟩,
    ⟨some ⟨.d0, .d2, .d6⟩, .load true 2 (.t ⟨.d0, .d0, .d2⟩), some (⟨.d0, .d2, .d5⟩, false)⟩,
    ⟨some ⟨.d0, .d2, .d7⟩, .call 10 [(.t ⟨.d0, .d2, .d6⟩)], some (⟨.d0, .d2, .d5⟩, false)⟩,
    ⟨some ⟨.d0, .d3, .d0⟩, .move (.t ⟨.d0, .d0, .d1⟩), some (⟨.d0, .d2, .d5⟩, false)⟩,
    ⟨some ⟨.d0, .d3, .d1⟩, .call 16 [(.t ⟨.d0, .d2, .d7⟩), (.t ⟨.d0, .d3, .d0⟩)], some (⟨.d0, .d2, .d5⟩, false)⟩,
    ⟨some ⟨.d0, .d3, .d2⟩, .pick (.t ⟨.d0, .d2, .d5⟩) (.c (.bool true)) (.t ⟨.d0, .d3, .d1⟩), none⟩])
  (.cond (.t ⟨.d0, .d3, .d2⟩)
    (.seq (.region [⟨some ⟨.d0, .d3, .d3⟩, .build [.int .i64 0, .int .u64 0] [], none⟩,
      ⟨none, .store 2 (.t ⟨.d0, .d0, .d4⟩) (.t ⟨.d0, .d3, .d3⟩), none⟩,
      ⟨some ⟨.d0, .d0, .d5⟩, .move (.c (.int .i64 7)), none⟩])
    (.ret))
    (.skip)))
  (.seq (.regionD [0, 1, 0, 4, 0, 0, 32, 112, 240, 508, 1023, 2047, 4095] [⟨some ⟨.d0, .d3, .d4⟩, .fieldAddr 0 (.t ⟨.d0, .d0, .d2⟩), none⟩,
    ⟨some ⟨.d0, .d3, .d5⟩, .load false 1 (.t ⟨.d0, .d3, .d4⟩), none⟩,
    ⟨some ⟨.d0, .d3, .d6⟩, .fieldAddr 1 (.t ⟨.d0, .d0, .d2⟩), none⟩,
    ⟨some ⟨.d0, .d3, .d7⟩, .load false 1 (.t ⟨.d0, .d3, .d6⟩), none⟩,
    ⟨some ⟨.d0, .d4, .d0⟩, .move (.t ⟨.d0, .d0, .d1⟩), none⟩,
    ⟨some ⟨.d0, .d4, .d1⟩, .fieldAddr 0 (.t ⟨.d0, .d0, .d2⟩), none⟩,
    ⟨some ⟨.d0, .d4, .d2⟩, .load false 1 (.t ⟨.d0, .d4, .d1⟩), none⟩,
    ⟨some ⟨.d0, .d4, .d3⟩, .bin .sub (.t ⟨.d0, .d4, .d0⟩) (.t ⟨.d0, .d4, .d2⟩), none⟩,
    ⟨some ⟨.d0, .d4, .d4⟩, .bin .shl (.c (.int .u64 1)) (.t ⟨.d0, .d4, .d3⟩), none⟩,
    ⟨some ⟨.d0, .d4, .d5⟩, .bin .sub (.t ⟨.d0, .d3, .d7⟩) (.t ⟨.d0, .d4, .d4⟩), none⟩,
    ⟨some ⟨.d0, .d4, .d6⟩, .build [.int .i64 0, .int .u64 0] [(0, 1, (.t ⟨.d0, .d3, .d5⟩)), (1, 1, (.t ⟨.d0, .d4, .d5⟩))], none⟩,
    ⟨none, .store 2 (.t ⟨.d0, .d0, .d4⟩) (.t ⟨.d0, .d4, .d6⟩), none⟩,
    ⟨some ⟨.d0, .d0, .d5⟩, .move (.c (.int .i64 0)), none⟩])
  (.ret))))
def r_custref_PortsEnd : List XR := [.cell ⟨.d0, .d0, .d4⟩ true 2, .tmp ⟨.d0, .d0, .d5⟩]
theorem ok_custref_PortsEnd : okC Tryd.prog Tryd.f7.ntmps (bodyOf Tryd.f7) x_custref_PortsEnd = true := by kernel_rfl
theorem okr_custref_PortsEnd : okRs Tryd.prog Tryd.f7.results.toList r_custref_PortsEnd = true := by kernel_rfl

/-- ports.Free -/
def x_ports_Free : XC :=
  .seq (.region [⟨some ⟨.d0, .d0, .d1⟩, .box 0 2 (.t ⟨.d0, .d0, .d0⟩), none⟩,
    ⟨some ⟨.d0, .d0, .d2⟩, .move (.c (.int .i64 0)), none⟩,
    ⟨some ⟨.d0, .d0, .d3⟩, .move (.c (.int .i64 0)), none⟩])
  (.seq (.seq (.region [⟨some ⟨.d0, .d0, .d5⟩, .load true 2 (.t ⟨.d0, .d0, .d1⟩), none⟩,
    ⟨some ⟨.d0, .d0, .d6⟩, .call 11 [(.t ⟨.d0, .d0, .d5⟩)], none⟩,
    ⟨some ⟨.d0, .d0, .d4⟩, .move (.t ⟨.d0, .d0, .d6⟩), none⟩])
  (.seq (.region [⟨some ⟨.d0, .d0, .d7⟩, .move (.t ⟨.d0, .d0, .d4⟩), none⟩,
    ⟨some ⟨.d0, .d1, .d0⟩, .bin .neq (.t ⟨.d0, .d0, .d7⟩) (.c (.int .i64 0)), none⟩])
  (.cond (.t ⟨.d0, .d1, .d0⟩)
    (.seq (.region [⟨some ⟨.d0, .d1, .d1⟩, .move (.t ⟨.d0, .d0, .d4⟩), none⟩,
      ⟨some ⟨.d0, .d0, .d2⟩, .move (.c (.int .i64 0)), none⟩,
      ⟨some ⟨.d0, .d0, .d3⟩, .move (.t ⟨.d0, .d1, .d1⟩), none⟩])
    (.ret))
    (.skip))))
  (.seq (.region [⟨some ⟨.d0, .d1, .d2⟩, .fieldAddr 1 (.t ⟨.d0, .d0, .d1⟩), none⟩,
    ⟨some ⟨.d0, .d1, .d3⟩, .load false 1 (.t ⟨.d0, .d1, .d2⟩), none⟩,
    ⟨some ⟨.d0, .d1, .d4⟩, .call 17 [(.t ⟨.d0, .d1, .d3⟩)], none⟩,
    ⟨some ⟨.d0, .d1, .d5⟩, .bin .sub (.c (.int .i64 64)) (.t ⟨.d0, .d1, .d4⟩), none⟩,
    ⟨some ⟨.d0, .d0, .d2⟩, .move (.t ⟨.d0, .d1, .d5⟩), none⟩,
    ⟨some ⟨.d0, .d0, .d3⟩, .move (.c (.int .i64 0)), none⟩])
  (.ret)))
def r_ports_Free : List XR := [.tmp ⟨.d0, .d0, .d2⟩, .tmp ⟨.d0, .d0, .d3⟩]
theorem ok_ports_Free : okC Tryd.prog Tryd.f8.ntmps (bodyOf Tryd.f8) x_ports_Free = true := by kernel_rfl
theorem okr_ports_Free : okRs Tryd.prog Tryd.f8.results.toList r_ports_Free = true := by kernel_rfl

/-- custref.PortsRight -/
def x_custref_PortsRight : XC :=
  .seq (.region [⟨some ⟨.d0, .d0, .d1⟩, .box 0 2 (.t ⟨.d0, .d0, .d0⟩), none⟩,
    ⟨some ⟨.d0, .d0, .d2⟩, .move (.c (.int .i64 0)), none⟩])
  (.seq (.seq (.region [⟨some ⟨.d0, .d0, .d3⟩, .fieldAddr 0 (.t ⟨.d0, .d0, .d1⟩), none⟩,
    ⟨some ⟨.d0, .d0, .d4⟩, .load false 1 (.t ⟨.d0, .d0, .d3⟩), none⟩,
    ⟨some ⟨.d0, .d0, .d5⟩, .call 13 [(.t ⟨.d0, .d0, .d4⟩), (.c (.int .i64 64)), (.c (.int .i64 65472))], none⟩,
    ⟨some ⟨.d0, .d0, .d6⟩, .un .not (.t ⟨.d0, .d0, .d5⟩), none⟩,
    ⟨some ⟨.d0, .d0, .d7⟩, .move (.t ⟨.d0, .d0, .d6⟩), none⟩,
    ⟨some ⟨.d0, .d1, .d0⟩, .fieldAddr 0 (.t ⟨.d0, .d0, .d1⟩), some (⟨.d0, .d0, .d7⟩, false)⟩,
    ⟨some ⟨.d0, .d1, .d1⟩, .load false 1 (.t ⟨.d0, .d1, .d0⟩), some (⟨.d0, .d0, .d7⟩, false)⟩,
    ⟨some ⟨.d0, .d1, .d2⟩, .bin .rem (.t ⟨.d0, .d1, .d1⟩) (.c (.int .i64 64)), some (⟨.d0, .d0, .d7⟩, false)⟩,
    ⟨some ⟨.d0, .d1, .d3⟩, .bin .neq (.t ⟨.d0, .d1, .d2⟩) (.c (.int .i64 0)), some (⟨.d0, .d0, .d7⟩, false)⟩,
    ⟨some ⟨.d0, .d1, .d4⟩, .pick (.t ⟨.d0, .d0, .d7⟩) (.c (.bool true)) (.t ⟨.d0, .d1, .d3⟩), none⟩])
  (.cond (.t ⟨.d0, .d1, .d4⟩)
    (.seq (.region [⟨some ⟨.d0, .d0, .d2⟩, .move (.c (.int .i64 1)), none⟩])
    (.ret))
    (.skip)))
  (.seq (.region [⟨some ⟨.d0, .d0, .d2⟩, .move (.c (.int .i64 0)), none⟩])
  (.ret)))
def r_custref_PortsRight : List XR := [.tmp ⟨.d0, .d0, .d2⟩]
theorem ok_custref_PortsRight : okC Tryd.prog Tryd.f9.ntmps (bodyOf Tryd.f9) x_custref_PortsRight = true := by kernel_rfl
theorem okr_custref_PortsRight : okRs Tryd.prog Tryd.f9.results.toList r_custref_PortsRight = true := by kernel_rfl

/-- custref.FreePorts -/
def x_custref_FreePorts : XC :=
  .seq (.region [⟨some ⟨.d0, .d0, .d1⟩, .box 0 2 (.t ⟨.d0, .d0, .d0⟩), none⟩,
    ⟨some ⟨.d0, .d0, .d2⟩, .move (.c (.slice none 0 0)), none⟩])
  (.seq (.region [⟨some ⟨.d0, .d0, .d3⟩, .move (.c (.slice none 0 0)), none⟩])
  (.seq (.region [⟨some ⟨.d0, .d0, .d6⟩, .fieldAddr 1 (.t ⟨.d0, .d0, .d1⟩), none⟩,
    ⟨some ⟨.d0, .d0, .d7⟩, .load false 1 (.t ⟨.d0, .d0, .d6⟩), none⟩,
    ⟨some ⟨.d0, .d0, .d4⟩, .move (.t ⟨.d0, .d0, .d7⟩), none⟩])
  (.seq (.seq (.region [⟨some ⟨.d0, .d1, .d0⟩, .move (.c (.int .i64 0)), none⟩])
  (.block 0
    (.loop
      (.seq (.region [⟨some ⟨.d0, .d1, .d1⟩, .bin .lss (.t ⟨.d0, .d1, .d0⟩) (.c (.int .i64 64)), none⟩])
      (.seq (.cond (.t ⟨.d0, .d1, .d1⟩)
        (.skip)
        (.exit 0))
      (.seq (.block 1
        (.seq (.region [⟨some ⟨.d0, .d1, .d2⟩, .move (.t ⟨.d0, .d1, .d0⟩), none⟩,
          ⟨some ⟨.d0, .d0, .d5⟩, .move (.t ⟨.d0, .d1, .d2⟩), none⟩])
        (.seq (.seq (.region [⟨some ⟨.d0, .d1, .d3⟩, .move (.t ⟨.d0, .d0, .d4⟩), none⟩,
          ⟨some ⟨.d0, .d1, .d4⟩, .bin .rem (.t ⟨.d0, .d1, .d3⟩) (.c (.int .u64 2)), none⟩,
          ⟨some ⟨.d0, .d1, .d5⟩, .bin .eql (.t ⟨.d0, .d1, .d4⟩) (.c (.int .u64 0)), none⟩])
        (.cond (.t ⟨.d0, .d1, .d5⟩)
          (.region [⟨some ⟨.d0, .d1, .d6⟩, .move (.t ⟨.d0, .d0, .d3⟩), none⟩,
            ⟨some ⟨.d0, .d1, .d7⟩, .fieldAddr 0 (.t ⟨.d0, .d0, .d1⟩), none⟩,
            ⟨some ⟨.d0, .d2, .d0⟩, .load false 1 (.t ⟨.d0, .d1, .d7⟩), none⟩,
            ⟨some ⟨.d0, .d2, .d1⟩, .move (.t ⟨.d0, .d0, .d5⟩), none⟩,
            ⟨some ⟨.d0, .d2, .d2⟩, .bin .add (.t ⟨.d0, .d2, .d0⟩) (.t ⟨.d0, .d2, .d1⟩), none⟩,
            ⟨some ⟨.d0, .d2, .d3⟩, .buildSlice 1 1 [.int .i64 0] [(0, (.t ⟨.d0, .d2, .d2⟩))], none⟩,
            ⟨some ⟨.d0, .d2, .d4⟩, .append 2 1 8 (.t ⟨.d0, .d1, .d6⟩) (.t ⟨.d0, .d2, .d3⟩), none⟩,
            ⟨some ⟨.d0, .d0, .d3⟩, .move (.t ⟨.d0, .d2, .d4⟩), none⟩])
          (.skip)))
        (.region [⟨some ⟨.d0, .d2, .d5⟩, .move (.t ⟨.d0, .d0, .d4⟩), none⟩,
          ⟨some ⟨.d0, .d2, .d6⟩, .bin .quo (.t ⟨.d0, .d2, .d5⟩) (.c (.int .u64 2)), none⟩,
          ⟨some ⟨.d0, .d0, .d4⟩, .move (.t ⟨.d0, .d2, .d6⟩), none⟩]))))
      (.region [⟨some ⟨.d0, .d2, .d7⟩, .bin .add (.t ⟨.d0, .d1, .d0⟩) (.c (.int .i64 1)), none⟩,
        ⟨some ⟨.d0, .d1, .d0⟩, .move (.t ⟨.d0, .d2, .d7⟩), none⟩])))))))
  (.seq (.region [⟨some ⟨.d0, .d3, .d0⟩, .move (.t ⟨.d0, .d0, .d3⟩), none⟩,
    ⟨some ⟨.d0, .d0, .d2⟩, .move (.t ⟨.d0, .d3, .d0⟩), none⟩])
  (.ret)))))
def r_custref_FreePorts : List XR := [.tmp ⟨.d0, .d0, .d2⟩]
theorem ok_custref_FreePorts : okC Tryd.prog Tryd.f10.ntmps (bodyOf Tryd.f10) x_custref_FreePorts = true := by kernel_rfl
theorem okr_custref_FreePorts : okRs Tryd.prog Tryd.f10.results.toList r_custref_FreePorts = true := by kernel_rfl

/-- ports.Check -/
def x_ports_Check : XC :=
  .seq (.region [⟨some ⟨.d0, .d0, .d1⟩, .box 0 2 (.t ⟨.d0, .d0, .d0⟩), none⟩,
    ⟨some ⟨.d0, .d0, .d2⟩, .move (.c (.int .i64 0)), none⟩])
  (.seq (.seq (.region [⟨some ⟨.d0, .d0, .d3⟩, .fieldAddr 0 (.t ⟨.d0, .d0, .d1⟩), none⟩,
    ⟨some ⟨.d0, .d0, .d4⟩, .load false 1 (.t ⟨.d0, .d0, .d3⟩), none⟩,
    ⟨some ⟨.d0, .d0, .d5⟩, .bin .lss (.t ⟨.d0, .d0, .d4⟩) (.c (.int .i64 64)), none⟩,
    ⟨some ⟨.d0, .d0, .d6⟩, .move (.t ⟨.d0, .d0, .d5⟩), none⟩,
    ⟨some ⟨.d0, .d0, .d7⟩, .fieldAddr 0 (.t ⟨.d0, .d0, .d1⟩), some (⟨.d0, .d0, .d6⟩, false)⟩,
    ⟨some ⟨.d0, .d1, .d0⟩, .load false 1 (.t ⟨.d0, .d0, .d7⟩), some (⟨.d0, .d0, .d6⟩, false)⟩,
    ⟨some ⟨.d0, .d1, .d1⟩, .bin .gtr (.t ⟨.d0, .d1, .d0⟩) (.c (.int .i64 65472)), some (⟨.d0, .d0, .d6⟩, false)⟩,
    ⟨some ⟨.d0, .d1, .d2⟩, .pick (.t ⟨.d0, .d0, .d6⟩) (.c (.bool true)) (.t ⟨.d0, .d1, .d1⟩), none⟩,
    ⟨some ⟨.d0, .d1, .d3⟩, .move (.t ⟨.d0, .d1, .d2⟩), none⟩,
    ⟨some ⟨.d0, .d1, .d4⟩, .fieldAddr 0 (.t ⟨.d0, .d0, .d1⟩), some (⟨.d0, .d1, .d3⟩, false)⟩,
    ⟨some ⟨.d0, .d1, .d5⟩, .load false 1 (.t ⟨.d0, .d1, .d4⟩), some (⟨.d0, .d1, .d3⟩, false)⟩,
    ⟨some ⟨.d0, .d1, .d6⟩, .bin .rem (.t ⟨.d0, .d1, .d5⟩) (.c (.int .i64 64)), some (⟨.d0, .d1, .d3⟩, false)⟩,
    ⟨some ⟨.d0, .d1, .d7⟩, .bin .neq (.t ⟨.d0, .d1, .d6⟩) (.c (.int .i64 0)), some (⟨.d0, .d1, .d3⟩, false)⟩,
    ⟨some ⟨.d0, .d2, .d0⟩, .pick (.t ⟨.d0, .d1, .d3⟩) (.c (.bool true)) (.t ⟨.d0, .d1, .d7⟩), none⟩])
  (.cond (.t ⟨.d0, .d2, .d0⟩)
    (.seq (.region [⟨some ⟨.d0, .d0, .d2⟩, .move (.c (.int .i64 1)), none⟩])
    (.ret))
    (.skip)))
  (.seq (.region [⟨some ⟨.d0, .d0, .d2⟩, .move (.c (.int .i64 0)), none⟩])
  (.ret)))
def r_ports_Check : List XR := [.tmp ⟨.d0, .d0, .d2⟩]
theorem ok_ports_Check : okC Tryd.prog Tryd.f11.ntmps (bodyOf Tryd.f11) x_ports_Check = true := by kernel_rfl
theorem okr_ports_Check : okRs Tryd.prog Tryd.f11.results.toList r_ports_Check = true := by kernel_rfl

/-- bits.TrailingZeros64 -/
def x_bits_TrailingZeros64 : XC :=
  .seq (.region [⟨some ⟨.d0, .d0, .d2⟩, .move (.c (.int .i64 0)), none⟩])
  (.seq (.seq (.region [⟨some ⟨.d0, .d0, .d3⟩, .move (.t ⟨.d0, .d0, .d0⟩), none⟩,
    ⟨some ⟨.d0, .d0, .d4⟩, .bin .eql (.t ⟨.d0, .d0, .d3⟩) (.c (.int .u64 0)), none⟩])
  (.cond (.t ⟨.d0, .d0, .d4⟩)
    (.seq (.region [⟨some ⟨.d0, .d0, .d2⟩, .move (.c (.int .i64 64)), none⟩])
    (.ret))
    (.skip)))
  (.seq (.region [⟨some ⟨.d0, .d0, .d5⟩, .move (.t ⟨.d0, .d0, .d0⟩), none⟩,
    ⟨some ⟨.d0, .d0, .d6⟩, .move (.t ⟨.d0, .d0, .d0⟩), none⟩,
    ⟨some ⟨.d0, .d0, .d7⟩, .un .neg (.t ⟨.d0, .d0, .d6⟩), none⟩,
    ⟨some ⟨.d0, .d1, .d0⟩, .bin .and (.t ⟨.d0, .d0, .d5⟩) (.t ⟨.d0, .d0, .d7⟩), none⟩,
    ⟨some ⟨.d0, .d1, .d1⟩, .bin .mul (.t ⟨.d0, .d1, .d0⟩) (.c (.int .u64 285870213051353865)), none⟩,
    ⟨some ⟨.d0, .d1, .d2⟩, .bin .shr (.t ⟨.d0, .d1, .d1⟩) (.c (.int .u64 58)), none⟩,
    ⟨some ⟨.d0, .d1, .d3⟩, .gidx 1 64 0 (.t ⟨.d0, .d1, .d2⟩), none⟩,
    ⟨some ⟨.d0, .d1, .d4⟩, .load false 1 (.t ⟨.d0, .d1, .d3⟩), none⟩,
    ⟨some ⟨.d0, .d1, .d5⟩, .convInt .i64 (.t ⟨.d0, .d1, .d4⟩), none⟩,
    ⟨some ⟨.d0, .d0, .d2⟩, .move (.t ⟨.d0, .d1, .d5⟩), none⟩])
  (.ret)))
def r_bits_TrailingZeros64 : List XR := [.tmp ⟨.d0, .d0, .d2⟩]
theorem ok_bits_TrailingZeros64 : okC Tryd.prog Tryd.f12.ntmps (bodyOf Tryd.f12) x_bits_TrailingZeros64 = true := by kernel_rfl
theorem okr_bits_TrailingZeros64 : okRs Tryd.prog Tryd.f12.results.toList r_bits_TrailingZeros64 = true := by kernel_rfl

/-- custref.Between -/
def x_custref_Between : XC :=
  .seq (.region [⟨some ⟨.d0, .d0, .d6⟩, .move (.c (.bool false)), none⟩])
  (.seq (.region [⟨some ⟨.d0, .d0, .d7⟩, .move (.t ⟨.d0, .d0, .d1⟩), none⟩,
    ⟨some ⟨.d0, .d1, .d0⟩, .move (.t ⟨.d0, .d0, .d0⟩), none⟩,
    ⟨some ⟨.d0, .d1, .d1⟩, .bin .leq (.t ⟨.d0, .d0, .d7⟩) (.t ⟨.d0, .d1, .d0⟩), none⟩,
    ⟨some ⟨.d0, .d1, .d2⟩, .move (.t ⟨.d0, .d1, .d1⟩), none⟩,
    ⟨some ⟨.d0, .d1, .d3⟩, .move (.t ⟨.d0, .d0, .d0⟩), some (⟨.d0, .d1, .d2⟩, true)⟩,
    ⟨some ⟨.d0, .d1, .d4⟩, .move (.t ⟨.d0, .d0, .d2⟩), some (⟨.d0, .d1, .d2⟩, true)⟩,
    ⟨some ⟨.d0, .d1, .d5⟩, .bin .leq (.t ⟨.d0, .d1, .d3⟩) (.t ⟨.d0, .d1, .d4⟩), some (⟨.d0, .d1, .d2⟩, true)⟩,
    ⟨some ⟨.d0, .d1, .d6⟩, .pick (.t ⟨.d0, .d1, .d2⟩) (.t ⟨.d0, .d1, .d5⟩) (.c (.bool false)), none⟩,
    ⟨some ⟨.d0, .d0, .d6⟩, .move (.t ⟨.d0, .d1, .d6⟩), none⟩])
  (.ret))
def r_custref_Between : List XR := [.tmp ⟨.d0, .d0, .d6⟩]
theorem ok_custref_Between : okC Tryd.prog Tryd.f13.ntmps (bodyOf Tryd.f13) x_custref_Between = true := by kernel_rfl
theorem okr_custref_Between : okRs Tryd.prog Tryd.f13.results.toList r_custref_Between = true := by kernel_rfl

/-- slices.IndexFunc -/
def x_slices_IndexFunc_int : XC :=
  .seq (.region [⟨some ⟨.d0, .d0, .d4⟩, .move (.c (.int .i64 0)), none⟩])
  (.seq (.seq (.region [⟨some ⟨.d0, .d0, .d6⟩, .move (.t ⟨.d0, .d0, .d0⟩), none⟩,
    ⟨some ⟨.d0, .d0, .d7⟩, .len (.t ⟨.d0, .d0, .d6⟩), none⟩,
    ⟨some ⟨.d0, .d1, .d0⟩, .move (.c (.int .i64 0)), none⟩])
  (.block 0
    (.loop
      (.seq (.region [⟨some ⟨.d0, .d1, .d1⟩, .bin .lss (.t ⟨.d0, .d1, .d0⟩) (.t ⟨.d0, .d0, .d7⟩), none⟩])
      (.seq (.cond (.t ⟨.d0, .d1, .d1⟩)
        (.skip)
        (.exit 0))
      (.seq (.block 1
        (.seq (.region [⟨some ⟨.d0, .d1, .d2⟩, .move (.t ⟨.d0, .d1, .d0⟩), none⟩,
          ⟨some ⟨.d0, .d0, .d5⟩, .move (.t ⟨.d0, .d1, .d2⟩), none⟩])
        (.seq (.region [⟨some ⟨.d0, .d1, .d3⟩, .move (.t ⟨.d0, .d0, .d1⟩), none⟩,
          ⟨some ⟨.d0, .d1, .d4⟩, .move (.t ⟨.d0, .d0, .d0⟩), none⟩,
          ⟨some ⟨.d0, .d1, .d5⟩, .move (.t ⟨.d0, .d0, .d5⟩), none⟩,
          ⟨some ⟨.d0, .d1, .d6⟩, .indexSl 1 (.t ⟨.d0, .d1, .d4⟩) (.t ⟨.d0, .d1, .d5⟩), none⟩,
          ⟨some ⟨.d0, .d1, .d7⟩, .load false 1 (.t ⟨.d0, .d1, .d6⟩), none⟩,
          ⟨some ⟨.d0, .d2, .d0⟩, .callv (.t ⟨.d0, .d1, .d3⟩) [(.t ⟨.d0, .d1, .d7⟩)], none⟩])
        (.cond (.t ⟨.d0, .d2, .d0⟩)
          (.seq (.region [⟨some ⟨.d0, .d2, .d1⟩, .move (.t ⟨.d0, .d0, .d5⟩), none⟩,
            ⟨some ⟨.d0, .d0, .d4⟩, .move (.t ⟨.d0, .d2, .d1⟩), none⟩])
          (.ret))
          (.skip)))))
      (.region [⟨some ⟨.d0, .d2, .d2⟩, .bin .add (.t ⟨.d0, .d1, .d0⟩) (.c (.int .i64 1)), none⟩,
        ⟨some ⟨.d0, .d1, .d0⟩, .move (.t ⟨.d0, .d2, .d2⟩), none⟩])))))))
  (.seq (.region [⟨some ⟨.d0, .d0, .d4⟩, .move (.c (.int .i64 (-1))), none⟩])
  (.ret)))
def r_slices_IndexFunc_int : List XR := [.tmp ⟨.d0, .d0, .d4⟩]
theorem ok_slices_IndexFunc_int : okC Tryd.prog Tryd.f14.ntmps (bodyOf Tryd.f14) x_slices_IndexFunc_int = true := by kernel_rfl
theorem okr_slices_IndexFunc_int : okRs Tryd.prog Tryd.f14.results.toList r_slices_IndexFunc_int = true := by kernel_rfl

/-- custref.PortsLet-1 -/
def x_custref_PortsLet_1 : XC :=
  .seq (.region [⟨some ⟨.d0, .d0, .d3⟩, .move (.c (.bool false)), none⟩])
  (.seq (.region [⟨some ⟨.d0, .d0, .d4⟩, .move (.t ⟨.d0, .d0, .d0⟩), none⟩,
    ⟨some ⟨.d0, .d0, .d5⟩, .bin .rem (.t ⟨.d0, .d0, .d4⟩) (.c (.int .i64 2)), none⟩,
    ⟨some ⟨.d0, .d0, .d6⟩, .load false 1 (.t ⟨.d0, .d0, .d1⟩), none⟩,
    ⟨some ⟨.d0, .d0, .d7⟩, .bin .rem (.t ⟨.d0, .d0, .d6⟩) (.c (.int .i64 2)), none⟩,
    ⟨some ⟨.d0, .d1, .d0⟩, .bin .eql (.t ⟨.d0, .d0, .d5⟩) (.t ⟨.d0, .d0, .d7⟩), none⟩,
    ⟨some ⟨.d0, .d0, .d3⟩, .move (.t ⟨.d0, .d1, .d0⟩), none⟩])
  (.ret))
def r_custref_PortsLet_1 : List XR := [.tmp ⟨.d0, .d0, .d3⟩]
theorem ok_custref_PortsLet_1 : okC Tryd.prog Tryd.f15.ntmps (bodyOf Tryd.f15) x_custref_PortsLet_1 = true := by kernel_rfl
theorem okr_custref_PortsLet_1 : okRs Tryd.prog Tryd.f15.results.toList r_custref_PortsLet_1 = true := by kernel_rfl

/-- slices.Contains -/
def x_slices_Contains_int : XC :=
  .seq (.region [⟨some ⟨.d0, .d0, .d4⟩, .move (.c (.bool false)), none⟩])
  (.seq (.region [⟨some ⟨.d0, .d0, .d5⟩, .move (.t ⟨.d0, .d0, .d0⟩), none⟩,
    ⟨some ⟨.d0, .d0, .d6⟩, .move (.t ⟨.d0, .d0, .d1⟩), none⟩,
    ⟨some ⟨.d0, .d0, .d7⟩, .call 18 [(.t ⟨.d0, .d0, .d5⟩), (.t ⟨.d0, .d0, .d6⟩)], none⟩,
    ⟨some ⟨.d0, .d1, .d0⟩, .bin .geq (.t ⟨.d0, .d0, .d7⟩) (.c (.int .i64 0)), none⟩,
    ⟨some ⟨.d0, .d0, .d4⟩, .move (.t ⟨.d0, .d1, .d0⟩), none⟩])
  (.ret))
def r_slices_Contains_int : List XR := [.tmp ⟨.d0, .d0, .d4⟩]
theorem ok_slices_Contains_int : okC Tryd.prog Tryd.f16.ntmps (bodyOf Tryd.f16) x_slices_Contains_int = true := by kernel_rfl
theorem okr_slices_Contains_int : okRs Tryd.prog Tryd.f16.results.toList r_slices_Contains_int = true := by kernel_rfl

/-- bits.OnesCount64 -/
def x_bits_OnesCount64 : XC :=
  .seq (.region [⟨some ⟨.d0, .d0, .d2⟩, .move (.c (.int .i64 0)), none⟩])
  (.seq (.region [⟨some ⟨.d0, .d0, .d3⟩, .move (.t ⟨.d0, .d0, .d0⟩), none⟩,
    ⟨some ⟨.d0, .d0, .d4⟩, .bin .shr (.t ⟨.d0, .d0, .d3⟩) (.c (.int .u64 1)), none⟩,
    ⟨some ⟨.d0, .d0, .d5⟩, .bin .and (.t ⟨.d0, .d0, .d4⟩) (.c (.int .u64 6148914691236517205)), none⟩,
    ⟨some ⟨.d0, .d0, .d6⟩, .move (.t ⟨.d0, .d0, .d0⟩), none⟩,
    ⟨some ⟨.d0, .d0, .d7⟩, .bin .and (.t ⟨.d0, .d0, .d6⟩) (.c (.int .u64 6148914691236517205)), none⟩,
    ⟨some ⟨.d0, .d1, .d0⟩, .bin .add (.t ⟨.d0, .d0, .d5⟩) (.t ⟨.d0, .d0, .d7⟩), none⟩,
    ⟨some ⟨.d0, .d0, .d0⟩, .move (.t ⟨.d0, .d1, .d0⟩), none⟩])
  (.seq (.region [⟨some ⟨.d0, .d1, .d1⟩, .move (.t ⟨.d0, .d0, .d0⟩), none⟩,
    ⟨some ⟨.d0, .d1, .d2⟩, .bin .shr (.t ⟨.d0, .d1, .d1⟩) (.c (.int .u64 2)), none⟩,
    ⟨some ⟨.d0, .d1, .d3⟩, .bin .and (.t ⟨.d0, .d1, .d2⟩) (.c (.int .u64 3689348814741910323)), none⟩,
    ⟨some ⟨.d0, .d1, .d4⟩, .move (.t ⟨.d0, .d0, .d0⟩), none⟩,
    ⟨some ⟨.d0, .d1, .d5⟩, .bin .and (.t ⟨.d0, .d1, .d4⟩) (.c (.int .u64 3689348814741910323)), none⟩,
    ⟨some ⟨.d0, .d1, .d6⟩, .bin .add (.t ⟨.d0, .d1, .d3⟩) (.t ⟨.d0, .d1, .d5⟩), none⟩,
    ⟨some ⟨.d0, .d0, .d0⟩, .move (.t ⟨.d0, .d1, .d6⟩), none⟩])
  (.seq (.region [⟨some ⟨.d0, .d1, .d7⟩, .move (.t ⟨.d0, .d0, .d0⟩), none⟩,
    ⟨some ⟨.d0, .d2, .d0⟩, .bin .shr (.t ⟨.d0, .d1, .d7⟩) (.c (.int .u64 4)), none⟩,
    ⟨some ⟨.d0, .d2, .d1⟩, .move (.t ⟨.d0, .d0, .d0⟩), none⟩,
    ⟨some ⟨.d0, .d2, .d2⟩, .bin .add (.t ⟨.d0, .d2, .d0⟩) (.t ⟨.d0, .d2, .d1⟩), none⟩,
    ⟨some ⟨.d0, .d2, .d3⟩, .bin .and (.t ⟨.d0, .d2, .d2⟩) (.c (.int .u64 1085102592571150095)), none⟩,
    ⟨some ⟨.d0, .d0, .d0⟩, .move (.t ⟨.d0, .d2, .d3⟩), none⟩])
  (.seq (.region [⟨some ⟨.d0, .d2, .d4⟩, .move (.t ⟨.d0, .d0, .d0⟩), none⟩,
    ⟨some ⟨.d0, .d2, .d5⟩, .move (.t ⟨.d0, .d0, .d0⟩), none⟩,
    ⟨some ⟨.d0, .d2, .d6⟩, .bin .shr (.t ⟨.d0, .d2, .d5⟩) (.c (.int .u64 8)), none⟩,
    ⟨some ⟨.d0, .d2, .d7⟩, .bin .add (.t ⟨.d0, .d2, .d4⟩) (.t ⟨.d0, .d2, .d6⟩), none⟩,
    ⟨some ⟨.d0, .d0, .d0⟩, .move (.t ⟨.d0, .d2, .d7⟩), none⟩])
  (.seq (.region [⟨some ⟨.d0, .d3, .d0⟩, .move (.t ⟨.d0, .d0, .d0⟩), none⟩,
    ⟨some ⟨.d0, .d3, .d1⟩, .move (.t ⟨.d0, .d0, .d0⟩), none⟩,
    ⟨some ⟨.d0, .d3, .d2⟩, .bin .shr (.t ⟨.d0, .d3, .d1⟩) (.c (.int .u64 16)), none⟩,
    ⟨some ⟨.d0, .d3, .d3⟩, .bin .add (.t ⟨.d0, .d3, .d0⟩) (.t ⟨.d0, .d3, .d2⟩), none⟩,
    ⟨some ⟨.d0, .d0, .d0⟩, .move (.t ⟨.d0, .d3, .d3⟩), none⟩])
  (.seq (.region [⟨some ⟨.d0, .d3, .d4⟩, .move (.t ⟨.d0, .d0, .d0⟩), none⟩,
    ⟨some ⟨.d0, .d3, .d5⟩, .move (.t ⟨.d0, .d0, .d0⟩), none⟩,
    ⟨some ⟨.d0, .d3, .d6⟩, .bin .shr (.t ⟨.d0, .d3, .d5⟩) (.c (.int .u64 32)), none⟩,
    ⟨some ⟨.d0, .d3, .d7⟩, .bin .add (.t ⟨.d0, .d3, .d4⟩) (.t ⟨.d0, .d3, .d6⟩), none⟩,
    ⟨some ⟨.d0, .d0, .d0⟩, .move (.t ⟨.d0, .d3, .d7⟩), none⟩])
  (.seq (.region [⟨some ⟨.d0, .d4, .d0⟩, .move (.t ⟨.d0, .d0, .d0⟩), none⟩,
    ⟨some ⟨.d0, .d4, .d1⟩, .convInt .i64 (.t ⟨.d0, .d4, .d0⟩), none⟩,
    ⟨some ⟨.d0, .d4, .d2⟩, .bin .and (.t ⟨.d0, .d4, .d1⟩) (.c (.int .i64 127)), none⟩,
    ⟨some ⟨.d0, .d0, .d2⟩, .move (.t ⟨.d0, .d4, .d2⟩), none⟩])
  (.ret))))))))
def r_bits_OnesCount64 : List XR := [.tmp ⟨.d0, .d0, .d2⟩]
theorem ok_bits_OnesCount64 : okC Tryd.prog Tryd.f17.ntmps (bodyOf Tryd.f17) x_bits_OnesCount64 = true := by kernel_rfl
theorem okr_bits_OnesCount64 : okRs Tryd.prog Tryd.f17.results.toList r_bits_OnesCount64 = true := by kernel_rfl

/-- slices.Index -/
def x_slices_Index_int : XC :=
  .seq (.region [⟨some ⟨.d0, .d0, .d4⟩, .move (.c (.int .i64 0)), none⟩])
  (.seq (.seq (.region [⟨some ⟨.d0, .d0, .d6⟩, .move (.t ⟨.d0, .d0, .d0⟩), none⟩,
    ⟨some ⟨.d0, .d0, .d7⟩, .len (.t ⟨.d0, .d0, .d6⟩), none⟩,
    ⟨some ⟨.d0, .d1, .d0⟩, .move (.c (.int .i64 0)), none⟩])
  (.block 0
    (.loop
      (.seq (.region [⟨some ⟨.d0, .d1, .d1⟩, .bin .lss (.t ⟨.d0, .d1, .d0⟩) (.t ⟨.d0, .d0, .d7⟩), none⟩])
      (.seq (.cond (.t ⟨.d0, .d1, .d1⟩)
        (.skip)
        (.exit 0))
      (.seq (.block 1
        (.seq (.region [⟨some ⟨.d0, .d1, .d2⟩, .move (.t ⟨.d0, .d1, .d0⟩), none⟩,
          ⟨some ⟨.d0, .d0, .d5⟩, .move (.t ⟨.d0, .d1, .d2⟩), none⟩])
        (.seq (.region [⟨some ⟨.d0, .d1, .d3⟩, .move (.t ⟨.d0, .d0, .d1⟩), none⟩,
          ⟨some ⟨.d0, .d1, .d4⟩, .move (.t ⟨.d0, .d0, .d0⟩), none⟩,
          ⟨some ⟨.d0, .d1, .d5⟩, .move (.t ⟨.d0, .d0, .d5⟩), none⟩,
          ⟨some ⟨.d0, .d1, .d6⟩, .indexSl 1 (.t ⟨.d0, .d1, .d4⟩) (.t ⟨.d0, .d1, .d5⟩), none⟩,
          ⟨some ⟨.d0, .d1, .d7⟩, .load false 1 (.t ⟨.d0, .d1, .d6⟩), none⟩,
          ⟨some ⟨.d0, .d2, .d0⟩, .bin .eql (.t ⟨.d0, .d1, .d3⟩) (.t ⟨.d0, .d1, .d7⟩), none⟩])
        (.cond (.t ⟨.d0, .d2, .d0⟩)
          (.seq (.region [⟨some ⟨.d0, .d2, .d1⟩, .move (.t ⟨.d0, .d0, .d5⟩), none⟩,
            ⟨some ⟨.d0, .d0, .d4⟩, .move (.t ⟨.d0, .d2, .d1⟩), none⟩])
          (.ret))
          (.skip)))))
      (.region [⟨some ⟨.d0, .d2, .d2⟩, .bin .add (.t ⟨.d0, .d1, .d0⟩) (.c (.int .i64 1)), none⟩,
        ⟨some ⟨.d0, .d1, .d0⟩, .move (.t ⟨.d0, .d2, .d2⟩), none⟩])))))))
  (.seq (.region [⟨some ⟨.d0, .d0, .d4⟩, .move (.c (.int .i64 (-1))), none⟩])
  (.ret)))
def r_slices_Index_int : List XR := [.tmp ⟨.d0, .d0, .d4⟩]
theorem ok_slices_Index_int : okC Tryd.prog Tryd.f18.ntmps (bodyOf Tryd.f18) x_slices_Index_int = true := by kernel_rfl
theorem okr_slices_Index_int : okRs Tryd.prog Tryd.f18.results.toList r_slices_Index_int = true := by kernel_rfl
end Go.Proofs.YtecnnfhebcnkbaaDoor
