/-
  The functions of the program in short form, and that the model's code is what they stand for. Printed by xgen.py.
-/
import Derived.Test.YtkpechddgjbfkaaFw
import Derived.Test.YtkpechddgjbfkaaProg
import Derived.KernelRfl
namespace Go.Proofs.Ytkpechddgjbfkaa
set_option linter.unusedVariables false
set_option maxRecDepth 100000

/-- custlaw.TrackFinds -/
def x_custlaw_TrackFinds : XC :=
  .seq (.region [⟨some ⟨.d0, .d0, .d4⟩, .box 0 4 (.t ⟨.d0, .d0, .d1⟩), none⟩,
    ⟨some ⟨.d0, .d0, .d6⟩, .move (.c (.bool false)), none⟩])
  (.seq (.region [⟨some ⟨.d0, .d2, .d0⟩, .move (.t ⟨.d0, .d0, .d0⟩), none⟩,
    ⟨some ⟨.d0, .d2, .d1⟩, .load true 4 (.t ⟨.d0, .d0, .d4⟩), none⟩,
    ⟨some ⟨.d0, .d2, .d2⟩, .move (.t ⟨.d0, .d0, .d2⟩), none⟩,
    ⟨some ⟨.d0, .d2, .d3⟩, .call 19 [(.t ⟨.d0, .d2, .d0⟩), (.t ⟨.d0, .d2, .d1⟩), (.t ⟨.d0, .d2, .d2⟩)], none⟩,
    ⟨some ⟨.d0, .d1, .d7⟩, .move (.t ⟨.d0, .d2, .d3⟩), none⟩,
    ⟨some ⟨.d0, .d2, .d4⟩, .extract 0 (.t ⟨.d0, .d1, .d7⟩), none⟩,
    ⟨some ⟨.d0, .d2, .d5⟩, .extract 1 (.t ⟨.d0, .d1, .d7⟩), none⟩,
    ⟨some ⟨.d0, .d2, .d6⟩, .extract 2 (.t ⟨.d0, .d1, .d7⟩), none⟩,
    ⟨some ⟨.d0, .d0, .d7⟩, .alloc 1 [.int .u32 0, .int .u32 0, .int .i64 0, .int .i64 0, .int .i64 0, .int .i64 0, .int .i64 0], none⟩,
    ⟨none, .store 7 (.t ⟨.d0, .d0, .d7⟩) (.t ⟨.d0, .d2, .d4⟩), none⟩,
    ⟨some ⟨.d0, .d1, .d0⟩, .move (.t ⟨.d0, .d2, .d5⟩), none⟩,
    ⟨some ⟨.d0, .d1, .d1⟩, .move (.t ⟨.d0, .d2, .d6⟩), none⟩])
  (.seq (.region [⟨some ⟨.d0, .d2, .d7⟩, .build [.int .u32 0, .int .u32 0, .int .i64 0, .int .i64 0, .int .i64 0, .int .i64 0, .int .i64 0] [], none⟩,
    ⟨some ⟨.d0, .d3, .d0⟩, .move (.t ⟨.d0, .d0, .d0⟩), none⟩,
    ⟨some ⟨.d0, .d3, .d1⟩, .call 20 [(.t ⟨.d0, .d3, .d0⟩)], none⟩,
    ⟨some ⟨.d0, .d1, .d2⟩, .alloc 2 [.int .u32 0, .int .u32 0, .int .i64 0, .int .i64 0, .int .i64 0, .int .i64 0, .int .i64 0], none⟩,
    ⟨none, .store 7 (.t ⟨.d0, .d1, .d2⟩) (.t ⟨.d0, .d2, .d7⟩), none⟩,
    ⟨some ⟨.d0, .d1, .d3⟩, .move (.t ⟨.d0, .d3, .d1⟩), none⟩])
  (.seq (.seq (.region [⟨some ⟨.d0, .d3, .d2⟩, .move (.t ⟨.d0, .d1, .d3⟩), none⟩,
    ⟨some ⟨.d0, .d3, .d3⟩, .bin .eql (.t ⟨.d0, .d3, .d2⟩) (.c (.int .i64 0)), none⟩,
    ⟨some ⟨.d0, .d3, .d4⟩, .move (.t ⟨.d0, .d3, .d3⟩), none⟩,
    ⟨some ⟨.d0, .d3, .d5⟩, .move (.t ⟨.d0, .d0, .d2⟩), some (⟨.d0, .d3, .d4⟩, true)⟩,
    ⟨some ⟨.d0, .d3, .d6⟩, .call 15 [(.t ⟨.d0, .d3, .d5⟩), (.c (.int .i64 0)), (.c (.int .i64 1099511627776))], some (⟨.d0, .d3, .d4⟩, true)⟩,
    ⟨some ⟨.d0, .d3, .d7⟩, .un .not (.t ⟨.d0, .d3, .d6⟩), some (⟨.d0, .d3, .d4⟩, true)⟩,
    ⟨some ⟨.d0, .d4, .d0⟩, .pick (.t ⟨.d0, .d3, .d4⟩) (.t ⟨.d0, .d3, .d7⟩) (.c (.bool false)), none⟩])
  (.cond (.t ⟨.d0, .d4, .d0⟩)
    (.region [⟨some ⟨.d0, .d1, .d3⟩, .move (.c (.int .i64 1)), none⟩])
    (.skip)))
  (.seq (.region [⟨some ⟨.d0, .d1, .d4⟩, .move (.c (.bool false)), none⟩])
  (.seq (.seq (.region [⟨some ⟨.d0, .d4, .d1⟩, .move (.t ⟨.d0, .d0, .d0⟩), none⟩,
    ⟨some ⟨.d0, .d4, .d2⟩, .len (.t ⟨.d0, .d4, .d1⟩), none⟩,
    ⟨some ⟨.d0, .d4, .d3⟩, .move (.c (.int .i64 0)), none⟩])
  (.block 0
    (.loop
      (.seq (.region [⟨some ⟨.d0, .d4, .d4⟩, .bin .lss (.t ⟨.d0, .d4, .d3⟩) (.t ⟨.d0, .d4, .d2⟩), none⟩])
      (.seq (.cond (.t ⟨.d0, .d4, .d4⟩)
        (.skip)
        (.exit 0))
      (.seq (.block 1
        (.seq (.region [⟨some ⟨.d0, .d4, .d5⟩, .indexSl 7 (.t ⟨.d0, .d4, .d1⟩) (.t ⟨.d0, .d4, .d3⟩), none⟩,
          ⟨some ⟨.d0, .d4, .d6⟩, .load true 7 (.t ⟨.d0, .d4, .d5⟩), none⟩,
          ⟨some ⟨.d0, .d1, .d6⟩, .alloc 3 [.int .u32 0, .int .u32 0, .int .i64 0, .int .i64 0, .int .i64 0, .int .i64 0, .int .i64 0], none⟩,
          ⟨none, .store 7 (.t ⟨.d0, .d1, .d6⟩) (.t ⟨.d0, .d4, .d6⟩), none⟩])
        (.seq (.region [⟨some ⟨.d0, .d4, .d7⟩, .move (.t ⟨.d0, .d1, .d3⟩), none⟩,
          ⟨some ⟨.d0, .d5, .d0⟩, .bin .eql (.t ⟨.d0, .d4, .d7⟩) (.c (.int .i64 0)), none⟩,
          ⟨some ⟨.d0, .d5, .d1⟩, .move (.t ⟨.d0, .d5, .d0⟩), none⟩,
          ⟨some ⟨.d0, .d5, .d2⟩, .load true 7 (.t ⟨.d0, .d1, .d6⟩), some (⟨.d0, .d5, .d1⟩, true)⟩,
          ⟨some ⟨.d0, .d5, .d3⟩, .load true 4 (.t ⟨.d0, .d0, .d4⟩), some (⟨.d0, .d5, .d1⟩, true)⟩,
          ⟨some ⟨.d0, .d5, .d4⟩, .call 21 [(.t ⟨.d0, .d5, .d2⟩), (.t ⟨.d0, .d5, .d3⟩)], some (⟨.d0, .d5, .d1⟩, true)⟩,
          ⟨some ⟨.d0, .d5, .d5⟩, .pick (.t ⟨.d0, .d5, .d1⟩) (.t ⟨.d0, .d5, .d4⟩) (.c (.bool false)), none⟩,
          ⟨some ⟨.d0, .d5, .d6⟩, .move (.t ⟨.d0, .d5, .d5⟩), none⟩,
          ⟨some ⟨.d0, .d5, .d7⟩, .load true 7 (.t ⟨.d0, .d1, .d6⟩), some (⟨.d0, .d5, .d6⟩, true)⟩,
          ⟨some ⟨.d0, .d6, .d0⟩, .move (.t ⟨.d0, .d0, .d2⟩), some (⟨.d0, .d5, .d6⟩, true)⟩,
          ⟨some ⟨.d0, .d6, .d1⟩, .call 22 [(.t ⟨.d0, .d5, .d7⟩), (.t ⟨.d0, .d6, .d0⟩)], some (⟨.d0, .d5, .d6⟩, true)⟩,
          ⟨some ⟨.d0, .d6, .d2⟩, .un .not (.t ⟨.d0, .d6, .d1⟩), some (⟨.d0, .d5, .d6⟩, true)⟩,
          ⟨some ⟨.d0, .d6, .d3⟩, .pick (.t ⟨.d0, .d5, .d6⟩) (.t ⟨.d0, .d6, .d2⟩) (.c (.bool false)), none⟩])
        (.cond (.t ⟨.d0, .d6, .d3⟩)
          (.region [⟨some ⟨.d0, .d6, .d4⟩, .load true 7 (.t ⟨.d0, .d1, .d6⟩), none⟩,
            ⟨none, .store 7 (.t ⟨.d0, .d1, .d2⟩) (.t ⟨.d0, .d6, .d4⟩), none⟩,
            ⟨some ⟨.d0, .d1, .d4⟩, .move (.c (.bool true)), none⟩])
          (.skip)))))
      (.region [⟨some ⟨.d0, .d6, .d5⟩, .bin .add (.t ⟨.d0, .d4, .d3⟩) (.c (.int .i64 1)), none⟩,
        ⟨some ⟨.d0, .d4, .d3⟩, .move (.t ⟨.d0, .d6, .d5⟩), none⟩])))))))
  (.seq (.region [⟨some ⟨.d0, .d6, .d6⟩, .load true 7 (.t ⟨.d0, .d0, .d7⟩), none⟩,
    ⟨some ⟨.d0, .d6, .d7⟩, .load true 7 (.t ⟨.d0, .d1, .d2⟩), none⟩,
    ⟨some ⟨.d0, .d7, .d0⟩, .eqs false [0, 0, 0, 0, 0, 0, 0] (.t ⟨.d0, .d6, .d6⟩) (.t ⟨.d0, .d6, .d7⟩), none⟩,
    ⟨some ⟨.d0, .d7, .d1⟩, .move (.t ⟨.d0, .d7, .d0⟩), none⟩,
    ⟨some ⟨.d0, .d7, .d2⟩, .move (.t ⟨.d0, .d1, .d0⟩), some (⟨.d0, .d7, .d1⟩, true)⟩,
    ⟨some ⟨.d0, .d7, .d3⟩, .move (.t ⟨.d0, .d1, .d4⟩), some (⟨.d0, .d7, .d1⟩, true)⟩,
    ⟨some ⟨.d0, .d7, .d4⟩, .eqb false (.t ⟨.d0, .d7, .d2⟩) (.t ⟨.d0, .d7, .d3⟩), some (⟨.d0, .d7, .d1⟩, true)⟩,
    ⟨some ⟨.d0, .d7, .d5⟩, .pick (.t ⟨.d0, .d7, .d1⟩) (.t ⟨.d0, .d7, .d4⟩) (.c (.bool false)), none⟩,
    ⟨some ⟨.d0, .d7, .d6⟩, .move (.t ⟨.d0, .d7, .d5⟩), none⟩,
    ⟨some ⟨.d0, .d7, .d7⟩, .move (.t ⟨.d0, .d1, .d1⟩), some (⟨.d0, .d7, .d6⟩, true)⟩,
    ⟨some ⟨.d1, .d0, .d0⟩, .move (.t ⟨.d0, .d1, .d3⟩), some (⟨.d0, .d7, .d6⟩, true)⟩,
    ⟨some ⟨.d1, .d0, .d1⟩, .bin .eql (.t ⟨.d0, .d7, .d7⟩) (.t ⟨.d1, .d0, .d0⟩), some (⟨.d0, .d7, .d6⟩, true)⟩,
    ⟨some ⟨.d1, .d0, .d2⟩, .pick (.t ⟨.d0, .d7, .d6⟩) (.t ⟨.d1, .d0, .d1⟩) (.c (.bool false)), none⟩,
    ⟨some ⟨.d0, .d0, .d6⟩, .move (.t ⟨.d1, .d0, .d2⟩), none⟩])
  (.ret)))))))
def r_custlaw_TrackFinds : List XR := [.tmp ⟨.d0, .d0, .d6⟩]
theorem ok_custlaw_TrackFinds : okC Try.prog Try.f4.ntmps (bodyOf Try.f4) x_custlaw_TrackFinds = true := by kernel_rfl
theorem okr_custlaw_TrackFinds : okRs Try.prog Try.f4.results.toList r_custlaw_TrackFinds = true := by kernel_rfl

/-- custlaw.TrackHears -/
def x_custlaw_TrackHears : XC :=
  .seq (.region [⟨some ⟨.d0, .d0, .d5⟩, .box 0 4 (.t ⟨.d0, .d0, .d1⟩), none⟩,
    ⟨some ⟨.d0, .d1, .d0⟩, .move (.c (.bool false)), none⟩])
  (.seq (.region [⟨some ⟨.d0, .d2, .d0⟩, .move (.t ⟨.d0, .d0, .d0⟩), none⟩,
    ⟨some ⟨.d0, .d2, .d1⟩, .load true 4 (.t ⟨.d0, .d0, .d5⟩), none⟩,
    ⟨some ⟨.d0, .d2, .d2⟩, .move (.t ⟨.d0, .d0, .d2⟩), none⟩,
    ⟨some ⟨.d0, .d2, .d3⟩, .move (.t ⟨.d0, .d0, .d3⟩), none⟩,
    ⟨some ⟨.d0, .d2, .d4⟩, .call 23 [(.t ⟨.d0, .d2, .d0⟩), (.t ⟨.d0, .d2, .d1⟩), (.t ⟨.d0, .d2, .d2⟩), (.t ⟨.d0, .d2, .d3⟩)], none⟩,
    ⟨some ⟨.d0, .d1, .d7⟩, .move (.t ⟨.d0, .d2, .d4⟩), none⟩,
    ⟨some ⟨.d0, .d2, .d5⟩, .extract 0 (.t ⟨.d0, .d1, .d7⟩), none⟩,
    ⟨some ⟨.d0, .d2, .d6⟩, .extract 1 (.t ⟨.d0, .d1, .d7⟩), none⟩,
    ⟨some ⟨.d0, .d2, .d7⟩, .extract 2 (.t ⟨.d0, .d1, .d7⟩), none⟩,
    ⟨some ⟨.d0, .d1, .d1⟩, .move (.t ⟨.d0, .d2, .d5⟩), none⟩,
    ⟨some ⟨.d0, .d1, .d2⟩, .move (.t ⟨.d0, .d2, .d6⟩), none⟩,
    ⟨some ⟨.d0, .d1, .d3⟩, .move (.t ⟨.d0, .d2, .d7⟩), none⟩])
  (.seq (.region [⟨some ⟨.d0, .d3, .d1⟩, .move (.t ⟨.d0, .d0, .d0⟩), none⟩,
    ⟨some ⟨.d0, .d3, .d2⟩, .load true 4 (.t ⟨.d0, .d0, .d5⟩), none⟩,
    ⟨some ⟨.d0, .d3, .d3⟩, .move (.t ⟨.d0, .d0, .d2⟩), none⟩,
    ⟨some ⟨.d0, .d3, .d4⟩, .move (.t ⟨.d0, .d0, .d3⟩), none⟩,
    ⟨some ⟨.d0, .d3, .d5⟩, .call 24 [(.t ⟨.d0, .d3, .d1⟩), (.t ⟨.d0, .d3, .d2⟩), (.t ⟨.d0, .d3, .d3⟩), (.t ⟨.d0, .d3, .d4⟩)], none⟩,
    ⟨some ⟨.d0, .d3, .d0⟩, .move (.t ⟨.d0, .d3, .d5⟩), none⟩,
    ⟨some ⟨.d0, .d3, .d6⟩, .extract 0 (.t ⟨.d0, .d3, .d0⟩), none⟩,
    ⟨some ⟨.d0, .d3, .d7⟩, .extract 1 (.t ⟨.d0, .d3, .d0⟩), none⟩,
    ⟨some ⟨.d0, .d4, .d0⟩, .extract 2 (.t ⟨.d0, .d3, .d0⟩), none⟩,
    ⟨some ⟨.d0, .d1, .d4⟩, .move (.t ⟨.d0, .d3, .d6⟩), none⟩,
    ⟨some ⟨.d0, .d1, .d5⟩, .move (.t ⟨.d0, .d3, .d7⟩), none⟩,
    ⟨some ⟨.d0, .d1, .d6⟩, .move (.t ⟨.d0, .d4, .d0⟩), none⟩])
  (.seq (.region [⟨some ⟨.d0, .d4, .d1⟩, .move (.t ⟨.d0, .d0, .d0⟩), none⟩,
    ⟨some ⟨.d0, .d4, .d2⟩, .call 25 [(.t ⟨.d0, .d4, .d1⟩)], none⟩,
    ⟨some ⟨.d0, .d4, .d3⟩, .move (.t ⟨.d0, .d0, .d0⟩), none⟩,
    ⟨some ⟨.d0, .d4, .d4⟩, .call 20 [(.t ⟨.d0, .d4, .d3⟩)], none⟩,
    ⟨some ⟨.d0, .d4, .d5⟩, .bin .eql (.t ⟨.d0, .d4, .d2⟩) (.t ⟨.d0, .d4, .d4⟩), none⟩,
    ⟨some ⟨.d0, .d4, .d6⟩, .move (.t ⟨.d0, .d4, .d5⟩), none⟩,
    ⟨some ⟨.d0, .d4, .d7⟩, .move (.t ⟨.d0, .d1, .d1⟩), some (⟨.d0, .d4, .d6⟩, true)⟩,
    ⟨some ⟨.d0, .d5, .d0⟩, .move (.t ⟨.d0, .d1, .d4⟩), some (⟨.d0, .d4, .d6⟩, true)⟩,
    ⟨some ⟨.d0, .d5, .d1⟩, .call 26 [(.t ⟨.d0, .d4, .d7⟩), (.t ⟨.d0, .d5, .d0⟩)], some (⟨.d0, .d4, .d6⟩, true)⟩,
    ⟨some ⟨.d0, .d5, .d2⟩, .pick (.t ⟨.d0, .d4, .d6⟩) (.t ⟨.d0, .d5, .d1⟩) (.c (.bool false)), none⟩,
    ⟨some ⟨.d0, .d5, .d3⟩, .move (.t ⟨.d0, .d5, .d2⟩), none⟩,
    ⟨some ⟨.d0, .d5, .d4⟩, .move (.t ⟨.d0, .d1, .d2⟩), some (⟨.d0, .d5, .d3⟩, true)⟩,
    ⟨some ⟨.d0, .d5, .d5⟩, .move (.t ⟨.d0, .d1, .d5⟩), some (⟨.d0, .d5, .d3⟩, true)⟩,
    ⟨some ⟨.d0, .d5, .d6⟩, .eqb false (.t ⟨.d0, .d5, .d4⟩) (.t ⟨.d0, .d5, .d5⟩), some (⟨.d0, .d5, .d3⟩, true)⟩,
    ⟨some ⟨.d0, .d5, .d7⟩, .pick (.t ⟨.d0, .d5, .d3⟩) (.t ⟨.d0, .d5, .d6⟩) (.c (.bool false)), none⟩,
    ⟨some ⟨.d0, .d6, .d0⟩, .move (.t ⟨.d0, .d5, .d7⟩), none⟩,
    ⟨some ⟨.d0, .d6, .d1⟩, .move (.t ⟨.d0, .d1, .d3⟩), some (⟨.d0, .d6, .d0⟩, true)⟩,
    ⟨some ⟨.d0, .d6, .d2⟩, .move (.t ⟨.d0, .d1, .d6⟩), some (⟨.d0, .d6, .d0⟩, true)⟩,
    ⟨some ⟨.d0, .d6, .d3⟩, .bin .eql (.t ⟨.d0, .d6, .d1⟩) (.t ⟨.d0, .d6, .d2⟩), some (⟨.d0, .d6, .d0⟩, true)⟩,
    ⟨some ⟨.d0, .d6, .d4⟩, .pick (.t ⟨.d0, .d6, .d0⟩) (.t ⟨.d0, .d6, .d3⟩) (.c (.bool false)), none⟩,
    ⟨some ⟨.d0, .d1, .d0⟩, .move (.t ⟨.d0, .d6, .d4⟩), none⟩])
  (.ret))))
def r_custlaw_TrackHears : List XR := [.tmp ⟨.d0, .d1, .d0⟩]
theorem ok_custlaw_TrackHears : okC Try.prog Try.f5.ntmps (bodyOf Try.f5) x_custlaw_TrackHears = true := by kernel_rfl
theorem okr_custlaw_TrackHears : okRs Try.prog Try.f5.results.toList r_custlaw_TrackHears = true := by kernel_rfl

/-- custref.Between -/
def x_custref_Between : XC :=
  .seq (.region [⟨some ⟨.d0, .d0, .d6⟩, .move (.c (.bool false)), none⟩])
  (.seq (.region [⟨some ⟨.d0, .d0, .d7⟩, .move (.t ⟨.d0, .d0, .d1⟩), none⟩,
    ⟨some ⟨.d0, .d1, .d0⟩, .move (.t ⟨.d0, .d0, .d0⟩), none⟩,
    ⟨some ⟨.d0, .d1, .d1⟩, .bin .leq (.t ⟨.d0, .d0, .d7⟩) (.t ⟨.d0, .d1, .d0⟩), none⟩,
    ⟨some ⟨.d0, .d1, .d2⟩, .move (.t ⟨.d0, .d1, .d1⟩), none⟩,
    ⟨some ⟨.d0, .d1, .d3⟩, .move (.t ⟨.d0, .d0, .d0⟩), some (⟨.d0, .d1, .d2⟩, true)⟩,
    ⟨some ⟨.d0, .d1, .d4⟩, .move (.t ⟨.d0, .d0, .d2⟩), some (⟨.d0, .d1, .d2⟩, true)⟩,
    ⟨some ⟨.d0, .d1, .d5⟩, .bin .leq (.t ⟨.d0, .d1, .d3⟩) (.t ⟨.d0, .d1, .d4⟩), some (⟨.d0, .d1, .d2⟩, true)⟩,
    ⟨some ⟨.d0, .d1, .d6⟩, .pick (.t ⟨.d0, .d1, .d2⟩) (.t ⟨.d0, .d1, .d5⟩) (.c (.bool false)), none⟩,
    ⟨some ⟨.d0, .d0, .d6⟩, .move (.t ⟨.d0, .d1, .d6⟩), none⟩])
  (.ret))
def r_custref_Between : List XR := [.tmp ⟨.d0, .d0, .d6⟩]
theorem ok_custref_Between : okC Try.prog Try.f15.ntmps (bodyOf Try.f15) x_custref_Between = true := by kernel_rfl
theorem okr_custref_Between : okRs Try.prog Try.f15.results.toList r_custref_Between = true := by kernel_rfl

/-- track.Find -/
def x_track_Find : XC :=
  .seq (.region [⟨some ⟨.d0, .d0, .d4⟩, .box 0 4 (.t ⟨.d0, .d0, .d1⟩), none⟩,
    ⟨some ⟨.d0, .d0, .d6⟩, .alloc 1 [.int .u32 0, .int .u32 0, .int .i64 0, .int .i64 0, .int .i64 0, .int .i64 0, .int .i64 0], none⟩,
    ⟨some ⟨.d0, .d0, .d7⟩, .move (.c (.bool false)), none⟩,
    ⟨some ⟨.d0, .d1, .d0⟩, .move (.c (.int .i64 0)), none⟩])
  (.seq (.seq (.region [⟨some ⟨.d0, .d1, .d3⟩, .move (.t ⟨.d0, .d0, .d0⟩), none⟩,
    ⟨some ⟨.d0, .d1, .d4⟩, .call 25 [(.t ⟨.d0, .d1, .d3⟩)], none⟩,
    ⟨some ⟨.d0, .d1, .d1⟩, .move (.t ⟨.d0, .d1, .d4⟩), none⟩])
  (.seq (.region [⟨some ⟨.d0, .d1, .d5⟩, .move (.t ⟨.d0, .d1, .d1⟩), none⟩,
    ⟨some ⟨.d0, .d1, .d6⟩, .bin .neq (.t ⟨.d0, .d1, .d5⟩) (.c (.int .i64 0)), none⟩])
  (.cond (.t ⟨.d0, .d1, .d6⟩)
    (.seq (.region [⟨some ⟨.d0, .d1, .d7⟩, .build [.int .u32 0, .int .u32 0, .int .i64 0, .int .i64 0, .int .i64 0, .int .i64 0, .int .i64 0] [], none⟩,
      ⟨some ⟨.d0, .d2, .d0⟩, .move (.t ⟨.d0, .d1, .d1⟩), none⟩,
      ⟨none, .store 7 (.t ⟨.d0, .d0, .d6⟩) (.t ⟨.d0, .d1, .d7⟩), none⟩,
      ⟨some ⟨.d0, .d0, .d7⟩, .move (.c (.bool false)), none⟩,
      ⟨some ⟨.d0, .d1, .d0⟩, .move (.t ⟨.d0, .d2, .d0⟩), none⟩])
    (.ret))
    (.skip))))
  (.seq (.seq (.region [⟨some ⟨.d0, .d2, .d1⟩, .move (.t ⟨.d0, .d0, .d2⟩), none⟩,
    ⟨some ⟨.d0, .d2, .d2⟩, .bin .lss (.t ⟨.d0, .d2, .d1⟩) (.c (.int .i64 0)), none⟩,
    ⟨some ⟨.d0, .d2, .d3⟩, .move (.t ⟨.d0, .d2, .d2⟩), none⟩,
    ⟨some ⟨.d0, .d2, .d4⟩, .move (.t ⟨.d0, .d0, .d2⟩), some (⟨.d0, .d2, .d3⟩, false)⟩,
    ⟨some ⟨.d0, .d2, .d5⟩, .bin .gtr (.t ⟨.d0, .d2, .d4⟩) (.c (.int .i64 1099511627776)), some (⟨.d0, .d2, .d3⟩, false)⟩,
    ⟨some ⟨.d0, .d2, .d6⟩, .pick (.t ⟨.d0, .d2, .d3⟩) (.c (.bool true)) (.t ⟨.d0, .d2, .d5⟩), none⟩])
  (.cond (.t ⟨.d0, .d2, .d6⟩)
    (.seq (.region [⟨some ⟨.d0, .d2, .d7⟩, .build [.int .u32 0, .int .u32 0, .int .i64 0, .int .i64 0, .int .i64 0, .int .i64 0, .int .i64 0] [], none⟩,
      ⟨none, .store 7 (.t ⟨.d0, .d0, .d6⟩) (.t ⟨.d0, .d2, .d7⟩), none⟩,
      ⟨some ⟨.d0, .d0, .d7⟩, .move (.c (.bool false)), none⟩,
      ⟨some ⟨.d0, .d1, .d0⟩, .move (.c (.int .i64 1)), none⟩])
    (.ret))
    (.skip)))
  (.seq (.region [⟨some ⟨.d0, .d3, .d0⟩, .move (.t ⟨.d0, .d0, .d0⟩), none⟩,
    ⟨some ⟨.d0, .d3, .d1⟩, .load true 4 (.t ⟨.d0, .d0, .d4⟩), none⟩,
    ⟨some ⟨.d0, .d3, .d2⟩, .call 45 [(.t ⟨.d0, .d3, .d0⟩), (.t ⟨.d0, .d3, .d1⟩)], none⟩,
    ⟨some ⟨.d0, .d1, .d2⟩, .move (.t ⟨.d0, .d3, .d2⟩), none⟩])
  (.seq (.seq (.region [⟨some ⟨.d0, .d3, .d3⟩, .move (.t ⟨.d0, .d1, .d2⟩), none⟩,
    ⟨some ⟨.d0, .d3, .d4⟩, .bin .lss (.t ⟨.d0, .d3, .d3⟩) (.c (.int .i64 0)), none⟩,
    ⟨some ⟨.d0, .d3, .d5⟩, .move (.t ⟨.d0, .d3, .d4⟩), none⟩,
    ⟨some ⟨.d0, .d3, .d6⟩, .move (.t ⟨.d0, .d0, .d0⟩), some (⟨.d0, .d3, .d5⟩, false)⟩,
    ⟨some ⟨.d0, .d3, .d7⟩, .move (.t ⟨.d0, .d1, .d2⟩), some (⟨.d0, .d3, .d5⟩, false)⟩,
    ⟨some ⟨.d0, .d4, .d0⟩, .indexSl 7 (.t ⟨.d0, .d3, .d6⟩) (.t ⟨.d0, .d3, .d7⟩), some (⟨.d0, .d3, .d5⟩, false)⟩,
    ⟨some ⟨.d0, .d4, .d1⟩, .load true 7 (.t ⟨.d0, .d4, .d0⟩), some (⟨.d0, .d3, .d5⟩, false)⟩,
    ⟨some ⟨.d0, .d4, .d2⟩, .move (.t ⟨.d0, .d0, .d2⟩), some (⟨.d0, .d3, .d5⟩, false)⟩,
    ⟨some ⟨.d0, .d4, .d3⟩, .call 46 [(.t ⟨.d0, .d4, .d1⟩), (.t ⟨.d0, .d4, .d2⟩)], some (⟨.d0, .d3, .d5⟩, false)⟩,
    ⟨some ⟨.d0, .d4, .d4⟩, .pick (.t ⟨.d0, .d3, .d5⟩) (.c (.bool true)) (.t ⟨.d0, .d4, .d3⟩), none⟩])
  (.cond (.t ⟨.d0, .d4, .d4⟩)
    (.seq (.region [⟨some ⟨.d0, .d4, .d5⟩, .build [.int .u32 0, .int .u32 0, .int .i64 0, .int .i64 0, .int .i64 0, .int .i64 0, .int .i64 0] [], none⟩,
      ⟨none, .store 7 (.t ⟨.d0, .d0, .d6⟩) (.t ⟨.d0, .d4, .d5⟩), none⟩,
      ⟨some ⟨.d0, .d0, .d7⟩, .move (.c (.bool false)), none⟩,
      ⟨some ⟨.d0, .d1, .d0⟩, .move (.c (.int .i64 0)), none⟩])
    (.ret))
    (.skip)))
  (.seq (.region [⟨some ⟨.d0, .d4, .d6⟩, .move (.t ⟨.d0, .d0, .d0⟩), none⟩,
    ⟨some ⟨.d0, .d4, .d7⟩, .move (.t ⟨.d0, .d1, .d2⟩), none⟩,
    ⟨some ⟨.d0, .d5, .d0⟩, .indexSl 7 (.t ⟨.d0, .d4, .d6⟩) (.t ⟨.d0, .d4, .d7⟩), none⟩,
    ⟨some ⟨.d0, .d5, .d1⟩, .load true 7 (.t ⟨.d0, .d5, .d0⟩), none⟩,
    ⟨none, .store 7 (.t ⟨.d0, .d0, .d6⟩) (.t ⟨.d0, .d5, .d1⟩), none⟩,
    ⟨some ⟨.d0, .d0, .d7⟩, .move (.c (.bool true)), none⟩,
    ⟨some ⟨.d0, .d1, .d0⟩, .move (.c (.int .i64 0)), none⟩])
  (.ret))))))
def r_track_Find : List XR := [.cell ⟨.d0, .d0, .d6⟩ true 7, .tmp ⟨.d0, .d0, .d7⟩, .tmp ⟨.d0, .d1, .d0⟩]
theorem ok_track_Find : okC Try.prog Try.f19.ntmps (bodyOf Try.f19) x_track_Find = true := by kernel_rfl
theorem okr_track_Find : okRs Try.prog Try.f19.results.toList r_track_Find = true := by kernel_rfl

/-- custref.TrackRight -/
def x_custref_TrackRight : XC :=
  .seq (.region [⟨some ⟨.d0, .d0, .d2⟩, .move (.c (.int .i64 0)), none⟩])
  (.seq (.seq (.region [⟨some ⟨.d0, .d0, .d7⟩, .move (.t ⟨.d0, .d0, .d0⟩), none⟩,
    ⟨some ⟨.d0, .d1, .d0⟩, .len (.t ⟨.d0, .d0, .d7⟩), none⟩,
    ⟨some ⟨.d0, .d1, .d1⟩, .bin .gtr (.t ⟨.d0, .d1, .d0⟩) (.c (.int .i64 64)), none⟩])
  (.cond (.t ⟨.d0, .d1, .d1⟩)
    (.seq (.region [⟨some ⟨.d0, .d0, .d2⟩, .move (.c (.int .i64 2)), none⟩])
    (.ret))
    (.skip)))
  (.seq (.seq (.region [⟨some ⟨.d0, .d1, .d2⟩, .move (.t ⟨.d0, .d0, .d0⟩), none⟩,
    ⟨some ⟨.d0, .d1, .d3⟩, .len (.t ⟨.d0, .d1, .d2⟩), none⟩,
    ⟨some ⟨.d0, .d1, .d4⟩, .move (.c (.int .i64 0)), none⟩])
  (.block 0
    (.loop
      (.seq (.region [⟨some ⟨.d0, .d1, .d5⟩, .bin .lss (.t ⟨.d0, .d1, .d4⟩) (.t ⟨.d0, .d1, .d3⟩), none⟩])
      (.seq (.cond (.t ⟨.d0, .d1, .d5⟩)
        (.skip)
        (.exit 0))
      (.seq (.block 1
        (.seq (.region [⟨some ⟨.d0, .d1, .d6⟩, .move (.t ⟨.d0, .d1, .d4⟩), none⟩,
          ⟨some ⟨.d0, .d1, .d7⟩, .indexSl 7 (.t ⟨.d0, .d1, .d2⟩) (.t ⟨.d0, .d1, .d4⟩), none⟩,
          ⟨some ⟨.d0, .d2, .d0⟩, .load true 7 (.t ⟨.d0, .d1, .d7⟩), none⟩,
          ⟨some ⟨.d0, .d0, .d4⟩, .alloc 0 [.int .u32 0, .int .u32 0, .int .i64 0, .int .i64 0, .int .i64 0, .int .i64 0, .int .i64 0], none⟩,
          ⟨some ⟨.d0, .d0, .d3⟩, .move (.t ⟨.d0, .d1, .d6⟩), none⟩,
          ⟨none, .store 7 (.t ⟨.d0, .d0, .d4⟩) (.t ⟨.d0, .d2, .d0⟩), none⟩])
        (.seq (.seq (.region [⟨some ⟨.d0, .d2, .d1⟩, .load true 7 (.t ⟨.d0, .d0, .d4⟩), none⟩,
          ⟨some ⟨.d0, .d2, .d2⟩, .call 47 [(.t ⟨.d0, .d2, .d1⟩)], none⟩,
          ⟨some ⟨.d0, .d2, .d3⟩, .un .not (.t ⟨.d0, .d2, .d2⟩), none⟩])
        (.cond (.t ⟨.d0, .d2, .d3⟩)
          (.seq (.region [⟨some ⟨.d0, .d0, .d2⟩, .move (.c (.int .i64 4)), none⟩])
          (.ret))
          (.skip)))
        (.seq (.region [⟨some ⟨.d0, .d2, .d4⟩, .move (.t ⟨.d0, .d0, .d0⟩), none⟩,
          ⟨some ⟨.d0, .d2, .d5⟩, .move (.t ⟨.d0, .d0, .d3⟩), none⟩,
          ⟨some ⟨.d0, .d2, .d6⟩, .slice 7 (.t ⟨.d0, .d2, .d4⟩) none (some (.t ⟨.d0, .d2, .d5⟩)) none, none⟩,
          ⟨some ⟨.d0, .d2, .d7⟩, .len (.t ⟨.d0, .d2, .d6⟩), none⟩,
          ⟨some ⟨.d0, .d3, .d0⟩, .move (.c (.int .i64 0)), none⟩])
        (.block 2
          (.loop
            (.seq (.region [⟨some ⟨.d0, .d3, .d1⟩, .bin .lss (.t ⟨.d0, .d3, .d0⟩) (.t ⟨.d0, .d2, .d7⟩), none⟩])
            (.seq (.cond (.t ⟨.d0, .d3, .d1⟩)
              (.skip)
              (.exit 2))
            (.seq (.block 3
              (.seq (.region [⟨some ⟨.d0, .d3, .d2⟩, .indexSl 7 (.t ⟨.d0, .d2, .d6⟩) (.t ⟨.d0, .d3, .d0⟩), none⟩,
                ⟨some ⟨.d0, .d3, .d3⟩, .load true 7 (.t ⟨.d0, .d3, .d2⟩), none⟩,
                ⟨some ⟨.d0, .d0, .d6⟩, .alloc 1 [.int .u32 0, .int .u32 0, .int .i64 0, .int .i64 0, .int .i64 0, .int .i64 0, .int .i64 0], none⟩,
                ⟨none, .store 7 (.t ⟨.d0, .d0, .d6⟩) (.t ⟨.d0, .d3, .d3⟩), none⟩])
              (.seq (.region [⟨some ⟨.d0, .d3, .d4⟩, .fieldAddr 6 (.t ⟨.d0, .d0, .d6⟩), none⟩,
                ⟨some ⟨.d0, .d3, .d5⟩, .load false 1 (.t ⟨.d0, .d3, .d4⟩), none⟩,
                ⟨some ⟨.d0, .d3, .d6⟩, .fieldAddr 6 (.t ⟨.d0, .d0, .d4⟩), none⟩,
                ⟨some ⟨.d0, .d3, .d7⟩, .load false 1 (.t ⟨.d0, .d3, .d6⟩), none⟩,
                ⟨some ⟨.d0, .d4, .d0⟩, .bin .gtr (.t ⟨.d0, .d3, .d5⟩) (.t ⟨.d0, .d3, .d7⟩), none⟩,
                ⟨some ⟨.d0, .d4, .d1⟩, .move (.t ⟨.d0, .d4, .d0⟩), none⟩,
                ⟨some ⟨.d0, .d4, .d2⟩, .load true 7 (.t ⟨.d0, .d0, .d6⟩), some (⟨.d0, .d4, .d1⟩, false)⟩,
                ⟨some ⟨.d0, .d4, .d3⟩, .fieldAddr 0 (.t ⟨.d0, .d0, .d4⟩), some (⟨.d0, .d4, .d1⟩, false)⟩,
                ⟨some ⟨.d0, .d4, .d4⟩, .load true 4 (.t ⟨.d0, .d4, .d3⟩), some (⟨.d0, .d4, .d1⟩, false)⟩,
                ⟨some ⟨.d0, .d4, .d5⟩, .call 21 [(.t ⟨.d0, .d4, .d2⟩), (.t ⟨.d0, .d4, .d4⟩)], some (⟨.d0, .d4, .d1⟩, false)⟩,
                ⟨some ⟨.d0, .d4, .d6⟩, .pick (.t ⟨.d0, .d4, .d1⟩) (.c (.bool true)) (.t ⟨.d0, .d4, .d5⟩), none⟩])
              (.cond (.t ⟨.d0, .d4, .d6⟩)
                (.seq (.region [⟨some ⟨.d0, .d0, .d2⟩, .move (.c (.int .i64 4)), none⟩])
                (.ret))
                (.skip)))))
            (.region [⟨some ⟨.d0, .d4, .d7⟩, .bin .add (.t ⟨.d0, .d3, .d0⟩) (.c (.int .i64 1)), none⟩,
              ⟨some ⟨.d0, .d3, .d0⟩, .move (.t ⟨.d0, .d4, .d7⟩), none⟩]))))))))))
      (.region [⟨some ⟨.d0, .d5, .d0⟩, .bin .add (.t ⟨.d0, .d1, .d4⟩) (.c (.int .i64 1)), none⟩,
        ⟨some ⟨.d0, .d1, .d4⟩, .move (.t ⟨.d0, .d5, .d0⟩), none⟩])))))))
  (.seq (.region [⟨some ⟨.d0, .d0, .d2⟩, .move (.c (.int .i64 0)), none⟩])
  (.ret))))
def r_custref_TrackRight : List XR := [.tmp ⟨.d0, .d0, .d2⟩]
theorem ok_custref_TrackRight : okC Try.prog Try.f20.ntmps (bodyOf Try.f20) x_custref_TrackRight = true := by kernel_rfl
theorem okr_custref_TrackRight : okRs Try.prog Try.f20.results.toList r_custref_TrackRight = true := by kernel_rfl

/-- custref.Along -/
def x_custref_Along : XC :=
  .seq (.region [⟨some ⟨.d0, .d0, .d2⟩, .box 0 7 (.t ⟨.d0, .d0, .d0⟩), none⟩,
    ⟨some ⟨.d0, .d0, .d3⟩, .box 1 4 (.t ⟨.d0, .d0, .d1⟩), none⟩,
    ⟨some ⟨.d0, .d0, .d4⟩, .move (.c (.bool false)), none⟩])
  (.seq (.regionD [0, 1, 0, 7, 15, 31, 63, 31, 159, 511, 1023, 2047] [⟨some ⟨.d0, .d0, .d5⟩, .fieldAddr 0 (.t ⟨.d0, .d0, .d2⟩), none⟩,
    ⟨some ⟨.d0, .d0, .d6⟩, .load true 4 (.t ⟨.d0, .d0, .d5⟩), none⟩,
    ⟨some ⟨.d0, .d0, .d7⟩, .load true 4 (.t ⟨.d0, .d0, .d3⟩), none⟩,
    ⟨some ⟨.d0, .d1, .d0⟩, .eqs false [0, 0, 0, 0] (.t ⟨.d0, .d0, .d6⟩) (.t ⟨.d0, .d0, .d7⟩), none⟩,
    ⟨some ⟨.d0, .d1, .d1⟩, .move (.t ⟨.d0, .d1, .d0⟩), none⟩,
    ⟨some ⟨.d0, .d1, .d2⟩, .fieldAddr 0 (.t ⟨.d0, .d0, .d2⟩), some (⟨.d0, .d1, .d1⟩, false)⟩,
    ⟨some ⟨.d0, .d1, .d3⟩, .load true 4 (.t ⟨.d0, .d1, .d2⟩), some (⟨.d0, .d1, .d1⟩, false)⟩,
    ⟨some ⟨.d0, .d1, .d4⟩, .load true 4 (.t ⟨.d0, .d0, .d3⟩), some (⟨.d0, .d1, .d1⟩, false)⟩,
    ⟨some ⟨.d0, .d1, .d5⟩, .call 48 [(.t ⟨.d0, .d1, .d4⟩)], some (⟨.d0, .d1, .d1⟩, false)⟩,
    ⟨some ⟨.d0, .d1, .d6⟩, .eqs false [0, 0, 0, 0] (.t ⟨.d0, .d1, .d3⟩) (.t ⟨.d0, .d1, .d5⟩), some (⟨.d0, .d1, .d1⟩, false)⟩,
    ⟨some ⟨.d0, .d1, .d7⟩, .pick (.t ⟨.d0, .d1, .d1⟩) (.c (.bool true)) (.t ⟨.d0, .d1, .d6⟩), none⟩,
    ⟨some ⟨.d0, .d0, .d4⟩, .move (.t ⟨.d0, .d1, .d7⟩), none⟩])
  (.ret))
def r_custref_Along : List XR := [.tmp ⟨.d0, .d0, .d4⟩]
theorem ok_custref_Along : okC Try.prog Try.f21.ntmps (bodyOf Try.f21) x_custref_Along = true := by kernel_rfl
theorem okr_custref_Along : okRs Try.prog Try.f21.results.toList r_custref_Along = true := by kernel_rfl

/-- custref.TalkOld -/
def x_custref_TalkOld : XC :=
  .seq (.region [⟨some ⟨.d0, .d0, .d2⟩, .box 0 7 (.t ⟨.d0, .d0, .d0⟩), none⟩,
    ⟨some ⟨.d0, .d0, .d4⟩, .move (.c (.bool false)), none⟩])
  (.seq (.regionD [0, 0, 2, 0, 0, 16, 56, 120, 254, 511, 1023] [⟨some ⟨.d0, .d0, .d5⟩, .move (.t ⟨.d0, .d0, .d1⟩), none⟩,
    ⟨some ⟨.d0, .d0, .d6⟩, .fieldAddr 6 (.t ⟨.d0, .d0, .d2⟩), none⟩,
    ⟨some ⟨.d0, .d0, .d7⟩, .load false 1 (.t ⟨.d0, .d0, .d6⟩), none⟩,
    ⟨some ⟨.d0, .d1, .d0⟩, .buildSlice 1 5 [.int .i64 0] [(0, (.c (.int .i64 0))), (1, (.c (.int .i64 30))), (2, (.c (.int .i64 30))), (3, (.c (.int .i64 3000))), (4, (.c (.int .i64 60)))], none⟩,
    ⟨some ⟨.d0, .d1, .d1⟩, .fieldAddr 4 (.t ⟨.d0, .d0, .d2⟩), none⟩,
    ⟨some ⟨.d0, .d1, .d2⟩, .load false 1 (.t ⟨.d0, .d1, .d1⟩), none⟩,
    ⟨some ⟨.d0, .d1, .d3⟩, .indexSl 1 (.t ⟨.d0, .d1, .d0⟩) (.t ⟨.d0, .d1, .d2⟩), none⟩,
    ⟨some ⟨.d0, .d1, .d4⟩, .load false 1 (.t ⟨.d0, .d1, .d3⟩), none⟩,
    ⟨some ⟨.d0, .d1, .d5⟩, .bin .add (.t ⟨.d0, .d0, .d7⟩) (.t ⟨.d0, .d1, .d4⟩), none⟩,
    ⟨some ⟨.d0, .d1, .d6⟩, .bin .gtr (.t ⟨.d0, .d0, .d5⟩) (.t ⟨.d0, .d1, .d5⟩), none⟩,
    ⟨some ⟨.d0, .d0, .d4⟩, .move (.t ⟨.d0, .d1, .d6⟩), none⟩])
  (.ret))
def r_custref_TalkOld : List XR := [.tmp ⟨.d0, .d0, .d4⟩]
theorem ok_custref_TalkOld : okC Try.prog Try.f22.ntmps (bodyOf Try.f22) x_custref_TalkOld = true := by kernel_rfl
theorem okr_custref_TalkOld : okRs Try.prog Try.f22.results.toList r_custref_TalkOld = true := by kernel_rfl

/-- track.Hear -/
def x_track_Hear : XC :=
  .seq (.region [⟨some ⟨.d0, .d0, .d5⟩, .box 0 4 (.t ⟨.d0, .d0, .d1⟩), none⟩,
    ⟨some ⟨.d0, .d0, .d7⟩, .box 1 1 (.t ⟨.d0, .d0, .d3⟩), none⟩,
    ⟨some ⟨.d0, .d1, .d0⟩, .move (.c (.slice none 0 0)), none⟩,
    ⟨some ⟨.d0, .d1, .d1⟩, .move (.c (.bool false)), none⟩,
    ⟨some ⟨.d0, .d1, .d2⟩, .move (.c (.int .i64 0)), none⟩])
  (.seq (.region [⟨some ⟨.d0, .d2, .d1⟩, .move (.t ⟨.d0, .d0, .d0⟩), none⟩,
    ⟨some ⟨.d0, .d2, .d2⟩, .call 49 [(.t ⟨.d0, .d2, .d1⟩)], none⟩,
    ⟨some ⟨.d0, .d0, .d0⟩, .move (.t ⟨.d0, .d2, .d2⟩), none⟩])
  (.seq (.seq (.region [⟨some ⟨.d0, .d2, .d3⟩, .move (.t ⟨.d0, .d0, .d0⟩), none⟩,
    ⟨some ⟨.d0, .d2, .d4⟩, .call 25 [(.t ⟨.d0, .d2, .d3⟩)], none⟩,
    ⟨some ⟨.d0, .d1, .d3⟩, .move (.t ⟨.d0, .d2, .d4⟩), none⟩])
  (.seq (.region [⟨some ⟨.d0, .d2, .d5⟩, .move (.t ⟨.d0, .d1, .d3⟩), none⟩,
    ⟨some ⟨.d0, .d2, .d6⟩, .bin .neq (.t ⟨.d0, .d2, .d5⟩) (.c (.int .i64 0)), none⟩])
  (.cond (.t ⟨.d0, .d2, .d6⟩)
    (.seq (.region [⟨some ⟨.d0, .d2, .d7⟩, .move (.t ⟨.d0, .d0, .d0⟩), none⟩,
      ⟨some ⟨.d0, .d3, .d0⟩, .move (.t ⟨.d0, .d1, .d3⟩), none⟩,
      ⟨some ⟨.d0, .d1, .d0⟩, .move (.t ⟨.d0, .d2, .d7⟩), none⟩,
      ⟨some ⟨.d0, .d1, .d1⟩, .move (.c (.bool false)), none⟩,
      ⟨some ⟨.d0, .d1, .d2⟩, .move (.t ⟨.d0, .d3, .d0⟩), none⟩])
    (.ret))
    (.skip))))
  (.seq (.region [⟨some ⟨.d0, .d1, .d4⟩, .move (.c (.int .i64 0)), none⟩])
  (.seq (.seq (.region [⟨some ⟨.d0, .d3, .d1⟩, .move (.t ⟨.d0, .d0, .d0⟩), none⟩,
    ⟨some ⟨.d0, .d3, .d2⟩, .len (.t ⟨.d0, .d3, .d1⟩), none⟩,
    ⟨some ⟨.d0, .d3, .d3⟩, .bin .gtr (.t ⟨.d0, .d3, .d2⟩) (.c (.int .i64 0)), none⟩])
  (.cond (.t ⟨.d0, .d3, .d3⟩)
    (.region [⟨some ⟨.d0, .d3, .d4⟩, .move (.t ⟨.d0, .d0, .d0⟩), none⟩,
      ⟨some ⟨.d0, .d3, .d5⟩, .move (.t ⟨.d0, .d0, .d0⟩), none⟩,
      ⟨some ⟨.d0, .d3, .d6⟩, .len (.t ⟨.d0, .d3, .d5⟩), none⟩,
      ⟨some ⟨.d0, .d3, .d7⟩, .bin .sub (.t ⟨.d0, .d3, .d6⟩) (.c (.int .i64 1)), none⟩,
      ⟨some ⟨.d0, .d4, .d0⟩, .indexSl 7 (.t ⟨.d0, .d3, .d4⟩) (.t ⟨.d0, .d3, .d7⟩), none⟩,
      ⟨some ⟨.d0, .d4, .d1⟩, .fieldAddr 6 (.t ⟨.d0, .d4, .d0⟩), none⟩,
      ⟨some ⟨.d0, .d4, .d2⟩, .load false 1 (.t ⟨.d0, .d4, .d1⟩), none⟩,
      ⟨some ⟨.d0, .d1, .d4⟩, .move (.t ⟨.d0, .d4, .d2⟩), none⟩])
    (.skip)))
  (.seq (.seq (.region [⟨some ⟨.d0, .d4, .d3⟩, .load true 4 (.t ⟨.d0, .d0, .d5⟩), none⟩,
    ⟨some ⟨.d0, .d4, .d4⟩, .call 50 [(.t ⟨.d0, .d4, .d3⟩)], none⟩,
    ⟨some ⟨.d0, .d4, .d5⟩, .un .not (.t ⟨.d0, .d4, .d4⟩), none⟩,
    ⟨some ⟨.d0, .d4, .d6⟩, .move (.t ⟨.d0, .d4, .d5⟩), none⟩,
    ⟨some ⟨.d0, .d4, .d7⟩, .move (.t ⟨.d0, .d0, .d2⟩), some (⟨.d0, .d4, .d6⟩, false)⟩,
    ⟨some ⟨.d0, .d5, .d0⟩, .bin .lss (.t ⟨.d0, .d4, .d7⟩) (.c (.int .i64 0)), some (⟨.d0, .d4, .d6⟩, false)⟩,
    ⟨some ⟨.d0, .d5, .d1⟩, .pick (.t ⟨.d0, .d4, .d6⟩) (.c (.bool true)) (.t ⟨.d0, .d5, .d0⟩), none⟩,
    ⟨some ⟨.d0, .d5, .d2⟩, .move (.t ⟨.d0, .d5, .d1⟩), none⟩,
    ⟨some ⟨.d0, .d5, .d3⟩, .move (.t ⟨.d0, .d0, .d2⟩), some (⟨.d0, .d5, .d2⟩, false)⟩,
    ⟨some ⟨.d0, .d5, .d4⟩, .bin .gtr (.t ⟨.d0, .d5, .d3⟩) (.c (.int .i64 255)), some (⟨.d0, .d5, .d2⟩, false)⟩,
    ⟨some ⟨.d0, .d5, .d5⟩, .pick (.t ⟨.d0, .d5, .d2⟩) (.c (.bool true)) (.t ⟨.d0, .d5, .d4⟩), none⟩,
    ⟨some ⟨.d0, .d5, .d6⟩, .move (.t ⟨.d0, .d5, .d5⟩), none⟩,
    ⟨some ⟨.d0, .d5, .d7⟩, .load false 1 (.t ⟨.d0, .d0, .d7⟩), some (⟨.d0, .d5, .d6⟩, false)⟩,
    ⟨some ⟨.d0, .d6, .d0⟩, .move (.t ⟨.d0, .d1, .d4⟩), some (⟨.d0, .d5, .d6⟩, false)⟩,
    ⟨some ⟨.d0, .d6, .d1⟩, .bin .lss (.t ⟨.d0, .d5, .d7⟩) (.t ⟨.d0, .d6, .d0⟩), some (⟨.d0, .d5, .d6⟩, false)⟩,
    ⟨some ⟨.d0, .d6, .d2⟩, .pick (.t ⟨.d0, .d5, .d6⟩) (.c (.bool true)) (.t ⟨.d0, .d6, .d1⟩), none⟩,
    ⟨some ⟨.d0, .d6, .d3⟩, .move (.t ⟨.d0, .d6, .d2⟩), none⟩,
    ⟨some ⟨.d0, .d6, .d4⟩, .load false 1 (.t ⟨.d0, .d0, .d7⟩), some (⟨.d0, .d6, .d3⟩, false)⟩,
    ⟨some ⟨.d0, .d6, .d5⟩, .bin .gtr (.t ⟨.d0, .d6, .d4⟩) (.c (.int .i64 1099511627776)), some (⟨.d0, .d6, .d3⟩, false)⟩,
    ⟨some ⟨.d0, .d6, .d6⟩, .pick (.t ⟨.d0, .d6, .d3⟩) (.c (.bool true)) (.t ⟨.d0, .d6, .d5⟩), none⟩])
  (.cond (.t ⟨.d0, .d6, .d6⟩)
    (.seq (.region [⟨some ⟨.d0, .d6, .d7⟩, .move (.t ⟨.d0, .d0, .d0⟩), none⟩,
      ⟨some ⟨.d0, .d1, .d0⟩, .move (.t ⟨.d0, .d6, .d7⟩), none⟩,
      ⟨some ⟨.d0, .d1, .d1⟩, .move (.c (.bool false)), none⟩,
      ⟨some ⟨.d0, .d1, .d2⟩, .move (.c (.int .i64 1)), none⟩])
    (.ret))
    (.skip)))
  (.seq (.region [⟨some ⟨.d0, .d7, .d0⟩, .move (.t ⟨.d0, .d0, .d0⟩), none⟩,
    ⟨some ⟨.d0, .d7, .d1⟩, .call 49 [(.t ⟨.d0, .d7, .d0⟩)], none⟩,
    ⟨some ⟨.d0, .d7, .d2⟩, .mkfn 52 [] [(.t ⟨.d0, .d0, .d7⟩)], none⟩,
    ⟨some ⟨.d0, .d7, .d3⟩, .call 51 [(.t ⟨.d0, .d7, .d1⟩), (.t ⟨.d0, .d7, .d2⟩)], none⟩,
    ⟨some ⟨.d0, .d1, .d5⟩, .move (.t ⟨.d0, .d7, .d3⟩), none⟩])
  (.seq (.region [⟨some ⟨.d0, .d7, .d4⟩, .move (.t ⟨.d0, .d0, .d2⟩), none⟩,
    ⟨some ⟨.d0, .d7, .d5⟩, .bin .and (.t ⟨.d0, .d7, .d4⟩) (.c (.int .i64 2)), none⟩,
    ⟨some ⟨.d0, .d7, .d6⟩, .bin .neq (.t ⟨.d0, .d7, .d5⟩) (.c (.int .i64 0)), none⟩,
    ⟨some ⟨.d0, .d7, .d7⟩, .move (.t ⟨.d0, .d0, .d2⟩), none⟩,
    ⟨some ⟨.d1, .d0, .d0⟩, .bin .and (.t ⟨.d0, .d7, .d7⟩) (.c (.int .i64 16)), none⟩,
    ⟨some ⟨.d1, .d0, .d1⟩, .bin .neq (.t ⟨.d1, .d0, .d0⟩) (.c (.int .i64 0)), none⟩,
    ⟨some ⟨.d1, .d0, .d2⟩, .move (.t ⟨.d0, .d0, .d2⟩), none⟩,
    ⟨some ⟨.d1, .d0, .d3⟩, .bin .and (.t ⟨.d1, .d0, .d2⟩) (.c (.int .i64 1)), none⟩,
    ⟨some ⟨.d1, .d0, .d4⟩, .bin .neq (.t ⟨.d1, .d0, .d3⟩) (.c (.int .i64 0)), none⟩,
    ⟨some ⟨.d1, .d0, .d5⟩, .move (.t ⟨.d0, .d0, .d2⟩), none⟩,
    ⟨some ⟨.d1, .d0, .d6⟩, .bin .and (.t ⟨.d1, .d0, .d5⟩) (.c (.int .i64 4)), none⟩,
    ⟨some ⟨.d1, .d0, .d7⟩, .bin .neq (.t ⟨.d1, .d0, .d6⟩) (.c (.int .i64 0)), none⟩,
    ⟨some ⟨.d1, .d1, .d0⟩, .build [.bool false, .bool false, .bool false, .bool false, .bool false] [(0, 1, (.t ⟨.d0, .d7, .d6⟩)), (1, 1, (.t ⟨.d1, .d0, .d1⟩)), (2, 1, (.t ⟨.d1, .d0, .d4⟩)), (3, 1, (.t ⟨.d1, .d0, .d7⟩))], none⟩,
    ⟨some ⟨.d0, .d1, .d6⟩, .alloc 2 [.bool false, .bool false, .bool false, .bool false, .bool false], none⟩,
    ⟨none, .store 5 (.t ⟨.d0, .d1, .d6⟩) (.t ⟨.d1, .d1, .d0⟩), none⟩])
  (.seq (.region [⟨some ⟨.d1, .d1, .d1⟩, .move (.t ⟨.d0, .d1, .d5⟩), none⟩,
    ⟨some ⟨.d1, .d1, .d2⟩, .load true 4 (.t ⟨.d0, .d0, .d5⟩), none⟩,
    ⟨some ⟨.d1, .d1, .d3⟩, .call 45 [(.t ⟨.d1, .d1, .d1⟩), (.t ⟨.d1, .d1, .d2⟩)], none⟩,
    ⟨some ⟨.d0, .d1, .d7⟩, .move (.t ⟨.d1, .d1, .d3⟩), none⟩])
  (.seq (.seq (.region [⟨some ⟨.d1, .d1, .d4⟩, .move (.t ⟨.d0, .d1, .d7⟩), none⟩,
    ⟨some ⟨.d1, .d1, .d5⟩, .bin .lss (.t ⟨.d1, .d1, .d4⟩) (.c (.int .i64 0)), none⟩])
  (.cond (.t ⟨.d1, .d1, .d5⟩)
    (.seq (.block 0
      (.seq (.region [⟨some ⟨.d1, .d1, .d7⟩, .load true 5 (.t ⟨.d0, .d1, .d6⟩), none⟩,
        ⟨some ⟨.d1, .d2, .d0⟩, .build [.bool false, .bool false, .bool false, .bool false, .bool false] [(0, 1, (.c (.bool true)))], none⟩,
        ⟨some ⟨.d1, .d2, .d1⟩, .eqs true [1, 1, 1, 1, 1] (.t ⟨.d1, .d1, .d7⟩) (.t ⟨.d1, .d2, .d0⟩), none⟩,
        ⟨some ⟨.d1, .d1, .d6⟩, .move (.t ⟨.d1, .d2, .d1⟩), none⟩])
      (.cond (.t ⟨.d1, .d1, .d6⟩)
        (.seq (.region [⟨some ⟨.d1, .d2, .d2⟩, .move (.t ⟨.d0, .d1, .d5⟩), none⟩,
          ⟨some ⟨.d0, .d1, .d0⟩, .move (.t ⟨.d1, .d2, .d2⟩), none⟩,
          ⟨some ⟨.d0, .d1, .d1⟩, .move (.c (.bool false)), none⟩,
          ⟨some ⟨.d0, .d1, .d2⟩, .move (.c (.int .i64 0)), none⟩])
        (.ret))
        (.seq (.region [⟨some ⟨.d1, .d2, .d4⟩, .move (.t ⟨.d0, .d1, .d5⟩), none⟩,
          ⟨some ⟨.d1, .d2, .d5⟩, .len (.t ⟨.d1, .d2, .d4⟩), none⟩,
          ⟨some ⟨.d1, .d2, .d6⟩, .bin .eql (.t ⟨.d1, .d2, .d5⟩) (.c (.int .i64 64)), none⟩,
          ⟨some ⟨.d1, .d2, .d3⟩, .move (.t ⟨.d1, .d2, .d6⟩), none⟩])
        (.cond (.t ⟨.d1, .d2, .d3⟩)
          (.seq (.region [⟨some ⟨.d1, .d2, .d7⟩, .move (.t ⟨.d0, .d0, .d0⟩), none⟩,
            ⟨some ⟨.d0, .d1, .d0⟩, .move (.t ⟨.d1, .d2, .d7⟩), none⟩,
            ⟨some ⟨.d0, .d1, .d1⟩, .move (.c (.bool false)), none⟩,
            ⟨some ⟨.d0, .d1, .d2⟩, .move (.c (.int .i64 6)), none⟩])
          (.ret))
          (.skip))))))
    (.seq (.region [⟨some ⟨.d1, .d3, .d0⟩, .move (.t ⟨.d0, .d1, .d5⟩), none⟩,
      ⟨some ⟨.d1, .d3, .d1⟩, .load true 4 (.t ⟨.d0, .d0, .d5⟩), none⟩,
      ⟨some ⟨.d1, .d3, .d2⟩, .load false 1 (.t ⟨.d0, .d0, .d7⟩), none⟩,
      ⟨some ⟨.d1, .d3, .d3⟩, .build [.int .u32 0, .int .u32 0, .int .i64 0, .int .i64 0, .int .i64 0, .int .i64 0, .int .i64 0] [(0, 4, (.t ⟨.d1, .d3, .d1⟩)), (4, 1, (.c (.int .i64 1))), (6, 1, (.t ⟨.d1, .d3, .d2⟩))], none⟩,
      ⟨some ⟨.d1, .d3, .d4⟩, .buildSlice 3 1 [.int .u32 0, .int .u32 0, .int .i64 0, .int .i64 0, .int .i64 0, .int .i64 0, .int .i64 0] [(0, (.t ⟨.d1, .d3, .d3⟩))], none⟩,
      ⟨some ⟨.d1, .d3, .d5⟩, .append 4 7 48 (.t ⟨.d1, .d3, .d0⟩) (.t ⟨.d1, .d3, .d4⟩), none⟩,
      ⟨some ⟨.d0, .d1, .d0⟩, .move (.t ⟨.d1, .d3, .d5⟩), none⟩,
      ⟨some ⟨.d0, .d1, .d1⟩, .move (.c (.bool true)), none⟩,
      ⟨some ⟨.d0, .d1, .d2⟩, .move (.c (.int .i64 0)), none⟩])
    (.ret)))
    (.skip)))
  (.seq (.region [⟨some ⟨.d1, .d3, .d6⟩, .move (.t ⟨.d0, .d1, .d5⟩), none⟩,
    ⟨some ⟨.d1, .d3, .d7⟩, .move (.t ⟨.d0, .d1, .d7⟩), none⟩,
    ⟨some ⟨.d1, .d4, .d0⟩, .indexSl 7 (.t ⟨.d1, .d3, .d6⟩) (.t ⟨.d1, .d3, .d7⟩), none⟩,
    ⟨some ⟨.d1, .d4, .d1⟩, .load true 7 (.t ⟨.d1, .d4, .d0⟩), none⟩,
    ⟨some ⟨.d0, .d2, .d0⟩, .alloc 5 [.int .u32 0, .int .u32 0, .int .i64 0, .int .i64 0, .int .i64 0, .int .i64 0, .int .i64 0], none⟩,
    ⟨none, .store 7 (.t ⟨.d0, .d2, .d0⟩) (.t ⟨.d1, .d4, .d1⟩), none⟩])
  (.seq (.region [⟨some ⟨.d1, .d4, .d2⟩, .fieldAddr 0 (.t ⟨.d0, .d2, .d0⟩), none⟩,
    ⟨some ⟨.d1, .d4, .d3⟩, .load true 4 (.t ⟨.d1, .d4, .d2⟩), none⟩,
    ⟨some ⟨.d1, .d4, .d4⟩, .load true 4 (.t ⟨.d0, .d0, .d5⟩), none⟩,
    ⟨some ⟨.d1, .d4, .d5⟩, .eqs false [0, 0, 0, 0] (.t ⟨.d1, .d4, .d3⟩) (.t ⟨.d1, .d4, .d4⟩), none⟩,
    ⟨some ⟨.d1, .d4, .d6⟩, .fieldAddr 4 (.t ⟨.d0, .d1, .d6⟩), none⟩,
    ⟨none, .store 1 (.t ⟨.d1, .d4, .d6⟩) (.t ⟨.d1, .d4, .d5⟩), none⟩])
  (.seq (.seq (.region [⟨some ⟨.d1, .d4, .d7⟩, .fieldAddr 3 (.t ⟨.d0, .d1, .d6⟩), none⟩,
    ⟨some ⟨.d1, .d5, .d0⟩, .load false 1 (.t ⟨.d1, .d4, .d7⟩), none⟩,
    ⟨some ⟨.d1, .d5, .d1⟩, .un .not (.t ⟨.d1, .d5, .d0⟩), none⟩,
    ⟨some ⟨.d1, .d5, .d2⟩, .move (.t ⟨.d1, .d5, .d1⟩), none⟩,
    ⟨some ⟨.d1, .d5, .d3⟩, .load true 5 (.t ⟨.d0, .d1, .d6⟩), some (⟨.d1, .d5, .d2⟩, true)⟩,
    ⟨some ⟨.d1, .d5, .d4⟩, .call 53 [(.t ⟨.d0, .d2, .d0⟩), (.t ⟨.d1, .d5, .d3⟩)], some (⟨.d1, .d5, .d2⟩, true)⟩,
    ⟨some ⟨.d1, .d5, .d5⟩, .un .not (.t ⟨.d1, .d5, .d4⟩), some (⟨.d1, .d5, .d2⟩, true)⟩,
    ⟨some ⟨.d1, .d5, .d6⟩, .pick (.t ⟨.d1, .d5, .d2⟩) (.t ⟨.d1, .d5, .d5⟩) (.c (.bool false)), none⟩])
  (.cond (.t ⟨.d1, .d5, .d6⟩)
    (.seq (.region [⟨some ⟨.d1, .d5, .d7⟩, .move (.t ⟨.d0, .d1, .d5⟩), none⟩,
      ⟨some ⟨.d0, .d1, .d0⟩, .move (.t ⟨.d1, .d5, .d7⟩), none⟩,
      ⟨some ⟨.d0, .d1, .d1⟩, .move (.c (.bool false)), none⟩,
      ⟨some ⟨.d0, .d1, .d2⟩, .move (.c (.int .i64 0)), none⟩])
    (.ret))
    (.skip)))
  (.seq (.region [⟨some ⟨.d1, .d6, .d0⟩, .move (.t ⟨.d0, .d1, .d5⟩), none⟩,
    ⟨some ⟨.d1, .d6, .d1⟩, .move (.t ⟨.d0, .d1, .d7⟩), none⟩,
    ⟨some ⟨.d1, .d6, .d2⟩, .move (.t ⟨.d0, .d1, .d7⟩), none⟩,
    ⟨some ⟨.d1, .d6, .d3⟩, .bin .add (.t ⟨.d1, .d6, .d2⟩) (.c (.int .i64 1)), none⟩,
    ⟨some ⟨.d1, .d6, .d4⟩, .call 54 [(.t ⟨.d1, .d6, .d0⟩), (.t ⟨.d1, .d6, .d1⟩), (.t ⟨.d1, .d6, .d3⟩)], none⟩,
    ⟨some ⟨.d0, .d1, .d5⟩, .move (.t ⟨.d1, .d6, .d4⟩), none⟩])
  (.seq (.seq (.region [⟨some ⟨.d1, .d6, .d5⟩, .fieldAddr 3 (.t ⟨.d0, .d1, .d6⟩), none⟩,
    ⟨some ⟨.d1, .d6, .d6⟩, .load false 1 (.t ⟨.d1, .d6, .d5⟩), none⟩])
  (.cond (.t ⟨.d1, .d6, .d6⟩)
    (.seq (.region [⟨some ⟨.d1, .d6, .d7⟩, .move (.t ⟨.d0, .d1, .d5⟩), none⟩,
      ⟨some ⟨.d0, .d1, .d0⟩, .move (.t ⟨.d1, .d6, .d7⟩), none⟩,
      ⟨some ⟨.d0, .d1, .d1⟩, .move (.c (.bool true)), none⟩,
      ⟨some ⟨.d0, .d1, .d2⟩, .move (.c (.int .i64 0)), none⟩])
    (.ret))
    (.skip)))
  (.seq (.region [⟨some ⟨.d1, .d7, .d0⟩, .load false 1 (.t ⟨.d0, .d0, .d7⟩), none⟩,
    ⟨some ⟨.d1, .d7, .d1⟩, .fieldAddr 6 (.t ⟨.d0, .d2, .d0⟩), none⟩,
    ⟨none, .store 1 (.t ⟨.d1, .d7, .d1⟩) (.t ⟨.d1, .d7, .d0⟩), none⟩])
  (.seq (.region [⟨some ⟨.d1, .d7, .d2⟩, .move (.t ⟨.d0, .d1, .d5⟩), none⟩,
    ⟨some ⟨.d1, .d7, .d3⟩, .load true 7 (.t ⟨.d0, .d2, .d0⟩), none⟩,
    ⟨some ⟨.d1, .d7, .d4⟩, .buildSlice 6 1 [.int .u32 0, .int .u32 0, .int .i64 0, .int .i64 0, .int .i64 0, .int .i64 0, .int .i64 0] [(0, (.t ⟨.d1, .d7, .d3⟩))], none⟩,
    ⟨some ⟨.d1, .d7, .d5⟩, .append 7 7 48 (.t ⟨.d1, .d7, .d2⟩) (.t ⟨.d1, .d7, .d4⟩), none⟩,
    ⟨some ⟨.d0, .d1, .d0⟩, .move (.t ⟨.d1, .d7, .d5⟩), none⟩,
    ⟨some ⟨.d0, .d1, .d1⟩, .move (.c (.bool true)), none⟩,
    ⟨some ⟨.d0, .d1, .d2⟩, .move (.c (.int .i64 0)), none⟩])
  (.ret)))))))))))))))))
def r_track_Hear : List XR := [.tmp ⟨.d0, .d1, .d0⟩, .tmp ⟨.d0, .d1, .d1⟩, .tmp ⟨.d0, .d1, .d2⟩]
theorem ok_track_Hear : okC Try.prog Try.f23.ntmps (bodyOf Try.f23) x_track_Hear = true := by kernel_rfl
theorem okr_track_Hear : okRs Try.prog Try.f23.results.toList r_track_Hear = true := by kernel_rfl

/-- custref.TrackHeard -/
def x_custref_TrackHeard : XC :=
  .seq (.region [⟨some ⟨.d0, .d0, .d5⟩, .box 0 4 (.t ⟨.d0, .d0, .d1⟩), none⟩,
    ⟨some ⟨.d0, .d1, .d0⟩, .move (.c (.slice none 0 0)), none⟩,
    ⟨some ⟨.d0, .d1, .d1⟩, .move (.c (.bool false)), none⟩,
    ⟨some ⟨.d0, .d1, .d2⟩, .move (.c (.int .i64 0)), none⟩])
  (.seq (.seq (.region [⟨some ⟨.d0, .d2, .d6⟩, .move (.t ⟨.d0, .d0, .d0⟩), none⟩,
    ⟨some ⟨.d0, .d2, .d7⟩, .call 20 [(.t ⟨.d0, .d2, .d6⟩)], none⟩,
    ⟨some ⟨.d0, .d1, .d3⟩, .move (.t ⟨.d0, .d2, .d7⟩), none⟩])
  (.seq (.region [⟨some ⟨.d0, .d3, .d0⟩, .move (.t ⟨.d0, .d1, .d3⟩), none⟩,
    ⟨some ⟨.d0, .d3, .d1⟩, .bin .neq (.t ⟨.d0, .d3, .d0⟩) (.c (.int .i64 0)), none⟩])
  (.cond (.t ⟨.d0, .d3, .d1⟩)
    (.seq (.region [⟨some ⟨.d0, .d3, .d2⟩, .move (.t ⟨.d0, .d0, .d0⟩), none⟩,
      ⟨some ⟨.d0, .d3, .d3⟩, .move (.t ⟨.d0, .d1, .d3⟩), none⟩,
      ⟨some ⟨.d0, .d1, .d0⟩, .move (.t ⟨.d0, .d3, .d2⟩), none⟩,
      ⟨some ⟨.d0, .d1, .d1⟩, .move (.c (.bool false)), none⟩,
      ⟨some ⟨.d0, .d1, .d2⟩, .move (.t ⟨.d0, .d3, .d3⟩), none⟩])
    (.ret))
    (.skip))))
  (.seq (.region [⟨some ⟨.d0, .d1, .d4⟩, .move (.c (.int .i64 0)), none⟩])
  (.seq (.seq (.region [⟨some ⟨.d0, .d3, .d4⟩, .move (.t ⟨.d0, .d0, .d0⟩), none⟩,
    ⟨some ⟨.d0, .d3, .d5⟩, .len (.t ⟨.d0, .d3, .d4⟩), none⟩,
    ⟨some ⟨.d0, .d3, .d6⟩, .move (.c (.int .i64 0)), none⟩])
  (.block 0
    (.loop
      (.seq (.region [⟨some ⟨.d0, .d3, .d7⟩, .bin .lss (.t ⟨.d0, .d3, .d6⟩) (.t ⟨.d0, .d3, .d5⟩), none⟩])
      (.seq (.cond (.t ⟨.d0, .d3, .d7⟩)
        (.skip)
        (.exit 0))
      (.seq (.block 1
        (.seq (.region [⟨some ⟨.d0, .d4, .d0⟩, .indexSl 7 (.t ⟨.d0, .d3, .d4⟩) (.t ⟨.d0, .d3, .d6⟩), none⟩,
          ⟨some ⟨.d0, .d4, .d1⟩, .load true 7 (.t ⟨.d0, .d4, .d0⟩), none⟩,
          ⟨some ⟨.d0, .d1, .d6⟩, .alloc 1 [.int .u32 0, .int .u32 0, .int .i64 0, .int .i64 0, .int .i64 0, .int .i64 0, .int .i64 0], none⟩,
          ⟨none, .store 7 (.t ⟨.d0, .d1, .d6⟩) (.t ⟨.d0, .d4, .d1⟩), none⟩])
        (.region [⟨some ⟨.d0, .d4, .d2⟩, .fieldAddr 6 (.t ⟨.d0, .d1, .d6⟩), none⟩,
          ⟨some ⟨.d0, .d4, .d3⟩, .load false 1 (.t ⟨.d0, .d4, .d2⟩), none⟩,
          ⟨some ⟨.d0, .d1, .d4⟩, .move (.t ⟨.d0, .d4, .d3⟩), none⟩])))
      (.region [⟨some ⟨.d0, .d4, .d4⟩, .bin .add (.t ⟨.d0, .d3, .d6⟩) (.c (.int .i64 1)), none⟩,
        ⟨some ⟨.d0, .d3, .d6⟩, .move (.t ⟨.d0, .d4, .d4⟩), none⟩])))))))
  (.seq (.seq (.regionD [0, 1, 3, 7, 15, 15, 47, 127, 255, 511, 1023, 2047, 4095, 8191, 16383, 32767, 32767, 131071, 262143, 524287] [⟨some ⟨.d0, .d4, .d5⟩, .load true 4 (.t ⟨.d0, .d0, .d5⟩), none⟩,
    ⟨some ⟨.d0, .d4, .d6⟩, .call 55 [(.t ⟨.d0, .d4, .d5⟩)], none⟩,
    ⟨some ⟨.d0, .d4, .d7⟩, .un .not (.t ⟨.d0, .d4, .d6⟩), none⟩,
    ⟨some ⟨.d0, .d5, .d0⟩, .move (.t ⟨.d0, .d4, .d7⟩), none⟩,
    ⟨some ⟨.d0, .d5, .d1⟩, .load true 4 (.t ⟨.d0, .d0, .d5⟩), some (⟨.d0, .d5, .d0⟩, false)⟩,
    ⟨some ⟨.d0, .d5, .d2⟩, .load true 4 (.t ⟨.d0, .d0, .d5⟩), some (⟨.d0, .d5, .d0⟩, false)⟩,
    ⟨some ⟨.d0, .d5, .d3⟩, .call 48 [(.t ⟨.d0, .d5, .d2⟩)], some (⟨.d0, .d5, .d0⟩, false)⟩,
    ⟨some ⟨.d0, .d5, .d4⟩, .eqs false [0, 0, 0, 0] (.t ⟨.d0, .d5, .d1⟩) (.t ⟨.d0, .d5, .d3⟩), some (⟨.d0, .d5, .d0⟩, false)⟩,
    ⟨some ⟨.d0, .d5, .d5⟩, .pick (.t ⟨.d0, .d5, .d0⟩) (.c (.bool true)) (.t ⟨.d0, .d5, .d4⟩), none⟩,
    ⟨some ⟨.d0, .d5, .d6⟩, .move (.t ⟨.d0, .d5, .d5⟩), none⟩,
    ⟨some ⟨.d0, .d5, .d7⟩, .move (.t ⟨.d0, .d0, .d2⟩), some (⟨.d0, .d5, .d6⟩, false)⟩,
    ⟨some ⟨.d0, .d6, .d0⟩, .call 15 [(.t ⟨.d0, .d5, .d7⟩), (.c (.int .i64 0)), (.c (.int .i64 255))], some (⟨.d0, .d5, .d6⟩, false)⟩,
    ⟨some ⟨.d0, .d6, .d1⟩, .un .not (.t ⟨.d0, .d6, .d0⟩), some (⟨.d0, .d5, .d6⟩, false)⟩,
    ⟨some ⟨.d0, .d6, .d2⟩, .pick (.t ⟨.d0, .d5, .d6⟩) (.c (.bool true)) (.t ⟨.d0, .d6, .d1⟩), none⟩,
    ⟨some ⟨.d0, .d6, .d3⟩, .move (.t ⟨.d0, .d6, .d2⟩), none⟩,
    ⟨some ⟨.d0, .d6, .d4⟩, .move (.t ⟨.d0, .d0, .d3⟩), some (⟨.d0, .d6, .d3⟩, false)⟩,
    ⟨some ⟨.d0, .d6, .d5⟩, .move (.t ⟨.d0, .d1, .d4⟩), some (⟨.d0, .d6, .d3⟩, false)⟩,
    ⟨some ⟨.d0, .d6, .d6⟩, .call 15 [(.t ⟨.d0, .d6, .d4⟩), (.t ⟨.d0, .d6, .d5⟩), (.c (.int .i64 1099511627776))], some (⟨.d0, .d6, .d3⟩, false)⟩,
    ⟨some ⟨.d0, .d6, .d7⟩, .un .not (.t ⟨.d0, .d6, .d6⟩), some (⟨.d0, .d6, .d3⟩, false)⟩,
    ⟨some ⟨.d0, .d7, .d0⟩, .pick (.t ⟨.d0, .d6, .d3⟩) (.c (.bool true)) (.t ⟨.d0, .d6, .d7⟩), none⟩])
  (.cond (.t ⟨.d0, .d7, .d0⟩)
    (.seq (.region [⟨some ⟨.d0, .d7, .d1⟩, .move (.t ⟨.d0, .d0, .d0⟩), none⟩,
      ⟨some ⟨.d0, .d1, .d0⟩, .move (.t ⟨.d0, .d7, .d1⟩), none⟩,
      ⟨some ⟨.d0, .d1, .d1⟩, .move (.c (.bool false)), none⟩,
      ⟨some ⟨.d0, .d1, .d2⟩, .move (.c (.int .i64 1)), none⟩])
    (.ret))
    (.skip)))
  (.seq (.region [⟨some ⟨.d0, .d1, .d7⟩, .move (.c (.slice none 0 0)), none⟩])
  (.seq (.seq (.region [⟨some ⟨.d0, .d7, .d2⟩, .move (.t ⟨.d0, .d0, .d0⟩), none⟩,
    ⟨some ⟨.d0, .d7, .d3⟩, .len (.t ⟨.d0, .d7, .d2⟩), none⟩,
    ⟨some ⟨.d0, .d7, .d4⟩, .move (.c (.int .i64 0)), none⟩])
  (.block 2
    (.loop
      (.seq (.region [⟨some ⟨.d0, .d7, .d5⟩, .bin .lss (.t ⟨.d0, .d7, .d4⟩) (.t ⟨.d0, .d7, .d3⟩), none⟩])
      (.seq (.cond (.t ⟨.d0, .d7, .d5⟩)
        (.skip)
        (.exit 2))
      (.seq (.block 3
        (.seq (.region [⟨some ⟨.d0, .d7, .d6⟩, .indexSl 7 (.t ⟨.d0, .d7, .d2⟩) (.t ⟨.d0, .d7, .d4⟩), none⟩,
          ⟨some ⟨.d0, .d7, .d7⟩, .load true 7 (.t ⟨.d0, .d7, .d6⟩), none⟩,
          ⟨some ⟨.d0, .d2, .d1⟩, .alloc 2 [.int .u32 0, .int .u32 0, .int .i64 0, .int .i64 0, .int .i64 0, .int .i64 0, .int .i64 0], none⟩,
          ⟨none, .store 7 (.t ⟨.d0, .d2, .d1⟩) (.t ⟨.d0, .d7, .d7⟩), none⟩])
        (.seq (.region [⟨some ⟨.d1, .d0, .d0⟩, .load true 7 (.t ⟨.d0, .d2, .d1⟩), none⟩,
          ⟨some ⟨.d1, .d0, .d1⟩, .move (.t ⟨.d0, .d0, .d3⟩), none⟩,
          ⟨some ⟨.d1, .d0, .d2⟩, .call 22 [(.t ⟨.d1, .d0, .d0⟩), (.t ⟨.d1, .d0, .d1⟩)], none⟩,
          ⟨some ⟨.d1, .d0, .d3⟩, .un .not (.t ⟨.d1, .d0, .d2⟩), none⟩])
        (.cond (.t ⟨.d1, .d0, .d3⟩)
          (.region [⟨some ⟨.d1, .d0, .d4⟩, .move (.t ⟨.d0, .d1, .d7⟩), none⟩,
            ⟨some ⟨.d1, .d0, .d5⟩, .load true 7 (.t ⟨.d0, .d2, .d1⟩), none⟩,
            ⟨some ⟨.d1, .d0, .d6⟩, .buildSlice 3 1 [.int .u32 0, .int .u32 0, .int .i64 0, .int .i64 0, .int .i64 0, .int .i64 0, .int .i64 0] [(0, (.t ⟨.d1, .d0, .d5⟩))], none⟩,
            ⟨some ⟨.d1, .d0, .d7⟩, .append 4 7 48 (.t ⟨.d1, .d0, .d4⟩) (.t ⟨.d1, .d0, .d6⟩), none⟩,
            ⟨some ⟨.d0, .d1, .d7⟩, .move (.t ⟨.d1, .d0, .d7⟩), none⟩])
          (.skip)))))
      (.region [⟨some ⟨.d1, .d1, .d0⟩, .bin .add (.t ⟨.d0, .d7, .d4⟩) (.c (.int .i64 1)), none⟩,
        ⟨some ⟨.d0, .d7, .d4⟩, .move (.t ⟨.d1, .d1, .d0⟩), none⟩])))))))
  (.seq (.region [⟨some ⟨.d1, .d1, .d1⟩, .move (.t ⟨.d0, .d1, .d7⟩), none⟩,
    ⟨some ⟨.d1, .d1, .d2⟩, .mkfn 57 [] [(.t ⟨.d0, .d0, .d5⟩)], none⟩,
    ⟨some ⟨.d1, .d1, .d3⟩, .call 56 [(.t ⟨.d1, .d1, .d1⟩), (.t ⟨.d1, .d1, .d2⟩)], none⟩,
    ⟨some ⟨.d0, .d2, .d2⟩, .move (.t ⟨.d1, .d1, .d3⟩), none⟩])
  (.seq (.seq (.region [⟨some ⟨.d1, .d1, .d4⟩, .move (.t ⟨.d0, .d2, .d2⟩), none⟩,
    ⟨some ⟨.d1, .d1, .d5⟩, .bin .lss (.t ⟨.d1, .d1, .d4⟩) (.c (.int .i64 0)), none⟩,
    ⟨some ⟨.d1, .d1, .d6⟩, .move (.t ⟨.d1, .d1, .d5⟩), none⟩,
    ⟨some ⟨.d1, .d1, .d7⟩, .move (.t ⟨.d0, .d0, .d2⟩), some (⟨.d1, .d1, .d6⟩, true)⟩,
    ⟨some ⟨.d1, .d2, .d0⟩, .bin .and (.t ⟨.d1, .d1, .d7⟩) (.c (.int .i64 23)), some (⟨.d1, .d1, .d6⟩, true)⟩,
    ⟨some ⟨.d1, .d2, .d1⟩, .bin .neq (.t ⟨.d1, .d2, .d0⟩) (.c (.int .i64 2)), some (⟨.d1, .d1, .d6⟩, true)⟩,
    ⟨some ⟨.d1, .d2, .d2⟩, .pick (.t ⟨.d1, .d1, .d6⟩) (.t ⟨.d1, .d2, .d1⟩) (.c (.bool false)), none⟩])
  (.cond (.t ⟨.d1, .d2, .d2⟩)
    (.seq (.region [⟨some ⟨.d1, .d2, .d3⟩, .move (.t ⟨.d0, .d1, .d7⟩), none⟩,
      ⟨some ⟨.d0, .d1, .d0⟩, .move (.t ⟨.d1, .d2, .d3⟩), none⟩,
      ⟨some ⟨.d0, .d1, .d1⟩, .move (.c (.bool false)), none⟩,
      ⟨some ⟨.d0, .d1, .d2⟩, .move (.c (.int .i64 0)), none⟩])
    (.ret))
    (.skip)))
  (.seq (.seq (.region [⟨some ⟨.d1, .d2, .d4⟩, .move (.t ⟨.d0, .d2, .d2⟩), none⟩,
    ⟨some ⟨.d1, .d2, .d5⟩, .bin .lss (.t ⟨.d1, .d2, .d4⟩) (.c (.int .i64 0)), none⟩,
    ⟨some ⟨.d1, .d2, .d6⟩, .move (.t ⟨.d1, .d2, .d5⟩), none⟩,
    ⟨some ⟨.d1, .d2, .d7⟩, .move (.t ⟨.d0, .d1, .d7⟩), some (⟨.d1, .d2, .d6⟩, true)⟩,
    ⟨some ⟨.d1, .d3, .d0⟩, .len (.t ⟨.d1, .d2, .d7⟩), some (⟨.d1, .d2, .d6⟩, true)⟩,
    ⟨some ⟨.d1, .d3, .d1⟩, .bin .eql (.t ⟨.d1, .d3, .d0⟩) (.c (.int .i64 64)), some (⟨.d1, .d2, .d6⟩, true)⟩,
    ⟨some ⟨.d1, .d3, .d2⟩, .pick (.t ⟨.d1, .d2, .d6⟩) (.t ⟨.d1, .d3, .d1⟩) (.c (.bool false)), none⟩])
  (.cond (.t ⟨.d1, .d3, .d2⟩)
    (.seq (.region [⟨some ⟨.d1, .d3, .d3⟩, .move (.t ⟨.d0, .d0, .d0⟩), none⟩,
      ⟨some ⟨.d0, .d1, .d0⟩, .move (.t ⟨.d1, .d3, .d3⟩), none⟩,
      ⟨some ⟨.d0, .d1, .d1⟩, .move (.c (.bool false)), none⟩,
      ⟨some ⟨.d0, .d1, .d2⟩, .move (.c (.int .i64 6)), none⟩])
    (.ret))
    (.skip)))
  (.seq (.seq (.region [⟨some ⟨.d1, .d3, .d4⟩, .move (.t ⟨.d0, .d2, .d2⟩), none⟩,
    ⟨some ⟨.d1, .d3, .d5⟩, .bin .lss (.t ⟨.d1, .d3, .d4⟩) (.c (.int .i64 0)), none⟩])
  (.cond (.t ⟨.d1, .d3, .d5⟩)
    (.seq (.region [⟨some ⟨.d1, .d3, .d6⟩, .move (.t ⟨.d0, .d1, .d7⟩), none⟩,
      ⟨some ⟨.d1, .d3, .d7⟩, .load true 4 (.t ⟨.d0, .d0, .d5⟩), none⟩,
      ⟨some ⟨.d1, .d4, .d0⟩, .move (.t ⟨.d0, .d0, .d3⟩), none⟩,
      ⟨some ⟨.d1, .d4, .d1⟩, .build [.int .u32 0, .int .u32 0, .int .i64 0, .int .i64 0, .int .i64 0, .int .i64 0, .int .i64 0] [(0, 4, (.t ⟨.d1, .d3, .d7⟩)), (4, 1, (.c (.int .i64 1))), (6, 1, (.t ⟨.d1, .d4, .d0⟩))], none⟩,
      ⟨some ⟨.d1, .d4, .d2⟩, .buildSlice 5 1 [.int .u32 0, .int .u32 0, .int .i64 0, .int .i64 0, .int .i64 0, .int .i64 0, .int .i64 0] [(0, (.t ⟨.d1, .d4, .d1⟩))], none⟩,
      ⟨some ⟨.d1, .d4, .d3⟩, .append 6 7 48 (.t ⟨.d1, .d3, .d6⟩) (.t ⟨.d1, .d4, .d2⟩), none⟩,
      ⟨some ⟨.d0, .d1, .d0⟩, .move (.t ⟨.d1, .d4, .d3⟩), none⟩,
      ⟨some ⟨.d0, .d1, .d1⟩, .move (.c (.bool true)), none⟩,
      ⟨some ⟨.d0, .d1, .d2⟩, .move (.c (.int .i64 0)), none⟩])
    (.ret))
    (.skip)))
  (.seq (.regionD [0, 0, 3, 7, 0, 0, 48, 112, 240, 0, 1008, 0, 4095, 8191, 16383, 16383, 16383, 0, 163839, 458751, 1048575] [⟨some ⟨.d1, .d4, .d5⟩, .move (.t ⟨.d0, .d1, .d7⟩), none⟩,
    ⟨some ⟨.d1, .d4, .d6⟩, .move (.t ⟨.d0, .d2, .d2⟩), none⟩,
    ⟨some ⟨.d1, .d4, .d7⟩, .indexSl 7 (.t ⟨.d1, .d4, .d5⟩) (.t ⟨.d1, .d4, .d6⟩), none⟩,
    ⟨some ⟨.d1, .d5, .d0⟩, .load true 7 (.t ⟨.d1, .d4, .d7⟩), none⟩,
    ⟨some ⟨.d1, .d5, .d1⟩, .move (.t ⟨.d0, .d1, .d7⟩), none⟩,
    ⟨some ⟨.d1, .d5, .d2⟩, .move (.t ⟨.d0, .d2, .d2⟩), none⟩,
    ⟨some ⟨.d1, .d5, .d3⟩, .indexSl 7 (.t ⟨.d1, .d5, .d1⟩) (.t ⟨.d1, .d5, .d2⟩), none⟩,
    ⟨some ⟨.d1, .d5, .d4⟩, .fieldAddr 0 (.t ⟨.d1, .d5, .d3⟩), none⟩,
    ⟨some ⟨.d1, .d5, .d5⟩, .load true 4 (.t ⟨.d1, .d5, .d4⟩), none⟩,
    ⟨some ⟨.d1, .d5, .d6⟩, .load true 4 (.t ⟨.d0, .d0, .d5⟩), none⟩,
    ⟨some ⟨.d1, .d5, .d7⟩, .eqs false [0, 0, 0, 0] (.t ⟨.d1, .d5, .d5⟩) (.t ⟨.d1, .d5, .d6⟩), none⟩,
    ⟨some ⟨.d1, .d6, .d0⟩, .move (.t ⟨.d0, .d0, .d2⟩), none⟩,
    ⟨some ⟨.d1, .d6, .d1⟩, .call 58 [(.t ⟨.d1, .d5, .d0⟩), (.t ⟨.d1, .d5, .d7⟩), (.t ⟨.d1, .d6, .d0⟩)], none⟩,
    ⟨some ⟨.d1, .d4, .d4⟩, .move (.t ⟨.d1, .d6, .d1⟩), none⟩,
    ⟨some ⟨.d1, .d6, .d2⟩, .extract 0 (.t ⟨.d1, .d4, .d4⟩), none⟩,
    ⟨some ⟨.d1, .d6, .d3⟩, .extract 1 (.t ⟨.d1, .d4, .d4⟩), none⟩,
    ⟨some ⟨.d1, .d6, .d4⟩, .extract 2 (.t ⟨.d1, .d4, .d4⟩), none⟩,
    ⟨some ⟨.d0, .d2, .d3⟩, .alloc 7 [.int .u32 0, .int .u32 0, .int .i64 0, .int .i64 0, .int .i64 0, .int .i64 0, .int .i64 0], none⟩,
    ⟨none, .store 7 (.t ⟨.d0, .d2, .d3⟩) (.t ⟨.d1, .d6, .d2⟩), none⟩,
    ⟨some ⟨.d0, .d2, .d4⟩, .move (.t ⟨.d1, .d6, .d3⟩), none⟩,
    ⟨some ⟨.d0, .d2, .d5⟩, .move (.t ⟨.d1, .d6, .d4⟩), none⟩])
  (.seq (.seq (.region [⟨some ⟨.d1, .d6, .d5⟩, .move (.t ⟨.d0, .d2, .d5⟩), none⟩,
    ⟨some ⟨.d1, .d6, .d6⟩, .un .not (.t ⟨.d1, .d6, .d5⟩), none⟩])
  (.cond (.t ⟨.d1, .d6, .d6⟩)
    (.seq (.region [⟨some ⟨.d1, .d6, .d7⟩, .move (.t ⟨.d0, .d1, .d7⟩), none⟩,
      ⟨some ⟨.d0, .d1, .d0⟩, .move (.t ⟨.d1, .d6, .d7⟩), none⟩,
      ⟨some ⟨.d0, .d1, .d1⟩, .move (.c (.bool false)), none⟩,
      ⟨some ⟨.d0, .d1, .d2⟩, .move (.c (.int .i64 0)), none⟩])
    (.ret))
    (.skip)))
  (.seq (.regionD [0, 0, 0, 7, 0, 0, 32, 112, 255, 511] [⟨some ⟨.d1, .d7, .d0⟩, .move (.t ⟨.d0, .d1, .d7⟩), none⟩,
    ⟨some ⟨.d1, .d7, .d1⟩, .move (.t ⟨.d0, .d2, .d2⟩), none⟩,
    ⟨some ⟨.d1, .d7, .d2⟩, .move (.t ⟨.d0, .d2, .d2⟩), none⟩,
    ⟨some ⟨.d1, .d7, .d3⟩, .slice 7 (.t ⟨.d1, .d7, .d0⟩) none (some (.t ⟨.d1, .d7, .d1⟩)) (some (.t ⟨.d1, .d7, .d2⟩)), none⟩,
    ⟨some ⟨.d1, .d7, .d4⟩, .move (.t ⟨.d0, .d1, .d7⟩), none⟩,
    ⟨some ⟨.d1, .d7, .d5⟩, .move (.t ⟨.d0, .d2, .d2⟩), none⟩,
    ⟨some ⟨.d1, .d7, .d6⟩, .bin .add (.t ⟨.d1, .d7, .d5⟩) (.c (.int .i64 1)), none⟩,
    ⟨some ⟨.d1, .d7, .d7⟩, .slice 7 (.t ⟨.d1, .d7, .d4⟩) (some (.t ⟨.d1, .d7, .d6⟩)) none none, none⟩,
    ⟨some ⟨.d2, .d0, .d0⟩, .append 8 7 48 (.t ⟨.d1, .d7, .d3⟩) (.t ⟨.d1, .d7, .d7⟩), none⟩,
    ⟨some ⟨.d0, .d1, .d7⟩, .move (.t ⟨.d2, .d0, .d0⟩), none⟩])
  (.seq (.seq (.region [⟨some ⟨.d2, .d0, .d1⟩, .move (.t ⟨.d0, .d2, .d4⟩), none⟩])
  (.cond (.t ⟨.d2, .d0, .d1⟩)
    (.seq (.region [⟨some ⟨.d2, .d0, .d2⟩, .move (.t ⟨.d0, .d0, .d3⟩), none⟩,
      ⟨some ⟨.d2, .d0, .d3⟩, .fieldAddr 6 (.t ⟨.d0, .d2, .d3⟩), none⟩,
      ⟨none, .store 1 (.t ⟨.d2, .d0, .d3⟩) (.t ⟨.d2, .d0, .d2⟩), none⟩])
    (.region [⟨some ⟨.d2, .d0, .d4⟩, .move (.t ⟨.d0, .d1, .d7⟩), none⟩,
      ⟨some ⟨.d2, .d0, .d5⟩, .load true 7 (.t ⟨.d0, .d2, .d3⟩), none⟩,
      ⟨some ⟨.d2, .d0, .d6⟩, .buildSlice 9 1 [.int .u32 0, .int .u32 0, .int .i64 0, .int .i64 0, .int .i64 0, .int .i64 0, .int .i64 0] [(0, (.t ⟨.d2, .d0, .d5⟩))], none⟩,
      ⟨some ⟨.d2, .d0, .d7⟩, .append 10 7 48 (.t ⟨.d2, .d0, .d4⟩) (.t ⟨.d2, .d0, .d6⟩), none⟩,
      ⟨some ⟨.d0, .d1, .d7⟩, .move (.t ⟨.d2, .d0, .d7⟩), none⟩]))
    (.skip)))
  (.seq (.region [⟨some ⟨.d2, .d1, .d0⟩, .move (.t ⟨.d0, .d1, .d7⟩), none⟩,
    ⟨some ⟨.d0, .d1, .d0⟩, .move (.t ⟨.d2, .d1, .d0⟩), none⟩,
    ⟨some ⟨.d0, .d1, .d1⟩, .move (.c (.bool true)), none⟩,
    ⟨some ⟨.d0, .d1, .d2⟩, .move (.c (.int .i64 0)), none⟩])
  (.ret))))))))))))))))
def r_custref_TrackHeard : List XR := [.tmp ⟨.d0, .d1, .d0⟩, .tmp ⟨.d0, .d1, .d1⟩, .tmp ⟨.d0, .d1, .d2⟩]
theorem ok_custref_TrackHeard : okC Try.prog Try.f24.ntmps (bodyOf Try.f24) x_custref_TrackHeard = true := by kernel_rfl
theorem okr_custref_TrackHeard : okRs Try.prog Try.f24.results.toList r_custref_TrackHeard = true := by kernel_rfl

/-- track.Check -/
def x_track_Check : XC :=
  .seq (.region [⟨some ⟨.d0, .d0, .d2⟩, .move (.c (.int .i64 0)), none⟩])
  (.seq (.seq (.region [⟨some ⟨.d0, .d0, .d5⟩, .move (.t ⟨.d0, .d0, .d0⟩), none⟩,
    ⟨some ⟨.d0, .d0, .d6⟩, .len (.t ⟨.d0, .d0, .d5⟩), none⟩,
    ⟨some ⟨.d0, .d0, .d7⟩, .bin .gtr (.t ⟨.d0, .d0, .d6⟩) (.c (.int .i64 64)), none⟩])
  (.cond (.t ⟨.d0, .d0, .d7⟩)
    (.seq (.region [⟨some ⟨.d0, .d0, .d2⟩, .move (.c (.int .i64 2)), none⟩])
    (.ret))
    (.skip)))
  (.seq (.seq (.region [⟨some ⟨.d0, .d1, .d0⟩, .move (.t ⟨.d0, .d0, .d0⟩), none⟩,
    ⟨some ⟨.d0, .d1, .d1⟩, .len (.t ⟨.d0, .d1, .d0⟩), none⟩,
    ⟨some ⟨.d0, .d1, .d2⟩, .move (.c (.int .i64 0)), none⟩])
  (.block 0
    (.loop
      (.seq (.region [⟨some ⟨.d0, .d1, .d3⟩, .bin .lss (.t ⟨.d0, .d1, .d2⟩) (.t ⟨.d0, .d1, .d1⟩), none⟩])
      (.seq (.cond (.t ⟨.d0, .d1, .d3⟩)
        (.skip)
        (.exit 0))
      (.seq (.block 1
        (.seq (.region [⟨some ⟨.d0, .d1, .d4⟩, .move (.t ⟨.d0, .d1, .d2⟩), none⟩,
          ⟨some ⟨.d0, .d1, .d5⟩, .indexSl 7 (.t ⟨.d0, .d1, .d0⟩) (.t ⟨.d0, .d1, .d2⟩), none⟩,
          ⟨some ⟨.d0, .d1, .d6⟩, .load true 7 (.t ⟨.d0, .d1, .d5⟩), none⟩,
          ⟨some ⟨.d0, .d0, .d4⟩, .alloc 0 [.int .u32 0, .int .u32 0, .int .i64 0, .int .i64 0, .int .i64 0, .int .i64 0, .int .i64 0], none⟩,
          ⟨some ⟨.d0, .d0, .d3⟩, .move (.t ⟨.d0, .d1, .d4⟩), none⟩,
          ⟨none, .store 7 (.t ⟨.d0, .d0, .d4⟩) (.t ⟨.d0, .d1, .d6⟩), none⟩])
        (.seq (.regionD [0, 1, 3, 7, 15, 31, 63, 127, 255, 127, 127, 1151, 3711, 7807, 15999, 32767, 65535, 131071, 262143, 524287, 524287, 1572863, 4194303, 524287, 16777215, 33554431] [⟨some ⟨.d0, .d1, .d7⟩, .load true 7 (.t ⟨.d0, .d0, .d4⟩), none⟩,
          ⟨some ⟨.d0, .d2, .d0⟩, .call 59 [(.t ⟨.d0, .d1, .d7⟩)], none⟩,
          ⟨some ⟨.d0, .d2, .d1⟩, .un .not (.t ⟨.d0, .d2, .d0⟩), none⟩,
          ⟨some ⟨.d0, .d2, .d2⟩, .move (.t ⟨.d0, .d2, .d1⟩), none⟩,
          ⟨some ⟨.d0, .d2, .d3⟩, .move (.t ⟨.d0, .d0, .d3⟩), some (⟨.d0, .d2, .d2⟩, false)⟩,
          ⟨some ⟨.d0, .d2, .d4⟩, .bin .gtr (.t ⟨.d0, .d2, .d3⟩) (.c (.int .i64 0)), some (⟨.d0, .d2, .d2⟩, false)⟩,
          ⟨some ⟨.d0, .d2, .d5⟩, .move (.t ⟨.d0, .d2, .d4⟩), some (⟨.d0, .d2, .d2⟩, false)⟩,
          ⟨some ⟨.d0, .d2, .d6⟩, .fieldAddr 6 (.t ⟨.d0, .d0, .d4⟩), some (⟨.d0, .d2, .d5⟩, true)⟩,
          ⟨some ⟨.d0, .d2, .d7⟩, .load false 1 (.t ⟨.d0, .d2, .d6⟩), some (⟨.d0, .d2, .d5⟩, true)⟩,
          ⟨some ⟨.d0, .d3, .d0⟩, .move (.t ⟨.d0, .d0, .d0⟩), some (⟨.d0, .d2, .d5⟩, true)⟩,
          ⟨some ⟨.d0, .d3, .d1⟩, .move (.t ⟨.d0, .d0, .d3⟩), some (⟨.d0, .d2, .d5⟩, true)⟩,
          ⟨some ⟨.d0, .d3, .d2⟩, .bin .sub (.t ⟨.d0, .d3, .d1⟩) (.c (.int .i64 1)), some (⟨.d0, .d2, .d5⟩, true)⟩,
          ⟨some ⟨.d0, .d3, .d3⟩, .indexSl 7 (.t ⟨.d0, .d3, .d0⟩) (.t ⟨.d0, .d3, .d2⟩), some (⟨.d0, .d2, .d5⟩, true)⟩,
          ⟨some ⟨.d0, .d3, .d4⟩, .fieldAddr 6 (.t ⟨.d0, .d3, .d3⟩), some (⟨.d0, .d2, .d5⟩, true)⟩,
          ⟨some ⟨.d0, .d3, .d5⟩, .load false 1 (.t ⟨.d0, .d3, .d4⟩), some (⟨.d0, .d2, .d5⟩, true)⟩,
          ⟨some ⟨.d0, .d3, .d6⟩, .bin .lss (.t ⟨.d0, .d2, .d7⟩) (.t ⟨.d0, .d3, .d5⟩), some (⟨.d0, .d2, .d5⟩, true)⟩,
          ⟨some ⟨.d0, .d3, .d7⟩, .pick (.t ⟨.d0, .d2, .d5⟩) (.t ⟨.d0, .d3, .d6⟩) (.c (.bool false)), some (⟨.d0, .d2, .d2⟩, false)⟩,
          ⟨some ⟨.d0, .d4, .d0⟩, .pick (.t ⟨.d0, .d2, .d2⟩) (.c (.bool true)) (.t ⟨.d0, .d3, .d7⟩), none⟩,
          ⟨some ⟨.d0, .d4, .d1⟩, .move (.t ⟨.d0, .d4, .d0⟩), none⟩,
          ⟨some ⟨.d0, .d4, .d2⟩, .move (.t ⟨.d0, .d0, .d0⟩), some (⟨.d0, .d4, .d1⟩, false)⟩,
          ⟨some ⟨.d0, .d4, .d3⟩, .fieldAddr 0 (.t ⟨.d0, .d0, .d4⟩), some (⟨.d0, .d4, .d1⟩, false)⟩,
          ⟨some ⟨.d0, .d4, .d4⟩, .load true 4 (.t ⟨.d0, .d4, .d3⟩), some (⟨.d0, .d4, .d1⟩, false)⟩,
          ⟨some ⟨.d0, .d4, .d5⟩, .call 45 [(.t ⟨.d0, .d4, .d2⟩), (.t ⟨.d0, .d4, .d4⟩)], some (⟨.d0, .d4, .d1⟩, false)⟩,
          ⟨some ⟨.d0, .d4, .d6⟩, .move (.t ⟨.d0, .d0, .d3⟩), some (⟨.d0, .d4, .d1⟩, false)⟩,
          ⟨some ⟨.d0, .d4, .d7⟩, .bin .neq (.t ⟨.d0, .d4, .d5⟩) (.t ⟨.d0, .d4, .d6⟩), some (⟨.d0, .d4, .d1⟩, false)⟩,
          ⟨some ⟨.d0, .d5, .d0⟩, .pick (.t ⟨.d0, .d4, .d1⟩) (.c (.bool true)) (.t ⟨.d0, .d4, .d7⟩), none⟩])
        (.cond (.t ⟨.d0, .d5, .d0⟩)
          (.seq (.region [⟨some ⟨.d0, .d0, .d2⟩, .move (.c (.int .i64 4)), none⟩])
          (.ret))
          (.skip)))))
      (.region [⟨some ⟨.d0, .d5, .d1⟩, .bin .add (.t ⟨.d0, .d1, .d2⟩) (.c (.int .i64 1)), none⟩,
        ⟨some ⟨.d0, .d1, .d2⟩, .move (.t ⟨.d0, .d5, .d1⟩), none⟩])))))))
  (.seq (.region [⟨some ⟨.d0, .d0, .d2⟩, .move (.c (.int .i64 0)), none⟩])
  (.ret))))
def r_track_Check : List XR := [.tmp ⟨.d0, .d0, .d2⟩]
theorem ok_track_Check : okC Try.prog Try.f25.ntmps (bodyOf Try.f25) x_track_Check = true := by kernel_rfl
theorem okr_track_Check : okRs Try.prog Try.f25.results.toList r_track_Check = true := by kernel_rfl

/-- slices.Equal -/
def x_slices_Equal_api_Talk : XC :=
  .seq (.region [⟨some ⟨.d0, .d0, .d4⟩, .move (.c (.bool false)), none⟩])
  (.seq (.seq (.region [⟨some ⟨.d0, .d0, .d6⟩, .move (.t ⟨.d0, .d0, .d0⟩), none⟩,
    ⟨some ⟨.d0, .d0, .d7⟩, .len (.t ⟨.d0, .d0, .d6⟩), none⟩,
    ⟨some ⟨.d0, .d1, .d0⟩, .move (.t ⟨.d0, .d0, .d1⟩), none⟩,
    ⟨some ⟨.d0, .d1, .d1⟩, .len (.t ⟨.d0, .d1, .d0⟩), none⟩,
    ⟨some ⟨.d0, .d1, .d2⟩, .bin .neq (.t ⟨.d0, .d0, .d7⟩) (.t ⟨.d0, .d1, .d1⟩), none⟩])
  (.cond (.t ⟨.d0, .d1, .d2⟩)
    (.seq (.region [⟨some ⟨.d0, .d0, .d4⟩, .move (.c (.bool false)), none⟩])
    (.ret))
    (.skip)))
  (.seq (.seq (.region [⟨some ⟨.d0, .d1, .d3⟩, .move (.t ⟨.d0, .d0, .d0⟩), none⟩,
    ⟨some ⟨.d0, .d1, .d4⟩, .len (.t ⟨.d0, .d1, .d3⟩), none⟩,
    ⟨some ⟨.d0, .d1, .d5⟩, .move (.c (.int .i64 0)), none⟩])
  (.block 0
    (.loop
      (.seq (.region [⟨some ⟨.d0, .d1, .d6⟩, .bin .lss (.t ⟨.d0, .d1, .d5⟩) (.t ⟨.d0, .d1, .d4⟩), none⟩])
      (.seq (.cond (.t ⟨.d0, .d1, .d6⟩)
        (.skip)
        (.exit 0))
      (.seq (.block 1
        (.seq (.region [⟨some ⟨.d0, .d1, .d7⟩, .move (.t ⟨.d0, .d1, .d5⟩), none⟩,
          ⟨some ⟨.d0, .d0, .d5⟩, .move (.t ⟨.d0, .d1, .d7⟩), none⟩])
        (.seq (.regionD [0, 0, 3, 7, 0, 0, 48, 112, 255] [⟨some ⟨.d0, .d2, .d0⟩, .move (.t ⟨.d0, .d0, .d0⟩), none⟩,
          ⟨some ⟨.d0, .d2, .d1⟩, .move (.t ⟨.d0, .d0, .d5⟩), none⟩,
          ⟨some ⟨.d0, .d2, .d2⟩, .indexSl 7 (.t ⟨.d0, .d2, .d0⟩) (.t ⟨.d0, .d2, .d1⟩), none⟩,
          ⟨some ⟨.d0, .d2, .d3⟩, .load true 7 (.t ⟨.d0, .d2, .d2⟩), none⟩,
          ⟨some ⟨.d0, .d2, .d4⟩, .move (.t ⟨.d0, .d0, .d1⟩), none⟩,
          ⟨some ⟨.d0, .d2, .d5⟩, .move (.t ⟨.d0, .d0, .d5⟩), none⟩,
          ⟨some ⟨.d0, .d2, .d6⟩, .indexSl 7 (.t ⟨.d0, .d2, .d4⟩) (.t ⟨.d0, .d2, .d5⟩), none⟩,
          ⟨some ⟨.d0, .d2, .d7⟩, .load true 7 (.t ⟨.d0, .d2, .d6⟩), none⟩,
          ⟨some ⟨.d0, .d3, .d0⟩, .eqs true [0, 0, 0, 0, 0, 0, 0] (.t ⟨.d0, .d2, .d3⟩) (.t ⟨.d0, .d2, .d7⟩), none⟩])
        (.cond (.t ⟨.d0, .d3, .d0⟩)
          (.seq (.region [⟨some ⟨.d0, .d0, .d4⟩, .move (.c (.bool false)), none⟩])
          (.ret))
          (.skip)))))
      (.region [⟨some ⟨.d0, .d3, .d1⟩, .bin .add (.t ⟨.d0, .d1, .d5⟩) (.c (.int .i64 1)), none⟩,
        ⟨some ⟨.d0, .d1, .d5⟩, .move (.t ⟨.d0, .d3, .d1⟩), none⟩])))))))
  (.seq (.region [⟨some ⟨.d0, .d0, .d4⟩, .move (.c (.bool true)), none⟩])
  (.ret))))
def r_slices_Equal_api_Talk : List XR := [.tmp ⟨.d0, .d0, .d4⟩]
theorem ok_slices_Equal_api_Talk : okC Try.prog Try.f26.ntmps (bodyOf Try.f26) x_slices_Equal_api_Talk = true := by kernel_rfl
theorem okr_slices_Equal_api_Talk : okRs Try.prog Try.f26.results.toList r_slices_Equal_api_Talk = true := by kernel_rfl

/-- track.place -/
def x_track_place : XC :=
  .seq (.region [⟨some ⟨.d0, .d0, .d3⟩, .box 1 4 (.t ⟨.d0, .d0, .d1⟩), none⟩,
    ⟨some ⟨.d0, .d0, .d4⟩, .move (.c (.int .i64 0)), none⟩])
  (.seq (.region [⟨some ⟨.d0, .d0, .d5⟩, .move (.t ⟨.d0, .d0, .d0⟩), none⟩,
    ⟨some ⟨.d0, .d0, .d6⟩, .mkfn 77 [] [(.t ⟨.d0, .d0, .d3⟩)], none⟩,
    ⟨some ⟨.d0, .d0, .d7⟩, .call 56 [(.t ⟨.d0, .d0, .d5⟩), (.t ⟨.d0, .d0, .d6⟩)], none⟩,
    ⟨some ⟨.d0, .d0, .d4⟩, .move (.t ⟨.d0, .d0, .d7⟩), none⟩])
  (.ret))
def r_track_place : List XR := [.tmp ⟨.d0, .d0, .d4⟩]
theorem ok_track_place : okC Try.prog Try.f45.ntmps (bodyOf Try.f45) x_track_place = true := by kernel_rfl
theorem okr_track_place : okRs Try.prog Try.f45.results.toList r_track_place = true := by kernel_rfl

/-- track.old -/
def x_track_old : XC :=
  .seq (.region [⟨some ⟨.d0, .d0, .d2⟩, .box 0 7 (.t ⟨.d0, .d0, .d0⟩), none⟩,
    ⟨some ⟨.d0, .d0, .d4⟩, .move (.c (.bool false)), none⟩])
  (.seq (.region [⟨some ⟨.d0, .d0, .d5⟩, .move (.c (.int .i64 30)), none⟩])
  (.seq (.seq (.region [⟨some ⟨.d0, .d0, .d6⟩, .fieldAddr 4 (.t ⟨.d0, .d0, .d2⟩), none⟩,
    ⟨some ⟨.d0, .d0, .d7⟩, .load false 1 (.t ⟨.d0, .d0, .d6⟩), none⟩])
  (.block 0
    (.seq (.region [⟨some ⟨.d0, .d1, .d1⟩, .bin .eql (.t ⟨.d0, .d0, .d7⟩) (.c (.int .i64 3)), none⟩,
      ⟨some ⟨.d0, .d1, .d0⟩, .move (.t ⟨.d0, .d1, .d1⟩), none⟩])
    (.cond (.t ⟨.d0, .d1, .d0⟩)
      (.region [⟨some ⟨.d0, .d0, .d5⟩, .move (.c (.int .i64 3000)), none⟩])
      (.seq (.region [⟨some ⟨.d0, .d1, .d3⟩, .bin .eql (.t ⟨.d0, .d0, .d7⟩) (.c (.int .i64 4)), none⟩,
        ⟨some ⟨.d0, .d1, .d2⟩, .move (.t ⟨.d0, .d1, .d3⟩), none⟩])
      (.cond (.t ⟨.d0, .d1, .d2⟩)
        (.region [⟨some ⟨.d0, .d0, .d5⟩, .move (.c (.int .i64 60)), none⟩])
        (.skip)))))))
  (.seq (.region [⟨some ⟨.d0, .d1, .d4⟩, .move (.t ⟨.d0, .d0, .d1⟩), none⟩,
    ⟨some ⟨.d0, .d1, .d5⟩, .fieldAddr 6 (.t ⟨.d0, .d0, .d2⟩), none⟩,
    ⟨some ⟨.d0, .d1, .d6⟩, .load false 1 (.t ⟨.d0, .d1, .d5⟩), none⟩,
    ⟨some ⟨.d0, .d1, .d7⟩, .bin .sub (.t ⟨.d0, .d1, .d4⟩) (.t ⟨.d0, .d1, .d6⟩), none⟩,
    ⟨some ⟨.d0, .d2, .d0⟩, .move (.t ⟨.d0, .d0, .d5⟩), none⟩,
    ⟨some ⟨.d0, .d2, .d1⟩, .bin .gtr (.t ⟨.d0, .d1, .d7⟩) (.t ⟨.d0, .d2, .d0⟩), none⟩,
    ⟨some ⟨.d0, .d0, .d4⟩, .move (.t ⟨.d0, .d2, .d1⟩), none⟩])
  (.ret))))
def r_track_old : List XR := [.tmp ⟨.d0, .d0, .d4⟩]
theorem ok_track_old : okC Try.prog Try.f46.ntmps (bodyOf Try.f46) x_track_old = true := by kernel_rfl
theorem okr_track_old : okRs Try.prog Try.f46.results.toList r_track_old = true := by kernel_rfl

/-- custref.TalkRight -/
def x_custref_TalkRight : XC :=
  .seq (.region [⟨some ⟨.d0, .d0, .d1⟩, .box 0 7 (.t ⟨.d0, .d0, .d0⟩), none⟩,
    ⟨some ⟨.d0, .d0, .d2⟩, .move (.c (.bool false)), none⟩])
  (.seq (.seq (.regionD [0, 1, 3, 7, 15, 31, 63, 31, 159, 415, 1023, 2047, 4095, 8191, 16383, 32767, 65535, 131071, 262143, 524287, 1048575, 2097151, 4194303, 8388607] [⟨some ⟨.d0, .d0, .d5⟩, .fieldAddr 0 (.t ⟨.d0, .d0, .d1⟩), none⟩,
    ⟨some ⟨.d0, .d0, .d6⟩, .load true 4 (.t ⟨.d0, .d0, .d5⟩), none⟩,
    ⟨some ⟨.d0, .d0, .d7⟩, .call 55 [(.t ⟨.d0, .d0, .d6⟩)], none⟩,
    ⟨some ⟨.d0, .d1, .d0⟩, .un .not (.t ⟨.d0, .d0, .d7⟩), none⟩,
    ⟨some ⟨.d0, .d1, .d1⟩, .move (.t ⟨.d0, .d1, .d0⟩), none⟩,
    ⟨some ⟨.d0, .d1, .d2⟩, .fieldAddr 0 (.t ⟨.d0, .d0, .d1⟩), some (⟨.d0, .d1, .d1⟩, false)⟩,
    ⟨some ⟨.d0, .d1, .d3⟩, .load true 4 (.t ⟨.d0, .d1, .d2⟩), some (⟨.d0, .d1, .d1⟩, false)⟩,
    ⟨some ⟨.d0, .d1, .d4⟩, .fieldAddr 0 (.t ⟨.d0, .d0, .d1⟩), some (⟨.d0, .d1, .d1⟩, false)⟩,
    ⟨some ⟨.d0, .d1, .d5⟩, .load true 4 (.t ⟨.d0, .d1, .d4⟩), some (⟨.d0, .d1, .d1⟩, false)⟩,
    ⟨some ⟨.d0, .d1, .d6⟩, .call 48 [(.t ⟨.d0, .d1, .d5⟩)], some (⟨.d0, .d1, .d1⟩, false)⟩,
    ⟨some ⟨.d0, .d1, .d7⟩, .eqs false [0, 0, 0, 0] (.t ⟨.d0, .d1, .d3⟩) (.t ⟨.d0, .d1, .d6⟩), some (⟨.d0, .d1, .d1⟩, false)⟩,
    ⟨some ⟨.d0, .d2, .d0⟩, .pick (.t ⟨.d0, .d1, .d1⟩) (.c (.bool true)) (.t ⟨.d0, .d1, .d7⟩), none⟩,
    ⟨some ⟨.d0, .d2, .d1⟩, .move (.t ⟨.d0, .d2, .d0⟩), none⟩,
    ⟨some ⟨.d0, .d2, .d2⟩, .fieldAddr 6 (.t ⟨.d0, .d0, .d1⟩), some (⟨.d0, .d2, .d1⟩, false)⟩,
    ⟨some ⟨.d0, .d2, .d3⟩, .load false 1 (.t ⟨.d0, .d2, .d2⟩), some (⟨.d0, .d2, .d1⟩, false)⟩,
    ⟨some ⟨.d0, .d2, .d4⟩, .call 15 [(.t ⟨.d0, .d2, .d3⟩), (.c (.int .i64 0)), (.c (.int .i64 1099511627776))], some (⟨.d0, .d2, .d1⟩, false)⟩,
    ⟨some ⟨.d0, .d2, .d5⟩, .un .not (.t ⟨.d0, .d2, .d4⟩), some (⟨.d0, .d2, .d1⟩, false)⟩,
    ⟨some ⟨.d0, .d2, .d6⟩, .pick (.t ⟨.d0, .d2, .d1⟩) (.c (.bool true)) (.t ⟨.d0, .d2, .d5⟩), none⟩,
    ⟨some ⟨.d0, .d2, .d7⟩, .move (.t ⟨.d0, .d2, .d6⟩), none⟩,
    ⟨some ⟨.d0, .d3, .d0⟩, .fieldAddr 4 (.t ⟨.d0, .d0, .d1⟩), some (⟨.d0, .d2, .d7⟩, false)⟩,
    ⟨some ⟨.d0, .d3, .d1⟩, .load false 1 (.t ⟨.d0, .d3, .d0⟩), some (⟨.d0, .d2, .d7⟩, false)⟩,
    ⟨some ⟨.d0, .d3, .d2⟩, .call 15 [(.t ⟨.d0, .d3, .d1⟩), (.c (.int .i64 1)), (.c (.int .i64 4))], some (⟨.d0, .d2, .d7⟩, false)⟩,
    ⟨some ⟨.d0, .d3, .d3⟩, .un .not (.t ⟨.d0, .d3, .d2⟩), some (⟨.d0, .d2, .d7⟩, false)⟩,
    ⟨some ⟨.d0, .d3, .d4⟩, .pick (.t ⟨.d0, .d2, .d7⟩) (.c (.bool true)) (.t ⟨.d0, .d3, .d3⟩), none⟩])
  (.cond (.t ⟨.d0, .d3, .d4⟩)
    (.seq (.region [⟨some ⟨.d0, .d0, .d2⟩, .move (.c (.bool false)), none⟩])
    (.ret))
    (.skip)))
  (.seq (.regionD [0, 0, 2, 7, 15, 0, 0, 64, 224, 480, 31, 2047] [⟨some ⟨.d0, .d3, .d5⟩, .buildSlice 1 5 [.int .i64 0] [(0, (.c (.int .i64 0))), (1, (.c (.int .i64 0))), (2, (.c (.int .i64 0))), (3, (.c (.int .i64 0))), (4, (.c (.int .i64 3)))], none⟩,
    ⟨some ⟨.d0, .d3, .d6⟩, .fieldAddr 4 (.t ⟨.d0, .d0, .d1⟩), none⟩,
    ⟨some ⟨.d0, .d3, .d7⟩, .load false 1 (.t ⟨.d0, .d3, .d6⟩), none⟩,
    ⟨some ⟨.d0, .d4, .d0⟩, .indexSl 1 (.t ⟨.d0, .d3, .d5⟩) (.t ⟨.d0, .d3, .d7⟩), none⟩,
    ⟨some ⟨.d0, .d4, .d1⟩, .load false 1 (.t ⟨.d0, .d4, .d0⟩), none⟩,
    ⟨some ⟨.d0, .d4, .d2⟩, .buildSlice 2 5 [.int .i64 0] [(0, (.c (.int .i64 0))), (1, (.c (.int .i64 0))), (2, (.c (.int .i64 0))), (3, (.c (.int .i64 2))), (4, (.c (.int .i64 3)))], none⟩,
    ⟨some ⟨.d0, .d4, .d3⟩, .fieldAddr 4 (.t ⟨.d0, .d0, .d1⟩), none⟩,
    ⟨some ⟨.d0, .d4, .d4⟩, .load false 1 (.t ⟨.d0, .d4, .d3⟩), none⟩,
    ⟨some ⟨.d0, .d4, .d5⟩, .indexSl 1 (.t ⟨.d0, .d4, .d2⟩) (.t ⟨.d0, .d4, .d4⟩), none⟩,
    ⟨some ⟨.d0, .d4, .d6⟩, .load false 1 (.t ⟨.d0, .d4, .d5⟩), none⟩,
    ⟨some ⟨.d0, .d0, .d3⟩, .move (.t ⟨.d0, .d4, .d1⟩), none⟩,
    ⟨some ⟨.d0, .d0, .d4⟩, .move (.t ⟨.d0, .d4, .d6⟩), none⟩])
  (.seq (.region [⟨some ⟨.d0, .d4, .d7⟩, .fieldAddr 5 (.t ⟨.d0, .d0, .d1⟩), none⟩,
    ⟨some ⟨.d0, .d5, .d0⟩, .load false 1 (.t ⟨.d0, .d4, .d7⟩), none⟩,
    ⟨some ⟨.d0, .d5, .d1⟩, .move (.t ⟨.d0, .d0, .d3⟩), none⟩,
    ⟨some ⟨.d0, .d5, .d2⟩, .move (.t ⟨.d0, .d0, .d4⟩), none⟩,
    ⟨some ⟨.d0, .d5, .d3⟩, .call 15 [(.t ⟨.d0, .d5, .d0⟩), (.t ⟨.d0, .d5, .d1⟩), (.t ⟨.d0, .d5, .d2⟩)], none⟩,
    ⟨some ⟨.d0, .d0, .d2⟩, .move (.t ⟨.d0, .d5, .d3⟩), none⟩])
  (.ret))))
def r_custref_TalkRight : List XR := [.tmp ⟨.d0, .d0, .d2⟩]
theorem ok_custref_TalkRight : okC Try.prog Try.f47.ntmps (bodyOf Try.f47) x_custref_TalkRight = true := by kernel_rfl
theorem okr_custref_TalkRight : okRs Try.prog Try.f47.results.toList r_custref_TalkRight = true := by kernel_rfl

/-- custref.Turn -/
def x_custref_Turn : XC :=
  .seq (.region [⟨some ⟨.d0, .d0, .d1⟩, .box 0 4 (.t ⟨.d0, .d0, .d0⟩), none⟩,
    ⟨some ⟨.d0, .d0, .d2⟩, .alloc 1 [.int .u32 0, .int .u32 0, .int .i64 0, .int .i64 0], none⟩])
  (.seq (.region [⟨some ⟨.d0, .d0, .d3⟩, .fieldAddr 1 (.t ⟨.d0, .d0, .d1⟩), none⟩,
    ⟨some ⟨.d0, .d0, .d4⟩, .load false 1 (.t ⟨.d0, .d0, .d3⟩), none⟩,
    ⟨some ⟨.d0, .d0, .d5⟩, .fieldAddr 0 (.t ⟨.d0, .d0, .d1⟩), none⟩,
    ⟨some ⟨.d0, .d0, .d6⟩, .load false 1 (.t ⟨.d0, .d0, .d5⟩), none⟩,
    ⟨some ⟨.d0, .d0, .d7⟩, .fieldAddr 3 (.t ⟨.d0, .d0, .d1⟩), none⟩,
    ⟨some ⟨.d0, .d1, .d0⟩, .load false 1 (.t ⟨.d0, .d0, .d7⟩), none⟩,
    ⟨some ⟨.d0, .d1, .d1⟩, .fieldAddr 2 (.t ⟨.d0, .d0, .d1⟩), none⟩,
    ⟨some ⟨.d0, .d1, .d2⟩, .load false 1 (.t ⟨.d0, .d1, .d1⟩), none⟩,
    ⟨some ⟨.d0, .d1, .d3⟩, .build [.int .u32 0, .int .u32 0, .int .i64 0, .int .i64 0] [(0, 1, (.t ⟨.d0, .d0, .d4⟩)), (1, 1, (.t ⟨.d0, .d0, .d6⟩)), (2, 1, (.t ⟨.d0, .d1, .d0⟩)), (3, 1, (.t ⟨.d0, .d1, .d2⟩))], none⟩,
    ⟨none, .store 4 (.t ⟨.d0, .d0, .d2⟩) (.t ⟨.d0, .d1, .d3⟩), none⟩])
  (.ret))
def r_custref_Turn : List XR := [.cell ⟨.d0, .d0, .d2⟩ true 4]
theorem ok_custref_Turn : okC Try.prog Try.f48.ntmps (bodyOf Try.f48) x_custref_Turn = true := by kernel_rfl
theorem okr_custref_Turn : okRs Try.prog Try.f48.results.toList r_custref_Turn = true := by kernel_rfl

/-- slices.Clone -/
def x_slices_Clone_api_Talk : XC :=
  .seq (.region [⟨some ⟨.d0, .d0, .d2⟩, .move (.c (.slice none 0 0)), none⟩])
  (.seq (.seq (.region [⟨some ⟨.d0, .d0, .d3⟩, .move (.t ⟨.d0, .d0, .d0⟩), none⟩,
    ⟨some ⟨.d0, .d0, .d4⟩, .isnil false (.t ⟨.d0, .d0, .d3⟩), none⟩])
  (.cond (.t ⟨.d0, .d0, .d4⟩)
    (.seq (.region [⟨some ⟨.d0, .d0, .d2⟩, .move (.c (.slice none 0 0)), none⟩])
    (.ret))
    (.skip)))
  (.seq (.region [⟨some ⟨.d0, .d0, .d5⟩, .buildSlice 0 0 [.int .u32 0, .int .u32 0, .int .i64 0, .int .i64 0, .int .i64 0, .int .i64 0, .int .i64 0] [], none⟩,
    ⟨some ⟨.d0, .d0, .d6⟩, .move (.t ⟨.d0, .d0, .d0⟩), none⟩,
    ⟨some ⟨.d0, .d0, .d7⟩, .append 1 7 48 (.t ⟨.d0, .d0, .d5⟩) (.t ⟨.d0, .d0, .d6⟩), none⟩,
    ⟨some ⟨.d0, .d0, .d2⟩, .move (.t ⟨.d0, .d0, .d7⟩), none⟩])
  (.ret)))
def r_slices_Clone_api_Talk : List XR := [.tmp ⟨.d0, .d0, .d2⟩]
theorem ok_slices_Clone_api_Talk : okC Try.prog Try.f49.ntmps (bodyOf Try.f49) x_slices_Clone_api_Talk = true := by kernel_rfl
theorem okr_slices_Clone_api_Talk : okRs Try.prog Try.f49.results.toList r_slices_Clone_api_Talk = true := by kernel_rfl

/-- track.road -/
def x_track_road : XC :=
  .seq (.region [⟨some ⟨.d0, .d0, .d1⟩, .box 0 4 (.t ⟨.d0, .d0, .d0⟩), none⟩,
    ⟨some ⟨.d0, .d0, .d2⟩, .move (.c (.bool false)), none⟩])
  (.seq (.regionD [0, 1, 3, 7, 15, 31, 63, 127, 255, 511, 511, 1535, 4095, 8191, 16383] [⟨some ⟨.d0, .d0, .d3⟩, .fieldAddr 2 (.t ⟨.d0, .d0, .d1⟩), none⟩,
    ⟨some ⟨.d0, .d0, .d4⟩, .load false 1 (.t ⟨.d0, .d0, .d3⟩), none⟩,
    ⟨some ⟨.d0, .d0, .d5⟩, .call 79 [(.t ⟨.d0, .d0, .d4⟩)], none⟩,
    ⟨some ⟨.d0, .d0, .d6⟩, .move (.t ⟨.d0, .d0, .d5⟩), none⟩,
    ⟨some ⟨.d0, .d0, .d7⟩, .fieldAddr 3 (.t ⟨.d0, .d0, .d1⟩), some (⟨.d0, .d0, .d6⟩, true)⟩,
    ⟨some ⟨.d0, .d1, .d0⟩, .load false 1 (.t ⟨.d0, .d0, .d7⟩), some (⟨.d0, .d0, .d6⟩, true)⟩,
    ⟨some ⟨.d0, .d1, .d1⟩, .call 79 [(.t ⟨.d0, .d1, .d0⟩)], some (⟨.d0, .d0, .d6⟩, true)⟩,
    ⟨some ⟨.d0, .d1, .d2⟩, .pick (.t ⟨.d0, .d0, .d6⟩) (.t ⟨.d0, .d1, .d1⟩) (.c (.bool false)), none⟩,
    ⟨some ⟨.d0, .d1, .d3⟩, .move (.t ⟨.d0, .d1, .d2⟩), none⟩,
    ⟨some ⟨.d0, .d1, .d4⟩, .load true 4 (.t ⟨.d0, .d0, .d1⟩), some (⟨.d0, .d1, .d3⟩, true)⟩,
    ⟨some ⟨.d0, .d1, .d5⟩, .load true 4 (.t ⟨.d0, .d0, .d1⟩), some (⟨.d0, .d1, .d3⟩, true)⟩,
    ⟨some ⟨.d0, .d1, .d6⟩, .call 78 [(.t ⟨.d0, .d1, .d5⟩)], some (⟨.d0, .d1, .d3⟩, true)⟩,
    ⟨some ⟨.d0, .d1, .d7⟩, .eqs true [0, 0, 0, 0] (.t ⟨.d0, .d1, .d4⟩) (.t ⟨.d0, .d1, .d6⟩), some (⟨.d0, .d1, .d3⟩, true)⟩,
    ⟨some ⟨.d0, .d2, .d0⟩, .pick (.t ⟨.d0, .d1, .d3⟩) (.t ⟨.d0, .d1, .d7⟩) (.c (.bool false)), none⟩,
    ⟨some ⟨.d0, .d0, .d2⟩, .move (.t ⟨.d0, .d2, .d0⟩), none⟩])
  (.ret))
def r_track_road : List XR := [.tmp ⟨.d0, .d0, .d2⟩]
theorem ok_track_road : okC Try.prog Try.f50.ntmps (bodyOf Try.f50) x_track_road = true := by kernel_rfl
theorem okr_track_road : okRs Try.prog Try.f50.results.toList r_track_road = true := by kernel_rfl

/-- slices.DeleteFunc -/
def x_slices_DeleteFunc_api_Talk : XC :=
  .seq (.region [⟨some ⟨.d0, .d0, .d4⟩, .move (.c (.slice none 0 0)), none⟩])
  (.seq (.region [⟨some ⟨.d0, .d1, .d0⟩, .move (.t ⟨.d0, .d0, .d0⟩), none⟩,
    ⟨some ⟨.d0, .d1, .d1⟩, .move (.t ⟨.d0, .d0, .d1⟩), none⟩,
    ⟨some ⟨.d0, .d1, .d2⟩, .call 56 [(.t ⟨.d0, .d1, .d0⟩), (.t ⟨.d0, .d1, .d1⟩)], none⟩,
    ⟨some ⟨.d0, .d0, .d5⟩, .move (.t ⟨.d0, .d1, .d2⟩), none⟩])
  (.seq (.seq (.region [⟨some ⟨.d0, .d1, .d3⟩, .move (.t ⟨.d0, .d0, .d5⟩), none⟩,
    ⟨some ⟨.d0, .d1, .d4⟩, .bin .eql (.t ⟨.d0, .d1, .d3⟩) (.c (.int .i64 (-1))), none⟩])
  (.cond (.t ⟨.d0, .d1, .d4⟩)
    (.seq (.region [⟨some ⟨.d0, .d1, .d5⟩, .move (.t ⟨.d0, .d0, .d0⟩), none⟩,
      ⟨some ⟨.d0, .d0, .d4⟩, .move (.t ⟨.d0, .d1, .d5⟩), none⟩])
    (.ret))
    (.skip)))
  (.seq (.seq (.region [⟨some ⟨.d0, .d1, .d6⟩, .move (.t ⟨.d0, .d0, .d5⟩), none⟩,
    ⟨some ⟨.d0, .d1, .d7⟩, .bin .add (.t ⟨.d0, .d1, .d6⟩) (.c (.int .i64 1)), none⟩,
    ⟨some ⟨.d0, .d0, .d6⟩, .move (.t ⟨.d0, .d1, .d7⟩), none⟩])
  (.block 0
    (.loop
      (.seq (.seq (.region [⟨some ⟨.d0, .d2, .d0⟩, .move (.t ⟨.d0, .d0, .d6⟩), none⟩,
        ⟨some ⟨.d0, .d2, .d1⟩, .move (.t ⟨.d0, .d0, .d0⟩), none⟩,
        ⟨some ⟨.d0, .d2, .d2⟩, .len (.t ⟨.d0, .d2, .d1⟩), none⟩,
        ⟨some ⟨.d0, .d2, .d3⟩, .bin .lss (.t ⟨.d0, .d2, .d0⟩) (.t ⟨.d0, .d2, .d2⟩), none⟩])
      (.cond (.t ⟨.d0, .d2, .d3⟩)
        (.skip)
        (.exit 0)))
      (.seq (.block 1
        (.seq (.region [⟨some ⟨.d0, .d2, .d6⟩, .move (.t ⟨.d0, .d0, .d0⟩), none⟩,
          ⟨some ⟨.d0, .d2, .d7⟩, .move (.t ⟨.d0, .d0, .d6⟩), none⟩,
          ⟨some ⟨.d0, .d3, .d0⟩, .indexSl 7 (.t ⟨.d0, .d2, .d6⟩) (.t ⟨.d0, .d2, .d7⟩), none⟩,
          ⟨some ⟨.d0, .d3, .d1⟩, .load true 7 (.t ⟨.d0, .d3, .d0⟩), none⟩,
          ⟨some ⟨.d0, .d0, .d7⟩, .alloc 1 [.int .u32 0, .int .u32 0, .int .i64 0, .int .i64 0, .int .i64 0, .int .i64 0, .int .i64 0], none⟩,
          ⟨none, .store 7 (.t ⟨.d0, .d0, .d7⟩) (.t ⟨.d0, .d3, .d1⟩), none⟩])
        (.seq (.region [⟨some ⟨.d0, .d3, .d2⟩, .move (.t ⟨.d0, .d0, .d1⟩), none⟩,
          ⟨some ⟨.d0, .d3, .d3⟩, .load true 7 (.t ⟨.d0, .d0, .d7⟩), none⟩,
          ⟨some ⟨.d0, .d3, .d4⟩, .callv (.t ⟨.d0, .d3, .d2⟩) [(.t ⟨.d0, .d3, .d3⟩)], none⟩,
          ⟨some ⟨.d0, .d3, .d5⟩, .un .not (.t ⟨.d0, .d3, .d4⟩), none⟩])
        (.cond (.t ⟨.d0, .d3, .d5⟩)
          (.seq (.region [⟨some ⟨.d0, .d3, .d6⟩, .move (.t ⟨.d0, .d0, .d0⟩), none⟩,
            ⟨some ⟨.d0, .d3, .d7⟩, .move (.t ⟨.d0, .d0, .d5⟩), none⟩,
            ⟨some ⟨.d0, .d4, .d0⟩, .load true 7 (.t ⟨.d0, .d0, .d7⟩), none⟩,
            ⟨some ⟨.d0, .d4, .d1⟩, .indexSl 7 (.t ⟨.d0, .d3, .d6⟩) (.t ⟨.d0, .d3, .d7⟩), none⟩,
            ⟨none, .store 7 (.t ⟨.d0, .d4, .d1⟩) (.t ⟨.d0, .d4, .d0⟩), none⟩])
          (.region [⟨some ⟨.d0, .d4, .d2⟩, .move (.t ⟨.d0, .d0, .d5⟩), none⟩,
            ⟨some ⟨.d0, .d4, .d3⟩, .bin .add (.t ⟨.d0, .d4, .d2⟩) (.c (.int .i64 1)), none⟩,
            ⟨some ⟨.d0, .d0, .d5⟩, .move (.t ⟨.d0, .d4, .d3⟩), none⟩]))
          (.skip)))))
      (.region [⟨some ⟨.d0, .d2, .d4⟩, .move (.t ⟨.d0, .d0, .d6⟩), none⟩,
        ⟨some ⟨.d0, .d2, .d5⟩, .bin .add (.t ⟨.d0, .d2, .d4⟩) (.c (.int .i64 1)), none⟩,
        ⟨some ⟨.d0, .d0, .d6⟩, .move (.t ⟨.d0, .d2, .d5⟩), none⟩]))))))
  (.seq (.region [⟨some ⟨.d0, .d4, .d4⟩, .move (.t ⟨.d0, .d0, .d0⟩), none⟩,
    ⟨some ⟨.d0, .d4, .d5⟩, .move (.t ⟨.d0, .d0, .d5⟩), none⟩,
    ⟨some ⟨.d0, .d4, .d6⟩, .slice 7 (.t ⟨.d0, .d4, .d4⟩) (some (.t ⟨.d0, .d4, .d5⟩)) none none, none⟩,
    ⟨none, .clear [.int .u32 0, .int .u32 0, .int .i64 0, .int .i64 0, .int .i64 0, .int .i64 0, .int .i64 0] (.t ⟨.d0, .d4, .d6⟩), none⟩])
  (.seq (.region [⟨some ⟨.d0, .d4, .d7⟩, .move (.t ⟨.d0, .d0, .d0⟩), none⟩,
    ⟨some ⟨.d0, .d5, .d0⟩, .move (.t ⟨.d0, .d0, .d5⟩), none⟩,
    ⟨some ⟨.d0, .d5, .d1⟩, .slice 7 (.t ⟨.d0, .d4, .d7⟩) none (some (.t ⟨.d0, .d5, .d0⟩)) none, none⟩,
    ⟨some ⟨.d0, .d0, .d4⟩, .move (.t ⟨.d0, .d5, .d1⟩), none⟩])
  (.ret))))))
def r_slices_DeleteFunc_api_Talk : List XR := [.tmp ⟨.d0, .d0, .d4⟩]
theorem ok_slices_DeleteFunc_api_Talk : okC Try.prog Try.f51.ntmps (bodyOf Try.f51) x_slices_DeleteFunc_api_Talk = true := by kernel_rfl
theorem okr_slices_DeleteFunc_api_Talk : okRs Try.prog Try.f51.results.toList r_slices_DeleteFunc_api_Talk = true := by kernel_rfl

/-- track.Hear-1 -/
def x_track_Hear_1 : XC :=
  .seq (.region [⟨some ⟨.d0, .d0, .d2⟩, .box 0 7 (.t ⟨.d0, .d0, .d0⟩), none⟩,
    ⟨some ⟨.d0, .d0, .d3⟩, .move (.c (.bool false)), none⟩])
  (.seq (.region [⟨some ⟨.d0, .d0, .d4⟩, .load true 7 (.t ⟨.d0, .d0, .d2⟩), none⟩,
    ⟨some ⟨.d0, .d0, .d5⟩, .load false 1 (.t ⟨.d0, .d0, .d1⟩), none⟩,
    ⟨some ⟨.d0, .d0, .d6⟩, .call 46 [(.t ⟨.d0, .d0, .d4⟩), (.t ⟨.d0, .d0, .d5⟩)], none⟩,
    ⟨some ⟨.d0, .d0, .d3⟩, .move (.t ⟨.d0, .d0, .d6⟩), none⟩])
  (.ret))
def r_track_Hear_1 : List XR := [.tmp ⟨.d0, .d0, .d3⟩]
theorem ok_track_Hear_1 : okC Try.prog Try.f52.ntmps (bodyOf Try.f52) x_track_Hear_1 = true := by kernel_rfl
theorem okr_track_Hear_1 : okRs Try.prog Try.f52.results.toList r_track_Hear_1 = true := by kernel_rfl

/-- track.passes -/
def x_track_passes : XC :=
  .seq (.region [⟨some ⟨.d0, .d0, .d3⟩, .box 1 5 (.t ⟨.d0, .d0, .d1⟩), none⟩,
    ⟨some ⟨.d0, .d0, .d4⟩, .move (.c (.bool false)), none⟩])
  (.seq (.region [⟨some ⟨.d0, .d0, .d7⟩, .fieldAddr 4 (.t ⟨.d0, .d0, .d3⟩), none⟩,
    ⟨some ⟨.d0, .d1, .d0⟩, .load false 1 (.t ⟨.d0, .d0, .d7⟩), none⟩,
    ⟨some ⟨.d0, .d1, .d1⟩, .move (.t ⟨.d0, .d1, .d0⟩), none⟩,
    ⟨some ⟨.d0, .d1, .d2⟩, .fieldAddr 0 (.t ⟨.d0, .d0, .d3⟩), some (⟨.d0, .d1, .d1⟩, true)⟩,
    ⟨some ⟨.d0, .d1, .d3⟩, .load false 1 (.t ⟨.d0, .d1, .d2⟩), some (⟨.d0, .d1, .d1⟩, true)⟩,
    ⟨some ⟨.d0, .d1, .d4⟩, .pick (.t ⟨.d0, .d1, .d1⟩) (.t ⟨.d0, .d1, .d3⟩) (.c (.bool false)), none⟩,
    ⟨some ⟨.d0, .d1, .d5⟩, .move (.t ⟨.d0, .d1, .d4⟩), none⟩,
    ⟨some ⟨.d0, .d1, .d6⟩, .fieldAddr 1 (.t ⟨.d0, .d0, .d3⟩), some (⟨.d0, .d1, .d5⟩, true)⟩,
    ⟨some ⟨.d0, .d1, .d7⟩, .load false 1 (.t ⟨.d0, .d1, .d6⟩), some (⟨.d0, .d1, .d5⟩, true)⟩,
    ⟨some ⟨.d0, .d2, .d0⟩, .un .not (.t ⟨.d0, .d1, .d7⟩), some (⟨.d0, .d1, .d5⟩, true)⟩,
    ⟨some ⟨.d0, .d2, .d1⟩, .pick (.t ⟨.d0, .d1, .d5⟩) (.t ⟨.d0, .d2, .d0⟩) (.c (.bool false)), none⟩,
    ⟨some ⟨.d0, .d2, .d2⟩, .move (.t ⟨.d0, .d2, .d1⟩), none⟩,
    ⟨some ⟨.d0, .d2, .d3⟩, .fieldAddr 2 (.t ⟨.d0, .d0, .d3⟩), some (⟨.d0, .d2, .d2⟩, true)⟩,
    ⟨some ⟨.d0, .d2, .d4⟩, .load false 1 (.t ⟨.d0, .d2, .d3⟩), some (⟨.d0, .d2, .d2⟩, true)⟩,
    ⟨some ⟨.d0, .d2, .d5⟩, .un .not (.t ⟨.d0, .d2, .d4⟩), some (⟨.d0, .d2, .d2⟩, true)⟩,
    ⟨some ⟨.d0, .d2, .d6⟩, .pick (.t ⟨.d0, .d2, .d2⟩) (.t ⟨.d0, .d2, .d5⟩) (.c (.bool false)), none⟩,
    ⟨some ⟨.d0, .d0, .d5⟩, .move (.t ⟨.d0, .d2, .d6⟩), none⟩])
  (.seq (.region [⟨some ⟨.d0, .d2, .d7⟩, .fieldAddr 4 (.t ⟨.d0, .d0, .d3⟩), none⟩,
    ⟨some ⟨.d0, .d3, .d0⟩, .load false 1 (.t ⟨.d0, .d2, .d7⟩), none⟩,
    ⟨some ⟨.d0, .d3, .d1⟩, .un .not (.t ⟨.d0, .d3, .d0⟩), none⟩,
    ⟨some ⟨.d0, .d3, .d2⟩, .move (.t ⟨.d0, .d3, .d1⟩), none⟩,
    ⟨some ⟨.d0, .d3, .d3⟩, .fieldAddr 0 (.t ⟨.d0, .d0, .d3⟩), some (⟨.d0, .d3, .d2⟩, true)⟩,
    ⟨some ⟨.d0, .d3, .d4⟩, .load false 1 (.t ⟨.d0, .d3, .d3⟩), some (⟨.d0, .d3, .d2⟩, true)⟩,
    ⟨some ⟨.d0, .d3, .d5⟩, .pick (.t ⟨.d0, .d3, .d2⟩) (.t ⟨.d0, .d3, .d4⟩) (.c (.bool false)), none⟩,
    ⟨some ⟨.d0, .d3, .d6⟩, .move (.t ⟨.d0, .d3, .d5⟩), none⟩,
    ⟨some ⟨.d0, .d3, .d7⟩, .fieldAddr 1 (.t ⟨.d0, .d0, .d3⟩), some (⟨.d0, .d3, .d6⟩, true)⟩,
    ⟨some ⟨.d0, .d4, .d0⟩, .load false 1 (.t ⟨.d0, .d3, .d7⟩), some (⟨.d0, .d3, .d6⟩, true)⟩,
    ⟨some ⟨.d0, .d4, .d1⟩, .pick (.t ⟨.d0, .d3, .d6⟩) (.t ⟨.d0, .d4, .d0⟩) (.c (.bool false)), none⟩,
    ⟨some ⟨.d0, .d4, .d2⟩, .move (.t ⟨.d0, .d4, .d1⟩), none⟩,
    ⟨some ⟨.d0, .d4, .d3⟩, .fieldAddr 2 (.t ⟨.d0, .d0, .d3⟩), some (⟨.d0, .d4, .d2⟩, true)⟩,
    ⟨some ⟨.d0, .d4, .d4⟩, .load false 1 (.t ⟨.d0, .d4, .d3⟩), some (⟨.d0, .d4, .d2⟩, true)⟩,
    ⟨some ⟨.d0, .d4, .d5⟩, .un .not (.t ⟨.d0, .d4, .d4⟩), some (⟨.d0, .d4, .d2⟩, true)⟩,
    ⟨some ⟨.d0, .d4, .d6⟩, .pick (.t ⟨.d0, .d4, .d2⟩) (.t ⟨.d0, .d4, .d5⟩) (.c (.bool false)), none⟩,
    ⟨some ⟨.d0, .d0, .d6⟩, .move (.t ⟨.d0, .d4, .d6⟩), none⟩])
  (.seq (.block 0
    (.seq (.region [⟨some ⟨.d0, .d5, .d0⟩, .move (.t ⟨.d0, .d0, .d0⟩), none⟩,
      ⟨some ⟨.d0, .d5, .d1⟩, .nilCheck (.t ⟨.d0, .d5, .d0⟩), none⟩,
      ⟨some ⟨.d0, .d5, .d2⟩, .fieldAddr 4 (.t ⟨.d0, .d5, .d1⟩), none⟩,
      ⟨some ⟨.d0, .d5, .d3⟩, .load false 1 (.t ⟨.d0, .d5, .d2⟩), none⟩,
      ⟨some ⟨.d0, .d5, .d4⟩, .bin .leq (.t ⟨.d0, .d5, .d3⟩) (.c (.int .i64 2)), none⟩,
      ⟨some ⟨.d0, .d5, .d5⟩, .move (.t ⟨.d0, .d5, .d4⟩), none⟩,
      ⟨some ⟨.d0, .d5, .d6⟩, .move (.t ⟨.d0, .d0, .d5⟩), some (⟨.d0, .d5, .d5⟩, true)⟩,
      ⟨some ⟨.d0, .d5, .d7⟩, .pick (.t ⟨.d0, .d5, .d5⟩) (.t ⟨.d0, .d5, .d6⟩) (.c (.bool false)), none⟩,
      ⟨some ⟨.d0, .d4, .d7⟩, .move (.t ⟨.d0, .d5, .d7⟩), none⟩])
    (.cond (.t ⟨.d0, .d4, .d7⟩)
      (.seq (.region [⟨some ⟨.d0, .d0, .d4⟩, .move (.c (.bool true)), none⟩])
      (.ret))
      (.seq (.region [⟨some ⟨.d0, .d6, .d1⟩, .move (.t ⟨.d0, .d0, .d0⟩), none⟩,
        ⟨some ⟨.d0, .d6, .d2⟩, .nilCheck (.t ⟨.d0, .d6, .d1⟩), none⟩,
        ⟨some ⟨.d0, .d6, .d3⟩, .fieldAddr 4 (.t ⟨.d0, .d6, .d2⟩), none⟩,
        ⟨some ⟨.d0, .d6, .d4⟩, .load false 1 (.t ⟨.d0, .d6, .d3⟩), none⟩,
        ⟨some ⟨.d0, .d6, .d5⟩, .bin .leq (.t ⟨.d0, .d6, .d4⟩) (.c (.int .i64 2)), none⟩,
        ⟨some ⟨.d0, .d6, .d6⟩, .move (.t ⟨.d0, .d6, .d5⟩), none⟩,
        ⟨some ⟨.d0, .d6, .d7⟩, .move (.t ⟨.d0, .d0, .d6⟩), some (⟨.d0, .d6, .d6⟩, true)⟩,
        ⟨some ⟨.d0, .d7, .d0⟩, .pick (.t ⟨.d0, .d6, .d6⟩) (.t ⟨.d0, .d6, .d7⟩) (.c (.bool false)), none⟩,
        ⟨some ⟨.d0, .d6, .d0⟩, .move (.t ⟨.d0, .d7, .d0⟩), none⟩])
      (.cond (.t ⟨.d0, .d6, .d0⟩)
        (.seq (.region [⟨some ⟨.d0, .d7, .d1⟩, .move (.t ⟨.d0, .d0, .d0⟩), none⟩,
          ⟨some ⟨.d0, .d7, .d2⟩, .nilCheck (.t ⟨.d0, .d7, .d1⟩), none⟩,
          ⟨some ⟨.d0, .d7, .d3⟩, .fieldAddr 4 (.t ⟨.d0, .d7, .d2⟩), none⟩,
          ⟨none, .store 1 (.t ⟨.d0, .d7, .d3⟩) (.c (.int .i64 2)), none⟩])
        (.seq (.region [⟨some ⟨.d0, .d0, .d4⟩, .move (.c (.bool true)), none⟩])
        (.ret)))
        (.seq (.seq (.region [⟨some ⟨.d0, .d7, .d5⟩, .move (.t ⟨.d0, .d0, .d0⟩), none⟩,
          ⟨some ⟨.d0, .d7, .d6⟩, .nilCheck (.t ⟨.d0, .d7, .d5⟩), none⟩,
          ⟨some ⟨.d0, .d7, .d7⟩, .fieldAddr 4 (.t ⟨.d0, .d7, .d6⟩), none⟩,
          ⟨some ⟨.d1, .d0, .d0⟩, .load false 1 (.t ⟨.d0, .d7, .d7⟩), none⟩,
          ⟨some ⟨.d1, .d0, .d1⟩, .bin .eql (.t ⟨.d1, .d0, .d0⟩) (.c (.int .i64 1)), none⟩,
          ⟨some ⟨.d0, .d7, .d4⟩, .move (.t ⟨.d1, .d0, .d1⟩), none⟩])
        (.cond (.t ⟨.d0, .d7, .d4⟩)
          (.skip)
          (.region [⟨some ⟨.d1, .d0, .d2⟩, .move (.t ⟨.d0, .d0, .d0⟩), none⟩,
            ⟨some ⟨.d1, .d0, .d3⟩, .nilCheck (.t ⟨.d1, .d0, .d2⟩), none⟩,
            ⟨some ⟨.d1, .d0, .d4⟩, .fieldAddr 4 (.t ⟨.d1, .d0, .d3⟩), none⟩,
            ⟨some ⟨.d1, .d0, .d5⟩, .load false 1 (.t ⟨.d1, .d0, .d4⟩), none⟩,
            ⟨some ⟨.d1, .d0, .d6⟩, .bin .eql (.t ⟨.d1, .d0, .d5⟩) (.c (.int .i64 2)), none⟩,
            ⟨some ⟨.d1, .d0, .d7⟩, .move (.t ⟨.d1, .d0, .d6⟩), none⟩,
            ⟨some ⟨.d1, .d1, .d0⟩, .fieldAddr 4 (.t ⟨.d0, .d0, .d3⟩), some (⟨.d1, .d0, .d7⟩, true)⟩,
            ⟨some ⟨.d1, .d1, .d1⟩, .load false 1 (.t ⟨.d1, .d1, .d0⟩), some (⟨.d1, .d0, .d7⟩, true)⟩,
            ⟨some ⟨.d1, .d1, .d2⟩, .un .not (.t ⟨.d1, .d1, .d1⟩), some (⟨.d1, .d0, .d7⟩, true)⟩,
            ⟨some ⟨.d1, .d1, .d3⟩, .pick (.t ⟨.d1, .d0, .d7⟩) (.t ⟨.d1, .d1, .d2⟩) (.c (.bool false)), none⟩,
            ⟨some ⟨.d0, .d7, .d4⟩, .move (.t ⟨.d1, .d1, .d3⟩), none⟩])))
        (.cond (.t ⟨.d0, .d7, .d4⟩)
          (.seq (.region [⟨some ⟨.d0, .d0, .d4⟩, .move (.c (.bool false)), none⟩])
          (.ret))
          (.skip))))))))
  (.seq (.region [⟨some ⟨.d1, .d1, .d4⟩, .move (.t ⟨.d0, .d0, .d0⟩), none⟩,
    ⟨some ⟨.d1, .d1, .d5⟩, .load true 5 (.t ⟨.d0, .d0, .d3⟩), none⟩,
    ⟨some ⟨.d1, .d1, .d6⟩, .call 80 [(.t ⟨.d1, .d1, .d4⟩), (.t ⟨.d1, .d1, .d5⟩)], none⟩,
    ⟨some ⟨.d0, .d0, .d4⟩, .move (.t ⟨.d1, .d1, .d6⟩), none⟩])
  (.ret)))))
def r_track_passes : List XR := [.tmp ⟨.d0, .d0, .d4⟩]
theorem ok_track_passes : okC Try.prog Try.f53.ntmps (bodyOf Try.f53) x_track_passes = true := by kernel_rfl
theorem okr_track_passes : okRs Try.prog Try.f53.results.toList r_track_passes = true := by kernel_rfl

/-- slices.Delete -/
def x_slices_Delete_api_Talk : XC :=
  .seq (.region [⟨some ⟨.d0, .d0, .d6⟩, .move (.c (.slice none 0 0)), none⟩])
  (.seq (.region [⟨some ⟨.d0, .d1, .d0⟩, .move (.t ⟨.d0, .d0, .d0⟩), none⟩,
    ⟨some ⟨.d0, .d1, .d1⟩, .move (.t ⟨.d0, .d0, .d1⟩), none⟩,
    ⟨some ⟨.d0, .d1, .d2⟩, .move (.t ⟨.d0, .d0, .d2⟩), none⟩,
    ⟨some ⟨.d0, .d1, .d3⟩, .move (.t ⟨.d0, .d0, .d0⟩), none⟩,
    ⟨some ⟨.d0, .d1, .d4⟩, .len (.t ⟨.d0, .d1, .d3⟩), none⟩,
    ⟨some ⟨.d0, .d1, .d5⟩, .sliceW 7 (.t ⟨.d0, .d1, .d0⟩) (some (.t ⟨.d0, .d1, .d1⟩)) (some (.t ⟨.d0, .d1, .d2⟩)) (some (.t ⟨.d0, .d1, .d4⟩)), none⟩])
  (.seq (.seq (.region [⟨some ⟨.d0, .d1, .d6⟩, .move (.t ⟨.d0, .d0, .d1⟩), none⟩,
    ⟨some ⟨.d0, .d1, .d7⟩, .move (.t ⟨.d0, .d0, .d2⟩), none⟩,
    ⟨some ⟨.d0, .d2, .d0⟩, .bin .eql (.t ⟨.d0, .d1, .d6⟩) (.t ⟨.d0, .d1, .d7⟩), none⟩])
  (.cond (.t ⟨.d0, .d2, .d0⟩)
    (.seq (.region [⟨some ⟨.d0, .d2, .d1⟩, .move (.t ⟨.d0, .d0, .d0⟩), none⟩,
      ⟨some ⟨.d0, .d0, .d6⟩, .move (.t ⟨.d0, .d2, .d1⟩), none⟩])
    (.ret))
    (.skip)))
  (.seq (.region [⟨some ⟨.d0, .d2, .d2⟩, .move (.t ⟨.d0, .d0, .d0⟩), none⟩,
    ⟨some ⟨.d0, .d2, .d3⟩, .len (.t ⟨.d0, .d2, .d2⟩), none⟩,
    ⟨some ⟨.d0, .d0, .d7⟩, .move (.t ⟨.d0, .d2, .d3⟩), none⟩])
  (.seq (.regionD [0, 0, 3, 0, 0, 24, 63, 127] [⟨some ⟨.d0, .d2, .d4⟩, .move (.t ⟨.d0, .d0, .d0⟩), none⟩,
    ⟨some ⟨.d0, .d2, .d5⟩, .move (.t ⟨.d0, .d0, .d1⟩), none⟩,
    ⟨some ⟨.d0, .d2, .d6⟩, .sliceW 7 (.t ⟨.d0, .d2, .d4⟩) none (some (.t ⟨.d0, .d2, .d5⟩)) none, none⟩,
    ⟨some ⟨.d0, .d2, .d7⟩, .move (.t ⟨.d0, .d0, .d0⟩), none⟩,
    ⟨some ⟨.d0, .d3, .d0⟩, .move (.t ⟨.d0, .d0, .d2⟩), none⟩,
    ⟨some ⟨.d0, .d3, .d1⟩, .slice 7 (.t ⟨.d0, .d2, .d7⟩) (some (.t ⟨.d0, .d3, .d0⟩)) none none, none⟩,
    ⟨some ⟨.d0, .d3, .d2⟩, .appendW 7 48 (.t ⟨.d0, .d2, .d6⟩) (.t ⟨.d0, .d3, .d1⟩), none⟩,
    ⟨some ⟨.d0, .d0, .d0⟩, .move (.t ⟨.d0, .d3, .d2⟩), none⟩])
  (.seq (.region [⟨some ⟨.d0, .d3, .d3⟩, .move (.t ⟨.d0, .d0, .d0⟩), none⟩,
    ⟨some ⟨.d0, .d3, .d4⟩, .move (.t ⟨.d0, .d0, .d0⟩), none⟩,
    ⟨some ⟨.d0, .d3, .d5⟩, .len (.t ⟨.d0, .d3, .d4⟩), none⟩,
    ⟨some ⟨.d0, .d3, .d6⟩, .move (.t ⟨.d0, .d0, .d7⟩), none⟩,
    ⟨some ⟨.d0, .d3, .d7⟩, .sliceW 7 (.t ⟨.d0, .d3, .d3⟩) (some (.t ⟨.d0, .d3, .d5⟩)) (some (.t ⟨.d0, .d3, .d6⟩)) none, none⟩,
    ⟨none, .clear [.int .u32 0, .int .u32 0, .int .i64 0, .int .i64 0, .int .i64 0, .int .i64 0, .int .i64 0] (.t ⟨.d0, .d3, .d7⟩), none⟩])
  (.seq (.region [⟨some ⟨.d0, .d4, .d0⟩, .move (.t ⟨.d0, .d0, .d0⟩), none⟩,
    ⟨some ⟨.d0, .d0, .d6⟩, .move (.t ⟨.d0, .d4, .d0⟩), none⟩])
  (.ret)))))))
def r_slices_Delete_api_Talk : List XR := [.tmp ⟨.d0, .d0, .d6⟩]
theorem ok_slices_Delete_api_Talk : okC Try.prog Try.f54.ntmps (bodyOf Try.f54) x_slices_Delete_api_Talk = true := by kernel_rfl
theorem okr_slices_Delete_api_Talk : okRs Try.prog Try.f54.results.toList r_slices_Delete_api_Talk = true := by kernel_rfl

/-- custref.RoadRight -/
def x_custref_RoadRight : XC :=
  .seq (.region [⟨some ⟨.d0, .d0, .d1⟩, .box 0 4 (.t ⟨.d0, .d0, .d0⟩), none⟩,
    ⟨some ⟨.d0, .d0, .d2⟩, .move (.c (.bool false)), none⟩])
  (.seq (.region [⟨some ⟨.d0, .d0, .d3⟩, .fieldAddr 2 (.t ⟨.d0, .d0, .d1⟩), none⟩,
    ⟨some ⟨.d0, .d0, .d4⟩, .load false 1 (.t ⟨.d0, .d0, .d3⟩), none⟩,
    ⟨some ⟨.d0, .d0, .d5⟩, .call 15 [(.t ⟨.d0, .d0, .d4⟩), (.c (.int .i64 0)), (.c (.int .i64 65535))], none⟩,
    ⟨some ⟨.d0, .d0, .d6⟩, .move (.t ⟨.d0, .d0, .d5⟩), none⟩,
    ⟨some ⟨.d0, .d0, .d7⟩, .fieldAddr 3 (.t ⟨.d0, .d0, .d1⟩), some (⟨.d0, .d0, .d6⟩, true)⟩,
    ⟨some ⟨.d0, .d1, .d0⟩, .load false 1 (.t ⟨.d0, .d0, .d7⟩), some (⟨.d0, .d0, .d6⟩, true)⟩,
    ⟨some ⟨.d0, .d1, .d1⟩, .call 15 [(.t ⟨.d0, .d1, .d0⟩), (.c (.int .i64 0)), (.c (.int .i64 65535))], some (⟨.d0, .d0, .d6⟩, true)⟩,
    ⟨some ⟨.d0, .d1, .d2⟩, .pick (.t ⟨.d0, .d0, .d6⟩) (.t ⟨.d0, .d1, .d1⟩) (.c (.bool false)), none⟩,
    ⟨some ⟨.d0, .d0, .d2⟩, .move (.t ⟨.d0, .d1, .d2⟩), none⟩])
  (.ret))
def r_custref_RoadRight : List XR := [.tmp ⟨.d0, .d0, .d2⟩]
theorem ok_custref_RoadRight : okC Try.prog Try.f55.ntmps (bodyOf Try.f55) x_custref_RoadRight = true := by kernel_rfl
theorem okr_custref_RoadRight : okRs Try.prog Try.f55.results.toList r_custref_RoadRight = true := by kernel_rfl

/-- slices.IndexFunc -/
def x_slices_IndexFunc_api_Talk : XC :=
  .seq (.region [⟨some ⟨.d0, .d0, .d4⟩, .move (.c (.int .i64 0)), none⟩])
  (.seq (.seq (.region [⟨some ⟨.d0, .d0, .d6⟩, .move (.t ⟨.d0, .d0, .d0⟩), none⟩,
    ⟨some ⟨.d0, .d0, .d7⟩, .len (.t ⟨.d0, .d0, .d6⟩), none⟩,
    ⟨some ⟨.d0, .d1, .d0⟩, .move (.c (.int .i64 0)), none⟩])
  (.block 0
    (.loop
      (.seq (.region [⟨some ⟨.d0, .d1, .d1⟩, .bin .lss (.t ⟨.d0, .d1, .d0⟩) (.t ⟨.d0, .d0, .d7⟩), none⟩])
      (.seq (.cond (.t ⟨.d0, .d1, .d1⟩)
        (.skip)
        (.exit 0))
      (.seq (.block 1
        (.seq (.region [⟨some ⟨.d0, .d1, .d2⟩, .move (.t ⟨.d0, .d1, .d0⟩), none⟩,
          ⟨some ⟨.d0, .d0, .d5⟩, .move (.t ⟨.d0, .d1, .d2⟩), none⟩])
        (.seq (.region [⟨some ⟨.d0, .d1, .d3⟩, .move (.t ⟨.d0, .d0, .d1⟩), none⟩,
          ⟨some ⟨.d0, .d1, .d4⟩, .move (.t ⟨.d0, .d0, .d0⟩), none⟩,
          ⟨some ⟨.d0, .d1, .d5⟩, .move (.t ⟨.d0, .d0, .d5⟩), none⟩,
          ⟨some ⟨.d0, .d1, .d6⟩, .indexSl 7 (.t ⟨.d0, .d1, .d4⟩) (.t ⟨.d0, .d1, .d5⟩), none⟩,
          ⟨some ⟨.d0, .d1, .d7⟩, .load true 7 (.t ⟨.d0, .d1, .d6⟩), none⟩,
          ⟨some ⟨.d0, .d2, .d0⟩, .callv (.t ⟨.d0, .d1, .d3⟩) [(.t ⟨.d0, .d1, .d7⟩)], none⟩])
        (.cond (.t ⟨.d0, .d2, .d0⟩)
          (.seq (.region [⟨some ⟨.d0, .d2, .d1⟩, .move (.t ⟨.d0, .d0, .d5⟩), none⟩,
            ⟨some ⟨.d0, .d0, .d4⟩, .move (.t ⟨.d0, .d2, .d1⟩), none⟩])
          (.ret))
          (.skip)))))
      (.region [⟨some ⟨.d0, .d2, .d2⟩, .bin .add (.t ⟨.d0, .d1, .d0⟩) (.c (.int .i64 1)), none⟩,
        ⟨some ⟨.d0, .d1, .d0⟩, .move (.t ⟨.d0, .d2, .d2⟩), none⟩])))))))
  (.seq (.region [⟨some ⟨.d0, .d0, .d4⟩, .move (.c (.int .i64 (-1))), none⟩])
  (.ret)))
def r_slices_IndexFunc_api_Talk : List XR := [.tmp ⟨.d0, .d0, .d4⟩]
theorem ok_slices_IndexFunc_api_Talk : okC Try.prog Try.f56.ntmps (bodyOf Try.f56) x_slices_IndexFunc_api_Talk = true := by kernel_rfl
theorem okr_slices_IndexFunc_api_Talk : okRs Try.prog Try.f56.results.toList r_slices_IndexFunc_api_Talk = true := by kernel_rfl

/-- custref.TrackHeard-1 -/
def x_custref_TrackHeard_1 : XC :=
  .seq (.region [⟨some ⟨.d0, .d0, .d2⟩, .box 0 7 (.t ⟨.d0, .d0, .d0⟩), none⟩,
    ⟨some ⟨.d0, .d0, .d3⟩, .move (.c (.bool false)), none⟩])
  (.seq (.region [⟨some ⟨.d0, .d0, .d4⟩, .load true 7 (.t ⟨.d0, .d0, .d2⟩), none⟩,
    ⟨some ⟨.d0, .d0, .d5⟩, .load true 4 (.t ⟨.d0, .d0, .d1⟩), none⟩,
    ⟨some ⟨.d0, .d0, .d6⟩, .call 21 [(.t ⟨.d0, .d0, .d4⟩), (.t ⟨.d0, .d0, .d5⟩)], none⟩,
    ⟨some ⟨.d0, .d0, .d3⟩, .move (.t ⟨.d0, .d0, .d6⟩), none⟩])
  (.ret))
def r_custref_TrackHeard_1 : List XR := [.tmp ⟨.d0, .d0, .d3⟩]
theorem ok_custref_TrackHeard_1 : okC Try.prog Try.f57.ntmps (bodyOf Try.f57) x_custref_TrackHeard_1 = true := by kernel_rfl
theorem okr_custref_TrackHeard_1 : okRs Try.prog Try.f57.results.toList r_custref_TrackHeard_1 = true := by kernel_rfl

/-- custref.TalkSaid -/
def x_custref_TalkSaid : XC :=
  .seq (.region [⟨some ⟨.d0, .d0, .d3⟩, .box 0 7 (.t ⟨.d0, .d0, .d0⟩), none⟩,
    ⟨some ⟨.d0, .d0, .d6⟩, .alloc 1 [.int .u32 0, .int .u32 0, .int .i64 0, .int .i64 0, .int .i64 0, .int .i64 0, .int .i64 0], none⟩,
    ⟨some ⟨.d0, .d0, .d7⟩, .move (.c (.bool false)), none⟩,
    ⟨some ⟨.d0, .d1, .d0⟩, .move (.c (.bool false)), none⟩])
  (.seq (.region [⟨some ⟨.d0, .d1, .d4⟩, .move (.t ⟨.d0, .d0, .d2⟩), none⟩,
    ⟨some ⟨.d0, .d1, .d5⟩, .bin .rem (.t ⟨.d0, .d1, .d4⟩) (.c (.int .i64 2)), none⟩,
    ⟨some ⟨.d0, .d1, .d1⟩, .move (.t ⟨.d0, .d1, .d5⟩), none⟩])
  (.seq (.region [⟨some ⟨.d0, .d1, .d6⟩, .move (.t ⟨.d0, .d0, .d2⟩), none⟩,
    ⟨some ⟨.d0, .d1, .d7⟩, .bin .and (.t ⟨.d0, .d1, .d6⟩) (.c (.int .i64 18)), none⟩,
    ⟨some ⟨.d0, .d1, .d2⟩, .move (.t ⟨.d0, .d1, .d7⟩), none⟩])
  (.seq (.block 0
    (.seq (.region [⟨some ⟨.d0, .d2, .d1⟩, .move (.t ⟨.d0, .d0, .d2⟩), none⟩,
      ⟨some ⟨.d0, .d2, .d2⟩, .bin .and (.t ⟨.d0, .d2, .d1⟩) (.c (.int .i64 4)), none⟩,
      ⟨some ⟨.d0, .d2, .d3⟩, .bin .gtr (.t ⟨.d0, .d2, .d2⟩) (.c (.int .i64 0)), none⟩,
      ⟨some ⟨.d0, .d2, .d0⟩, .move (.t ⟨.d0, .d2, .d3⟩), none⟩])
    (.cond (.t ⟨.d0, .d2, .d0⟩)
      (.seq (.region [⟨some ⟨.d0, .d2, .d4⟩, .load true 7 (.t ⟨.d0, .d0, .d3⟩), none⟩,
        ⟨none, .store 7 (.t ⟨.d0, .d0, .d6⟩) (.t ⟨.d0, .d2, .d4⟩), none⟩,
        ⟨some ⟨.d0, .d0, .d7⟩, .move (.c (.bool false)), none⟩,
        ⟨some ⟨.d0, .d1, .d0⟩, .move (.c (.bool true)), none⟩])
      (.ret))
      (.seq (.region [⟨some ⟨.d0, .d2, .d6⟩, .fieldAddr 4 (.t ⟨.d0, .d0, .d3⟩), none⟩,
        ⟨some ⟨.d0, .d2, .d7⟩, .load false 1 (.t ⟨.d0, .d2, .d6⟩), none⟩,
        ⟨some ⟨.d0, .d3, .d0⟩, .bin .lss (.t ⟨.d0, .d2, .d7⟩) (.c (.int .i64 3)), none⟩,
        ⟨some ⟨.d0, .d3, .d1⟩, .move (.t ⟨.d0, .d3, .d0⟩), none⟩,
        ⟨some ⟨.d0, .d3, .d2⟩, .move (.t ⟨.d0, .d1, .d2⟩), some (⟨.d0, .d3, .d1⟩, true)⟩,
        ⟨some ⟨.d0, .d3, .d3⟩, .bin .eql (.t ⟨.d0, .d3, .d2⟩) (.c (.int .i64 2)), some (⟨.d0, .d3, .d1⟩, true)⟩,
        ⟨some ⟨.d0, .d3, .d4⟩, .pick (.t ⟨.d0, .d3, .d1⟩) (.t ⟨.d0, .d3, .d3⟩) (.c (.bool false)), none⟩,
        ⟨some ⟨.d0, .d3, .d5⟩, .move (.t ⟨.d0, .d3, .d4⟩), none⟩,
        ⟨some ⟨.d0, .d3, .d6⟩, .move (.t ⟨.d0, .d1, .d1⟩), some (⟨.d0, .d3, .d5⟩, true)⟩,
        ⟨some ⟨.d0, .d3, .d7⟩, .bin .eql (.t ⟨.d0, .d3, .d6⟩) (.c (.int .i64 0)), some (⟨.d0, .d3, .d5⟩, true)⟩,
        ⟨some ⟨.d0, .d4, .d0⟩, .pick (.t ⟨.d0, .d3, .d5⟩) (.t ⟨.d0, .d3, .d7⟩) (.c (.bool false)), none⟩,
        ⟨some ⟨.d0, .d4, .d1⟩, .move (.t ⟨.d0, .d4, .d0⟩), none⟩,
        ⟨some ⟨.d0, .d4, .d2⟩, .move (.t ⟨.d0, .d0, .d1⟩), some (⟨.d0, .d4, .d1⟩, true)⟩,
        ⟨some ⟨.d0, .d4, .d3⟩, .pick (.t ⟨.d0, .d4, .d1⟩) (.t ⟨.d0, .d4, .d2⟩) (.c (.bool false)), none⟩,
        ⟨some ⟨.d0, .d2, .d5⟩, .move (.t ⟨.d0, .d4, .d3⟩), none⟩])
      (.cond (.t ⟨.d0, .d2, .d5⟩)
        (.seq (.region [⟨some ⟨.d0, .d4, .d4⟩, .load true 7 (.t ⟨.d0, .d0, .d3⟩), none⟩,
          ⟨none, .store 7 (.t ⟨.d0, .d0, .d6⟩) (.t ⟨.d0, .d4, .d4⟩), none⟩,
          ⟨some ⟨.d0, .d0, .d7⟩, .move (.c (.bool true)), none⟩,
          ⟨some ⟨.d0, .d1, .d0⟩, .move (.c (.bool true)), none⟩])
        (.ret))
        (.seq (.region [⟨some ⟨.d0, .d4, .d6⟩, .fieldAddr 4 (.t ⟨.d0, .d0, .d3⟩), none⟩,
          ⟨some ⟨.d0, .d4, .d7⟩, .load false 1 (.t ⟨.d0, .d4, .d6⟩), none⟩,
          ⟨some ⟨.d0, .d5, .d0⟩, .bin .lss (.t ⟨.d0, .d4, .d7⟩) (.c (.int .i64 3)), none⟩,
          ⟨some ⟨.d0, .d5, .d1⟩, .move (.t ⟨.d0, .d5, .d0⟩), none⟩,
          ⟨some ⟨.d0, .d5, .d2⟩, .move (.t ⟨.d0, .d1, .d2⟩), some (⟨.d0, .d5, .d1⟩, true)⟩,
          ⟨some ⟨.d0, .d5, .d3⟩, .bin .eql (.t ⟨.d0, .d5, .d2⟩) (.c (.int .i64 18)), some (⟨.d0, .d5, .d1⟩, true)⟩,
          ⟨some ⟨.d0, .d5, .d4⟩, .pick (.t ⟨.d0, .d5, .d1⟩) (.t ⟨.d0, .d5, .d3⟩) (.c (.bool false)), none⟩,
          ⟨some ⟨.d0, .d5, .d5⟩, .move (.t ⟨.d0, .d5, .d4⟩), none⟩,
          ⟨some ⟨.d0, .d5, .d6⟩, .move (.t ⟨.d0, .d1, .d1⟩), some (⟨.d0, .d5, .d5⟩, true)⟩,
          ⟨some ⟨.d0, .d5, .d7⟩, .bin .eql (.t ⟨.d0, .d5, .d6⟩) (.c (.int .i64 0)), some (⟨.d0, .d5, .d5⟩, true)⟩,
          ⟨some ⟨.d0, .d6, .d0⟩, .pick (.t ⟨.d0, .d5, .d5⟩) (.t ⟨.d0, .d5, .d7⟩) (.c (.bool false)), none⟩,
          ⟨some ⟨.d0, .d6, .d1⟩, .move (.t ⟨.d0, .d6, .d0⟩), none⟩,
          ⟨some ⟨.d0, .d6, .d2⟩, .move (.t ⟨.d0, .d0, .d1⟩), some (⟨.d0, .d6, .d1⟩, true)⟩,
          ⟨some ⟨.d0, .d6, .d3⟩, .un .not (.t ⟨.d0, .d6, .d2⟩), some (⟨.d0, .d6, .d1⟩, true)⟩,
          ⟨some ⟨.d0, .d6, .d4⟩, .pick (.t ⟨.d0, .d6, .d1⟩) (.t ⟨.d0, .d6, .d3⟩) (.c (.bool false)), none⟩,
          ⟨some ⟨.d0, .d4, .d5⟩, .move (.t ⟨.d0, .d6, .d4⟩), none⟩])
        (.cond (.t ⟨.d0, .d4, .d5⟩)
          (.seq (.region [⟨some ⟨.d0, .d6, .d5⟩, .fieldAddr 4 (.t ⟨.d0, .d0, .d3⟩), none⟩,
            ⟨none, .store 1 (.t ⟨.d0, .d6, .d5⟩) (.c (.int .i64 2)), none⟩])
          (.seq (.region [⟨some ⟨.d0, .d6, .d6⟩, .load true 7 (.t ⟨.d0, .d0, .d3⟩), none⟩,
            ⟨none, .store 7 (.t ⟨.d0, .d0, .d6⟩) (.t ⟨.d0, .d6, .d6⟩), none⟩,
            ⟨some ⟨.d0, .d0, .d7⟩, .move (.c (.bool true)), none⟩,
            ⟨some ⟨.d0, .d1, .d0⟩, .move (.c (.bool true)), none⟩])
          (.ret)))
          (.seq (.region [⟨some ⟨.d0, .d7, .d0⟩, .move (.t ⟨.d0, .d1, .d2⟩), none⟩,
            ⟨some ⟨.d0, .d7, .d1⟩, .bin .neq (.t ⟨.d0, .d7, .d0⟩) (.c (.int .i64 16)), none⟩,
            ⟨some ⟨.d0, .d7, .d2⟩, .move (.t ⟨.d0, .d7, .d1⟩), none⟩,
            ⟨some ⟨.d0, .d7, .d3⟩, .fieldAddr 4 (.t ⟨.d0, .d0, .d3⟩), some (⟨.d0, .d7, .d2⟩, false)⟩,
            ⟨some ⟨.d0, .d7, .d4⟩, .load false 1 (.t ⟨.d0, .d7, .d3⟩), some (⟨.d0, .d7, .d2⟩, false)⟩,
            ⟨some ⟨.d0, .d7, .d5⟩, .bin .eql (.t ⟨.d0, .d7, .d4⟩) (.c (.int .i64 1)), some (⟨.d0, .d7, .d2⟩, false)⟩,
            ⟨some ⟨.d0, .d7, .d6⟩, .pick (.t ⟨.d0, .d7, .d2⟩) (.c (.bool true)) (.t ⟨.d0, .d7, .d5⟩), none⟩,
            ⟨some ⟨.d0, .d7, .d7⟩, .move (.t ⟨.d0, .d7, .d6⟩), none⟩,
            ⟨some ⟨.d1, .d0, .d0⟩, .fieldAddr 4 (.t ⟨.d0, .d0, .d3⟩), some (⟨.d0, .d7, .d7⟩, false)⟩,
            ⟨some ⟨.d1, .d0, .d1⟩, .load false 1 (.t ⟨.d1, .d0, .d0⟩), some (⟨.d0, .d7, .d7⟩, false)⟩,
            ⟨some ⟨.d1, .d0, .d2⟩, .bin .eql (.t ⟨.d1, .d0, .d1⟩) (.c (.int .i64 2)), some (⟨.d0, .d7, .d7⟩, false)⟩,
            ⟨some ⟨.d1, .d0, .d3⟩, .move (.t ⟨.d1, .d0, .d2⟩), some (⟨.d0, .d7, .d7⟩, false)⟩,
            ⟨some ⟨.d1, .d0, .d4⟩, .move (.t ⟨.d0, .d0, .d1⟩), some (⟨.d1, .d0, .d3⟩, true)⟩,
            ⟨some ⟨.d1, .d0, .d5⟩, .un .not (.t ⟨.d1, .d0, .d4⟩), some (⟨.d1, .d0, .d3⟩, true)⟩,
            ⟨some ⟨.d1, .d0, .d6⟩, .pick (.t ⟨.d1, .d0, .d3⟩) (.t ⟨.d1, .d0, .d5⟩) (.c (.bool false)), some (⟨.d0, .d7, .d7⟩, false)⟩,
            ⟨some ⟨.d1, .d0, .d7⟩, .pick (.t ⟨.d0, .d7, .d7⟩) (.c (.bool true)) (.t ⟨.d1, .d0, .d6⟩), none⟩,
            ⟨some ⟨.d0, .d6, .d7⟩, .move (.t ⟨.d1, .d0, .d7⟩), none⟩])
          (.cond (.t ⟨.d0, .d6, .d7⟩)
            (.seq (.region [⟨some ⟨.d1, .d1, .d0⟩, .load true 7 (.t ⟨.d0, .d0, .d3⟩), none⟩,
              ⟨none, .store 7 (.t ⟨.d0, .d0, .d6⟩) (.t ⟨.d1, .d1, .d0⟩), none⟩,
              ⟨some ⟨.d0, .d0, .d7⟩, .move (.c (.bool true)), none⟩,
              ⟨some ⟨.d0, .d1, .d0⟩, .move (.c (.bool false)), none⟩])
            (.ret))
            (.skip))))))))))
  (.seq (.seq (.region [⟨some ⟨.d1, .d1, .d1⟩, .fieldAddr 4 (.t ⟨.d0, .d0, .d3⟩), none⟩,
    ⟨some ⟨.d1, .d1, .d2⟩, .load false 1 (.t ⟨.d1, .d1, .d1⟩), none⟩,
    ⟨some ⟨.d1, .d1, .d3⟩, .bin .eql (.t ⟨.d1, .d1, .d2⟩) (.c (.int .i64 2)), none⟩])
  (.cond (.t ⟨.d1, .d1, .d3⟩)
    (.region [⟨some ⟨.d1, .d1, .d4⟩, .fieldAddr 4 (.t ⟨.d0, .d0, .d3⟩), none⟩,
      ⟨none, .store 1 (.t ⟨.d1, .d1, .d4⟩) (.c (.int .i64 3)), none⟩])
    (.skip)))
  (.seq (.region [⟨some ⟨.d0, .d1, .d3⟩, .move (.c (.int .i64 2)), none⟩])
  (.seq (.seq (.region [⟨some ⟨.d1, .d1, .d5⟩, .move (.t ⟨.d0, .d0, .d1⟩), none⟩])
  (.cond (.t ⟨.d1, .d1, .d5⟩)
    (.region [⟨some ⟨.d0, .d1, .d3⟩, .move (.c (.int .i64 1)), none⟩])
    (.skip)))
  (.seq (.seq (.region [⟨some ⟨.d1, .d1, .d6⟩, .move (.t ⟨.d0, .d1, .d1⟩), none⟩,
    ⟨some ⟨.d1, .d1, .d7⟩, .bin .eql (.t ⟨.d1, .d1, .d6⟩) (.c (.int .i64 1)), none⟩,
    ⟨some ⟨.d1, .d2, .d0⟩, .move (.t ⟨.d1, .d1, .d7⟩), none⟩,
    ⟨some ⟨.d1, .d2, .d1⟩, .fieldAddr 4 (.t ⟨.d0, .d0, .d3⟩), some (⟨.d1, .d2, .d0⟩, true)⟩,
    ⟨some ⟨.d1, .d2, .d2⟩, .load false 1 (.t ⟨.d1, .d2, .d1⟩), some (⟨.d1, .d2, .d0⟩, true)⟩,
    ⟨some ⟨.d1, .d2, .d3⟩, .bin .eql (.t ⟨.d1, .d2, .d2⟩) (.c (.int .i64 3)), some (⟨.d1, .d2, .d0⟩, true)⟩,
    ⟨some ⟨.d1, .d2, .d4⟩, .pick (.t ⟨.d1, .d2, .d0⟩) (.t ⟨.d1, .d2, .d3⟩) (.c (.bool false)), none⟩,
    ⟨some ⟨.d1, .d2, .d5⟩, .move (.t ⟨.d1, .d2, .d4⟩), none⟩,
    ⟨some ⟨.d1, .d2, .d6⟩, .fieldAddr 5 (.t ⟨.d0, .d0, .d3⟩), some (⟨.d1, .d2, .d5⟩, true)⟩,
    ⟨some ⟨.d1, .d2, .d7⟩, .load false 1 (.t ⟨.d1, .d2, .d6⟩), some (⟨.d1, .d2, .d5⟩, true)⟩,
    ⟨some ⟨.d1, .d3, .d0⟩, .move (.t ⟨.d0, .d1, .d3⟩), some (⟨.d1, .d2, .d5⟩, true)⟩,
    ⟨some ⟨.d1, .d3, .d1⟩, .bin .neq (.t ⟨.d1, .d2, .d7⟩) (.t ⟨.d1, .d3, .d0⟩), some (⟨.d1, .d2, .d5⟩, true)⟩,
    ⟨some ⟨.d1, .d3, .d2⟩, .pick (.t ⟨.d1, .d2, .d5⟩) (.t ⟨.d1, .d3, .d1⟩) (.c (.bool false)), none⟩])
  (.cond (.t ⟨.d1, .d3, .d2⟩)
    (.seq (.region [⟨some ⟨.d1, .d3, .d3⟩, .fieldAddr 5 (.t ⟨.d0, .d0, .d3⟩), none⟩,
      ⟨some ⟨.d1, .d3, .d4⟩, .load false 1 (.t ⟨.d1, .d3, .d3⟩), none⟩,
      ⟨some ⟨.d1, .d3, .d5⟩, .move (.t ⟨.d0, .d1, .d3⟩), none⟩,
      ⟨some ⟨.d1, .d3, .d6⟩, .bin .add (.t ⟨.d1, .d3, .d4⟩) (.t ⟨.d1, .d3, .d5⟩), none⟩,
      ⟨some ⟨.d1, .d3, .d7⟩, .fieldAddr 5 (.t ⟨.d0, .d0, .d3⟩), none⟩,
      ⟨none, .store 1 (.t ⟨.d1, .d3, .d7⟩) (.t ⟨.d1, .d3, .d6⟩), none⟩])
    (.seq (.region [⟨some ⟨.d1, .d4, .d0⟩, .fieldAddr 5 (.t ⟨.d0, .d0, .d3⟩), none⟩,
      ⟨some ⟨.d1, .d4, .d1⟩, .load false 1 (.t ⟨.d1, .d4, .d0⟩), none⟩,
      ⟨some ⟨.d1, .d4, .d2⟩, .bin .eql (.t ⟨.d1, .d4, .d1⟩) (.c (.int .i64 3)), none⟩])
    (.cond (.t ⟨.d1, .d4, .d2⟩)
      (.region [⟨some ⟨.d1, .d4, .d3⟩, .fieldAddr 4 (.t ⟨.d0, .d0, .d3⟩), none⟩,
        ⟨none, .store 1 (.t ⟨.d1, .d4, .d3⟩) (.c (.int .i64 4)), none⟩])
      (.skip))))
    (.skip)))
  (.seq (.region [⟨some ⟨.d1, .d4, .d4⟩, .load true 7 (.t ⟨.d0, .d0, .d3⟩), none⟩,
    ⟨none, .store 7 (.t ⟨.d0, .d0, .d6⟩) (.t ⟨.d1, .d4, .d4⟩), none⟩,
    ⟨some ⟨.d0, .d0, .d7⟩, .move (.c (.bool true)), none⟩,
    ⟨some ⟨.d0, .d1, .d0⟩, .move (.c (.bool true)), none⟩])
  (.ret)))))))))
def r_custref_TalkSaid : List XR := [.cell ⟨.d0, .d0, .d6⟩ true 7, .tmp ⟨.d0, .d0, .d7⟩, .tmp ⟨.d0, .d1, .d0⟩]
theorem ok_custref_TalkSaid : okC Try.prog Try.f58.ntmps (bodyOf Try.f58) x_custref_TalkSaid = true := by kernel_rfl
theorem okr_custref_TalkSaid : okRs Try.prog Try.f58.results.toList r_custref_TalkSaid = true := by kernel_rfl

/-- track.form -/
def x_track_form : XC :=
  .seq (.region [⟨some ⟨.d0, .d0, .d1⟩, .box 0 7 (.t ⟨.d0, .d0, .d0⟩), none⟩,
    ⟨some ⟨.d0, .d0, .d2⟩, .move (.c (.bool false)), none⟩])
  (.seq (.seq (.region [⟨some ⟨.d0, .d0, .d3⟩, .fieldAddr 0 (.t ⟨.d0, .d0, .d1⟩), none⟩,
    ⟨some ⟨.d0, .d0, .d4⟩, .load true 4 (.t ⟨.d0, .d0, .d3⟩), none⟩,
    ⟨some ⟨.d0, .d0, .d5⟩, .call 50 [(.t ⟨.d0, .d0, .d4⟩)], none⟩,
    ⟨some ⟨.d0, .d0, .d6⟩, .un .not (.t ⟨.d0, .d0, .d5⟩), none⟩,
    ⟨some ⟨.d0, .d0, .d7⟩, .move (.t ⟨.d0, .d0, .d6⟩), none⟩,
    ⟨some ⟨.d0, .d1, .d0⟩, .fieldAddr 6 (.t ⟨.d0, .d0, .d1⟩), some (⟨.d0, .d0, .d7⟩, false)⟩,
    ⟨some ⟨.d0, .d1, .d1⟩, .load false 1 (.t ⟨.d0, .d1, .d0⟩), some (⟨.d0, .d0, .d7⟩, false)⟩,
    ⟨some ⟨.d0, .d1, .d2⟩, .bin .lss (.t ⟨.d0, .d1, .d1⟩) (.c (.int .i64 0)), some (⟨.d0, .d0, .d7⟩, false)⟩,
    ⟨some ⟨.d0, .d1, .d3⟩, .pick (.t ⟨.d0, .d0, .d7⟩) (.c (.bool true)) (.t ⟨.d0, .d1, .d2⟩), none⟩,
    ⟨some ⟨.d0, .d1, .d4⟩, .move (.t ⟨.d0, .d1, .d3⟩), none⟩,
    ⟨some ⟨.d0, .d1, .d5⟩, .fieldAddr 6 (.t ⟨.d0, .d0, .d1⟩), some (⟨.d0, .d1, .d4⟩, false)⟩,
    ⟨some ⟨.d0, .d1, .d6⟩, .load false 1 (.t ⟨.d0, .d1, .d5⟩), some (⟨.d0, .d1, .d4⟩, false)⟩,
    ⟨some ⟨.d0, .d1, .d7⟩, .bin .gtr (.t ⟨.d0, .d1, .d6⟩) (.c (.int .i64 1099511627776)), some (⟨.d0, .d1, .d4⟩, false)⟩,
    ⟨some ⟨.d0, .d2, .d0⟩, .pick (.t ⟨.d0, .d1, .d4⟩) (.c (.bool true)) (.t ⟨.d0, .d1, .d7⟩), none⟩])
  (.cond (.t ⟨.d0, .d2, .d0⟩)
    (.seq (.region [⟨some ⟨.d0, .d0, .d2⟩, .move (.c (.bool false)), none⟩])
    (.ret))
    (.skip)))
  (.seq (.seq (.region [⟨some ⟨.d0, .d2, .d1⟩, .fieldAddr 4 (.t ⟨.d0, .d0, .d1⟩), none⟩,
    ⟨some ⟨.d0, .d2, .d2⟩, .load false 1 (.t ⟨.d0, .d2, .d1⟩), none⟩])
  (.block 0
    (.seq (.seq (.region [⟨some ⟨.d0, .d2, .d4⟩, .bin .eql (.t ⟨.d0, .d2, .d2⟩) (.c (.int .i64 1)), none⟩,
      ⟨some ⟨.d0, .d2, .d3⟩, .move (.t ⟨.d0, .d2, .d4⟩), none⟩])
    (.cond (.t ⟨.d0, .d2, .d3⟩)
      (.skip)
      (.region [⟨some ⟨.d0, .d2, .d5⟩, .bin .eql (.t ⟨.d0, .d2, .d2⟩) (.c (.int .i64 2)), none⟩,
        ⟨some ⟨.d0, .d2, .d3⟩, .move (.t ⟨.d0, .d2, .d5⟩), none⟩])))
    (.cond (.t ⟨.d0, .d2, .d3⟩)
      (.seq (.region [⟨some ⟨.d0, .d2, .d6⟩, .fieldAddr 5 (.t ⟨.d0, .d0, .d1⟩), none⟩,
        ⟨some ⟨.d0, .d2, .d7⟩, .load false 1 (.t ⟨.d0, .d2, .d6⟩), none⟩,
        ⟨some ⟨.d0, .d3, .d0⟩, .bin .eql (.t ⟨.d0, .d2, .d7⟩) (.c (.int .i64 0)), none⟩,
        ⟨some ⟨.d0, .d0, .d2⟩, .move (.t ⟨.d0, .d3, .d0⟩), none⟩])
      (.ret))
      (.seq (.region [⟨some ⟨.d0, .d3, .d2⟩, .bin .eql (.t ⟨.d0, .d2, .d2⟩) (.c (.int .i64 3)), none⟩,
        ⟨some ⟨.d0, .d3, .d1⟩, .move (.t ⟨.d0, .d3, .d2⟩), none⟩])
      (.cond (.t ⟨.d0, .d3, .d1⟩)
        (.seq (.region [⟨some ⟨.d0, .d3, .d3⟩, .fieldAddr 5 (.t ⟨.d0, .d0, .d1⟩), none⟩,
          ⟨some ⟨.d0, .d3, .d4⟩, .load false 1 (.t ⟨.d0, .d3, .d3⟩), none⟩,
          ⟨some ⟨.d0, .d3, .d5⟩, .bin .geq (.t ⟨.d0, .d3, .d4⟩) (.c (.int .i64 0)), none⟩,
          ⟨some ⟨.d0, .d3, .d6⟩, .move (.t ⟨.d0, .d3, .d5⟩), none⟩,
          ⟨some ⟨.d0, .d3, .d7⟩, .fieldAddr 5 (.t ⟨.d0, .d0, .d1⟩), some (⟨.d0, .d3, .d6⟩, true)⟩,
          ⟨some ⟨.d0, .d4, .d0⟩, .load false 1 (.t ⟨.d0, .d3, .d7⟩), some (⟨.d0, .d3, .d6⟩, true)⟩,
          ⟨some ⟨.d0, .d4, .d1⟩, .bin .leq (.t ⟨.d0, .d4, .d0⟩) (.c (.int .i64 2)), some (⟨.d0, .d3, .d6⟩, true)⟩,
          ⟨some ⟨.d0, .d4, .d2⟩, .pick (.t ⟨.d0, .d3, .d6⟩) (.t ⟨.d0, .d4, .d1⟩) (.c (.bool false)), none⟩,
          ⟨some ⟨.d0, .d0, .d2⟩, .move (.t ⟨.d0, .d4, .d2⟩), none⟩])
        (.ret))
        (.seq (.region [⟨some ⟨.d0, .d4, .d4⟩, .bin .eql (.t ⟨.d0, .d2, .d2⟩) (.c (.int .i64 4)), none⟩,
          ⟨some ⟨.d0, .d4, .d3⟩, .move (.t ⟨.d0, .d4, .d4⟩), none⟩])
        (.cond (.t ⟨.d0, .d4, .d3⟩)
          (.seq (.region [⟨some ⟨.d0, .d4, .d5⟩, .fieldAddr 5 (.t ⟨.d0, .d0, .d1⟩), none⟩,
            ⟨some ⟨.d0, .d4, .d6⟩, .load false 1 (.t ⟨.d0, .d4, .d5⟩), none⟩,
            ⟨some ⟨.d0, .d4, .d7⟩, .bin .eql (.t ⟨.d0, .d4, .d6⟩) (.c (.int .i64 3)), none⟩,
            ⟨some ⟨.d0, .d0, .d2⟩, .move (.t ⟨.d0, .d4, .d7⟩), none⟩])
          (.ret))
          (.skip)))))))))
  (.seq (.region [⟨some ⟨.d0, .d0, .d2⟩, .move (.c (.bool false)), none⟩])
  (.ret))))
def r_track_form : List XR := [.tmp ⟨.d0, .d0, .d2⟩]
theorem ok_track_form : okC Try.prog Try.f59.ntmps (bodyOf Try.f59) x_track_form = true := by kernel_rfl
theorem okr_track_form : okRs Try.prog Try.f59.results.toList r_track_form = true := by kernel_rfl

/-- track.place-1 -/
def x_track_place_1 : XC :=
  .seq (.region [⟨some ⟨.d0, .d0, .d2⟩, .box 0 7 (.t ⟨.d0, .d0, .d0⟩), none⟩,
    ⟨some ⟨.d0, .d0, .d3⟩, .move (.c (.bool false)), none⟩])
  (.seq (.regionD [0, 1, 0, 7, 15, 31, 63, 31, 159, 511, 1023, 2047] [⟨some ⟨.d0, .d0, .d4⟩, .fieldAddr 0 (.t ⟨.d0, .d0, .d2⟩), none⟩,
    ⟨some ⟨.d0, .d0, .d5⟩, .load true 4 (.t ⟨.d0, .d0, .d4⟩), none⟩,
    ⟨some ⟨.d0, .d0, .d6⟩, .load true 4 (.t ⟨.d0, .d0, .d1⟩), none⟩,
    ⟨some ⟨.d0, .d0, .d7⟩, .eqs false [0, 0, 0, 0] (.t ⟨.d0, .d0, .d5⟩) (.t ⟨.d0, .d0, .d6⟩), none⟩,
    ⟨some ⟨.d0, .d1, .d0⟩, .move (.t ⟨.d0, .d0, .d7⟩), none⟩,
    ⟨some ⟨.d0, .d1, .d1⟩, .fieldAddr 0 (.t ⟨.d0, .d0, .d2⟩), some (⟨.d0, .d1, .d0⟩, false)⟩,
    ⟨some ⟨.d0, .d1, .d2⟩, .load true 4 (.t ⟨.d0, .d1, .d1⟩), some (⟨.d0, .d1, .d0⟩, false)⟩,
    ⟨some ⟨.d0, .d1, .d3⟩, .load true 4 (.t ⟨.d0, .d0, .d1⟩), some (⟨.d0, .d1, .d0⟩, false)⟩,
    ⟨some ⟨.d0, .d1, .d4⟩, .call 78 [(.t ⟨.d0, .d1, .d3⟩)], some (⟨.d0, .d1, .d0⟩, false)⟩,
    ⟨some ⟨.d0, .d1, .d5⟩, .eqs false [0, 0, 0, 0] (.t ⟨.d0, .d1, .d2⟩) (.t ⟨.d0, .d1, .d4⟩), some (⟨.d0, .d1, .d0⟩, false)⟩,
    ⟨some ⟨.d0, .d1, .d6⟩, .pick (.t ⟨.d0, .d1, .d0⟩) (.c (.bool true)) (.t ⟨.d0, .d1, .d5⟩), none⟩,
    ⟨some ⟨.d0, .d0, .d3⟩, .move (.t ⟨.d0, .d1, .d6⟩), none⟩])
  (.ret))
def r_track_place_1 : List XR := [.tmp ⟨.d0, .d0, .d3⟩]
theorem ok_track_place_1 : okC Try.prog Try.f77.ntmps (bodyOf Try.f77) x_track_place_1 = true := by kernel_rfl
theorem okr_track_place_1 : okRs Try.prog Try.f77.results.toList r_track_place_1 = true := by kernel_rfl

/-- track.turned -/
def x_track_turned : XC :=
  .seq (.region [⟨some ⟨.d0, .d0, .d1⟩, .box 0 4 (.t ⟨.d0, .d0, .d0⟩), none⟩,
    ⟨some ⟨.d0, .d0, .d2⟩, .alloc 1 [.int .u32 0, .int .u32 0, .int .i64 0, .int .i64 0], none⟩])
  (.seq (.region [⟨some ⟨.d0, .d0, .d3⟩, .fieldAddr 1 (.t ⟨.d0, .d0, .d1⟩), none⟩,
    ⟨some ⟨.d0, .d0, .d4⟩, .load false 1 (.t ⟨.d0, .d0, .d3⟩), none⟩,
    ⟨some ⟨.d0, .d0, .d5⟩, .fieldAddr 0 (.t ⟨.d0, .d0, .d1⟩), none⟩,
    ⟨some ⟨.d0, .d0, .d6⟩, .load false 1 (.t ⟨.d0, .d0, .d5⟩), none⟩,
    ⟨some ⟨.d0, .d0, .d7⟩, .fieldAddr 3 (.t ⟨.d0, .d0, .d1⟩), none⟩,
    ⟨some ⟨.d0, .d1, .d0⟩, .load false 1 (.t ⟨.d0, .d0, .d7⟩), none⟩,
    ⟨some ⟨.d0, .d1, .d1⟩, .fieldAddr 2 (.t ⟨.d0, .d0, .d1⟩), none⟩,
    ⟨some ⟨.d0, .d1, .d2⟩, .load false 1 (.t ⟨.d0, .d1, .d1⟩), none⟩,
    ⟨some ⟨.d0, .d1, .d3⟩, .build [.int .u32 0, .int .u32 0, .int .i64 0, .int .i64 0] [(0, 1, (.t ⟨.d0, .d0, .d4⟩)), (1, 1, (.t ⟨.d0, .d0, .d6⟩)), (2, 1, (.t ⟨.d0, .d1, .d0⟩)), (3, 1, (.t ⟨.d0, .d1, .d2⟩))], none⟩,
    ⟨none, .store 4 (.t ⟨.d0, .d0, .d2⟩) (.t ⟨.d0, .d1, .d3⟩), none⟩])
  (.ret))
def r_track_turned : List XR := [.cell ⟨.d0, .d0, .d2⟩ true 4]
theorem ok_track_turned : okC Try.prog Try.f78.ntmps (bodyOf Try.f78) x_track_turned = true := by kernel_rfl
theorem okr_track_turned : okRs Try.prog Try.f78.results.toList r_track_turned = true := by kernel_rfl

/-- track.port -/
def x_track_port : XC :=
  .seq (.region [⟨some ⟨.d0, .d0, .d2⟩, .move (.c (.bool false)), none⟩])
  (.seq (.region [⟨some ⟨.d0, .d0, .d3⟩, .move (.t ⟨.d0, .d0, .d0⟩), none⟩,
    ⟨some ⟨.d0, .d0, .d4⟩, .bin .geq (.t ⟨.d0, .d0, .d3⟩) (.c (.int .i64 0)), none⟩,
    ⟨some ⟨.d0, .d0, .d5⟩, .move (.t ⟨.d0, .d0, .d4⟩), none⟩,
    ⟨some ⟨.d0, .d0, .d6⟩, .move (.t ⟨.d0, .d0, .d0⟩), some (⟨.d0, .d0, .d5⟩, true)⟩,
    ⟨some ⟨.d0, .d0, .d7⟩, .bin .leq (.t ⟨.d0, .d0, .d6⟩) (.c (.int .i64 65535)), some (⟨.d0, .d0, .d5⟩, true)⟩,
    ⟨some ⟨.d0, .d1, .d0⟩, .pick (.t ⟨.d0, .d0, .d5⟩) (.t ⟨.d0, .d0, .d7⟩) (.c (.bool false)), none⟩,
    ⟨some ⟨.d0, .d0, .d2⟩, .move (.t ⟨.d0, .d1, .d0⟩), none⟩])
  (.ret))
def r_track_port : List XR := [.tmp ⟨.d0, .d0, .d2⟩]
theorem ok_track_port : okC Try.prog Try.f79.ntmps (bodyOf Try.f79) x_track_port = true := by kernel_rfl
theorem okr_track_port : okRs Try.prog Try.f79.results.toList r_track_port = true := by kernel_rfl

/-- track.open -/
def x_track_open : XC :=
  .seq (.region [⟨some ⟨.d0, .d0, .d3⟩, .box 1 5 (.t ⟨.d0, .d0, .d1⟩), none⟩,
    ⟨some ⟨.d0, .d0, .d4⟩, .move (.c (.bool false)), none⟩])
  (.seq (.seq (.region [⟨some ⟨.d0, .d0, .d5⟩, .fieldAddr 1 (.t ⟨.d0, .d0, .d3⟩), none⟩,
    ⟨some ⟨.d0, .d0, .d6⟩, .load false 1 (.t ⟨.d0, .d0, .d5⟩), none⟩,
    ⟨some ⟨.d0, .d0, .d7⟩, .un .not (.t ⟨.d0, .d0, .d6⟩), none⟩,
    ⟨some ⟨.d0, .d1, .d0⟩, .move (.t ⟨.d0, .d0, .d7⟩), none⟩,
    ⟨some ⟨.d0, .d1, .d1⟩, .fieldAddr 0 (.t ⟨.d0, .d0, .d3⟩), some (⟨.d0, .d1, .d0⟩, false)⟩,
    ⟨some ⟨.d0, .d1, .d2⟩, .load false 1 (.t ⟨.d0, .d1, .d1⟩), some (⟨.d0, .d1, .d0⟩, false)⟩,
    ⟨some ⟨.d0, .d1, .d3⟩, .pick (.t ⟨.d0, .d1, .d0⟩) (.c (.bool true)) (.t ⟨.d0, .d1, .d2⟩), none⟩])
  (.cond (.t ⟨.d0, .d1, .d3⟩)
    (.seq (.region [⟨some ⟨.d0, .d0, .d4⟩, .move (.c (.bool false)), none⟩])
    (.ret))
    (.skip)))
  (.seq (.region [⟨some ⟨.d0, .d1, .d4⟩, .move (.t ⟨.d0, .d0, .d0⟩), none⟩,
    ⟨some ⟨.d0, .d1, .d5⟩, .move (.t ⟨.d0, .d0, .d0⟩), none⟩,
    ⟨some ⟨.d0, .d1, .d6⟩, .nilCheck (.t ⟨.d0, .d1, .d5⟩), none⟩,
    ⟨some ⟨.d0, .d1, .d7⟩, .fieldAddr 4 (.t ⟨.d0, .d1, .d6⟩), none⟩,
    ⟨some ⟨.d0, .d2, .d0⟩, .load false 1 (.t ⟨.d0, .d1, .d7⟩), none⟩,
    ⟨some ⟨.d0, .d2, .d1⟩, .maxI (.t ⟨.d0, .d2, .d0⟩) (.c (.int .i64 3)), none⟩,
    ⟨some ⟨.d0, .d2, .d2⟩, .nilCheck (.t ⟨.d0, .d1, .d4⟩), none⟩,
    ⟨some ⟨.d0, .d2, .d3⟩, .fieldAddr 4 (.t ⟨.d0, .d2, .d2⟩), none⟩,
    ⟨none, .store 1 (.t ⟨.d0, .d2, .d3⟩) (.t ⟨.d0, .d2, .d1⟩), none⟩])
  (.seq (.block 0
    (.seq (.region [⟨some ⟨.d0, .d2, .d5⟩, .fieldAddr 2 (.t ⟨.d0, .d0, .d3⟩), none⟩,
      ⟨some ⟨.d0, .d2, .d6⟩, .load false 1 (.t ⟨.d0, .d2, .d5⟩), none⟩,
      ⟨some ⟨.d0, .d2, .d7⟩, .move (.t ⟨.d0, .d2, .d6⟩), none⟩,
      ⟨some ⟨.d0, .d3, .d0⟩, .fieldAddr 4 (.t ⟨.d0, .d0, .d3⟩), some (⟨.d0, .d2, .d7⟩, true)⟩,
      ⟨some ⟨.d0, .d3, .d1⟩, .load false 1 (.t ⟨.d0, .d3, .d0⟩), some (⟨.d0, .d2, .d7⟩, true)⟩,
      ⟨some ⟨.d0, .d3, .d2⟩, .pick (.t ⟨.d0, .d2, .d7⟩) (.t ⟨.d0, .d3, .d1⟩) (.c (.bool false)), none⟩,
      ⟨some ⟨.d0, .d2, .d4⟩, .move (.t ⟨.d0, .d3, .d2⟩), none⟩])
    (.cond (.t ⟨.d0, .d2, .d4⟩)
      (.region [⟨some ⟨.d0, .d3, .d3⟩, .move (.t ⟨.d0, .d0, .d0⟩), none⟩,
        ⟨some ⟨.d0, .d3, .d4⟩, .nilCheck (.t ⟨.d0, .d3, .d3⟩), none⟩,
        ⟨some ⟨.d0, .d3, .d5⟩, .fieldAddr 5 (.t ⟨.d0, .d3, .d4⟩), none⟩,
        ⟨some ⟨.d0, .d3, .d6⟩, .load false 1 (.t ⟨.d0, .d3, .d5⟩), none⟩,
        ⟨some ⟨.d0, .d3, .d7⟩, .bin .or (.t ⟨.d0, .d3, .d6⟩) (.c (.int .i64 1)), none⟩,
        ⟨some ⟨.d0, .d4, .d0⟩, .nilCheck (.t ⟨.d0, .d3, .d3⟩), none⟩,
        ⟨some ⟨.d0, .d4, .d1⟩, .fieldAddr 5 (.t ⟨.d0, .d4, .d0⟩), none⟩,
        ⟨none, .store 1 (.t ⟨.d0, .d4, .d1⟩) (.t ⟨.d0, .d3, .d7⟩), none⟩])
      (.seq (.region [⟨some ⟨.d0, .d4, .d3⟩, .fieldAddr 2 (.t ⟨.d0, .d0, .d3⟩), none⟩,
        ⟨some ⟨.d0, .d4, .d4⟩, .load false 1 (.t ⟨.d0, .d4, .d3⟩), none⟩,
        ⟨some ⟨.d0, .d4, .d2⟩, .move (.t ⟨.d0, .d4, .d4⟩), none⟩])
      (.cond (.t ⟨.d0, .d4, .d2⟩)
        (.region [⟨some ⟨.d0, .d4, .d5⟩, .move (.t ⟨.d0, .d0, .d0⟩), none⟩,
          ⟨some ⟨.d0, .d4, .d6⟩, .nilCheck (.t ⟨.d0, .d4, .d5⟩), none⟩,
          ⟨some ⟨.d0, .d4, .d7⟩, .fieldAddr 5 (.t ⟨.d0, .d4, .d6⟩), none⟩,
          ⟨some ⟨.d0, .d5, .d0⟩, .load false 1 (.t ⟨.d0, .d4, .d7⟩), none⟩,
          ⟨some ⟨.d0, .d5, .d1⟩, .bin .or (.t ⟨.d0, .d5, .d0⟩) (.c (.int .i64 2)), none⟩,
          ⟨some ⟨.d0, .d5, .d2⟩, .nilCheck (.t ⟨.d0, .d4, .d5⟩), none⟩,
          ⟨some ⟨.d0, .d5, .d3⟩, .fieldAddr 5 (.t ⟨.d0, .d5, .d2⟩), none⟩,
          ⟨none, .store 1 (.t ⟨.d0, .d5, .d3⟩) (.t ⟨.d0, .d5, .d1⟩), none⟩])
        (.skip))))))
  (.seq (.seq (.region [⟨some ⟨.d0, .d5, .d4⟩, .move (.t ⟨.d0, .d0, .d0⟩), none⟩,
    ⟨some ⟨.d0, .d5, .d5⟩, .nilCheck (.t ⟨.d0, .d5, .d4⟩), none⟩,
    ⟨some ⟨.d0, .d5, .d6⟩, .fieldAddr 5 (.t ⟨.d0, .d5, .d5⟩), none⟩,
    ⟨some ⟨.d0, .d5, .d7⟩, .load false 1 (.t ⟨.d0, .d5, .d6⟩), none⟩,
    ⟨some ⟨.d0, .d6, .d0⟩, .bin .eql (.t ⟨.d0, .d5, .d7⟩) (.c (.int .i64 3)), none⟩])
  (.cond (.t ⟨.d0, .d6, .d0⟩)
    (.region [⟨some ⟨.d0, .d6, .d1⟩, .move (.t ⟨.d0, .d0, .d0⟩), none⟩,
      ⟨some ⟨.d0, .d6, .d2⟩, .nilCheck (.t ⟨.d0, .d6, .d1⟩), none⟩,
      ⟨some ⟨.d0, .d6, .d3⟩, .fieldAddr 4 (.t ⟨.d0, .d6, .d2⟩), none⟩,
      ⟨none, .store 1 (.t ⟨.d0, .d6, .d3⟩) (.c (.int .i64 4)), none⟩])
    (.skip)))
  (.seq (.region [⟨some ⟨.d0, .d0, .d4⟩, .move (.c (.bool true)), none⟩])
  (.ret))))))
def r_track_open : List XR := [.tmp ⟨.d0, .d0, .d4⟩]
theorem ok_track_open : okC Try.prog Try.f80.ntmps (bodyOf Try.f80) x_track_open = true := by kernel_rfl
theorem okr_track_open : okRs Try.prog Try.f80.results.toList r_track_open = true := by kernel_rfl
end Go.Proofs.Ytkpechddgjbfkaa
