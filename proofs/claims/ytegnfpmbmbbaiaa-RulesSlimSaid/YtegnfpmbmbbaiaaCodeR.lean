/-
  The functions of the program in short form, and that the model's code is what they stand for. Printed by xgen.py.
-/
import Derived.Test.YtegnfpmbmbbaiaaFw
import Derived.Test.YtegnfpmbmbbaiaaProg
import Derived.KernelRfl
namespace Go.Proofs.Ytegnfpmbmbbaiaa
set_option linter.unusedVariables false
set_option maxRecDepth 100000

/-- custlaw.RulesDecide -/
def x_custlaw_RulesDecide : XC :=
  .seq (.region [⟨some ⟨.d0, .d0, .d4⟩, .box 0 5 (.t ⟨.d0, .d0, .d1⟩), none⟩,
    ⟨some ⟨.d0, .d0, .d6⟩, .move (.c (.bool false)), none⟩])
  (.seq (.region [⟨some ⟨.d0, .d1, .d6⟩, .move (.t ⟨.d0, .d0, .d0⟩), none⟩,
    ⟨some ⟨.d0, .d1, .d7⟩, .load true 5 (.t ⟨.d0, .d0, .d4⟩), none⟩,
    ⟨some ⟨.d0, .d2, .d0⟩, .move (.t ⟨.d0, .d0, .d2⟩), none⟩,
    ⟨some ⟨.d0, .d2, .d1⟩, .call 9 [(.t ⟨.d0, .d1, .d6⟩), (.t ⟨.d0, .d1, .d7⟩), (.t ⟨.d0, .d2, .d0⟩)], none⟩,
    ⟨some ⟨.d0, .d1, .d5⟩, .move (.t ⟨.d0, .d2, .d1⟩), none⟩,
    ⟨some ⟨.d0, .d2, .d2⟩, .extract 0 (.t ⟨.d0, .d1, .d5⟩), none⟩,
    ⟨some ⟨.d0, .d2, .d3⟩, .extract 1 (.t ⟨.d0, .d1, .d5⟩), none⟩,
    ⟨some ⟨.d0, .d2, .d4⟩, .extract 2 (.t ⟨.d0, .d1, .d5⟩), none⟩,
    ⟨some ⟨.d0, .d0, .d7⟩, .move (.t ⟨.d0, .d2, .d2⟩), none⟩,
    ⟨some ⟨.d0, .d1, .d0⟩, .move (.t ⟨.d0, .d2, .d3⟩), none⟩,
    ⟨some ⟨.d0, .d1, .d1⟩, .move (.t ⟨.d0, .d2, .d4⟩), none⟩])
  (.seq (.region [⟨some ⟨.d0, .d2, .d6⟩, .move (.t ⟨.d0, .d0, .d0⟩), none⟩,
    ⟨some ⟨.d0, .d2, .d7⟩, .load true 5 (.t ⟨.d0, .d0, .d4⟩), none⟩,
    ⟨some ⟨.d0, .d3, .d0⟩, .move (.t ⟨.d0, .d0, .d2⟩), none⟩,
    ⟨some ⟨.d0, .d3, .d1⟩, .call 10 [(.t ⟨.d0, .d2, .d6⟩), (.t ⟨.d0, .d2, .d7⟩), (.t ⟨.d0, .d3, .d0⟩)], none⟩,
    ⟨some ⟨.d0, .d2, .d5⟩, .move (.t ⟨.d0, .d3, .d1⟩), none⟩,
    ⟨some ⟨.d0, .d3, .d2⟩, .extract 0 (.t ⟨.d0, .d2, .d5⟩), none⟩,
    ⟨some ⟨.d0, .d3, .d3⟩, .extract 1 (.t ⟨.d0, .d2, .d5⟩), none⟩,
    ⟨some ⟨.d0, .d3, .d4⟩, .extract 2 (.t ⟨.d0, .d2, .d5⟩), none⟩,
    ⟨some ⟨.d0, .d1, .d2⟩, .move (.t ⟨.d0, .d3, .d2⟩), none⟩,
    ⟨some ⟨.d0, .d1, .d3⟩, .move (.t ⟨.d0, .d3, .d3⟩), none⟩,
    ⟨some ⟨.d0, .d1, .d4⟩, .move (.t ⟨.d0, .d3, .d4⟩), none⟩])
  (.seq (.region [⟨some ⟨.d0, .d3, .d5⟩, .move (.t ⟨.d0, .d0, .d0⟩), none⟩,
    ⟨some ⟨.d0, .d3, .d6⟩, .call 11 [(.t ⟨.d0, .d3, .d5⟩)], none⟩,
    ⟨some ⟨.d0, .d3, .d7⟩, .move (.t ⟨.d0, .d0, .d0⟩), none⟩,
    ⟨some ⟨.d0, .d4, .d0⟩, .call 12 [(.t ⟨.d0, .d3, .d7⟩)], none⟩,
    ⟨some ⟨.d0, .d4, .d1⟩, .bin .eql (.t ⟨.d0, .d3, .d6⟩) (.t ⟨.d0, .d4, .d0⟩), none⟩,
    ⟨some ⟨.d0, .d4, .d2⟩, .move (.t ⟨.d0, .d4, .d1⟩), none⟩,
    ⟨some ⟨.d0, .d4, .d3⟩, .move (.t ⟨.d0, .d0, .d7⟩), some (⟨.d0, .d4, .d2⟩, true)⟩,
    ⟨some ⟨.d0, .d4, .d4⟩, .move (.t ⟨.d0, .d1, .d2⟩), some (⟨.d0, .d4, .d2⟩, true)⟩,
    ⟨some ⟨.d0, .d4, .d5⟩, .eqb false (.t ⟨.d0, .d4, .d3⟩) (.t ⟨.d0, .d4, .d4⟩), some (⟨.d0, .d4, .d2⟩, true)⟩,
    ⟨some ⟨.d0, .d4, .d6⟩, .pick (.t ⟨.d0, .d4, .d2⟩) (.t ⟨.d0, .d4, .d5⟩) (.c (.bool false)), none⟩,
    ⟨some ⟨.d0, .d4, .d7⟩, .move (.t ⟨.d0, .d4, .d6⟩), none⟩,
    ⟨some ⟨.d0, .d5, .d0⟩, .move (.t ⟨.d0, .d1, .d0⟩), some (⟨.d0, .d4, .d7⟩, true)⟩,
    ⟨some ⟨.d0, .d5, .d1⟩, .move (.t ⟨.d0, .d1, .d3⟩), some (⟨.d0, .d4, .d7⟩, true)⟩,
    ⟨some ⟨.d0, .d5, .d2⟩, .bin .eql (.t ⟨.d0, .d5, .d0⟩) (.t ⟨.d0, .d5, .d1⟩), some (⟨.d0, .d4, .d7⟩, true)⟩,
    ⟨some ⟨.d0, .d5, .d3⟩, .pick (.t ⟨.d0, .d4, .d7⟩) (.t ⟨.d0, .d5, .d2⟩) (.c (.bool false)), none⟩,
    ⟨some ⟨.d0, .d5, .d4⟩, .move (.t ⟨.d0, .d5, .d3⟩), none⟩,
    ⟨some ⟨.d0, .d5, .d5⟩, .move (.t ⟨.d0, .d1, .d1⟩), some (⟨.d0, .d5, .d4⟩, true)⟩,
    ⟨some ⟨.d0, .d5, .d6⟩, .move (.t ⟨.d0, .d1, .d4⟩), some (⟨.d0, .d5, .d4⟩, true)⟩,
    ⟨some ⟨.d0, .d5, .d7⟩, .bin .eql (.t ⟨.d0, .d5, .d5⟩) (.t ⟨.d0, .d5, .d6⟩), some (⟨.d0, .d5, .d4⟩, true)⟩,
    ⟨some ⟨.d0, .d6, .d0⟩, .pick (.t ⟨.d0, .d5, .d4⟩) (.t ⟨.d0, .d5, .d7⟩) (.c (.bool false)), none⟩,
    ⟨some ⟨.d0, .d0, .d6⟩, .move (.t ⟨.d0, .d6, .d0⟩), none⟩])
  (.ret))))
def r_custlaw_RulesDecide : List XR := [.tmp ⟨.d0, .d0, .d6⟩]
theorem ok_custlaw_RulesDecide : okC Try.prog Try.f4.ntmps (bodyOf Try.f4) x_custlaw_RulesDecide = true := by kernel_rfl
theorem okr_custlaw_RulesDecide : okRs Try.prog Try.f4.results.toList r_custlaw_RulesDecide = true := by kernel_rfl

/-- custlaw.RulesSlim -/
def x_custlaw_RulesSlim : XC :=
  .seq (.region [⟨some ⟨.d0, .d0, .d4⟩, .box 0 10 (.t ⟨.d0, .d0, .d1⟩), none⟩,
    ⟨some ⟨.d0, .d0, .d5⟩, .box 1 10 (.t ⟨.d0, .d0, .d2⟩), none⟩,
    ⟨some ⟨.d0, .d0, .d6⟩, .move (.c (.bool false)), none⟩])
  (.seq (.region [⟨some ⟨.d0, .d2, .d3⟩, .load true 10 (.t ⟨.d0, .d0, .d4⟩), none⟩,
    ⟨some ⟨.d0, .d2, .d4⟩, .load true 10 (.t ⟨.d0, .d0, .d5⟩), none⟩,
    ⟨some ⟨.d0, .d2, .d5⟩, .call 13 [(.t ⟨.d0, .d2, .d3⟩), (.t ⟨.d0, .d2, .d4⟩)], none⟩,
    ⟨some ⟨.d0, .d2, .d2⟩, .move (.t ⟨.d0, .d2, .d5⟩), none⟩,
    ⟨some ⟨.d0, .d2, .d6⟩, .extract 0 (.t ⟨.d0, .d2, .d2⟩), none⟩,
    ⟨some ⟨.d0, .d2, .d7⟩, .extract 1 (.t ⟨.d0, .d2, .d2⟩), none⟩,
    ⟨some ⟨.d0, .d0, .d7⟩, .move (.t ⟨.d0, .d2, .d6⟩), none⟩,
    ⟨some ⟨.d0, .d1, .d0⟩, .move (.t ⟨.d0, .d2, .d7⟩), none⟩])
  (.seq (.region [⟨some ⟨.d0, .d3, .d0⟩, .load true 10 (.t ⟨.d0, .d0, .d4⟩), none⟩,
    ⟨some ⟨.d0, .d3, .d1⟩, .load true 10 (.t ⟨.d0, .d0, .d5⟩), none⟩,
    ⟨some ⟨.d0, .d3, .d2⟩, .buildSlice 2 2 [.int .u32 0, .int .i64 0, .int .u32 0, .int .i64 0, .int .i64 0, .int .i64 0, .int .i64 0, .int .i64 0, .int .i64 0, .bool false] [(0, (.t ⟨.d0, .d3, .d0⟩)), (1, (.t ⟨.d0, .d3, .d1⟩))], none⟩,
    ⟨some ⟨.d0, .d3, .d3⟩, .call 12 [(.t ⟨.d0, .d3, .d2⟩)], none⟩,
    ⟨some ⟨.d0, .d1, .d1⟩, .move (.c (.bool false)), none⟩,
    ⟨some ⟨.d0, .d1, .d2⟩, .move (.t ⟨.d0, .d3, .d3⟩), none⟩])
  (.seq (.seq (.region [⟨some ⟨.d0, .d3, .d4⟩, .move (.t ⟨.d0, .d1, .d2⟩), none⟩,
    ⟨some ⟨.d0, .d3, .d5⟩, .bin .eql (.t ⟨.d0, .d3, .d4⟩) (.c (.int .i64 0)), none⟩])
  (.cond (.t ⟨.d0, .d3, .d5⟩)
    (.region [⟨some ⟨.d0, .d3, .d6⟩, .load true 10 (.t ⟨.d0, .d0, .d4⟩), none⟩,
      ⟨some ⟨.d0, .d3, .d7⟩, .load true 10 (.t ⟨.d0, .d0, .d5⟩), none⟩,
      ⟨some ⟨.d0, .d4, .d0⟩, .call 14 [(.t ⟨.d0, .d3, .d6⟩), (.t ⟨.d0, .d3, .d7⟩)], none⟩,
      ⟨some ⟨.d0, .d1, .d1⟩, .move (.t ⟨.d0, .d4, .d0⟩), none⟩])
    (.skip)))
  (.seq (.region [⟨some ⟨.d0, .d4, .d2⟩, .move (.t ⟨.d0, .d0, .d0⟩), none⟩,
    ⟨some ⟨.d0, .d4, .d3⟩, .call 15 [(.t ⟨.d0, .d4, .d2⟩)], none⟩,
    ⟨some ⟨.d0, .d4, .d1⟩, .move (.t ⟨.d0, .d4, .d3⟩), none⟩,
    ⟨some ⟨.d0, .d4, .d4⟩, .extract 0 (.t ⟨.d0, .d4, .d1⟩), none⟩,
    ⟨some ⟨.d0, .d4, .d5⟩, .extract 1 (.t ⟨.d0, .d4, .d1⟩), none⟩,
    ⟨some ⟨.d0, .d1, .d3⟩, .move (.t ⟨.d0, .d4, .d4⟩), none⟩,
    ⟨some ⟨.d0, .d1, .d4⟩, .move (.t ⟨.d0, .d4, .d5⟩), none⟩])
  (.seq (.region [⟨some ⟨.d0, .d1, .d5⟩, .move (.c (.slice none 0 0)), none⟩])
  (.seq (.region [⟨some ⟨.d0, .d4, .d6⟩, .move (.t ⟨.d0, .d0, .d0⟩), none⟩,
    ⟨some ⟨.d0, .d4, .d7⟩, .call 12 [(.t ⟨.d0, .d4, .d6⟩)], none⟩,
    ⟨some ⟨.d0, .d1, .d6⟩, .move (.t ⟨.d0, .d4, .d7⟩), none⟩])
  (.seq (.seq (.region [⟨some ⟨.d0, .d5, .d0⟩, .move (.t ⟨.d0, .d0, .d0⟩), none⟩,
    ⟨some ⟨.d0, .d5, .d1⟩, .len (.t ⟨.d0, .d5, .d0⟩), none⟩,
    ⟨some ⟨.d0, .d5, .d2⟩, .move (.c (.int .i64 0)), none⟩])
  (.block 0
    (.loop
      (.seq (.region [⟨some ⟨.d0, .d5, .d3⟩, .bin .lss (.t ⟨.d0, .d5, .d2⟩) (.t ⟨.d0, .d5, .d1⟩), none⟩])
      (.seq (.cond (.t ⟨.d0, .d5, .d3⟩)
        (.skip)
        (.exit 0))
      (.seq (.block 1
        (.seq (.region [⟨some ⟨.d0, .d5, .d4⟩, .move (.t ⟨.d0, .d5, .d2⟩), none⟩,
          ⟨some ⟨.d0, .d1, .d7⟩, .move (.t ⟨.d0, .d5, .d4⟩), none⟩])
        (.seq (.region [⟨some ⟨.d0, .d2, .d0⟩, .move (.c (.bool false)), none⟩])
        (.seq (.seq (.region [⟨some ⟨.d0, .d2, .d1⟩, .move (.c (.int .i64 0)), none⟩])
        (.block 2
          (.loop
            (.seq (.seq (.region [⟨some ⟨.d0, .d5, .d5⟩, .move (.t ⟨.d0, .d2, .d1⟩), none⟩,
              ⟨some ⟨.d0, .d5, .d6⟩, .move (.t ⟨.d0, .d1, .d7⟩), none⟩,
              ⟨some ⟨.d0, .d5, .d7⟩, .bin .lss (.t ⟨.d0, .d5, .d5⟩) (.t ⟨.d0, .d5, .d6⟩), none⟩,
              ⟨some ⟨.d0, .d6, .d0⟩, .move (.t ⟨.d0, .d5, .d7⟩), none⟩,
              ⟨some ⟨.d0, .d6, .d1⟩, .move (.t ⟨.d0, .d1, .d6⟩), some (⟨.d0, .d6, .d0⟩, true)⟩,
              ⟨some ⟨.d0, .d6, .d2⟩, .bin .eql (.t ⟨.d0, .d6, .d1⟩) (.c (.int .i64 0)), some (⟨.d0, .d6, .d0⟩, true)⟩,
              ⟨some ⟨.d0, .d6, .d3⟩, .pick (.t ⟨.d0, .d6, .d0⟩) (.t ⟨.d0, .d6, .d2⟩) (.c (.bool false)), none⟩])
            (.cond (.t ⟨.d0, .d6, .d3⟩)
              (.skip)
              (.exit 2)))
            (.seq (.block 3
              (.regionD [0, 1, 3, 3, 15, 31, 3, 3, 195, 451, 1023, 2047, 4095] [⟨some ⟨.d0, .d6, .d6⟩, .move (.t ⟨.d0, .d2, .d0⟩), none⟩,
                ⟨some ⟨.d0, .d6, .d7⟩, .move (.t ⟨.d0, .d6, .d6⟩), none⟩,
                ⟨some ⟨.d0, .d7, .d0⟩, .move (.t ⟨.d0, .d0, .d0⟩), some (⟨.d0, .d6, .d7⟩, false)⟩,
                ⟨some ⟨.d0, .d7, .d1⟩, .move (.t ⟨.d0, .d2, .d1⟩), some (⟨.d0, .d6, .d7⟩, false)⟩,
                ⟨some ⟨.d0, .d7, .d2⟩, .indexSl 10 (.t ⟨.d0, .d7, .d0⟩) (.t ⟨.d0, .d7, .d1⟩), some (⟨.d0, .d6, .d7⟩, false)⟩,
                ⟨some ⟨.d0, .d7, .d3⟩, .load true 10 (.t ⟨.d0, .d7, .d2⟩), some (⟨.d0, .d6, .d7⟩, false)⟩,
                ⟨some ⟨.d0, .d7, .d4⟩, .move (.t ⟨.d0, .d0, .d0⟩), some (⟨.d0, .d6, .d7⟩, false)⟩,
                ⟨some ⟨.d0, .d7, .d5⟩, .move (.t ⟨.d0, .d1, .d7⟩), some (⟨.d0, .d6, .d7⟩, false)⟩,
                ⟨some ⟨.d0, .d7, .d6⟩, .indexSl 10 (.t ⟨.d0, .d7, .d4⟩) (.t ⟨.d0, .d7, .d5⟩), some (⟨.d0, .d6, .d7⟩, false)⟩,
                ⟨some ⟨.d0, .d7, .d7⟩, .load true 10 (.t ⟨.d0, .d7, .d6⟩), some (⟨.d0, .d6, .d7⟩, false)⟩,
                ⟨some ⟨.d1, .d0, .d0⟩, .call 14 [(.t ⟨.d0, .d7, .d3⟩), (.t ⟨.d0, .d7, .d7⟩)], some (⟨.d0, .d6, .d7⟩, false)⟩,
                ⟨some ⟨.d1, .d0, .d1⟩, .pick (.t ⟨.d0, .d6, .d7⟩) (.c (.bool true)) (.t ⟨.d1, .d0, .d0⟩), none⟩,
                ⟨some ⟨.d0, .d2, .d0⟩, .move (.t ⟨.d1, .d0, .d1⟩), none⟩]))
            (.region [⟨some ⟨.d0, .d6, .d4⟩, .move (.t ⟨.d0, .d2, .d1⟩), none⟩,
              ⟨some ⟨.d0, .d6, .d5⟩, .bin .add (.t ⟨.d0, .d6, .d4⟩) (.c (.int .i64 1)), none⟩,
              ⟨some ⟨.d0, .d2, .d1⟩, .move (.t ⟨.d0, .d6, .d5⟩), none⟩]))))))
        (.seq (.region [⟨some ⟨.d1, .d0, .d2⟩, .move (.t ⟨.d0, .d1, .d6⟩), none⟩,
          ⟨some ⟨.d1, .d0, .d3⟩, .bin .eql (.t ⟨.d1, .d0, .d2⟩) (.c (.int .i64 0)), none⟩,
          ⟨some ⟨.d1, .d0, .d4⟩, .move (.t ⟨.d1, .d0, .d3⟩), none⟩,
          ⟨some ⟨.d1, .d0, .d5⟩, .move (.t ⟨.d0, .d2, .d0⟩), some (⟨.d1, .d0, .d4⟩, true)⟩,
          ⟨some ⟨.d1, .d0, .d6⟩, .un .not (.t ⟨.d1, .d0, .d5⟩), some (⟨.d1, .d0, .d4⟩, true)⟩,
          ⟨some ⟨.d1, .d0, .d7⟩, .pick (.t ⟨.d1, .d0, .d4⟩) (.t ⟨.d1, .d0, .d6⟩) (.c (.bool false)), none⟩])
        (.cond (.t ⟨.d1, .d0, .d7⟩)
          (.region [⟨some ⟨.d1, .d1, .d0⟩, .move (.t ⟨.d0, .d1, .d5⟩), none⟩,
            ⟨some ⟨.d1, .d1, .d1⟩, .move (.t ⟨.d0, .d0, .d0⟩), none⟩,
            ⟨some ⟨.d1, .d1, .d2⟩, .move (.t ⟨.d0, .d1, .d7⟩), none⟩,
            ⟨some ⟨.d1, .d1, .d3⟩, .indexSl 10 (.t ⟨.d1, .d1, .d1⟩) (.t ⟨.d1, .d1, .d2⟩), none⟩,
            ⟨some ⟨.d1, .d1, .d4⟩, .load true 10 (.t ⟨.d1, .d1, .d3⟩), none⟩,
            ⟨some ⟨.d1, .d1, .d5⟩, .buildSlice 3 1 [.int .u32 0, .int .i64 0, .int .u32 0, .int .i64 0, .int .i64 0, .int .i64 0, .int .i64 0, .int .i64 0, .int .i64 0, .bool false] [(0, (.t ⟨.d1, .d1, .d4⟩))], none⟩,
            ⟨some ⟨.d1, .d1, .d6⟩, .append 4 10 80 (.t ⟨.d1, .d1, .d0⟩) (.t ⟨.d1, .d1, .d5⟩), none⟩,
            ⟨some ⟨.d0, .d1, .d5⟩, .move (.t ⟨.d1, .d1, .d6⟩), none⟩])
          (.skip)))))))
      (.region [⟨some ⟨.d1, .d1, .d7⟩, .bin .add (.t ⟨.d0, .d5, .d2⟩) (.c (.int .i64 1)), none⟩,
        ⟨some ⟨.d0, .d5, .d2⟩, .move (.t ⟨.d1, .d1, .d7⟩), none⟩])))))))
  (.seq (.region [⟨some ⟨.d1, .d2, .d0⟩, .move (.t ⟨.d0, .d0, .d7⟩), none⟩,
    ⟨some ⟨.d1, .d2, .d1⟩, .move (.t ⟨.d0, .d1, .d1⟩), none⟩,
    ⟨some ⟨.d1, .d2, .d2⟩, .eqb false (.t ⟨.d1, .d2, .d0⟩) (.t ⟨.d1, .d2, .d1⟩), none⟩,
    ⟨some ⟨.d1, .d2, .d3⟩, .move (.t ⟨.d1, .d2, .d2⟩), none⟩,
    ⟨some ⟨.d1, .d2, .d4⟩, .move (.t ⟨.d0, .d1, .d0⟩), some (⟨.d1, .d2, .d3⟩, true)⟩,
    ⟨some ⟨.d1, .d2, .d5⟩, .move (.t ⟨.d0, .d1, .d2⟩), some (⟨.d1, .d2, .d3⟩, true)⟩,
    ⟨some ⟨.d1, .d2, .d6⟩, .bin .eql (.t ⟨.d1, .d2, .d4⟩) (.t ⟨.d1, .d2, .d5⟩), some (⟨.d1, .d2, .d3⟩, true)⟩,
    ⟨some ⟨.d1, .d2, .d7⟩, .pick (.t ⟨.d1, .d2, .d3⟩) (.t ⟨.d1, .d2, .d6⟩) (.c (.bool false)), none⟩,
    ⟨some ⟨.d1, .d3, .d0⟩, .move (.t ⟨.d1, .d2, .d7⟩), none⟩,
    ⟨some ⟨.d1, .d3, .d1⟩, .move (.t ⟨.d0, .d1, .d3⟩), some (⟨.d1, .d3, .d0⟩, true)⟩,
    ⟨some ⟨.d1, .d3, .d2⟩, .move (.t ⟨.d0, .d1, .d5⟩), some (⟨.d1, .d3, .d0⟩, true)⟩,
    ⟨some ⟨.d1, .d3, .d3⟩, .call 16 [(.t ⟨.d1, .d3, .d1⟩), (.t ⟨.d1, .d3, .d2⟩)], some (⟨.d1, .d3, .d0⟩, true)⟩,
    ⟨some ⟨.d1, .d3, .d4⟩, .pick (.t ⟨.d1, .d3, .d0⟩) (.t ⟨.d1, .d3, .d3⟩) (.c (.bool false)), none⟩,
    ⟨some ⟨.d1, .d3, .d5⟩, .move (.t ⟨.d1, .d3, .d4⟩), none⟩,
    ⟨some ⟨.d1, .d3, .d6⟩, .move (.t ⟨.d0, .d1, .d4⟩), some (⟨.d1, .d3, .d5⟩, true)⟩,
    ⟨some ⟨.d1, .d3, .d7⟩, .move (.t ⟨.d0, .d1, .d6⟩), some (⟨.d1, .d3, .d5⟩, true)⟩,
    ⟨some ⟨.d1, .d4, .d0⟩, .bin .eql (.t ⟨.d1, .d3, .d6⟩) (.t ⟨.d1, .d3, .d7⟩), some (⟨.d1, .d3, .d5⟩, true)⟩,
    ⟨some ⟨.d1, .d4, .d1⟩, .pick (.t ⟨.d1, .d3, .d5⟩) (.t ⟨.d1, .d4, .d0⟩) (.c (.bool false)), none⟩,
    ⟨some ⟨.d0, .d0, .d6⟩, .move (.t ⟨.d1, .d4, .d1⟩), none⟩])
  (.ret)))))))))
def r_custlaw_RulesSlim : List XR := [.tmp ⟨.d0, .d0, .d6⟩]
theorem ok_custlaw_RulesSlim : okC Try.prog Try.f5.ntmps (bodyOf Try.f5) x_custlaw_RulesSlim = true := by kernel_rfl
theorem okr_custlaw_RulesSlim : okRs Try.prog Try.f5.results.toList r_custlaw_RulesSlim = true := by kernel_rfl

/-- rules.Decide -/
def x_rules_Decide : XC :=
  .seq (.region [⟨some ⟨.d0, .d0, .d4⟩, .box 0 5 (.t ⟨.d0, .d0, .d1⟩), none⟩,
    ⟨some ⟨.d0, .d0, .d6⟩, .move (.c (.bool false)), none⟩,
    ⟨some ⟨.d0, .d0, .d7⟩, .move (.c (.int .i64 0)), none⟩,
    ⟨some ⟨.d0, .d1, .d0⟩, .move (.c (.int .i64 0)), none⟩])
  (.seq (.seq (.region [⟨some ⟨.d0, .d1, .d3⟩, .move (.t ⟨.d0, .d0, .d0⟩), none⟩,
    ⟨some ⟨.d0, .d1, .d4⟩, .call 11 [(.t ⟨.d0, .d1, .d3⟩)], none⟩,
    ⟨some ⟨.d0, .d1, .d1⟩, .move (.t ⟨.d0, .d1, .d4⟩), none⟩])
  (.seq (.region [⟨some ⟨.d0, .d1, .d5⟩, .move (.t ⟨.d0, .d1, .d1⟩), none⟩,
    ⟨some ⟨.d0, .d1, .d6⟩, .bin .neq (.t ⟨.d0, .d1, .d5⟩) (.c (.int .i64 0)), none⟩])
  (.cond (.t ⟨.d0, .d1, .d6⟩)
    (.seq (.region [⟨some ⟨.d0, .d1, .d7⟩, .move (.t ⟨.d0, .d1, .d1⟩), none⟩,
      ⟨some ⟨.d0, .d0, .d6⟩, .move (.c (.bool false)), none⟩,
      ⟨some ⟨.d0, .d0, .d7⟩, .move (.c (.int .i64 0)), none⟩,
      ⟨some ⟨.d0, .d1, .d0⟩, .move (.t ⟨.d0, .d1, .d7⟩), none⟩])
    (.ret))
    (.skip))))
  (.seq (.seq (.region [⟨some ⟨.d0, .d2, .d0⟩, .fieldAddr 2 (.t ⟨.d0, .d0, .d4⟩), none⟩,
    ⟨some ⟨.d0, .d2, .d1⟩, .load false 1 (.t ⟨.d0, .d2, .d0⟩), none⟩,
    ⟨some ⟨.d0, .d2, .d2⟩, .bin .lss (.t ⟨.d0, .d2, .d1⟩) (.c (.int .i64 0)), none⟩,
    ⟨some ⟨.d0, .d2, .d3⟩, .move (.t ⟨.d0, .d2, .d2⟩), none⟩,
    ⟨some ⟨.d0, .d2, .d4⟩, .fieldAddr 2 (.t ⟨.d0, .d0, .d4⟩), some (⟨.d0, .d2, .d3⟩, false)⟩,
    ⟨some ⟨.d0, .d2, .d5⟩, .load false 1 (.t ⟨.d0, .d2, .d4⟩), some (⟨.d0, .d2, .d3⟩, false)⟩,
    ⟨some ⟨.d0, .d2, .d6⟩, .bin .gtr (.t ⟨.d0, .d2, .d5⟩) (.c (.int .i64 255)), some (⟨.d0, .d2, .d3⟩, false)⟩,
    ⟨some ⟨.d0, .d2, .d7⟩, .pick (.t ⟨.d0, .d2, .d3⟩) (.c (.bool true)) (.t ⟨.d0, .d2, .d6⟩), none⟩,
    ⟨some ⟨.d0, .d3, .d0⟩, .move (.t ⟨.d0, .d2, .d7⟩), none⟩,
    ⟨some ⟨.d0, .d3, .d1⟩, .fieldAddr 3 (.t ⟨.d0, .d0, .d4⟩), some (⟨.d0, .d3, .d0⟩, false)⟩,
    ⟨some ⟨.d0, .d3, .d2⟩, .load false 1 (.t ⟨.d0, .d3, .d1⟩), some (⟨.d0, .d3, .d0⟩, false)⟩,
    ⟨some ⟨.d0, .d3, .d3⟩, .fieldAddr 3 (.t ⟨.d0, .d0, .d4⟩), some (⟨.d0, .d3, .d0⟩, false)⟩,
    ⟨some ⟨.d0, .d3, .d4⟩, .load false 1 (.t ⟨.d0, .d3, .d3⟩), some (⟨.d0, .d3, .d0⟩, false)⟩,
    ⟨some ⟨.d0, .d3, .d5⟩, .call 28 [(.t ⟨.d0, .d3, .d2⟩), (.t ⟨.d0, .d3, .d4⟩)], some (⟨.d0, .d3, .d0⟩, false)⟩,
    ⟨some ⟨.d0, .d3, .d6⟩, .un .not (.t ⟨.d0, .d3, .d5⟩), some (⟨.d0, .d3, .d0⟩, false)⟩,
    ⟨some ⟨.d0, .d3, .d7⟩, .pick (.t ⟨.d0, .d3, .d0⟩) (.c (.bool true)) (.t ⟨.d0, .d3, .d6⟩), none⟩,
    ⟨some ⟨.d0, .d4, .d0⟩, .move (.t ⟨.d0, .d3, .d7⟩), none⟩,
    ⟨some ⟨.d0, .d4, .d1⟩, .fieldAddr 4 (.t ⟨.d0, .d0, .d4⟩), some (⟨.d0, .d4, .d0⟩, false)⟩,
    ⟨some ⟨.d0, .d4, .d2⟩, .load false 1 (.t ⟨.d0, .d4, .d1⟩), some (⟨.d0, .d4, .d0⟩, false)⟩,
    ⟨some ⟨.d0, .d4, .d3⟩, .fieldAddr 4 (.t ⟨.d0, .d0, .d4⟩), some (⟨.d0, .d4, .d0⟩, false)⟩,
    ⟨some ⟨.d0, .d4, .d4⟩, .load false 1 (.t ⟨.d0, .d4, .d3⟩), some (⟨.d0, .d4, .d0⟩, false)⟩,
    ⟨some ⟨.d0, .d4, .d5⟩, .call 28 [(.t ⟨.d0, .d4, .d2⟩), (.t ⟨.d0, .d4, .d4⟩)], some (⟨.d0, .d4, .d0⟩, false)⟩,
    ⟨some ⟨.d0, .d4, .d6⟩, .un .not (.t ⟨.d0, .d4, .d5⟩), some (⟨.d0, .d4, .d0⟩, false)⟩,
    ⟨some ⟨.d0, .d4, .d7⟩, .pick (.t ⟨.d0, .d4, .d0⟩) (.c (.bool true)) (.t ⟨.d0, .d4, .d6⟩), none⟩])
  (.cond (.t ⟨.d0, .d4, .d7⟩)
    (.seq (.region [⟨some ⟨.d0, .d0, .d6⟩, .move (.c (.bool false)), none⟩,
      ⟨some ⟨.d0, .d0, .d7⟩, .move (.c (.int .i64 0)), none⟩,
      ⟨some ⟨.d0, .d1, .d0⟩, .move (.c (.int .i64 1)), none⟩])
    (.ret))
    (.skip)))
  (.seq (.region [⟨some ⟨.d0, .d5, .d0⟩, .move (.t ⟨.d0, .d0, .d0⟩), none⟩,
    ⟨some ⟨.d0, .d5, .d1⟩, .mkfn 30 [] [(.t ⟨.d0, .d0, .d4⟩)], none⟩,
    ⟨some ⟨.d0, .d5, .d2⟩, .call 29 [(.t ⟨.d0, .d5, .d0⟩), (.t ⟨.d0, .d5, .d1⟩)], none⟩,
    ⟨some ⟨.d0, .d1, .d2⟩, .move (.t ⟨.d0, .d5, .d2⟩), none⟩])
  (.seq (.seq (.region [⟨some ⟨.d0, .d5, .d3⟩, .move (.t ⟨.d0, .d1, .d2⟩), none⟩,
    ⟨some ⟨.d0, .d5, .d4⟩, .bin .lss (.t ⟨.d0, .d5, .d3⟩) (.c (.int .i64 0)), none⟩])
  (.cond (.t ⟨.d0, .d5, .d4⟩)
    (.seq (.region [⟨some ⟨.d0, .d5, .d5⟩, .move (.t ⟨.d0, .d0, .d2⟩), none⟩,
      ⟨some ⟨.d0, .d5, .d6⟩, .move (.t ⟨.d0, .d1, .d2⟩), none⟩,
      ⟨some ⟨.d0, .d0, .d6⟩, .move (.t ⟨.d0, .d5, .d5⟩), none⟩,
      ⟨some ⟨.d0, .d0, .d7⟩, .move (.t ⟨.d0, .d5, .d6⟩), none⟩,
      ⟨some ⟨.d0, .d1, .d0⟩, .move (.c (.int .i64 0)), none⟩])
    (.ret))
    (.skip)))
  (.seq (.region [⟨some ⟨.d0, .d5, .d7⟩, .move (.t ⟨.d0, .d0, .d0⟩), none⟩,
    ⟨some ⟨.d0, .d6, .d0⟩, .move (.t ⟨.d0, .d1, .d2⟩), none⟩,
    ⟨some ⟨.d0, .d6, .d1⟩, .indexSl 10 (.t ⟨.d0, .d5, .d7⟩) (.t ⟨.d0, .d6, .d0⟩), none⟩,
    ⟨some ⟨.d0, .d6, .d2⟩, .fieldAddr 9 (.t ⟨.d0, .d6, .d1⟩), none⟩,
    ⟨some ⟨.d0, .d6, .d3⟩, .load false 1 (.t ⟨.d0, .d6, .d2⟩), none⟩,
    ⟨some ⟨.d0, .d6, .d4⟩, .move (.t ⟨.d0, .d1, .d2⟩), none⟩,
    ⟨some ⟨.d0, .d0, .d6⟩, .move (.t ⟨.d0, .d6, .d3⟩), none⟩,
    ⟨some ⟨.d0, .d0, .d7⟩, .move (.t ⟨.d0, .d6, .d4⟩), none⟩,
    ⟨some ⟨.d0, .d1, .d0⟩, .move (.c (.int .i64 0)), none⟩])
  (.ret))))))
def r_rules_Decide : List XR := [.tmp ⟨.d0, .d0, .d6⟩, .tmp ⟨.d0, .d0, .d7⟩, .tmp ⟨.d0, .d1, .d0⟩]
theorem ok_rules_Decide : okC Try.prog Try.f9.ntmps (bodyOf Try.f9) x_rules_Decide = true := by kernel_rfl
theorem okr_rules_Decide : okRs Try.prog Try.f9.results.toList r_rules_Decide = true := by kernel_rfl

/-- custref.Decided -/
def x_custref_Decided : XC :=
  .seq (.region [⟨some ⟨.d0, .d0, .d4⟩, .box 0 5 (.t ⟨.d0, .d0, .d1⟩), none⟩,
    ⟨some ⟨.d0, .d0, .d6⟩, .move (.c (.bool false)), none⟩,
    ⟨some ⟨.d0, .d0, .d7⟩, .move (.c (.int .i64 0)), none⟩,
    ⟨some ⟨.d0, .d1, .d0⟩, .move (.c (.int .i64 0)), none⟩])
  (.seq (.seq (.region [⟨some ⟨.d0, .d1, .d4⟩, .move (.t ⟨.d0, .d0, .d0⟩), none⟩,
    ⟨some ⟨.d0, .d1, .d5⟩, .call 12 [(.t ⟨.d0, .d1, .d4⟩)], none⟩,
    ⟨some ⟨.d0, .d1, .d1⟩, .move (.t ⟨.d0, .d1, .d5⟩), none⟩])
  (.seq (.region [⟨some ⟨.d0, .d1, .d6⟩, .move (.t ⟨.d0, .d1, .d1⟩), none⟩,
    ⟨some ⟨.d0, .d1, .d7⟩, .bin .neq (.t ⟨.d0, .d1, .d6⟩) (.c (.int .i64 0)), none⟩])
  (.cond (.t ⟨.d0, .d1, .d7⟩)
    (.seq (.region [⟨some ⟨.d0, .d2, .d0⟩, .move (.t ⟨.d0, .d1, .d1⟩), none⟩,
      ⟨some ⟨.d0, .d0, .d6⟩, .move (.c (.bool false)), none⟩,
      ⟨some ⟨.d0, .d0, .d7⟩, .move (.c (.int .i64 0)), none⟩,
      ⟨some ⟨.d0, .d1, .d0⟩, .move (.t ⟨.d0, .d2, .d0⟩), none⟩])
    (.ret))
    (.skip))))
  (.seq (.seq (.region [⟨some ⟨.d0, .d2, .d1⟩, .load true 5 (.t ⟨.d0, .d0, .d4⟩), none⟩,
    ⟨some ⟨.d0, .d2, .d2⟩, .call 32 [(.t ⟨.d0, .d2, .d1⟩)], none⟩,
    ⟨some ⟨.d0, .d2, .d3⟩, .un .not (.t ⟨.d0, .d2, .d2⟩), none⟩])
  (.cond (.t ⟨.d0, .d2, .d3⟩)
    (.seq (.region [⟨some ⟨.d0, .d0, .d6⟩, .move (.c (.bool false)), none⟩,
      ⟨some ⟨.d0, .d0, .d7⟩, .move (.c (.int .i64 0)), none⟩,
      ⟨some ⟨.d0, .d1, .d0⟩, .move (.c (.int .i64 1)), none⟩])
    (.ret))
    (.skip)))
  (.seq (.seq (.region [⟨some ⟨.d0, .d2, .d4⟩, .move (.t ⟨.d0, .d0, .d0⟩), none⟩,
    ⟨some ⟨.d0, .d2, .d5⟩, .len (.t ⟨.d0, .d2, .d4⟩), none⟩,
    ⟨some ⟨.d0, .d2, .d6⟩, .move (.c (.int .i64 0)), none⟩])
  (.block 0
    (.loop
      (.seq (.region [⟨some ⟨.d0, .d2, .d7⟩, .bin .lss (.t ⟨.d0, .d2, .d6⟩) (.t ⟨.d0, .d2, .d5⟩), none⟩])
      (.seq (.cond (.t ⟨.d0, .d2, .d7⟩)
        (.skip)
        (.exit 0))
      (.seq (.block 1
        (.seq (.region [⟨some ⟨.d0, .d3, .d0⟩, .move (.t ⟨.d0, .d2, .d6⟩), none⟩,
          ⟨some ⟨.d0, .d3, .d1⟩, .indexSl 10 (.t ⟨.d0, .d2, .d4⟩) (.t ⟨.d0, .d2, .d6⟩), none⟩,
          ⟨some ⟨.d0, .d3, .d2⟩, .load true 10 (.t ⟨.d0, .d3, .d1⟩), none⟩,
          ⟨some ⟨.d0, .d1, .d3⟩, .alloc 1 [.int .u32 0, .int .i64 0, .int .u32 0, .int .i64 0, .int .i64 0, .int .i64 0, .int .i64 0, .int .i64 0, .int .i64 0, .bool false], none⟩,
          ⟨some ⟨.d0, .d1, .d2⟩, .move (.t ⟨.d0, .d3, .d0⟩), none⟩,
          ⟨none, .store 10 (.t ⟨.d0, .d1, .d3⟩) (.t ⟨.d0, .d3, .d2⟩), none⟩])
        (.seq (.region [⟨some ⟨.d0, .d3, .d3⟩, .load true 10 (.t ⟨.d0, .d1, .d3⟩), none⟩,
          ⟨some ⟨.d0, .d3, .d4⟩, .load true 5 (.t ⟨.d0, .d0, .d4⟩), none⟩,
          ⟨some ⟨.d0, .d3, .d5⟩, .call 33 [(.t ⟨.d0, .d3, .d3⟩), (.t ⟨.d0, .d3, .d4⟩)], none⟩])
        (.cond (.t ⟨.d0, .d3, .d5⟩)
          (.seq (.region [⟨some ⟨.d0, .d3, .d6⟩, .fieldAddr 9 (.t ⟨.d0, .d1, .d3⟩), none⟩,
            ⟨some ⟨.d0, .d3, .d7⟩, .load false 1 (.t ⟨.d0, .d3, .d6⟩), none⟩,
            ⟨some ⟨.d0, .d4, .d0⟩, .move (.t ⟨.d0, .d1, .d2⟩), none⟩,
            ⟨some ⟨.d0, .d0, .d6⟩, .move (.t ⟨.d0, .d3, .d7⟩), none⟩,
            ⟨some ⟨.d0, .d0, .d7⟩, .move (.t ⟨.d0, .d4, .d0⟩), none⟩,
            ⟨some ⟨.d0, .d1, .d0⟩, .move (.c (.int .i64 0)), none⟩])
          (.ret))
          (.skip)))))
      (.region [⟨some ⟨.d0, .d4, .d1⟩, .bin .add (.t ⟨.d0, .d2, .d6⟩) (.c (.int .i64 1)), none⟩,
        ⟨some ⟨.d0, .d2, .d6⟩, .move (.t ⟨.d0, .d4, .d1⟩), none⟩])))))))
  (.seq (.region [⟨some ⟨.d0, .d4, .d2⟩, .move (.t ⟨.d0, .d0, .d2⟩), none⟩,
    ⟨some ⟨.d0, .d0, .d6⟩, .move (.t ⟨.d0, .d4, .d2⟩), none⟩,
    ⟨some ⟨.d0, .d0, .d7⟩, .move (.c (.int .i64 (-1))), none⟩,
    ⟨some ⟨.d0, .d1, .d0⟩, .move (.c (.int .i64 0)), none⟩])
  (.ret)))))
def r_custref_Decided : List XR := [.tmp ⟨.d0, .d0, .d6⟩, .tmp ⟨.d0, .d0, .d7⟩, .tmp ⟨.d0, .d1, .d0⟩]
theorem ok_custref_Decided : okC Try.prog Try.f10.ntmps (bodyOf Try.f10) x_custref_Decided = true := by kernel_rfl
theorem okr_custref_Decided : okRs Try.prog Try.f10.results.toList r_custref_Decided = true := by kernel_rfl

/-- rules.Check -/
def x_rules_Check : XC :=
  .seq (.region [⟨some ⟨.d0, .d0, .d2⟩, .move (.c (.int .i64 0)), none⟩])
  (.seq (.seq (.region [⟨some ⟨.d0, .d0, .d5⟩, .move (.t ⟨.d0, .d0, .d0⟩), none⟩,
    ⟨some ⟨.d0, .d0, .d6⟩, .len (.t ⟨.d0, .d0, .d5⟩), none⟩,
    ⟨some ⟨.d0, .d0, .d7⟩, .bin .gtr (.t ⟨.d0, .d0, .d6⟩) (.c (.int .i64 64)), none⟩])
  (.cond (.t ⟨.d0, .d0, .d7⟩)
    (.seq (.region [⟨some ⟨.d0, .d0, .d2⟩, .move (.c (.int .i64 2)), none⟩])
    (.ret))
    (.skip)))
  (.seq (.seq (.region [⟨some ⟨.d0, .d1, .d0⟩, .move (.t ⟨.d0, .d0, .d0⟩), none⟩,
    ⟨some ⟨.d0, .d1, .d1⟩, .len (.t ⟨.d0, .d1, .d0⟩), none⟩,
    ⟨some ⟨.d0, .d1, .d2⟩, .move (.c (.int .i64 0)), none⟩])
  (.block 0
    (.loop
      (.seq (.region [⟨some ⟨.d0, .d1, .d3⟩, .bin .lss (.t ⟨.d0, .d1, .d2⟩) (.t ⟨.d0, .d1, .d1⟩), none⟩])
      (.seq (.cond (.t ⟨.d0, .d1, .d3⟩)
        (.skip)
        (.exit 0))
      (.seq (.block 1
        (.seq (.region [⟨some ⟨.d0, .d1, .d4⟩, .indexSl 10 (.t ⟨.d0, .d1, .d0⟩) (.t ⟨.d0, .d1, .d2⟩), none⟩,
          ⟨some ⟨.d0, .d1, .d5⟩, .load true 10 (.t ⟨.d0, .d1, .d4⟩), none⟩,
          ⟨some ⟨.d0, .d0, .d4⟩, .alloc 0 [.int .u32 0, .int .i64 0, .int .u32 0, .int .i64 0, .int .i64 0, .int .i64 0, .int .i64 0, .int .i64 0, .int .i64 0, .bool false], none⟩,
          ⟨none, .store 10 (.t ⟨.d0, .d0, .d4⟩) (.t ⟨.d0, .d1, .d5⟩), none⟩])
        (.seq (.region [⟨some ⟨.d0, .d1, .d6⟩, .load true 10 (.t ⟨.d0, .d0, .d4⟩), none⟩,
          ⟨some ⟨.d0, .d1, .d7⟩, .call 34 [(.t ⟨.d0, .d1, .d6⟩)], none⟩,
          ⟨some ⟨.d0, .d2, .d0⟩, .un .not (.t ⟨.d0, .d1, .d7⟩), none⟩])
        (.cond (.t ⟨.d0, .d2, .d0⟩)
          (.seq (.region [⟨some ⟨.d0, .d0, .d2⟩, .move (.c (.int .i64 4)), none⟩])
          (.ret))
          (.skip)))))
      (.region [⟨some ⟨.d0, .d2, .d1⟩, .bin .add (.t ⟨.d0, .d1, .d2⟩) (.c (.int .i64 1)), none⟩,
        ⟨some ⟨.d0, .d1, .d2⟩, .move (.t ⟨.d0, .d2, .d1⟩), none⟩])))))))
  (.seq (.region [⟨some ⟨.d0, .d0, .d2⟩, .move (.c (.int .i64 0)), none⟩])
  (.ret))))
def r_rules_Check : List XR := [.tmp ⟨.d0, .d0, .d2⟩]
theorem ok_rules_Check : okC Try.prog Try.f11.ntmps (bodyOf Try.f11) x_rules_Check = true := by kernel_rfl
theorem okr_rules_Check : okRs Try.prog Try.f11.results.toList r_rules_Check = true := by kernel_rfl

/-- custref.RulesRight -/
def x_custref_RulesRight : XC :=
  .seq (.region [⟨some ⟨.d0, .d0, .d2⟩, .move (.c (.int .i64 0)), none⟩])
  (.seq (.seq (.region [⟨some ⟨.d0, .d0, .d5⟩, .move (.t ⟨.d0, .d0, .d0⟩), none⟩,
    ⟨some ⟨.d0, .d0, .d6⟩, .len (.t ⟨.d0, .d0, .d5⟩), none⟩,
    ⟨some ⟨.d0, .d0, .d7⟩, .bin .gtr (.t ⟨.d0, .d0, .d6⟩) (.c (.int .i64 64)), none⟩])
  (.cond (.t ⟨.d0, .d0, .d7⟩)
    (.seq (.region [⟨some ⟨.d0, .d0, .d2⟩, .move (.c (.int .i64 2)), none⟩])
    (.ret))
    (.skip)))
  (.seq (.seq (.region [⟨some ⟨.d0, .d1, .d0⟩, .move (.t ⟨.d0, .d0, .d0⟩), none⟩,
    ⟨some ⟨.d0, .d1, .d1⟩, .len (.t ⟨.d0, .d1, .d0⟩), none⟩,
    ⟨some ⟨.d0, .d1, .d2⟩, .move (.c (.int .i64 0)), none⟩])
  (.block 0
    (.loop
      (.seq (.region [⟨some ⟨.d0, .d1, .d3⟩, .bin .lss (.t ⟨.d0, .d1, .d2⟩) (.t ⟨.d0, .d1, .d1⟩), none⟩])
      (.seq (.cond (.t ⟨.d0, .d1, .d3⟩)
        (.skip)
        (.exit 0))
      (.seq (.block 1
        (.seq (.region [⟨some ⟨.d0, .d1, .d4⟩, .indexSl 10 (.t ⟨.d0, .d1, .d0⟩) (.t ⟨.d0, .d1, .d2⟩), none⟩,
          ⟨some ⟨.d0, .d1, .d5⟩, .load true 10 (.t ⟨.d0, .d1, .d4⟩), none⟩,
          ⟨some ⟨.d0, .d0, .d4⟩, .alloc 0 [.int .u32 0, .int .i64 0, .int .u32 0, .int .i64 0, .int .i64 0, .int .i64 0, .int .i64 0, .int .i64 0, .int .i64 0, .bool false], none⟩,
          ⟨none, .store 10 (.t ⟨.d0, .d0, .d4⟩) (.t ⟨.d0, .d1, .d5⟩), none⟩])
        (.seq (.region [⟨some ⟨.d0, .d1, .d6⟩, .load true 10 (.t ⟨.d0, .d0, .d4⟩), none⟩,
          ⟨some ⟨.d0, .d1, .d7⟩, .call 35 [(.t ⟨.d0, .d1, .d6⟩)], none⟩,
          ⟨some ⟨.d0, .d2, .d0⟩, .un .not (.t ⟨.d0, .d1, .d7⟩), none⟩])
        (.cond (.t ⟨.d0, .d2, .d0⟩)
          (.seq (.region [⟨some ⟨.d0, .d0, .d2⟩, .move (.c (.int .i64 4)), none⟩])
          (.ret))
          (.skip)))))
      (.region [⟨some ⟨.d0, .d2, .d1⟩, .bin .add (.t ⟨.d0, .d1, .d2⟩) (.c (.int .i64 1)), none⟩,
        ⟨some ⟨.d0, .d1, .d2⟩, .move (.t ⟨.d0, .d2, .d1⟩), none⟩])))))))
  (.seq (.region [⟨some ⟨.d0, .d0, .d2⟩, .move (.c (.int .i64 0)), none⟩])
  (.ret))))
def r_custref_RulesRight : List XR := [.tmp ⟨.d0, .d0, .d2⟩]
theorem ok_custref_RulesRight : okC Try.prog Try.f12.ntmps (bodyOf Try.f12) x_custref_RulesRight = true := by kernel_rfl
theorem okr_custref_RulesRight : okRs Try.prog Try.f12.results.toList r_custref_RulesRight = true := by kernel_rfl

/-- rules.Covers -/
def x_rules_Covers : XC :=
  .seq (.region [⟨some ⟨.d0, .d0, .d2⟩, .box 0 10 (.t ⟨.d0, .d0, .d0⟩), none⟩,
    ⟨some ⟨.d0, .d0, .d3⟩, .box 1 10 (.t ⟨.d0, .d0, .d1⟩), none⟩,
    ⟨some ⟨.d0, .d0, .d4⟩, .move (.c (.bool false)), none⟩,
    ⟨some ⟨.d0, .d0, .d5⟩, .move (.c (.int .i64 0)), none⟩])
  (.seq (.seq (.region [⟨some ⟨.d0, .d0, .d7⟩, .load true 10 (.t ⟨.d0, .d0, .d2⟩), none⟩,
    ⟨some ⟨.d0, .d1, .d0⟩, .load true 10 (.t ⟨.d0, .d0, .d3⟩), none⟩,
    ⟨some ⟨.d0, .d1, .d1⟩, .buildSlice 2 2 [.int .u32 0, .int .i64 0, .int .u32 0, .int .i64 0, .int .i64 0, .int .i64 0, .int .i64 0, .int .i64 0, .int .i64 0, .bool false] [(0, (.t ⟨.d0, .d0, .d7⟩)), (1, (.t ⟨.d0, .d1, .d0⟩))], none⟩,
    ⟨some ⟨.d0, .d1, .d2⟩, .call 11 [(.t ⟨.d0, .d1, .d1⟩)], none⟩,
    ⟨some ⟨.d0, .d0, .d6⟩, .move (.t ⟨.d0, .d1, .d2⟩), none⟩])
  (.seq (.region [⟨some ⟨.d0, .d1, .d3⟩, .move (.t ⟨.d0, .d0, .d6⟩), none⟩,
    ⟨some ⟨.d0, .d1, .d4⟩, .bin .neq (.t ⟨.d0, .d1, .d3⟩) (.c (.int .i64 0)), none⟩])
  (.cond (.t ⟨.d0, .d1, .d4⟩)
    (.seq (.region [⟨some ⟨.d0, .d1, .d5⟩, .move (.t ⟨.d0, .d0, .d6⟩), none⟩,
      ⟨some ⟨.d0, .d0, .d4⟩, .move (.c (.bool false)), none⟩,
      ⟨some ⟨.d0, .d0, .d5⟩, .move (.t ⟨.d0, .d1, .d5⟩), none⟩])
    (.ret))
    (.skip))))
  (.seq (.region [⟨some ⟨.d0, .d1, .d6⟩, .load true 10 (.t ⟨.d0, .d0, .d2⟩), none⟩,
    ⟨some ⟨.d0, .d1, .d7⟩, .load true 10 (.t ⟨.d0, .d0, .d3⟩), none⟩,
    ⟨some ⟨.d0, .d2, .d0⟩, .call 36 [(.t ⟨.d0, .d1, .d6⟩), (.t ⟨.d0, .d1, .d7⟩)], none⟩,
    ⟨some ⟨.d0, .d0, .d4⟩, .move (.t ⟨.d0, .d2, .d0⟩), none⟩,
    ⟨some ⟨.d0, .d0, .d5⟩, .move (.c (.int .i64 0)), none⟩])
  (.ret)))
def r_rules_Covers : List XR := [.tmp ⟨.d0, .d0, .d4⟩, .tmp ⟨.d0, .d0, .d5⟩]
theorem ok_rules_Covers : okC Try.prog Try.f13.ntmps (bodyOf Try.f13) x_rules_Covers = true := by kernel_rfl
theorem okr_rules_Covers : okRs Try.prog Try.f13.results.toList r_rules_Covers = true := by kernel_rfl

/-- custref.BoxIn -/
def x_custref_BoxIn : XC :=
  .seq (.region [⟨some ⟨.d0, .d0, .d2⟩, .box 0 10 (.t ⟨.d0, .d0, .d0⟩), none⟩,
    ⟨some ⟨.d0, .d0, .d3⟩, .box 1 10 (.t ⟨.d0, .d0, .d1⟩), none⟩,
    ⟨some ⟨.d0, .d0, .d4⟩, .move (.c (.bool false)), none⟩])
  (.seq (.regionD [0, 1, 0, 7, 0, 0, 63, 127] [⟨some ⟨.d0, .d1, .d0⟩, .load true 10 (.t ⟨.d0, .d0, .d2⟩), none⟩,
    ⟨some ⟨.d0, .d1, .d1⟩, .call 37 [(.t ⟨.d0, .d1, .d0⟩)], none⟩,
    ⟨some ⟨.d0, .d1, .d2⟩, .load true 10 (.t ⟨.d0, .d0, .d3⟩), none⟩,
    ⟨some ⟨.d0, .d1, .d3⟩, .call 37 [(.t ⟨.d0, .d1, .d2⟩)], none⟩,
    ⟨some ⟨.d0, .d0, .d5⟩, .alloc 2 [.int .i64 0, .int .i64 0, .int .i64 0, .int .i64 0, .int .i64 0, .int .i64 0, .int .i64 0, .int .i64 0, .int .i64 0, .int .i64 0], none⟩,
    ⟨some ⟨.d0, .d0, .d6⟩, .alloc 3 [.int .i64 0, .int .i64 0, .int .i64 0, .int .i64 0, .int .i64 0, .int .i64 0, .int .i64 0, .int .i64 0, .int .i64 0, .int .i64 0], none⟩,
    ⟨none, .store 10 (.t ⟨.d0, .d0, .d5⟩) (.t ⟨.d0, .d1, .d1⟩), none⟩,
    ⟨none, .store 10 (.t ⟨.d0, .d0, .d6⟩) (.t ⟨.d0, .d1, .d3⟩), none⟩])
  (.seq (.seq (.region [⟨some ⟨.d0, .d1, .d4⟩, .move (.c (.int .i64 0)), none⟩])
  (.block 0
    (.loop
      (.seq (.region [⟨some ⟨.d0, .d1, .d5⟩, .bin .lss (.t ⟨.d0, .d1, .d4⟩) (.c (.int .i64 5)), none⟩])
      (.seq (.cond (.t ⟨.d0, .d1, .d5⟩)
        (.skip)
        (.exit 0))
      (.seq (.block 1
        (.seq (.region [⟨some ⟨.d0, .d1, .d6⟩, .move (.t ⟨.d0, .d1, .d4⟩), none⟩,
          ⟨some ⟨.d0, .d0, .d7⟩, .move (.t ⟨.d0, .d1, .d6⟩), none⟩])
        (.seq (.regionD [0, 1, 3, 7, 0, 16, 48, 112, 255, 511, 1023, 2047, 4095, 8191, 1023, 17407, 50175, 115711, 262143, 524287] [⟨some ⟨.d0, .d1, .d7⟩, .move (.t ⟨.d0, .d0, .d7⟩), none⟩,
          ⟨some ⟨.d0, .d2, .d0⟩, .indexArr 2 5 (.t ⟨.d0, .d0, .d6⟩) (.t ⟨.d0, .d1, .d7⟩), none⟩,
          ⟨some ⟨.d0, .d2, .d1⟩, .indexArr 1 2 (.t ⟨.d0, .d2, .d0⟩) (.c (.int .i64 0)), none⟩,
          ⟨some ⟨.d0, .d2, .d2⟩, .load false 1 (.t ⟨.d0, .d2, .d1⟩), none⟩,
          ⟨some ⟨.d0, .d2, .d3⟩, .move (.t ⟨.d0, .d0, .d7⟩), none⟩,
          ⟨some ⟨.d0, .d2, .d4⟩, .indexArr 2 5 (.t ⟨.d0, .d0, .d5⟩) (.t ⟨.d0, .d2, .d3⟩), none⟩,
          ⟨some ⟨.d0, .d2, .d5⟩, .indexArr 1 2 (.t ⟨.d0, .d2, .d4⟩) (.c (.int .i64 0)), none⟩,
          ⟨some ⟨.d0, .d2, .d6⟩, .load false 1 (.t ⟨.d0, .d2, .d5⟩), none⟩,
          ⟨some ⟨.d0, .d2, .d7⟩, .bin .lss (.t ⟨.d0, .d2, .d2⟩) (.t ⟨.d0, .d2, .d6⟩), none⟩,
          ⟨some ⟨.d0, .d3, .d0⟩, .move (.t ⟨.d0, .d2, .d7⟩), none⟩,
          ⟨some ⟨.d0, .d3, .d1⟩, .move (.t ⟨.d0, .d0, .d7⟩), some (⟨.d0, .d3, .d0⟩, false)⟩,
          ⟨some ⟨.d0, .d3, .d2⟩, .indexArr 2 5 (.t ⟨.d0, .d0, .d6⟩) (.t ⟨.d0, .d3, .d1⟩), some (⟨.d0, .d3, .d0⟩, false)⟩,
          ⟨some ⟨.d0, .d3, .d3⟩, .indexArr 1 2 (.t ⟨.d0, .d3, .d2⟩) (.c (.int .i64 1)), some (⟨.d0, .d3, .d0⟩, false)⟩,
          ⟨some ⟨.d0, .d3, .d4⟩, .load false 1 (.t ⟨.d0, .d3, .d3⟩), some (⟨.d0, .d3, .d0⟩, false)⟩,
          ⟨some ⟨.d0, .d3, .d5⟩, .move (.t ⟨.d0, .d0, .d7⟩), some (⟨.d0, .d3, .d0⟩, false)⟩,
          ⟨some ⟨.d0, .d3, .d6⟩, .indexArr 2 5 (.t ⟨.d0, .d0, .d5⟩) (.t ⟨.d0, .d3, .d5⟩), some (⟨.d0, .d3, .d0⟩, false)⟩,
          ⟨some ⟨.d0, .d3, .d7⟩, .indexArr 1 2 (.t ⟨.d0, .d3, .d6⟩) (.c (.int .i64 1)), some (⟨.d0, .d3, .d0⟩, false)⟩,
          ⟨some ⟨.d0, .d4, .d0⟩, .load false 1 (.t ⟨.d0, .d3, .d7⟩), some (⟨.d0, .d3, .d0⟩, false)⟩,
          ⟨some ⟨.d0, .d4, .d1⟩, .bin .gtr (.t ⟨.d0, .d3, .d4⟩) (.t ⟨.d0, .d4, .d0⟩), some (⟨.d0, .d3, .d0⟩, false)⟩,
          ⟨some ⟨.d0, .d4, .d2⟩, .pick (.t ⟨.d0, .d3, .d0⟩) (.c (.bool true)) (.t ⟨.d0, .d4, .d1⟩), none⟩])
        (.cond (.t ⟨.d0, .d4, .d2⟩)
          (.seq (.region [⟨some ⟨.d0, .d0, .d4⟩, .move (.c (.bool false)), none⟩])
          (.ret))
          (.skip)))))
      (.region [⟨some ⟨.d0, .d4, .d3⟩, .bin .add (.t ⟨.d0, .d1, .d4⟩) (.c (.int .i64 1)), none⟩,
        ⟨some ⟨.d0, .d1, .d4⟩, .move (.t ⟨.d0, .d4, .d3⟩), none⟩])))))))
  (.seq (.region [⟨some ⟨.d0, .d0, .d4⟩, .move (.c (.bool true)), none⟩])
  (.ret))))
def r_custref_BoxIn : List XR := [.tmp ⟨.d0, .d0, .d4⟩]
theorem ok_custref_BoxIn : okC Try.prog Try.f14.ntmps (bodyOf Try.f14) x_custref_BoxIn = true := by kernel_rfl
theorem okr_custref_BoxIn : okRs Try.prog Try.f14.results.toList r_custref_BoxIn = true := by kernel_rfl

/-- rules.Slim -/
def x_rules_Slim : XC :=
  .seq (.region [⟨some ⟨.d0, .d0, .d2⟩, .move (.c (.slice none 0 0)), none⟩,
    ⟨some ⟨.d0, .d0, .d3⟩, .move (.c (.int .i64 0)), none⟩])
  (.seq (.seq (.region [⟨some ⟨.d0, .d1, .d0⟩, .move (.t ⟨.d0, .d0, .d0⟩), none⟩,
    ⟨some ⟨.d0, .d1, .d1⟩, .call 11 [(.t ⟨.d0, .d1, .d0⟩)], none⟩,
    ⟨some ⟨.d0, .d0, .d4⟩, .move (.t ⟨.d0, .d1, .d1⟩), none⟩])
  (.seq (.region [⟨some ⟨.d0, .d1, .d2⟩, .move (.t ⟨.d0, .d0, .d4⟩), none⟩,
    ⟨some ⟨.d0, .d1, .d3⟩, .bin .neq (.t ⟨.d0, .d1, .d2⟩) (.c (.int .i64 0)), none⟩])
  (.cond (.t ⟨.d0, .d1, .d3⟩)
    (.seq (.region [⟨some ⟨.d0, .d1, .d4⟩, .move (.t ⟨.d0, .d0, .d4⟩), none⟩,
      ⟨some ⟨.d0, .d0, .d2⟩, .move (.c (.slice none 0 0)), none⟩,
      ⟨some ⟨.d0, .d0, .d3⟩, .move (.t ⟨.d0, .d1, .d4⟩), none⟩])
    (.ret))
    (.skip))))
  (.seq (.region [⟨some ⟨.d0, .d0, .d5⟩, .move (.c (.slice none 0 0)), none⟩])
  (.seq (.seq (.region [⟨some ⟨.d0, .d1, .d5⟩, .move (.t ⟨.d0, .d0, .d0⟩), none⟩,
    ⟨some ⟨.d0, .d1, .d6⟩, .len (.t ⟨.d0, .d1, .d5⟩), none⟩,
    ⟨some ⟨.d0, .d1, .d7⟩, .move (.c (.int .i64 0)), none⟩])
  (.block 0
    (.loop
      (.seq (.region [⟨some ⟨.d0, .d2, .d0⟩, .bin .lss (.t ⟨.d0, .d1, .d7⟩) (.t ⟨.d0, .d1, .d6⟩), none⟩])
      (.seq (.cond (.t ⟨.d0, .d2, .d0⟩)
        (.skip)
        (.exit 0))
      (.seq (.block 1
        (.seq (.region [⟨some ⟨.d0, .d2, .d1⟩, .indexSl 10 (.t ⟨.d0, .d1, .d5⟩) (.t ⟨.d0, .d1, .d7⟩), none⟩,
          ⟨some ⟨.d0, .d2, .d2⟩, .load true 10 (.t ⟨.d0, .d2, .d1⟩), none⟩,
          ⟨some ⟨.d0, .d0, .d7⟩, .alloc 0 [.int .u32 0, .int .i64 0, .int .u32 0, .int .i64 0, .int .i64 0, .int .i64 0, .int .i64 0, .int .i64 0, .int .i64 0, .bool false], none⟩,
          ⟨none, .store 10 (.t ⟨.d0, .d0, .d7⟩) (.t ⟨.d0, .d2, .d2⟩), none⟩])
        (.seq (.region [⟨some ⟨.d0, .d2, .d3⟩, .move (.t ⟨.d0, .d0, .d5⟩), none⟩,
          ⟨some ⟨.d0, .d2, .d4⟩, .mkfn 39 [] [(.t ⟨.d0, .d0, .d7⟩)], none⟩,
          ⟨some ⟨.d0, .d2, .d5⟩, .call 38 [(.t ⟨.d0, .d2, .d3⟩), (.t ⟨.d0, .d2, .d4⟩)], none⟩,
          ⟨some ⟨.d0, .d2, .d6⟩, .un .not (.t ⟨.d0, .d2, .d5⟩), none⟩])
        (.cond (.t ⟨.d0, .d2, .d6⟩)
          (.region [⟨some ⟨.d0, .d2, .d7⟩, .move (.t ⟨.d0, .d0, .d5⟩), none⟩,
            ⟨some ⟨.d0, .d3, .d0⟩, .load true 10 (.t ⟨.d0, .d0, .d7⟩), none⟩,
            ⟨some ⟨.d0, .d3, .d1⟩, .buildSlice 1 1 [.int .u32 0, .int .i64 0, .int .u32 0, .int .i64 0, .int .i64 0, .int .i64 0, .int .i64 0, .int .i64 0, .int .i64 0, .bool false] [(0, (.t ⟨.d0, .d3, .d0⟩))], none⟩,
            ⟨some ⟨.d0, .d3, .d2⟩, .append 2 10 80 (.t ⟨.d0, .d2, .d7⟩) (.t ⟨.d0, .d3, .d1⟩), none⟩,
            ⟨some ⟨.d0, .d0, .d5⟩, .move (.t ⟨.d0, .d3, .d2⟩), none⟩])
          (.skip)))))
      (.region [⟨some ⟨.d0, .d3, .d3⟩, .bin .add (.t ⟨.d0, .d1, .d7⟩) (.c (.int .i64 1)), none⟩,
        ⟨some ⟨.d0, .d1, .d7⟩, .move (.t ⟨.d0, .d3, .d3⟩), none⟩])))))))
  (.seq (.region [⟨some ⟨.d0, .d3, .d4⟩, .move (.t ⟨.d0, .d0, .d5⟩), none⟩,
    ⟨some ⟨.d0, .d0, .d2⟩, .move (.t ⟨.d0, .d3, .d4⟩), none⟩,
    ⟨some ⟨.d0, .d0, .d3⟩, .move (.c (.int .i64 0)), none⟩])
  (.ret)))))
def r_rules_Slim : List XR := [.tmp ⟨.d0, .d0, .d2⟩, .tmp ⟨.d0, .d0, .d3⟩]
theorem ok_rules_Slim : okC Try.prog Try.f15.ntmps (bodyOf Try.f15) x_rules_Slim = true := by kernel_rfl
theorem okr_rules_Slim : okRs Try.prog Try.f15.results.toList r_rules_Slim = true := by kernel_rfl

/-- slices.Equal -/
def x_slices_Equal_api_Rule : XC :=
  .seq (.region [⟨some ⟨.d0, .d0, .d4⟩, .move (.c (.bool false)), none⟩])
  (.seq (.seq (.region [⟨some ⟨.d0, .d0, .d6⟩, .move (.t ⟨.d0, .d0, .d0⟩), none⟩,
    ⟨some ⟨.d0, .d0, .d7⟩, .len (.t ⟨.d0, .d0, .d6⟩), none⟩,
    ⟨some ⟨.d0, .d1, .d0⟩, .move (.t ⟨.d0, .d0, .d1⟩), none⟩,
    ⟨some ⟨.d0, .d1, .d1⟩, .len (.t ⟨.d0, .d1, .d0⟩), none⟩,
    ⟨some ⟨.d0, .d1, .d2⟩, .bin .neq (.t ⟨.d0, .d0, .d7⟩) (.t ⟨.d0, .d1, .d1⟩), none⟩])
  (.cond (.t ⟨.d0, .d1, .d2⟩)
    (.seq (.region [⟨some ⟨.d0, .d0, .d4⟩, .move (.c (.bool false)), none⟩])
    (.ret))
    (.skip)))
  (.seq (.seq (.region [⟨some ⟨.d0, .d1, .d3⟩, .move (.t ⟨.d0, .d0, .d0⟩), none⟩,
    ⟨some ⟨.d0, .d1, .d4⟩, .len (.t ⟨.d0, .d1, .d3⟩), none⟩,
    ⟨some ⟨.d0, .d1, .d5⟩, .move (.c (.int .i64 0)), none⟩])
  (.block 0
    (.loop
      (.seq (.region [⟨some ⟨.d0, .d1, .d6⟩, .bin .lss (.t ⟨.d0, .d1, .d5⟩) (.t ⟨.d0, .d1, .d4⟩), none⟩])
      (.seq (.cond (.t ⟨.d0, .d1, .d6⟩)
        (.skip)
        (.exit 0))
      (.seq (.block 1
        (.seq (.region [⟨some ⟨.d0, .d1, .d7⟩, .move (.t ⟨.d0, .d1, .d5⟩), none⟩,
          ⟨some ⟨.d0, .d0, .d5⟩, .move (.t ⟨.d0, .d1, .d7⟩), none⟩])
        (.seq (.regionD [0, 0, 3, 7, 0, 0, 48, 112, 255] [⟨some ⟨.d0, .d2, .d0⟩, .move (.t ⟨.d0, .d0, .d0⟩), none⟩,
          ⟨some ⟨.d0, .d2, .d1⟩, .move (.t ⟨.d0, .d0, .d5⟩), none⟩,
          ⟨some ⟨.d0, .d2, .d2⟩, .indexSl 10 (.t ⟨.d0, .d2, .d0⟩) (.t ⟨.d0, .d2, .d1⟩), none⟩,
          ⟨some ⟨.d0, .d2, .d3⟩, .load true 10 (.t ⟨.d0, .d2, .d2⟩), none⟩,
          ⟨some ⟨.d0, .d2, .d4⟩, .move (.t ⟨.d0, .d0, .d1⟩), none⟩,
          ⟨some ⟨.d0, .d2, .d5⟩, .move (.t ⟨.d0, .d0, .d5⟩), none⟩,
          ⟨some ⟨.d0, .d2, .d6⟩, .indexSl 10 (.t ⟨.d0, .d2, .d4⟩) (.t ⟨.d0, .d2, .d5⟩), none⟩,
          ⟨some ⟨.d0, .d2, .d7⟩, .load true 10 (.t ⟨.d0, .d2, .d6⟩), none⟩,
          ⟨some ⟨.d0, .d3, .d0⟩, .eqs true [0, 0, 0, 0, 0, 0, 0, 0, 0, 1] (.t ⟨.d0, .d2, .d3⟩) (.t ⟨.d0, .d2, .d7⟩), none⟩])
        (.cond (.t ⟨.d0, .d3, .d0⟩)
          (.seq (.region [⟨some ⟨.d0, .d0, .d4⟩, .move (.c (.bool false)), none⟩])
          (.ret))
          (.skip)))))
      (.region [⟨some ⟨.d0, .d3, .d1⟩, .bin .add (.t ⟨.d0, .d1, .d5⟩) (.c (.int .i64 1)), none⟩,
        ⟨some ⟨.d0, .d1, .d5⟩, .move (.t ⟨.d0, .d3, .d1⟩), none⟩])))))))
  (.seq (.region [⟨some ⟨.d0, .d0, .d4⟩, .move (.c (.bool true)), none⟩])
  (.ret))))
def r_slices_Equal_api_Rule : List XR := [.tmp ⟨.d0, .d0, .d4⟩]
theorem ok_slices_Equal_api_Rule : okC Try.prog Try.f16.ntmps (bodyOf Try.f16) x_slices_Equal_api_Rule = true := by kernel_rfl
theorem okr_slices_Equal_api_Rule : okRs Try.prog Try.f16.results.toList r_slices_Equal_api_Rule = true := by kernel_rfl

/-- custref.Between -/
def x_custref_Between : XC :=
  .seq (.region [⟨some ⟨.d0, .d0, .d6⟩, .move (.c (.bool false)), none⟩])
  (.seq (.region [⟨some ⟨.d0, .d0, .d7⟩, .move (.t ⟨.d0, .d0, .d1⟩), none⟩,
    ⟨some ⟨.d0, .d1, .d0⟩, .move (.t ⟨.d0, .d0, .d0⟩), none⟩,
    ⟨some ⟨.d0, .d1, .d1⟩, .bin .leq (.t ⟨.d0, .d0, .d7⟩) (.t ⟨.d0, .d1, .d0⟩), none⟩,
    ⟨some ⟨.d0, .d1, .d2⟩, .move (.t ⟨.d0, .d1, .d1⟩), none⟩,
    ⟨some ⟨.d0, .d1, .d3⟩, .move (.t ⟨.d0, .d0, .d0⟩), some (⟨.d0, .d1, .d2⟩, true)⟩,
    ⟨some ⟨.d0, .d1, .d4⟩, .move (.t ⟨.d0, .d0, .d2⟩), some (⟨.d0, .d1, .d2⟩, true)⟩,
    ⟨some ⟨.d0, .d1, .d5⟩, .bin .leq (.t ⟨.d0, .d1, .d3⟩) (.t ⟨.d0, .d1, .d4⟩), some (⟨.d0, .d1, .d2⟩, true)⟩,
    ⟨some ⟨.d0, .d1, .d6⟩, .pick (.t ⟨.d0, .d1, .d2⟩) (.t ⟨.d0, .d1, .d5⟩) (.c (.bool false)), none⟩,
    ⟨some ⟨.d0, .d0, .d6⟩, .move (.t ⟨.d0, .d1, .d6⟩), none⟩])
  (.ret))
def r_custref_Between : List XR := [.tmp ⟨.d0, .d0, .d6⟩]
theorem ok_custref_Between : okC Try.prog Try.f25.ntmps (bodyOf Try.f25) x_custref_Between = true := by kernel_rfl
theorem okr_custref_Between : okRs Try.prog Try.f25.results.toList r_custref_Between = true := by kernel_rfl

/-- rules.bounds -/
def x_rules_bounds : XC :=
  .seq (.region [⟨some ⟨.d0, .d0, .d4⟩, .move (.c (.bool false)), none⟩])
  (.seq (.region [⟨some ⟨.d0, .d0, .d5⟩, .move (.t ⟨.d0, .d0, .d0⟩), none⟩,
    ⟨some ⟨.d0, .d0, .d6⟩, .bin .geq (.t ⟨.d0, .d0, .d5⟩) (.c (.int .i64 0)), none⟩,
    ⟨some ⟨.d0, .d0, .d7⟩, .move (.t ⟨.d0, .d0, .d6⟩), none⟩,
    ⟨some ⟨.d0, .d1, .d0⟩, .move (.t ⟨.d0, .d0, .d0⟩), some (⟨.d0, .d0, .d7⟩, true)⟩,
    ⟨some ⟨.d0, .d1, .d1⟩, .move (.t ⟨.d0, .d0, .d1⟩), some (⟨.d0, .d0, .d7⟩, true)⟩,
    ⟨some ⟨.d0, .d1, .d2⟩, .bin .leq (.t ⟨.d0, .d1, .d0⟩) (.t ⟨.d0, .d1, .d1⟩), some (⟨.d0, .d0, .d7⟩, true)⟩,
    ⟨some ⟨.d0, .d1, .d3⟩, .pick (.t ⟨.d0, .d0, .d7⟩) (.t ⟨.d0, .d1, .d2⟩) (.c (.bool false)), none⟩,
    ⟨some ⟨.d0, .d1, .d4⟩, .move (.t ⟨.d0, .d1, .d3⟩), none⟩,
    ⟨some ⟨.d0, .d1, .d5⟩, .move (.t ⟨.d0, .d0, .d1⟩), some (⟨.d0, .d1, .d4⟩, true)⟩,
    ⟨some ⟨.d0, .d1, .d6⟩, .bin .leq (.t ⟨.d0, .d1, .d5⟩) (.c (.int .i64 65535)), some (⟨.d0, .d1, .d4⟩, true)⟩,
    ⟨some ⟨.d0, .d1, .d7⟩, .pick (.t ⟨.d0, .d1, .d4⟩) (.t ⟨.d0, .d1, .d6⟩) (.c (.bool false)), none⟩,
    ⟨some ⟨.d0, .d0, .d4⟩, .move (.t ⟨.d0, .d1, .d7⟩), none⟩])
  (.ret))
def r_rules_bounds : List XR := [.tmp ⟨.d0, .d0, .d4⟩]
theorem ok_rules_bounds : okC Try.prog Try.f28.ntmps (bodyOf Try.f28) x_rules_bounds = true := by kernel_rfl
theorem okr_rules_bounds : okRs Try.prog Try.f28.results.toList r_rules_bounds = true := by kernel_rfl

/-- slices.IndexFunc -/
def x_slices_IndexFunc_api_Rule : XC :=
  .seq (.region [⟨some ⟨.d0, .d0, .d4⟩, .move (.c (.int .i64 0)), none⟩])
  (.seq (.seq (.region [⟨some ⟨.d0, .d0, .d6⟩, .move (.t ⟨.d0, .d0, .d0⟩), none⟩,
    ⟨some ⟨.d0, .d0, .d7⟩, .len (.t ⟨.d0, .d0, .d6⟩), none⟩,
    ⟨some ⟨.d0, .d1, .d0⟩, .move (.c (.int .i64 0)), none⟩])
  (.block 0
    (.loop
      (.seq (.region [⟨some ⟨.d0, .d1, .d1⟩, .bin .lss (.t ⟨.d0, .d1, .d0⟩) (.t ⟨.d0, .d0, .d7⟩), none⟩])
      (.seq (.cond (.t ⟨.d0, .d1, .d1⟩)
        (.skip)
        (.exit 0))
      (.seq (.block 1
        (.seq (.region [⟨some ⟨.d0, .d1, .d2⟩, .move (.t ⟨.d0, .d1, .d0⟩), none⟩,
          ⟨some ⟨.d0, .d0, .d5⟩, .move (.t ⟨.d0, .d1, .d2⟩), none⟩])
        (.seq (.region [⟨some ⟨.d0, .d1, .d3⟩, .move (.t ⟨.d0, .d0, .d1⟩), none⟩,
          ⟨some ⟨.d0, .d1, .d4⟩, .move (.t ⟨.d0, .d0, .d0⟩), none⟩,
          ⟨some ⟨.d0, .d1, .d5⟩, .move (.t ⟨.d0, .d0, .d5⟩), none⟩,
          ⟨some ⟨.d0, .d1, .d6⟩, .indexSl 10 (.t ⟨.d0, .d1, .d4⟩) (.t ⟨.d0, .d1, .d5⟩), none⟩,
          ⟨some ⟨.d0, .d1, .d7⟩, .load true 10 (.t ⟨.d0, .d1, .d6⟩), none⟩,
          ⟨some ⟨.d0, .d2, .d0⟩, .callv (.t ⟨.d0, .d1, .d3⟩) [(.t ⟨.d0, .d1, .d7⟩)], none⟩])
        (.cond (.t ⟨.d0, .d2, .d0⟩)
          (.seq (.region [⟨some ⟨.d0, .d2, .d1⟩, .move (.t ⟨.d0, .d0, .d5⟩), none⟩,
            ⟨some ⟨.d0, .d0, .d4⟩, .move (.t ⟨.d0, .d2, .d1⟩), none⟩])
          (.ret))
          (.skip)))))
      (.region [⟨some ⟨.d0, .d2, .d2⟩, .bin .add (.t ⟨.d0, .d1, .d0⟩) (.c (.int .i64 1)), none⟩,
        ⟨some ⟨.d0, .d1, .d0⟩, .move (.t ⟨.d0, .d2, .d2⟩), none⟩])))))))
  (.seq (.region [⟨some ⟨.d0, .d0, .d4⟩, .move (.c (.int .i64 (-1))), none⟩])
  (.ret)))
def r_slices_IndexFunc_api_Rule : List XR := [.tmp ⟨.d0, .d0, .d4⟩]
theorem ok_slices_IndexFunc_api_Rule : okC Try.prog Try.f29.ntmps (bodyOf Try.f29) x_slices_IndexFunc_api_Rule = true := by kernel_rfl
theorem okr_slices_IndexFunc_api_Rule : okRs Try.prog Try.f29.results.toList r_slices_IndexFunc_api_Rule = true := by kernel_rfl

/-- rules.Decide-1 -/
def x_rules_Decide_1 : XC :=
  .seq (.region [⟨some ⟨.d0, .d0, .d2⟩, .box 0 10 (.t ⟨.d0, .d0, .d0⟩), none⟩,
    ⟨some ⟨.d0, .d0, .d3⟩, .move (.c (.bool false)), none⟩])
  (.seq (.region [⟨some ⟨.d0, .d0, .d4⟩, .load true 10 (.t ⟨.d0, .d0, .d2⟩), none⟩,
    ⟨some ⟨.d0, .d0, .d5⟩, .load true 5 (.t ⟨.d0, .d0, .d1⟩), none⟩,
    ⟨some ⟨.d0, .d0, .d6⟩, .call 31 [(.t ⟨.d0, .d0, .d4⟩), (.t ⟨.d0, .d0, .d5⟩)], none⟩,
    ⟨some ⟨.d0, .d0, .d3⟩, .move (.t ⟨.d0, .d0, .d6⟩), none⟩])
  (.ret))
def r_rules_Decide_1 : List XR := [.tmp ⟨.d0, .d0, .d3⟩]
theorem ok_rules_Decide_1 : okC Try.prog Try.f30.ntmps (bodyOf Try.f30) x_rules_Decide_1 = true := by kernel_rfl
theorem okr_rules_Decide_1 : okRs Try.prog Try.f30.results.toList r_rules_Decide_1 = true := by kernel_rfl

/-- rules.meets -/
def x_rules_meets : XC :=
  .seq (.region [⟨some ⟨.d0, .d0, .d2⟩, .box 0 10 (.t ⟨.d0, .d0, .d0⟩), none⟩,
    ⟨some ⟨.d0, .d0, .d3⟩, .box 1 5 (.t ⟨.d0, .d0, .d1⟩), none⟩,
    ⟨some ⟨.d0, .d0, .d4⟩, .move (.c (.bool false)), none⟩])
  (.seq (.region [⟨some ⟨.d0, .d0, .d5⟩, .fieldAddr 0 (.t ⟨.d0, .d0, .d2⟩), none⟩,
    ⟨some ⟨.d0, .d0, .d6⟩, .load true 2 (.t ⟨.d0, .d0, .d5⟩), none⟩,
    ⟨some ⟨.d0, .d0, .d7⟩, .fieldAddr 0 (.t ⟨.d0, .d0, .d3⟩), none⟩,
    ⟨some ⟨.d0, .d1, .d0⟩, .load false 1 (.t ⟨.d0, .d0, .d7⟩), none⟩,
    ⟨some ⟨.d0, .d1, .d1⟩, .call 55 [(.t ⟨.d0, .d0, .d6⟩), (.t ⟨.d0, .d1, .d0⟩)], none⟩,
    ⟨some ⟨.d0, .d1, .d2⟩, .move (.t ⟨.d0, .d1, .d1⟩), none⟩,
    ⟨some ⟨.d0, .d1, .d3⟩, .fieldAddr 2 (.t ⟨.d0, .d0, .d2⟩), some (⟨.d0, .d1, .d2⟩, true)⟩,
    ⟨some ⟨.d0, .d1, .d4⟩, .load true 2 (.t ⟨.d0, .d1, .d3⟩), some (⟨.d0, .d1, .d2⟩, true)⟩,
    ⟨some ⟨.d0, .d1, .d5⟩, .fieldAddr 1 (.t ⟨.d0, .d0, .d3⟩), some (⟨.d0, .d1, .d2⟩, true)⟩,
    ⟨some ⟨.d0, .d1, .d6⟩, .load false 1 (.t ⟨.d0, .d1, .d5⟩), some (⟨.d0, .d1, .d2⟩, true)⟩,
    ⟨some ⟨.d0, .d1, .d7⟩, .call 55 [(.t ⟨.d0, .d1, .d4⟩), (.t ⟨.d0, .d1, .d6⟩)], some (⟨.d0, .d1, .d2⟩, true)⟩,
    ⟨some ⟨.d0, .d2, .d0⟩, .pick (.t ⟨.d0, .d1, .d2⟩) (.t ⟨.d0, .d1, .d7⟩) (.c (.bool false)), none⟩,
    ⟨some ⟨.d0, .d2, .d1⟩, .move (.t ⟨.d0, .d2, .d0⟩), none⟩,
    ⟨some ⟨.d0, .d2, .d2⟩, .fieldAddr 4 (.t ⟨.d0, .d0, .d2⟩), some (⟨.d0, .d2, .d1⟩, true)⟩,
    ⟨some ⟨.d0, .d2, .d3⟩, .load false 1 (.t ⟨.d0, .d2, .d2⟩), some (⟨.d0, .d2, .d1⟩, true)⟩,
    ⟨some ⟨.d0, .d2, .d4⟩, .bin .eql (.t ⟨.d0, .d2, .d3⟩) (.c (.int .i64 0)), some (⟨.d0, .d2, .d1⟩, true)⟩,
    ⟨some ⟨.d0, .d2, .d5⟩, .move (.t ⟨.d0, .d2, .d4⟩), some (⟨.d0, .d2, .d1⟩, true)⟩,
    ⟨some ⟨.d0, .d2, .d6⟩, .fieldAddr 4 (.t ⟨.d0, .d0, .d2⟩), some (⟨.d0, .d2, .d5⟩, false)⟩,
    ⟨some ⟨.d0, .d2, .d7⟩, .load false 1 (.t ⟨.d0, .d2, .d6⟩), some (⟨.d0, .d2, .d5⟩, false)⟩,
    ⟨some ⟨.d0, .d3, .d0⟩, .fieldAddr 2 (.t ⟨.d0, .d0, .d3⟩), some (⟨.d0, .d2, .d5⟩, false)⟩,
    ⟨some ⟨.d0, .d3, .d1⟩, .load false 1 (.t ⟨.d0, .d3, .d0⟩), some (⟨.d0, .d2, .d5⟩, false)⟩,
    ⟨some ⟨.d0, .d3, .d2⟩, .bin .eql (.t ⟨.d0, .d2, .d7⟩) (.t ⟨.d0, .d3, .d1⟩), some (⟨.d0, .d2, .d5⟩, false)⟩,
    ⟨some ⟨.d0, .d3, .d3⟩, .pick (.t ⟨.d0, .d2, .d5⟩) (.c (.bool true)) (.t ⟨.d0, .d3, .d2⟩), some (⟨.d0, .d2, .d1⟩, true)⟩,
    ⟨some ⟨.d0, .d3, .d4⟩, .pick (.t ⟨.d0, .d2, .d1⟩) (.t ⟨.d0, .d3, .d3⟩) (.c (.bool false)), none⟩,
    ⟨some ⟨.d0, .d3, .d5⟩, .move (.t ⟨.d0, .d3, .d4⟩), none⟩,
    ⟨some ⟨.d0, .d3, .d6⟩, .fieldAddr 5 (.t ⟨.d0, .d0, .d2⟩), some (⟨.d0, .d3, .d5⟩, true)⟩,
    ⟨some ⟨.d0, .d3, .d7⟩, .load false 1 (.t ⟨.d0, .d3, .d6⟩), some (⟨.d0, .d3, .d5⟩, true)⟩,
    ⟨some ⟨.d0, .d4, .d0⟩, .fieldAddr 3 (.t ⟨.d0, .d0, .d3⟩), some (⟨.d0, .d3, .d5⟩, true)⟩,
    ⟨some ⟨.d0, .d4, .d1⟩, .load false 1 (.t ⟨.d0, .d4, .d0⟩), some (⟨.d0, .d3, .d5⟩, true)⟩,
    ⟨some ⟨.d0, .d4, .d2⟩, .bin .leq (.t ⟨.d0, .d3, .d7⟩) (.t ⟨.d0, .d4, .d1⟩), some (⟨.d0, .d3, .d5⟩, true)⟩,
    ⟨some ⟨.d0, .d4, .d3⟩, .pick (.t ⟨.d0, .d3, .d5⟩) (.t ⟨.d0, .d4, .d2⟩) (.c (.bool false)), none⟩,
    ⟨some ⟨.d0, .d4, .d4⟩, .move (.t ⟨.d0, .d4, .d3⟩), none⟩,
    ⟨some ⟨.d0, .d4, .d5⟩, .fieldAddr 3 (.t ⟨.d0, .d0, .d3⟩), some (⟨.d0, .d4, .d4⟩, true)⟩,
    ⟨some ⟨.d0, .d4, .d6⟩, .load false 1 (.t ⟨.d0, .d4, .d5⟩), some (⟨.d0, .d4, .d4⟩, true)⟩,
    ⟨some ⟨.d0, .d4, .d7⟩, .fieldAddr 6 (.t ⟨.d0, .d0, .d2⟩), some (⟨.d0, .d4, .d4⟩, true)⟩,
    ⟨some ⟨.d0, .d5, .d0⟩, .load false 1 (.t ⟨.d0, .d4, .d7⟩), some (⟨.d0, .d4, .d4⟩, true)⟩,
    ⟨some ⟨.d0, .d5, .d1⟩, .bin .leq (.t ⟨.d0, .d4, .d6⟩) (.t ⟨.d0, .d5, .d0⟩), some (⟨.d0, .d4, .d4⟩, true)⟩,
    ⟨some ⟨.d0, .d5, .d2⟩, .pick (.t ⟨.d0, .d4, .d4⟩) (.t ⟨.d0, .d5, .d1⟩) (.c (.bool false)), none⟩,
    ⟨some ⟨.d0, .d5, .d3⟩, .move (.t ⟨.d0, .d5, .d2⟩), none⟩,
    ⟨some ⟨.d0, .d5, .d4⟩, .fieldAddr 7 (.t ⟨.d0, .d0, .d2⟩), some (⟨.d0, .d5, .d3⟩, true)⟩,
    ⟨some ⟨.d0, .d5, .d5⟩, .load false 1 (.t ⟨.d0, .d5, .d4⟩), some (⟨.d0, .d5, .d3⟩, true)⟩,
    ⟨some ⟨.d0, .d5, .d6⟩, .fieldAddr 4 (.t ⟨.d0, .d0, .d3⟩), some (⟨.d0, .d5, .d3⟩, true)⟩,
    ⟨some ⟨.d0, .d5, .d7⟩, .load false 1 (.t ⟨.d0, .d5, .d6⟩), some (⟨.d0, .d5, .d3⟩, true)⟩,
    ⟨some ⟨.d0, .d6, .d0⟩, .bin .leq (.t ⟨.d0, .d5, .d5⟩) (.t ⟨.d0, .d5, .d7⟩), some (⟨.d0, .d5, .d3⟩, true)⟩,
    ⟨some ⟨.d0, .d6, .d1⟩, .pick (.t ⟨.d0, .d5, .d3⟩) (.t ⟨.d0, .d6, .d0⟩) (.c (.bool false)), none⟩,
    ⟨some ⟨.d0, .d6, .d2⟩, .move (.t ⟨.d0, .d6, .d1⟩), none⟩,
    ⟨some ⟨.d0, .d6, .d3⟩, .fieldAddr 4 (.t ⟨.d0, .d0, .d3⟩), some (⟨.d0, .d6, .d2⟩, true)⟩,
    ⟨some ⟨.d0, .d6, .d4⟩, .load false 1 (.t ⟨.d0, .d6, .d3⟩), some (⟨.d0, .d6, .d2⟩, true)⟩,
    ⟨some ⟨.d0, .d6, .d5⟩, .fieldAddr 8 (.t ⟨.d0, .d0, .d2⟩), some (⟨.d0, .d6, .d2⟩, true)⟩,
    ⟨some ⟨.d0, .d6, .d6⟩, .load false 1 (.t ⟨.d0, .d6, .d5⟩), some (⟨.d0, .d6, .d2⟩, true)⟩,
    ⟨some ⟨.d0, .d6, .d7⟩, .bin .leq (.t ⟨.d0, .d6, .d4⟩) (.t ⟨.d0, .d6, .d6⟩), some (⟨.d0, .d6, .d2⟩, true)⟩,
    ⟨some ⟨.d0, .d7, .d0⟩, .pick (.t ⟨.d0, .d6, .d2⟩) (.t ⟨.d0, .d6, .d7⟩) (.c (.bool false)), none⟩,
    ⟨some ⟨.d0, .d0, .d4⟩, .move (.t ⟨.d0, .d7, .d0⟩), none⟩])
  (.ret))
def r_rules_meets : List XR := [.tmp ⟨.d0, .d0, .d4⟩]
theorem ok_rules_meets : okC Try.prog Try.f31.ntmps (bodyOf Try.f31) x_rules_meets = true := by kernel_rfl
theorem okr_rules_meets : okRs Try.prog Try.f31.results.toList r_rules_meets = true := by kernel_rfl

/-- custref.FlowRight -/
def x_custref_FlowRight : XC :=
  .seq (.region [⟨some ⟨.d0, .d0, .d1⟩, .box 0 5 (.t ⟨.d0, .d0, .d0⟩), none⟩,
    ⟨some ⟨.d0, .d0, .d2⟩, .move (.c (.bool false)), none⟩])
  (.seq (.region [⟨some ⟨.d0, .d0, .d3⟩, .fieldAddr 2 (.t ⟨.d0, .d0, .d1⟩), none⟩,
    ⟨some ⟨.d0, .d0, .d4⟩, .load false 1 (.t ⟨.d0, .d0, .d3⟩), none⟩,
    ⟨some ⟨.d0, .d0, .d5⟩, .call 25 [(.t ⟨.d0, .d0, .d4⟩), (.c (.int .i64 0)), (.c (.int .i64 255))], none⟩,
    ⟨some ⟨.d0, .d0, .d6⟩, .move (.t ⟨.d0, .d0, .d5⟩), none⟩,
    ⟨some ⟨.d0, .d0, .d7⟩, .fieldAddr 3 (.t ⟨.d0, .d0, .d1⟩), some (⟨.d0, .d0, .d6⟩, true)⟩,
    ⟨some ⟨.d0, .d1, .d0⟩, .load false 1 (.t ⟨.d0, .d0, .d7⟩), some (⟨.d0, .d0, .d6⟩, true)⟩,
    ⟨some ⟨.d0, .d1, .d1⟩, .call 25 [(.t ⟨.d0, .d1, .d0⟩), (.c (.int .i64 0)), (.c (.int .i64 65535))], some (⟨.d0, .d0, .d6⟩, true)⟩,
    ⟨some ⟨.d0, .d1, .d2⟩, .pick (.t ⟨.d0, .d0, .d6⟩) (.t ⟨.d0, .d1, .d1⟩) (.c (.bool false)), none⟩,
    ⟨some ⟨.d0, .d1, .d3⟩, .move (.t ⟨.d0, .d1, .d2⟩), none⟩,
    ⟨some ⟨.d0, .d1, .d4⟩, .fieldAddr 4 (.t ⟨.d0, .d0, .d1⟩), some (⟨.d0, .d1, .d3⟩, true)⟩,
    ⟨some ⟨.d0, .d1, .d5⟩, .load false 1 (.t ⟨.d0, .d1, .d4⟩), some (⟨.d0, .d1, .d3⟩, true)⟩,
    ⟨some ⟨.d0, .d1, .d6⟩, .call 25 [(.t ⟨.d0, .d1, .d5⟩), (.c (.int .i64 0)), (.c (.int .i64 65535))], some (⟨.d0, .d1, .d3⟩, true)⟩,
    ⟨some ⟨.d0, .d1, .d7⟩, .pick (.t ⟨.d0, .d1, .d3⟩) (.t ⟨.d0, .d1, .d6⟩) (.c (.bool false)), none⟩,
    ⟨some ⟨.d0, .d0, .d2⟩, .move (.t ⟨.d0, .d1, .d7⟩), none⟩])
  (.ret))
def r_custref_FlowRight : List XR := [.tmp ⟨.d0, .d0, .d2⟩]
theorem ok_custref_FlowRight : okC Try.prog Try.f32.ntmps (bodyOf Try.f32) x_custref_FlowRight = true := by kernel_rfl
theorem okr_custref_FlowRight : okRs Try.prog Try.f32.results.toList r_custref_FlowRight = true := by kernel_rfl

/-- custref.Meets -/
def x_custref_Meets : XC :=
  .seq (.region [⟨some ⟨.d0, .d0, .d2⟩, .box 0 10 (.t ⟨.d0, .d0, .d0⟩), none⟩,
    ⟨some ⟨.d0, .d0, .d3⟩, .box 1 5 (.t ⟨.d0, .d0, .d1⟩), none⟩,
    ⟨some ⟨.d0, .d0, .d4⟩, .move (.c (.bool false)), none⟩])
  (.seq (.seq (.region [⟨some ⟨.d0, .d1, .d0⟩, .fieldAddr 0 (.t ⟨.d0, .d0, .d3⟩), none⟩,
    ⟨some ⟨.d0, .d1, .d1⟩, .load false 1 (.t ⟨.d0, .d1, .d0⟩), none⟩,
    ⟨some ⟨.d0, .d1, .d2⟩, .convInt .i64 (.t ⟨.d0, .d1, .d1⟩), none⟩,
    ⟨some ⟨.d0, .d1, .d3⟩, .fieldAddr 1 (.t ⟨.d0, .d0, .d3⟩), none⟩,
    ⟨some ⟨.d0, .d1, .d4⟩, .load false 1 (.t ⟨.d0, .d1, .d3⟩), none⟩,
    ⟨some ⟨.d0, .d1, .d5⟩, .convInt .i64 (.t ⟨.d0, .d1, .d4⟩), none⟩,
    ⟨some ⟨.d0, .d1, .d6⟩, .fieldAddr 2 (.t ⟨.d0, .d0, .d3⟩), none⟩,
    ⟨some ⟨.d0, .d1, .d7⟩, .load false 1 (.t ⟨.d0, .d1, .d6⟩), none⟩,
    ⟨some ⟨.d0, .d2, .d0⟩, .fieldAddr 3 (.t ⟨.d0, .d0, .d3⟩), none⟩,
    ⟨some ⟨.d0, .d2, .d1⟩, .load false 1 (.t ⟨.d0, .d2, .d0⟩), none⟩,
    ⟨some ⟨.d0, .d2, .d2⟩, .fieldAddr 4 (.t ⟨.d0, .d0, .d3⟩), none⟩,
    ⟨some ⟨.d0, .d2, .d3⟩, .load false 1 (.t ⟨.d0, .d2, .d2⟩), none⟩,
    ⟨some ⟨.d0, .d2, .d4⟩, .buildSlice 2 5 [.int .i64 0] [(0, (.t ⟨.d0, .d1, .d2⟩)), (1, (.t ⟨.d0, .d1, .d5⟩)), (2, (.t ⟨.d0, .d1, .d7⟩)), (3, (.t ⟨.d0, .d2, .d1⟩)), (4, (.t ⟨.d0, .d2, .d3⟩))], none⟩,
    ⟨some ⟨.d0, .d2, .d5⟩, .len (.t ⟨.d0, .d2, .d4⟩), none⟩,
    ⟨some ⟨.d0, .d2, .d6⟩, .move (.c (.int .i64 0)), none⟩])
  (.block 0
    (.loop
      (.seq (.region [⟨some ⟨.d0, .d2, .d7⟩, .bin .lss (.t ⟨.d0, .d2, .d6⟩) (.t ⟨.d0, .d2, .d5⟩), none⟩])
      (.seq (.cond (.t ⟨.d0, .d2, .d7⟩)
        (.skip)
        (.exit 0))
      (.seq (.block 1
        (.seq (.region [⟨some ⟨.d0, .d3, .d0⟩, .move (.t ⟨.d0, .d2, .d6⟩), none⟩,
          ⟨some ⟨.d0, .d3, .d1⟩, .indexSl 1 (.t ⟨.d0, .d2, .d4⟩) (.t ⟨.d0, .d2, .d6⟩), none⟩,
          ⟨some ⟨.d0, .d3, .d2⟩, .load false 1 (.t ⟨.d0, .d3, .d1⟩), none⟩,
          ⟨some ⟨.d0, .d0, .d5⟩, .move (.t ⟨.d0, .d3, .d0⟩), none⟩,
          ⟨some ⟨.d0, .d0, .d6⟩, .move (.t ⟨.d0, .d3, .d2⟩), none⟩])
        (.seq (.region [⟨some ⟨.d0, .d3, .d3⟩, .load true 10 (.t ⟨.d0, .d0, .d2⟩), none⟩,
          ⟨some ⟨.d0, .d3, .d4⟩, .call 37 [(.t ⟨.d0, .d3, .d3⟩)], none⟩,
          ⟨some ⟨.d0, .d3, .d5⟩, .move (.t ⟨.d0, .d0, .d5⟩), none⟩,
          ⟨some ⟨.d0, .d3, .d6⟩, .indexV true 2 5 (.t ⟨.d0, .d3, .d4⟩) (.t ⟨.d0, .d3, .d5⟩), none⟩,
          ⟨some ⟨.d0, .d0, .d7⟩, .alloc 3 [.int .i64 0, .int .i64 0], none⟩,
          ⟨none, .store 2 (.t ⟨.d0, .d0, .d7⟩) (.t ⟨.d0, .d3, .d6⟩), none⟩])
        (.seq (.region [⟨some ⟨.d0, .d3, .d7⟩, .move (.t ⟨.d0, .d0, .d6⟩), none⟩,
          ⟨some ⟨.d0, .d4, .d0⟩, .indexArr 1 2 (.t ⟨.d0, .d0, .d7⟩) (.c (.int .i64 0)), none⟩,
          ⟨some ⟨.d0, .d4, .d1⟩, .load false 1 (.t ⟨.d0, .d4, .d0⟩), none⟩,
          ⟨some ⟨.d0, .d4, .d2⟩, .indexArr 1 2 (.t ⟨.d0, .d0, .d7⟩) (.c (.int .i64 1)), none⟩,
          ⟨some ⟨.d0, .d4, .d3⟩, .load false 1 (.t ⟨.d0, .d4, .d2⟩), none⟩,
          ⟨some ⟨.d0, .d4, .d4⟩, .call 25 [(.t ⟨.d0, .d3, .d7⟩), (.t ⟨.d0, .d4, .d1⟩), (.t ⟨.d0, .d4, .d3⟩)], none⟩,
          ⟨some ⟨.d0, .d4, .d5⟩, .un .not (.t ⟨.d0, .d4, .d4⟩), none⟩])
        (.cond (.t ⟨.d0, .d4, .d5⟩)
          (.seq (.region [⟨some ⟨.d0, .d0, .d4⟩, .move (.c (.bool false)), none⟩])
          (.ret))
          (.skip))))))
      (.region [⟨some ⟨.d0, .d4, .d6⟩, .bin .add (.t ⟨.d0, .d2, .d6⟩) (.c (.int .i64 1)), none⟩,
        ⟨some ⟨.d0, .d2, .d6⟩, .move (.t ⟨.d0, .d4, .d6⟩), none⟩])))))))
  (.seq (.region [⟨some ⟨.d0, .d0, .d4⟩, .move (.c (.bool true)), none⟩])
  (.ret)))
def r_custref_Meets : List XR := [.tmp ⟨.d0, .d0, .d4⟩]
theorem ok_custref_Meets : okC Try.prog Try.f33.ntmps (bodyOf Try.f33) x_custref_Meets = true := by kernel_rfl
theorem okr_custref_Meets : okRs Try.prog Try.f33.results.toList r_custref_Meets = true := by kernel_rfl

/-- rules.right -/
def x_rules_right : XC :=
  .seq (.region [⟨some ⟨.d0, .d0, .d1⟩, .box 0 10 (.t ⟨.d0, .d0, .d0⟩), none⟩,
    ⟨some ⟨.d0, .d0, .d2⟩, .move (.c (.bool false)), none⟩])
  (.seq (.region [⟨some ⟨.d0, .d0, .d3⟩, .fieldAddr 0 (.t ⟨.d0, .d0, .d1⟩), none⟩,
    ⟨some ⟨.d0, .d0, .d4⟩, .load true 2 (.t ⟨.d0, .d0, .d3⟩), none⟩,
    ⟨some ⟨.d0, .d0, .d5⟩, .call 56 [(.t ⟨.d0, .d0, .d4⟩)], none⟩,
    ⟨some ⟨.d0, .d0, .d6⟩, .move (.t ⟨.d0, .d0, .d5⟩), none⟩,
    ⟨some ⟨.d0, .d0, .d7⟩, .fieldAddr 2 (.t ⟨.d0, .d0, .d1⟩), some (⟨.d0, .d0, .d6⟩, true)⟩,
    ⟨some ⟨.d0, .d1, .d0⟩, .load true 2 (.t ⟨.d0, .d0, .d7⟩), some (⟨.d0, .d0, .d6⟩, true)⟩,
    ⟨some ⟨.d0, .d1, .d1⟩, .call 56 [(.t ⟨.d0, .d1, .d0⟩)], some (⟨.d0, .d0, .d6⟩, true)⟩,
    ⟨some ⟨.d0, .d1, .d2⟩, .pick (.t ⟨.d0, .d0, .d6⟩) (.t ⟨.d0, .d1, .d1⟩) (.c (.bool false)), none⟩,
    ⟨some ⟨.d0, .d1, .d3⟩, .move (.t ⟨.d0, .d1, .d2⟩), none⟩,
    ⟨some ⟨.d0, .d1, .d4⟩, .fieldAddr 4 (.t ⟨.d0, .d0, .d1⟩), some (⟨.d0, .d1, .d3⟩, true)⟩,
    ⟨some ⟨.d0, .d1, .d5⟩, .load false 1 (.t ⟨.d0, .d1, .d4⟩), some (⟨.d0, .d1, .d3⟩, true)⟩,
    ⟨some ⟨.d0, .d1, .d6⟩, .bin .geq (.t ⟨.d0, .d1, .d5⟩) (.c (.int .i64 0)), some (⟨.d0, .d1, .d3⟩, true)⟩,
    ⟨some ⟨.d0, .d1, .d7⟩, .pick (.t ⟨.d0, .d1, .d3⟩) (.t ⟨.d0, .d1, .d6⟩) (.c (.bool false)), none⟩,
    ⟨some ⟨.d0, .d2, .d0⟩, .move (.t ⟨.d0, .d1, .d7⟩), none⟩,
    ⟨some ⟨.d0, .d2, .d1⟩, .fieldAddr 4 (.t ⟨.d0, .d0, .d1⟩), some (⟨.d0, .d2, .d0⟩, true)⟩,
    ⟨some ⟨.d0, .d2, .d2⟩, .load false 1 (.t ⟨.d0, .d2, .d1⟩), some (⟨.d0, .d2, .d0⟩, true)⟩,
    ⟨some ⟨.d0, .d2, .d3⟩, .bin .leq (.t ⟨.d0, .d2, .d2⟩) (.c (.int .i64 255)), some (⟨.d0, .d2, .d0⟩, true)⟩,
    ⟨some ⟨.d0, .d2, .d4⟩, .pick (.t ⟨.d0, .d2, .d0⟩) (.t ⟨.d0, .d2, .d3⟩) (.c (.bool false)), none⟩,
    ⟨some ⟨.d0, .d2, .d5⟩, .move (.t ⟨.d0, .d2, .d4⟩), none⟩,
    ⟨some ⟨.d0, .d2, .d6⟩, .fieldAddr 5 (.t ⟨.d0, .d0, .d1⟩), some (⟨.d0, .d2, .d5⟩, true)⟩,
    ⟨some ⟨.d0, .d2, .d7⟩, .load false 1 (.t ⟨.d0, .d2, .d6⟩), some (⟨.d0, .d2, .d5⟩, true)⟩,
    ⟨some ⟨.d0, .d3, .d0⟩, .fieldAddr 6 (.t ⟨.d0, .d0, .d1⟩), some (⟨.d0, .d2, .d5⟩, true)⟩,
    ⟨some ⟨.d0, .d3, .d1⟩, .load false 1 (.t ⟨.d0, .d3, .d0⟩), some (⟨.d0, .d2, .d5⟩, true)⟩,
    ⟨some ⟨.d0, .d3, .d2⟩, .call 28 [(.t ⟨.d0, .d2, .d7⟩), (.t ⟨.d0, .d3, .d1⟩)], some (⟨.d0, .d2, .d5⟩, true)⟩,
    ⟨some ⟨.d0, .d3, .d3⟩, .pick (.t ⟨.d0, .d2, .d5⟩) (.t ⟨.d0, .d3, .d2⟩) (.c (.bool false)), none⟩,
    ⟨some ⟨.d0, .d3, .d4⟩, .move (.t ⟨.d0, .d3, .d3⟩), none⟩,
    ⟨some ⟨.d0, .d3, .d5⟩, .fieldAddr 7 (.t ⟨.d0, .d0, .d1⟩), some (⟨.d0, .d3, .d4⟩, true)⟩,
    ⟨some ⟨.d0, .d3, .d6⟩, .load false 1 (.t ⟨.d0, .d3, .d5⟩), some (⟨.d0, .d3, .d4⟩, true)⟩,
    ⟨some ⟨.d0, .d3, .d7⟩, .fieldAddr 8 (.t ⟨.d0, .d0, .d1⟩), some (⟨.d0, .d3, .d4⟩, true)⟩,
    ⟨some ⟨.d0, .d4, .d0⟩, .load false 1 (.t ⟨.d0, .d3, .d7⟩), some (⟨.d0, .d3, .d4⟩, true)⟩,
    ⟨some ⟨.d0, .d4, .d1⟩, .call 28 [(.t ⟨.d0, .d3, .d6⟩), (.t ⟨.d0, .d4, .d0⟩)], some (⟨.d0, .d3, .d4⟩, true)⟩,
    ⟨some ⟨.d0, .d4, .d2⟩, .pick (.t ⟨.d0, .d3, .d4⟩) (.t ⟨.d0, .d4, .d1⟩) (.c (.bool false)), none⟩,
    ⟨some ⟨.d0, .d0, .d2⟩, .move (.t ⟨.d0, .d4, .d2⟩), none⟩])
  (.ret))
def r_rules_right : List XR := [.tmp ⟨.d0, .d0, .d2⟩]
theorem ok_rules_right : okC Try.prog Try.f34.ntmps (bodyOf Try.f34) x_rules_right = true := by kernel_rfl
theorem okr_rules_right : okRs Try.prog Try.f34.results.toList r_rules_right = true := by kernel_rfl

/-- custref.RuleRight -/
def x_custref_RuleRight : XC :=
  .seq (.region [⟨some ⟨.d0, .d0, .d1⟩, .box 0 10 (.t ⟨.d0, .d0, .d0⟩), none⟩,
    ⟨some ⟨.d0, .d0, .d2⟩, .move (.c (.bool false)), none⟩])
  (.seq (.region [⟨some ⟨.d0, .d0, .d3⟩, .fieldAddr 0 (.t ⟨.d0, .d0, .d1⟩), none⟩,
    ⟨some ⟨.d0, .d0, .d4⟩, .load true 2 (.t ⟨.d0, .d0, .d3⟩), none⟩,
    ⟨some ⟨.d0, .d0, .d5⟩, .call 57 [(.t ⟨.d0, .d0, .d4⟩)], none⟩,
    ⟨some ⟨.d0, .d0, .d6⟩, .move (.t ⟨.d0, .d0, .d5⟩), none⟩,
    ⟨some ⟨.d0, .d0, .d7⟩, .fieldAddr 2 (.t ⟨.d0, .d0, .d1⟩), some (⟨.d0, .d0, .d6⟩, true)⟩,
    ⟨some ⟨.d0, .d1, .d0⟩, .load true 2 (.t ⟨.d0, .d0, .d7⟩), some (⟨.d0, .d0, .d6⟩, true)⟩,
    ⟨some ⟨.d0, .d1, .d1⟩, .call 57 [(.t ⟨.d0, .d1, .d0⟩)], some (⟨.d0, .d0, .d6⟩, true)⟩,
    ⟨some ⟨.d0, .d1, .d2⟩, .pick (.t ⟨.d0, .d0, .d6⟩) (.t ⟨.d0, .d1, .d1⟩) (.c (.bool false)), none⟩,
    ⟨some ⟨.d0, .d1, .d3⟩, .move (.t ⟨.d0, .d1, .d2⟩), none⟩,
    ⟨some ⟨.d0, .d1, .d4⟩, .fieldAddr 4 (.t ⟨.d0, .d0, .d1⟩), some (⟨.d0, .d1, .d3⟩, true)⟩,
    ⟨some ⟨.d0, .d1, .d5⟩, .load false 1 (.t ⟨.d0, .d1, .d4⟩), some (⟨.d0, .d1, .d3⟩, true)⟩,
    ⟨some ⟨.d0, .d1, .d6⟩, .call 25 [(.t ⟨.d0, .d1, .d5⟩), (.c (.int .i64 0)), (.c (.int .i64 255))], some (⟨.d0, .d1, .d3⟩, true)⟩,
    ⟨some ⟨.d0, .d1, .d7⟩, .pick (.t ⟨.d0, .d1, .d3⟩) (.t ⟨.d0, .d1, .d6⟩) (.c (.bool false)), none⟩,
    ⟨some ⟨.d0, .d2, .d0⟩, .move (.t ⟨.d0, .d1, .d7⟩), none⟩,
    ⟨some ⟨.d0, .d2, .d1⟩, .fieldAddr 5 (.t ⟨.d0, .d0, .d1⟩), some (⟨.d0, .d2, .d0⟩, true)⟩,
    ⟨some ⟨.d0, .d2, .d2⟩, .load false 1 (.t ⟨.d0, .d2, .d1⟩), some (⟨.d0, .d2, .d0⟩, true)⟩,
    ⟨some ⟨.d0, .d2, .d3⟩, .fieldAddr 6 (.t ⟨.d0, .d0, .d1⟩), some (⟨.d0, .d2, .d0⟩, true)⟩,
    ⟨some ⟨.d0, .d2, .d4⟩, .load false 1 (.t ⟨.d0, .d2, .d3⟩), some (⟨.d0, .d2, .d0⟩, true)⟩,
    ⟨some ⟨.d0, .d2, .d5⟩, .call 25 [(.t ⟨.d0, .d2, .d2⟩), (.c (.int .i64 0)), (.t ⟨.d0, .d2, .d4⟩)], some (⟨.d0, .d2, .d0⟩, true)⟩,
    ⟨some ⟨.d0, .d2, .d6⟩, .pick (.t ⟨.d0, .d2, .d0⟩) (.t ⟨.d0, .d2, .d5⟩) (.c (.bool false)), none⟩,
    ⟨some ⟨.d0, .d2, .d7⟩, .move (.t ⟨.d0, .d2, .d6⟩), none⟩,
    ⟨some ⟨.d0, .d3, .d0⟩, .fieldAddr 6 (.t ⟨.d0, .d0, .d1⟩), some (⟨.d0, .d2, .d7⟩, true)⟩,
    ⟨some ⟨.d0, .d3, .d1⟩, .load false 1 (.t ⟨.d0, .d3, .d0⟩), some (⟨.d0, .d2, .d7⟩, true)⟩,
    ⟨some ⟨.d0, .d3, .d2⟩, .bin .lss (.t ⟨.d0, .d3, .d1⟩) (.c (.int .i64 65536)), some (⟨.d0, .d2, .d7⟩, true)⟩,
    ⟨some ⟨.d0, .d3, .d3⟩, .pick (.t ⟨.d0, .d2, .d7⟩) (.t ⟨.d0, .d3, .d2⟩) (.c (.bool false)), none⟩,
    ⟨some ⟨.d0, .d3, .d4⟩, .move (.t ⟨.d0, .d3, .d3⟩), none⟩,
    ⟨some ⟨.d0, .d3, .d5⟩, .fieldAddr 7 (.t ⟨.d0, .d0, .d1⟩), some (⟨.d0, .d3, .d4⟩, true)⟩,
    ⟨some ⟨.d0, .d3, .d6⟩, .load false 1 (.t ⟨.d0, .d3, .d5⟩), some (⟨.d0, .d3, .d4⟩, true)⟩,
    ⟨some ⟨.d0, .d3, .d7⟩, .fieldAddr 8 (.t ⟨.d0, .d0, .d1⟩), some (⟨.d0, .d3, .d4⟩, true)⟩,
    ⟨some ⟨.d0, .d4, .d0⟩, .load false 1 (.t ⟨.d0, .d3, .d7⟩), some (⟨.d0, .d3, .d4⟩, true)⟩,
    ⟨some ⟨.d0, .d4, .d1⟩, .call 25 [(.t ⟨.d0, .d3, .d6⟩), (.c (.int .i64 0)), (.t ⟨.d0, .d4, .d0⟩)], some (⟨.d0, .d3, .d4⟩, true)⟩,
    ⟨some ⟨.d0, .d4, .d2⟩, .pick (.t ⟨.d0, .d3, .d4⟩) (.t ⟨.d0, .d4, .d1⟩) (.c (.bool false)), none⟩,
    ⟨some ⟨.d0, .d4, .d3⟩, .move (.t ⟨.d0, .d4, .d2⟩), none⟩,
    ⟨some ⟨.d0, .d4, .d4⟩, .fieldAddr 8 (.t ⟨.d0, .d0, .d1⟩), some (⟨.d0, .d4, .d3⟩, true)⟩,
    ⟨some ⟨.d0, .d4, .d5⟩, .load false 1 (.t ⟨.d0, .d4, .d4⟩), some (⟨.d0, .d4, .d3⟩, true)⟩,
    ⟨some ⟨.d0, .d4, .d6⟩, .bin .lss (.t ⟨.d0, .d4, .d5⟩) (.c (.int .i64 65536)), some (⟨.d0, .d4, .d3⟩, true)⟩,
    ⟨some ⟨.d0, .d4, .d7⟩, .pick (.t ⟨.d0, .d4, .d3⟩) (.t ⟨.d0, .d4, .d6⟩) (.c (.bool false)), none⟩,
    ⟨some ⟨.d0, .d0, .d2⟩, .move (.t ⟨.d0, .d4, .d7⟩), none⟩])
  (.ret))
def r_custref_RuleRight : List XR := [.tmp ⟨.d0, .d0, .d2⟩]
theorem ok_custref_RuleRight : okC Try.prog Try.f35.ntmps (bodyOf Try.f35) x_custref_RuleRight = true := by kernel_rfl
theorem okr_custref_RuleRight : okRs Try.prog Try.f35.results.toList r_custref_RuleRight = true := by kernel_rfl

/-- rules.covers -/
def x_rules_covers : XC :=
  .seq (.region [⟨some ⟨.d0, .d0, .d2⟩, .box 0 10 (.t ⟨.d0, .d0, .d0⟩), none⟩,
    ⟨some ⟨.d0, .d0, .d3⟩, .box 1 10 (.t ⟨.d0, .d0, .d1⟩), none⟩,
    ⟨some ⟨.d0, .d0, .d4⟩, .move (.c (.bool false)), none⟩])
  (.seq (.region [⟨some ⟨.d0, .d0, .d5⟩, .fieldAddr 0 (.t ⟨.d0, .d0, .d2⟩), none⟩,
    ⟨some ⟨.d0, .d0, .d6⟩, .load true 2 (.t ⟨.d0, .d0, .d5⟩), none⟩,
    ⟨some ⟨.d0, .d0, .d7⟩, .fieldAddr 0 (.t ⟨.d0, .d0, .d3⟩), none⟩,
    ⟨some ⟨.d0, .d1, .d0⟩, .load true 2 (.t ⟨.d0, .d0, .d7⟩), none⟩,
    ⟨some ⟨.d0, .d1, .d1⟩, .call 58 [(.t ⟨.d0, .d0, .d6⟩), (.t ⟨.d0, .d1, .d0⟩)], none⟩,
    ⟨some ⟨.d0, .d1, .d2⟩, .move (.t ⟨.d0, .d1, .d1⟩), none⟩,
    ⟨some ⟨.d0, .d1, .d3⟩, .fieldAddr 2 (.t ⟨.d0, .d0, .d2⟩), some (⟨.d0, .d1, .d2⟩, true)⟩,
    ⟨some ⟨.d0, .d1, .d4⟩, .load true 2 (.t ⟨.d0, .d1, .d3⟩), some (⟨.d0, .d1, .d2⟩, true)⟩,
    ⟨some ⟨.d0, .d1, .d5⟩, .fieldAddr 2 (.t ⟨.d0, .d0, .d3⟩), some (⟨.d0, .d1, .d2⟩, true)⟩,
    ⟨some ⟨.d0, .d1, .d6⟩, .load true 2 (.t ⟨.d0, .d1, .d5⟩), some (⟨.d0, .d1, .d2⟩, true)⟩,
    ⟨some ⟨.d0, .d1, .d7⟩, .call 58 [(.t ⟨.d0, .d1, .d4⟩), (.t ⟨.d0, .d1, .d6⟩)], some (⟨.d0, .d1, .d2⟩, true)⟩,
    ⟨some ⟨.d0, .d2, .d0⟩, .pick (.t ⟨.d0, .d1, .d2⟩) (.t ⟨.d0, .d1, .d7⟩) (.c (.bool false)), none⟩,
    ⟨some ⟨.d0, .d2, .d1⟩, .move (.t ⟨.d0, .d2, .d0⟩), none⟩,
    ⟨some ⟨.d0, .d2, .d2⟩, .fieldAddr 4 (.t ⟨.d0, .d0, .d2⟩), some (⟨.d0, .d2, .d1⟩, true)⟩,
    ⟨some ⟨.d0, .d2, .d3⟩, .load false 1 (.t ⟨.d0, .d2, .d2⟩), some (⟨.d0, .d2, .d1⟩, true)⟩,
    ⟨some ⟨.d0, .d2, .d4⟩, .bin .eql (.t ⟨.d0, .d2, .d3⟩) (.c (.int .i64 0)), some (⟨.d0, .d2, .d1⟩, true)⟩,
    ⟨some ⟨.d0, .d2, .d5⟩, .move (.t ⟨.d0, .d2, .d4⟩), some (⟨.d0, .d2, .d1⟩, true)⟩,
    ⟨some ⟨.d0, .d2, .d6⟩, .fieldAddr 4 (.t ⟨.d0, .d0, .d2⟩), some (⟨.d0, .d2, .d5⟩, false)⟩,
    ⟨some ⟨.d0, .d2, .d7⟩, .load false 1 (.t ⟨.d0, .d2, .d6⟩), some (⟨.d0, .d2, .d5⟩, false)⟩,
    ⟨some ⟨.d0, .d3, .d0⟩, .fieldAddr 4 (.t ⟨.d0, .d0, .d3⟩), some (⟨.d0, .d2, .d5⟩, false)⟩,
    ⟨some ⟨.d0, .d3, .d1⟩, .load false 1 (.t ⟨.d0, .d3, .d0⟩), some (⟨.d0, .d2, .d5⟩, false)⟩,
    ⟨some ⟨.d0, .d3, .d2⟩, .bin .eql (.t ⟨.d0, .d2, .d7⟩) (.t ⟨.d0, .d3, .d1⟩), some (⟨.d0, .d2, .d5⟩, false)⟩,
    ⟨some ⟨.d0, .d3, .d3⟩, .pick (.t ⟨.d0, .d2, .d5⟩) (.c (.bool true)) (.t ⟨.d0, .d3, .d2⟩), some (⟨.d0, .d2, .d1⟩, true)⟩,
    ⟨some ⟨.d0, .d3, .d4⟩, .pick (.t ⟨.d0, .d2, .d1⟩) (.t ⟨.d0, .d3, .d3⟩) (.c (.bool false)), none⟩,
    ⟨some ⟨.d0, .d3, .d5⟩, .move (.t ⟨.d0, .d3, .d4⟩), none⟩,
    ⟨some ⟨.d0, .d3, .d6⟩, .fieldAddr 5 (.t ⟨.d0, .d0, .d2⟩), some (⟨.d0, .d3, .d5⟩, true)⟩,
    ⟨some ⟨.d0, .d3, .d7⟩, .load false 1 (.t ⟨.d0, .d3, .d6⟩), some (⟨.d0, .d3, .d5⟩, true)⟩,
    ⟨some ⟨.d0, .d4, .d0⟩, .fieldAddr 5 (.t ⟨.d0, .d0, .d3⟩), some (⟨.d0, .d3, .d5⟩, true)⟩,
    ⟨some ⟨.d0, .d4, .d1⟩, .load false 1 (.t ⟨.d0, .d4, .d0⟩), some (⟨.d0, .d3, .d5⟩, true)⟩,
    ⟨some ⟨.d0, .d4, .d2⟩, .bin .leq (.t ⟨.d0, .d3, .d7⟩) (.t ⟨.d0, .d4, .d1⟩), some (⟨.d0, .d3, .d5⟩, true)⟩,
    ⟨some ⟨.d0, .d4, .d3⟩, .pick (.t ⟨.d0, .d3, .d5⟩) (.t ⟨.d0, .d4, .d2⟩) (.c (.bool false)), none⟩,
    ⟨some ⟨.d0, .d4, .d4⟩, .move (.t ⟨.d0, .d4, .d3⟩), none⟩,
    ⟨some ⟨.d0, .d4, .d5⟩, .fieldAddr 6 (.t ⟨.d0, .d0, .d3⟩), some (⟨.d0, .d4, .d4⟩, true)⟩,
    ⟨some ⟨.d0, .d4, .d6⟩, .load false 1 (.t ⟨.d0, .d4, .d5⟩), some (⟨.d0, .d4, .d4⟩, true)⟩,
    ⟨some ⟨.d0, .d4, .d7⟩, .fieldAddr 6 (.t ⟨.d0, .d0, .d2⟩), some (⟨.d0, .d4, .d4⟩, true)⟩,
    ⟨some ⟨.d0, .d5, .d0⟩, .load false 1 (.t ⟨.d0, .d4, .d7⟩), some (⟨.d0, .d4, .d4⟩, true)⟩,
    ⟨some ⟨.d0, .d5, .d1⟩, .bin .leq (.t ⟨.d0, .d4, .d6⟩) (.t ⟨.d0, .d5, .d0⟩), some (⟨.d0, .d4, .d4⟩, true)⟩,
    ⟨some ⟨.d0, .d5, .d2⟩, .pick (.t ⟨.d0, .d4, .d4⟩) (.t ⟨.d0, .d5, .d1⟩) (.c (.bool false)), none⟩,
    ⟨some ⟨.d0, .d5, .d3⟩, .move (.t ⟨.d0, .d5, .d2⟩), none⟩,
    ⟨some ⟨.d0, .d5, .d4⟩, .fieldAddr 7 (.t ⟨.d0, .d0, .d2⟩), some (⟨.d0, .d5, .d3⟩, true)⟩,
    ⟨some ⟨.d0, .d5, .d5⟩, .load false 1 (.t ⟨.d0, .d5, .d4⟩), some (⟨.d0, .d5, .d3⟩, true)⟩,
    ⟨some ⟨.d0, .d5, .d6⟩, .fieldAddr 7 (.t ⟨.d0, .d0, .d3⟩), some (⟨.d0, .d5, .d3⟩, true)⟩,
    ⟨some ⟨.d0, .d5, .d7⟩, .load false 1 (.t ⟨.d0, .d5, .d6⟩), some (⟨.d0, .d5, .d3⟩, true)⟩,
    ⟨some ⟨.d0, .d6, .d0⟩, .bin .leq (.t ⟨.d0, .d5, .d5⟩) (.t ⟨.d0, .d5, .d7⟩), some (⟨.d0, .d5, .d3⟩, true)⟩,
    ⟨some ⟨.d0, .d6, .d1⟩, .pick (.t ⟨.d0, .d5, .d3⟩) (.t ⟨.d0, .d6, .d0⟩) (.c (.bool false)), none⟩,
    ⟨some ⟨.d0, .d6, .d2⟩, .move (.t ⟨.d0, .d6, .d1⟩), none⟩,
    ⟨some ⟨.d0, .d6, .d3⟩, .fieldAddr 8 (.t ⟨.d0, .d0, .d3⟩), some (⟨.d0, .d6, .d2⟩, true)⟩,
    ⟨some ⟨.d0, .d6, .d4⟩, .load false 1 (.t ⟨.d0, .d6, .d3⟩), some (⟨.d0, .d6, .d2⟩, true)⟩,
    ⟨some ⟨.d0, .d6, .d5⟩, .fieldAddr 8 (.t ⟨.d0, .d0, .d2⟩), some (⟨.d0, .d6, .d2⟩, true)⟩,
    ⟨some ⟨.d0, .d6, .d6⟩, .load false 1 (.t ⟨.d0, .d6, .d5⟩), some (⟨.d0, .d6, .d2⟩, true)⟩,
    ⟨some ⟨.d0, .d6, .d7⟩, .bin .leq (.t ⟨.d0, .d6, .d4⟩) (.t ⟨.d0, .d6, .d6⟩), some (⟨.d0, .d6, .d2⟩, true)⟩,
    ⟨some ⟨.d0, .d7, .d0⟩, .pick (.t ⟨.d0, .d6, .d2⟩) (.t ⟨.d0, .d6, .d7⟩) (.c (.bool false)), none⟩,
    ⟨some ⟨.d0, .d0, .d4⟩, .move (.t ⟨.d0, .d7, .d0⟩), none⟩])
  (.ret))
def r_rules_covers : List XR := [.tmp ⟨.d0, .d0, .d4⟩]
theorem ok_rules_covers : okC Try.prog Try.f36.ntmps (bodyOf Try.f36) x_rules_covers = true := by kernel_rfl
theorem okr_rules_covers : okRs Try.prog Try.f36.results.toList r_rules_covers = true := by kernel_rfl

/-- custref.box -/
def x_custref_box : XC :=
  .seq (.region [⟨some ⟨.d0, .d0, .d1⟩, .box 0 10 (.t ⟨.d0, .d0, .d0⟩), none⟩,
    ⟨some ⟨.d0, .d0, .d2⟩, .alloc 1 [.int .i64 0, .int .i64 0, .int .i64 0, .int .i64 0, .int .i64 0, .int .i64 0, .int .i64 0, .int .i64 0, .int .i64 0, .int .i64 0], none⟩])
  (.seq (.region [⟨some ⟨.d0, .d1, .d1⟩, .fieldAddr 0 (.t ⟨.d0, .d0, .d1⟩), none⟩,
    ⟨some ⟨.d0, .d1, .d2⟩, .load true 2 (.t ⟨.d0, .d1, .d1⟩), none⟩,
    ⟨some ⟨.d0, .d1, .d3⟩, .call 59 [(.t ⟨.d0, .d1, .d2⟩)], none⟩,
    ⟨some ⟨.d0, .d1, .d0⟩, .move (.t ⟨.d0, .d1, .d3⟩), none⟩,
    ⟨some ⟨.d0, .d1, .d4⟩, .extract 0 (.t ⟨.d0, .d1, .d0⟩), none⟩,
    ⟨some ⟨.d0, .d1, .d5⟩, .extract 1 (.t ⟨.d0, .d1, .d0⟩), none⟩,
    ⟨some ⟨.d0, .d0, .d3⟩, .move (.t ⟨.d0, .d1, .d4⟩), none⟩,
    ⟨some ⟨.d0, .d0, .d4⟩, .move (.t ⟨.d0, .d1, .d5⟩), none⟩])
  (.seq (.region [⟨some ⟨.d0, .d1, .d7⟩, .fieldAddr 2 (.t ⟨.d0, .d0, .d1⟩), none⟩,
    ⟨some ⟨.d0, .d2, .d0⟩, .load true 2 (.t ⟨.d0, .d1, .d7⟩), none⟩,
    ⟨some ⟨.d0, .d2, .d1⟩, .call 59 [(.t ⟨.d0, .d2, .d0⟩)], none⟩,
    ⟨some ⟨.d0, .d1, .d6⟩, .move (.t ⟨.d0, .d2, .d1⟩), none⟩,
    ⟨some ⟨.d0, .d2, .d2⟩, .extract 0 (.t ⟨.d0, .d1, .d6⟩), none⟩,
    ⟨some ⟨.d0, .d2, .d3⟩, .extract 1 (.t ⟨.d0, .d1, .d6⟩), none⟩,
    ⟨some ⟨.d0, .d0, .d5⟩, .move (.t ⟨.d0, .d2, .d2⟩), none⟩,
    ⟨some ⟨.d0, .d0, .d6⟩, .move (.t ⟨.d0, .d2, .d3⟩), none⟩])
  (.seq (.region [⟨some ⟨.d0, .d2, .d4⟩, .fieldAddr 4 (.t ⟨.d0, .d0, .d1⟩), none⟩,
    ⟨some ⟨.d0, .d2, .d5⟩, .load false 1 (.t ⟨.d0, .d2, .d4⟩), none⟩,
    ⟨some ⟨.d0, .d2, .d6⟩, .fieldAddr 4 (.t ⟨.d0, .d0, .d1⟩), none⟩,
    ⟨some ⟨.d0, .d2, .d7⟩, .load false 1 (.t ⟨.d0, .d2, .d6⟩), none⟩,
    ⟨some ⟨.d0, .d3, .d0⟩, .build [.int .i64 0, .int .i64 0] [(0, 1, (.t ⟨.d0, .d2, .d5⟩)), (1, 1, (.t ⟨.d0, .d2, .d7⟩))], none⟩,
    ⟨some ⟨.d0, .d0, .d7⟩, .alloc 2 [.int .i64 0, .int .i64 0], none⟩,
    ⟨none, .store 2 (.t ⟨.d0, .d0, .d7⟩) (.t ⟨.d0, .d3, .d0⟩), none⟩])
  (.seq (.seq (.region [⟨some ⟨.d0, .d3, .d1⟩, .fieldAddr 4 (.t ⟨.d0, .d0, .d1⟩), none⟩,
    ⟨some ⟨.d0, .d3, .d2⟩, .load false 1 (.t ⟨.d0, .d3, .d1⟩), none⟩,
    ⟨some ⟨.d0, .d3, .d3⟩, .bin .eql (.t ⟨.d0, .d3, .d2⟩) (.c (.int .i64 0)), none⟩])
  (.cond (.t ⟨.d0, .d3, .d3⟩)
    (.region [⟨some ⟨.d0, .d3, .d4⟩, .build [.int .i64 0, .int .i64 0] [(0, 1, (.c (.int .i64 0))), (1, 1, (.c (.int .i64 255)))], none⟩,
      ⟨none, .store 2 (.t ⟨.d0, .d0, .d7⟩) (.t ⟨.d0, .d3, .d4⟩), none⟩])
    (.skip)))
  (.seq (.region [⟨some ⟨.d0, .d3, .d5⟩, .move (.t ⟨.d0, .d0, .d3⟩), none⟩,
    ⟨some ⟨.d0, .d3, .d6⟩, .move (.t ⟨.d0, .d0, .d4⟩), none⟩,
    ⟨some ⟨.d0, .d3, .d7⟩, .build [.int .i64 0, .int .i64 0] [(0, 1, (.t ⟨.d0, .d3, .d5⟩)), (1, 1, (.t ⟨.d0, .d3, .d6⟩))], none⟩,
    ⟨some ⟨.d0, .d4, .d0⟩, .move (.t ⟨.d0, .d0, .d5⟩), none⟩,
    ⟨some ⟨.d0, .d4, .d1⟩, .move (.t ⟨.d0, .d0, .d6⟩), none⟩,
    ⟨some ⟨.d0, .d4, .d2⟩, .build [.int .i64 0, .int .i64 0] [(0, 1, (.t ⟨.d0, .d4, .d0⟩)), (1, 1, (.t ⟨.d0, .d4, .d1⟩))], none⟩,
    ⟨some ⟨.d0, .d4, .d3⟩, .load true 2 (.t ⟨.d0, .d0, .d7⟩), none⟩,
    ⟨some ⟨.d0, .d4, .d4⟩, .fieldAddr 5 (.t ⟨.d0, .d0, .d1⟩), none⟩,
    ⟨some ⟨.d0, .d4, .d5⟩, .load false 1 (.t ⟨.d0, .d4, .d4⟩), none⟩,
    ⟨some ⟨.d0, .d4, .d6⟩, .fieldAddr 6 (.t ⟨.d0, .d0, .d1⟩), none⟩,
    ⟨some ⟨.d0, .d4, .d7⟩, .load false 1 (.t ⟨.d0, .d4, .d6⟩), none⟩,
    ⟨some ⟨.d0, .d5, .d0⟩, .build [.int .i64 0, .int .i64 0] [(0, 1, (.t ⟨.d0, .d4, .d5⟩)), (1, 1, (.t ⟨.d0, .d4, .d7⟩))], none⟩,
    ⟨some ⟨.d0, .d5, .d1⟩, .fieldAddr 7 (.t ⟨.d0, .d0, .d1⟩), none⟩,
    ⟨some ⟨.d0, .d5, .d2⟩, .load false 1 (.t ⟨.d0, .d5, .d1⟩), none⟩,
    ⟨some ⟨.d0, .d5, .d3⟩, .fieldAddr 8 (.t ⟨.d0, .d0, .d1⟩), none⟩,
    ⟨some ⟨.d0, .d5, .d4⟩, .load false 1 (.t ⟨.d0, .d5, .d3⟩), none⟩,
    ⟨some ⟨.d0, .d5, .d5⟩, .build [.int .i64 0, .int .i64 0] [(0, 1, (.t ⟨.d0, .d5, .d2⟩)), (1, 1, (.t ⟨.d0, .d5, .d4⟩))], none⟩,
    ⟨some ⟨.d0, .d5, .d6⟩, .build [.int .i64 0, .int .i64 0, .int .i64 0, .int .i64 0, .int .i64 0, .int .i64 0, .int .i64 0, .int .i64 0, .int .i64 0, .int .i64 0] [(0, 2, (.t ⟨.d0, .d3, .d7⟩)), (2, 2, (.t ⟨.d0, .d4, .d2⟩)), (4, 2, (.t ⟨.d0, .d4, .d3⟩)), (6, 2, (.t ⟨.d0, .d5, .d0⟩)), (8, 2, (.t ⟨.d0, .d5, .d5⟩))], none⟩,
    ⟨none, .store 10 (.t ⟨.d0, .d0, .d2⟩) (.t ⟨.d0, .d5, .d6⟩), none⟩])
  (.ret))))))
def r_custref_box : List XR := [.cell ⟨.d0, .d0, .d2⟩ true 10]
theorem ok_custref_box : okC Try.prog Try.f37.ntmps (bodyOf Try.f37) x_custref_box = true := by kernel_rfl
theorem okr_custref_box : okRs Try.prog Try.f37.results.toList r_custref_box = true := by kernel_rfl

/-- slices.ContainsFunc -/
def x_slices_ContainsFunc_api_Rule : XC :=
  .seq (.region [⟨some ⟨.d0, .d0, .d4⟩, .move (.c (.bool false)), none⟩])
  (.seq (.region [⟨some ⟨.d0, .d0, .d5⟩, .move (.t ⟨.d0, .d0, .d0⟩), none⟩,
    ⟨some ⟨.d0, .d0, .d6⟩, .move (.t ⟨.d0, .d0, .d1⟩), none⟩,
    ⟨some ⟨.d0, .d0, .d7⟩, .call 29 [(.t ⟨.d0, .d0, .d5⟩), (.t ⟨.d0, .d0, .d6⟩)], none⟩,
    ⟨some ⟨.d0, .d1, .d0⟩, .bin .geq (.t ⟨.d0, .d0, .d7⟩) (.c (.int .i64 0)), none⟩,
    ⟨some ⟨.d0, .d0, .d4⟩, .move (.t ⟨.d0, .d1, .d0⟩), none⟩])
  (.ret))
def r_slices_ContainsFunc_api_Rule : List XR := [.tmp ⟨.d0, .d0, .d4⟩]
theorem ok_slices_ContainsFunc_api_Rule : okC Try.prog Try.f38.ntmps (bodyOf Try.f38) x_slices_ContainsFunc_api_Rule = true := by kernel_rfl
theorem okr_slices_ContainsFunc_api_Rule : okRs Try.prog Try.f38.results.toList r_slices_ContainsFunc_api_Rule = true := by kernel_rfl

/-- rules.Slim-1 -/
def x_rules_Slim_1 : XC :=
  .seq (.region [⟨some ⟨.d0, .d0, .d2⟩, .box 0 10 (.t ⟨.d0, .d0, .d0⟩), none⟩,
    ⟨some ⟨.d0, .d0, .d3⟩, .move (.c (.bool false)), none⟩])
  (.seq (.region [⟨some ⟨.d0, .d0, .d4⟩, .load true 10 (.t ⟨.d0, .d0, .d2⟩), none⟩,
    ⟨some ⟨.d0, .d0, .d5⟩, .load true 10 (.t ⟨.d0, .d0, .d1⟩), none⟩,
    ⟨some ⟨.d0, .d0, .d6⟩, .call 36 [(.t ⟨.d0, .d0, .d4⟩), (.t ⟨.d0, .d0, .d5⟩)], none⟩,
    ⟨some ⟨.d0, .d0, .d3⟩, .move (.t ⟨.d0, .d0, .d6⟩), none⟩])
  (.ret))
def r_rules_Slim_1 : List XR := [.tmp ⟨.d0, .d0, .d3⟩]
theorem ok_rules_Slim_1 : okC Try.prog Try.f39.ntmps (bodyOf Try.f39) x_rules_Slim_1 = true := by kernel_rfl
theorem okr_rules_Slim_1 : okRs Try.prog Try.f39.results.toList r_rules_Slim_1 = true := by kernel_rfl

/-- rules.has -/
def x_rules_has : XC :=
  .seq (.region [⟨some ⟨.d0, .d0, .d2⟩, .box 0 2 (.t ⟨.d0, .d0, .d0⟩), none⟩,
    ⟨some ⟨.d0, .d0, .d4⟩, .move (.c (.bool false)), none⟩])
  (.seq (.region [⟨some ⟨.d0, .d0, .d5⟩, .move (.t ⟨.d0, .d0, .d1⟩), none⟩,
    ⟨some ⟨.d0, .d0, .d6⟩, .fieldAddr 0 (.t ⟨.d0, .d0, .d2⟩), none⟩,
    ⟨some ⟨.d0, .d0, .d7⟩, .load false 1 (.t ⟨.d0, .d0, .d6⟩), none⟩,
    ⟨some ⟨.d0, .d1, .d0⟩, .bin .xor (.t ⟨.d0, .d0, .d5⟩) (.t ⟨.d0, .d0, .d7⟩), none⟩,
    ⟨some ⟨.d0, .d1, .d1⟩, .convInt .u64 (.t ⟨.d0, .d1, .d0⟩), none⟩,
    ⟨some ⟨.d0, .d1, .d2⟩, .fieldAddr 1 (.t ⟨.d0, .d0, .d2⟩), none⟩,
    ⟨some ⟨.d0, .d1, .d3⟩, .load false 1 (.t ⟨.d0, .d1, .d2⟩), none⟩,
    ⟨some ⟨.d0, .d1, .d4⟩, .bin .sub (.c (.int .i64 32)) (.t ⟨.d0, .d1, .d3⟩), none⟩,
    ⟨some ⟨.d0, .d1, .d5⟩, .bin .shr (.t ⟨.d0, .d1, .d1⟩) (.t ⟨.d0, .d1, .d4⟩), none⟩,
    ⟨some ⟨.d0, .d1, .d6⟩, .bin .eql (.t ⟨.d0, .d1, .d5⟩) (.c (.int .u64 0)), none⟩,
    ⟨some ⟨.d0, .d0, .d4⟩, .move (.t ⟨.d0, .d1, .d6⟩), none⟩])
  (.ret))
def r_rules_has : List XR := [.tmp ⟨.d0, .d0, .d4⟩]
theorem ok_rules_has : okC Try.prog Try.f55.ntmps (bodyOf Try.f55) x_rules_has = true := by kernel_rfl
theorem okr_rules_has : okRs Try.prog Try.f55.results.toList r_rules_has = true := by kernel_rfl

/-- rules.net -/
def x_rules_net : XC :=
  .seq (.region [⟨some ⟨.d0, .d0, .d1⟩, .box 0 2 (.t ⟨.d0, .d0, .d0⟩), none⟩,
    ⟨some ⟨.d0, .d0, .d2⟩, .move (.c (.bool false)), none⟩])
  (.seq (.region [⟨some ⟨.d0, .d0, .d3⟩, .fieldAddr 1 (.t ⟨.d0, .d0, .d1⟩), none⟩,
    ⟨some ⟨.d0, .d0, .d4⟩, .load false 1 (.t ⟨.d0, .d0, .d3⟩), none⟩,
    ⟨some ⟨.d0, .d0, .d5⟩, .bin .geq (.t ⟨.d0, .d0, .d4⟩) (.c (.int .i64 0)), none⟩,
    ⟨some ⟨.d0, .d0, .d6⟩, .move (.t ⟨.d0, .d0, .d5⟩), none⟩,
    ⟨some ⟨.d0, .d0, .d7⟩, .fieldAddr 1 (.t ⟨.d0, .d0, .d1⟩), some (⟨.d0, .d0, .d6⟩, true)⟩,
    ⟨some ⟨.d0, .d1, .d0⟩, .load false 1 (.t ⟨.d0, .d0, .d7⟩), some (⟨.d0, .d0, .d6⟩, true)⟩,
    ⟨some ⟨.d0, .d1, .d1⟩, .bin .leq (.t ⟨.d0, .d1, .d0⟩) (.c (.int .i64 32)), some (⟨.d0, .d0, .d6⟩, true)⟩,
    ⟨some ⟨.d0, .d1, .d2⟩, .pick (.t ⟨.d0, .d0, .d6⟩) (.t ⟨.d0, .d1, .d1⟩) (.c (.bool false)), none⟩,
    ⟨some ⟨.d0, .d1, .d3⟩, .move (.t ⟨.d0, .d1, .d2⟩), none⟩,
    ⟨some ⟨.d0, .d1, .d4⟩, .fieldAddr 0 (.t ⟨.d0, .d0, .d1⟩), some (⟨.d0, .d1, .d3⟩, true)⟩,
    ⟨some ⟨.d0, .d1, .d5⟩, .load false 1 (.t ⟨.d0, .d1, .d4⟩), some (⟨.d0, .d1, .d3⟩, true)⟩,
    ⟨some ⟨.d0, .d1, .d6⟩, .fieldAddr 1 (.t ⟨.d0, .d0, .d1⟩), some (⟨.d0, .d1, .d3⟩, true)⟩,
    ⟨some ⟨.d0, .d1, .d7⟩, .load false 1 (.t ⟨.d0, .d1, .d6⟩), some (⟨.d0, .d1, .d3⟩, true)⟩,
    ⟨some ⟨.d0, .d2, .d0⟩, .bin .shl (.t ⟨.d0, .d1, .d5⟩) (.t ⟨.d0, .d1, .d7⟩), some (⟨.d0, .d1, .d3⟩, true)⟩,
    ⟨some ⟨.d0, .d2, .d1⟩, .bin .eql (.t ⟨.d0, .d2, .d0⟩) (.c (.int .u32 0)), some (⟨.d0, .d1, .d3⟩, true)⟩,
    ⟨some ⟨.d0, .d2, .d2⟩, .pick (.t ⟨.d0, .d1, .d3⟩) (.t ⟨.d0, .d2, .d1⟩) (.c (.bool false)), none⟩,
    ⟨some ⟨.d0, .d0, .d2⟩, .move (.t ⟨.d0, .d2, .d2⟩), none⟩])
  (.ret))
def r_rules_net : List XR := [.tmp ⟨.d0, .d0, .d2⟩]
theorem ok_rules_net : okC Try.prog Try.f56.ntmps (bodyOf Try.f56) x_rules_net = true := by kernel_rfl
theorem okr_rules_net : okRs Try.prog Try.f56.results.toList r_rules_net = true := by kernel_rfl

/-- custref.IsNet -/
def x_custref_IsNet : XC :=
  .seq (.region [⟨some ⟨.d0, .d0, .d1⟩, .box 0 2 (.t ⟨.d0, .d0, .d0⟩), none⟩,
    ⟨some ⟨.d0, .d0, .d2⟩, .move (.c (.bool false)), none⟩])
  (.seq (.regionD [0, 1, 3, 7, 15, 31, 63, 15, 143, 511, 1023, 2047, 4095, 8191] [⟨some ⟨.d0, .d0, .d3⟩, .fieldAddr 1 (.t ⟨.d0, .d0, .d1⟩), none⟩,
    ⟨some ⟨.d0, .d0, .d4⟩, .load false 1 (.t ⟨.d0, .d0, .d3⟩), none⟩,
    ⟨some ⟨.d0, .d0, .d5⟩, .call 25 [(.t ⟨.d0, .d0, .d4⟩), (.c (.int .i64 0)), (.c (.int .i64 32))], none⟩,
    ⟨some ⟨.d0, .d0, .d6⟩, .move (.t ⟨.d0, .d0, .d5⟩), none⟩,
    ⟨some ⟨.d0, .d0, .d7⟩, .fieldAddr 0 (.t ⟨.d0, .d0, .d1⟩), some (⟨.d0, .d0, .d6⟩, true)⟩,
    ⟨some ⟨.d0, .d1, .d0⟩, .load false 1 (.t ⟨.d0, .d0, .d7⟩), some (⟨.d0, .d0, .d6⟩, true)⟩,
    ⟨some ⟨.d0, .d1, .d1⟩, .call 70 [(.t ⟨.d0, .d1, .d0⟩), (.c (.int .i64 32))], some (⟨.d0, .d0, .d6⟩, true)⟩,
    ⟨some ⟨.d0, .d1, .d2⟩, .fieldAddr 1 (.t ⟨.d0, .d0, .d1⟩), some (⟨.d0, .d0, .d6⟩, true)⟩,
    ⟨some ⟨.d0, .d1, .d3⟩, .load false 1 (.t ⟨.d0, .d1, .d2⟩), some (⟨.d0, .d0, .d6⟩, true)⟩,
    ⟨some ⟨.d0, .d1, .d4⟩, .substr (.t ⟨.d0, .d1, .d1⟩) (some (.t ⟨.d0, .d1, .d3⟩)) none, some (⟨.d0, .d0, .d6⟩, true)⟩,
    ⟨some ⟨.d0, .d1, .d5⟩, .call 69 [(.t ⟨.d0, .d1, .d4⟩), (.c (.string { data := #[49] }))], some (⟨.d0, .d0, .d6⟩, true)⟩,
    ⟨some ⟨.d0, .d1, .d6⟩, .un .not (.t ⟨.d0, .d1, .d5⟩), some (⟨.d0, .d0, .d6⟩, true)⟩,
    ⟨some ⟨.d0, .d1, .d7⟩, .pick (.t ⟨.d0, .d0, .d6⟩) (.t ⟨.d0, .d1, .d6⟩) (.c (.bool false)), none⟩,
    ⟨some ⟨.d0, .d0, .d2⟩, .move (.t ⟨.d0, .d1, .d7⟩), none⟩])
  (.ret))
def r_custref_IsNet : List XR := [.tmp ⟨.d0, .d0, .d2⟩]
theorem ok_custref_IsNet : okC Try.prog Try.f57.ntmps (bodyOf Try.f57) x_custref_IsNet = true := by kernel_rfl
theorem okr_custref_IsNet : okRs Try.prog Try.f57.results.toList r_custref_IsNet = true := by kernel_rfl

/-- rules.within -/
def x_rules_within : XC :=
  .seq (.region [⟨some ⟨.d0, .d0, .d2⟩, .box 0 2 (.t ⟨.d0, .d0, .d0⟩), none⟩,
    ⟨some ⟨.d0, .d0, .d3⟩, .box 1 2 (.t ⟨.d0, .d0, .d1⟩), none⟩,
    ⟨some ⟨.d0, .d0, .d4⟩, .move (.c (.bool false)), none⟩])
  (.seq (.region [⟨some ⟨.d0, .d0, .d5⟩, .fieldAddr 1 (.t ⟨.d0, .d0, .d2⟩), none⟩,
    ⟨some ⟨.d0, .d0, .d6⟩, .load false 1 (.t ⟨.d0, .d0, .d5⟩), none⟩,
    ⟨some ⟨.d0, .d0, .d7⟩, .fieldAddr 1 (.t ⟨.d0, .d0, .d3⟩), none⟩,
    ⟨some ⟨.d0, .d1, .d0⟩, .load false 1 (.t ⟨.d0, .d0, .d7⟩), none⟩,
    ⟨some ⟨.d0, .d1, .d1⟩, .bin .leq (.t ⟨.d0, .d0, .d6⟩) (.t ⟨.d0, .d1, .d0⟩), none⟩,
    ⟨some ⟨.d0, .d1, .d2⟩, .move (.t ⟨.d0, .d1, .d1⟩), none⟩,
    ⟨some ⟨.d0, .d1, .d3⟩, .load true 2 (.t ⟨.d0, .d0, .d2⟩), some (⟨.d0, .d1, .d2⟩, true)⟩,
    ⟨some ⟨.d0, .d1, .d4⟩, .fieldAddr 0 (.t ⟨.d0, .d0, .d3⟩), some (⟨.d0, .d1, .d2⟩, true)⟩,
    ⟨some ⟨.d0, .d1, .d5⟩, .load false 1 (.t ⟨.d0, .d1, .d4⟩), some (⟨.d0, .d1, .d2⟩, true)⟩,
    ⟨some ⟨.d0, .d1, .d6⟩, .call 55 [(.t ⟨.d0, .d1, .d3⟩), (.t ⟨.d0, .d1, .d5⟩)], some (⟨.d0, .d1, .d2⟩, true)⟩,
    ⟨some ⟨.d0, .d1, .d7⟩, .pick (.t ⟨.d0, .d1, .d2⟩) (.t ⟨.d0, .d1, .d6⟩) (.c (.bool false)), none⟩,
    ⟨some ⟨.d0, .d0, .d4⟩, .move (.t ⟨.d0, .d1, .d7⟩), none⟩])
  (.ret))
def r_rules_within : List XR := [.tmp ⟨.d0, .d0, .d4⟩]
theorem ok_rules_within : okC Try.prog Try.f58.ntmps (bodyOf Try.f58) x_rules_within = true := by kernel_rfl
theorem okr_rules_within : okRs Try.prog Try.f58.results.toList r_rules_within = true := by kernel_rfl

/-- custref.Span -/
def x_custref_Span : XC :=
  .seq (.region [⟨some ⟨.d0, .d0, .d1⟩, .box 0 2 (.t ⟨.d0, .d0, .d0⟩), none⟩,
    ⟨some ⟨.d0, .d0, .d2⟩, .move (.c (.int .i64 0)), none⟩,
    ⟨some ⟨.d0, .d0, .d3⟩, .move (.c (.int .i64 0)), none⟩])
  (.seq (.region [⟨some ⟨.d0, .d0, .d4⟩, .move (.c (.int .i64 1)), none⟩])
  (.seq (.seq (.region [⟨some ⟨.d0, .d0, .d5⟩, .fieldAddr 1 (.t ⟨.d0, .d0, .d1⟩), none⟩,
    ⟨some ⟨.d0, .d0, .d6⟩, .load false 1 (.t ⟨.d0, .d0, .d5⟩), none⟩,
    ⟨some ⟨.d0, .d0, .d7⟩, .bin .sub (.c (.int .i64 32)) (.t ⟨.d0, .d0, .d6⟩), none⟩,
    ⟨some ⟨.d0, .d1, .d0⟩, .move (.c (.int .i64 0)), none⟩])
  (.block 0
    (.loop
      (.seq (.region [⟨some ⟨.d0, .d1, .d1⟩, .bin .lss (.t ⟨.d0, .d1, .d0⟩) (.t ⟨.d0, .d0, .d7⟩), none⟩])
      (.seq (.cond (.t ⟨.d0, .d1, .d1⟩)
        (.skip)
        (.exit 0))
      (.seq (.block 1
        (.region [⟨some ⟨.d0, .d1, .d2⟩, .move (.t ⟨.d0, .d0, .d4⟩), none⟩,
          ⟨some ⟨.d0, .d1, .d3⟩, .bin .mul (.t ⟨.d0, .d1, .d2⟩) (.c (.int .i64 2)), none⟩,
          ⟨some ⟨.d0, .d0, .d4⟩, .move (.t ⟨.d0, .d1, .d3⟩), none⟩]))
      (.region [⟨some ⟨.d0, .d1, .d4⟩, .bin .add (.t ⟨.d0, .d1, .d0⟩) (.c (.int .i64 1)), none⟩,
        ⟨some ⟨.d0, .d1, .d0⟩, .move (.t ⟨.d0, .d1, .d4⟩), none⟩])))))))
  (.seq (.regionD [0, 1, 3, 0, 8, 24, 0, 120, 248, 7, 1023] [⟨some ⟨.d0, .d1, .d5⟩, .fieldAddr 0 (.t ⟨.d0, .d0, .d1⟩), none⟩,
    ⟨some ⟨.d0, .d1, .d6⟩, .load false 1 (.t ⟨.d0, .d1, .d5⟩), none⟩,
    ⟨some ⟨.d0, .d1, .d7⟩, .convInt .i64 (.t ⟨.d0, .d1, .d6⟩), none⟩,
    ⟨some ⟨.d0, .d2, .d0⟩, .fieldAddr 0 (.t ⟨.d0, .d0, .d1⟩), none⟩,
    ⟨some ⟨.d0, .d2, .d1⟩, .load false 1 (.t ⟨.d0, .d2, .d0⟩), none⟩,
    ⟨some ⟨.d0, .d2, .d2⟩, .convInt .i64 (.t ⟨.d0, .d2, .d1⟩), none⟩,
    ⟨some ⟨.d0, .d2, .d3⟩, .move (.t ⟨.d0, .d0, .d4⟩), none⟩,
    ⟨some ⟨.d0, .d2, .d4⟩, .bin .add (.t ⟨.d0, .d2, .d2⟩) (.t ⟨.d0, .d2, .d3⟩), none⟩,
    ⟨some ⟨.d0, .d2, .d5⟩, .bin .sub (.t ⟨.d0, .d2, .d4⟩) (.c (.int .i64 1)), none⟩,
    ⟨some ⟨.d0, .d0, .d2⟩, .move (.t ⟨.d0, .d1, .d7⟩), none⟩,
    ⟨some ⟨.d0, .d0, .d3⟩, .move (.t ⟨.d0, .d2, .d5⟩), none⟩])
  (.ret))))
def r_custref_Span : List XR := [.tmp ⟨.d0, .d0, .d2⟩, .tmp ⟨.d0, .d0, .d3⟩]
theorem ok_custref_Span : okC Try.prog Try.f59.ntmps (bodyOf Try.f59) x_custref_Span = true := by kernel_rfl
theorem okr_custref_Span : okRs Try.prog Try.f59.results.toList r_custref_Span = true := by kernel_rfl

/-- strings.Contains -/
def x_strings_Contains : XC :=
  .seq (.region [⟨some ⟨.d0, .d0, .d4⟩, .move (.c (.bool false)), none⟩])
  (.seq (.region [⟨some ⟨.d0, .d0, .d5⟩, .move (.t ⟨.d0, .d0, .d0⟩), none⟩,
    ⟨some ⟨.d0, .d0, .d6⟩, .move (.t ⟨.d0, .d0, .d1⟩), none⟩,
    ⟨some ⟨.d0, .d0, .d7⟩, .call 73 [(.t ⟨.d0, .d0, .d5⟩), (.t ⟨.d0, .d0, .d6⟩)], none⟩,
    ⟨some ⟨.d0, .d1, .d0⟩, .bin .geq (.t ⟨.d0, .d0, .d7⟩) (.c (.int .i64 0)), none⟩,
    ⟨some ⟨.d0, .d0, .d4⟩, .move (.t ⟨.d0, .d1, .d0⟩), none⟩])
  (.ret))
def r_strings_Contains : List XR := [.tmp ⟨.d0, .d0, .d4⟩]
theorem ok_strings_Contains : okC Try.prog Try.f69.ntmps (bodyOf Try.f69) x_strings_Contains = true := by kernel_rfl
theorem okr_strings_Contains : okRs Try.prog Try.f69.results.toList r_strings_Contains = true := by kernel_rfl

/-- custref.BitsOf -/
def x_custref_BitsOf : XC :=
  .seq (.region [⟨some ⟨.d0, .d0, .d4⟩, .move (.c (.string { data := #[] })), none⟩])
  (.seq (.region [⟨some ⟨.d0, .d0, .d5⟩, .move (.c (.string { data := #[] })), none⟩])
  (.seq (.seq (.region [⟨some ⟨.d0, .d0, .d7⟩, .move (.t ⟨.d0, .d0, .d1⟩), none⟩,
    ⟨some ⟨.d0, .d1, .d0⟩, .move (.c (.int .i64 0)), none⟩])
  (.block 0
    (.loop
      (.seq (.region [⟨some ⟨.d0, .d1, .d1⟩, .bin .lss (.t ⟨.d0, .d1, .d0⟩) (.t ⟨.d0, .d0, .d7⟩), none⟩])
      (.seq (.cond (.t ⟨.d0, .d1, .d1⟩)
        (.skip)
        (.exit 0))
      (.seq (.block 1
        (.seq (.region [⟨some ⟨.d0, .d1, .d2⟩, .move (.t ⟨.d0, .d1, .d0⟩), none⟩,
          ⟨some ⟨.d0, .d0, .d6⟩, .move (.t ⟨.d0, .d1, .d2⟩), none⟩])
        (.region [⟨some ⟨.d0, .d1, .d3⟩, .move (.t ⟨.d0, .d0, .d5⟩), none⟩,
          ⟨some ⟨.d0, .d1, .d4⟩, .move (.t ⟨.d0, .d0, .d0⟩), none⟩,
          ⟨some ⟨.d0, .d1, .d5⟩, .convInt .i64 (.t ⟨.d0, .d1, .d4⟩), none⟩,
          ⟨some ⟨.d0, .d1, .d6⟩, .move (.t ⟨.d0, .d0, .d6⟩), none⟩,
          ⟨some ⟨.d0, .d1, .d7⟩, .bin .sub (.c (.int .i64 31)) (.t ⟨.d0, .d1, .d6⟩), none⟩,
          ⟨some ⟨.d0, .d2, .d0⟩, .bin .shl (.c (.int .i64 1)) (.t ⟨.d0, .d1, .d7⟩), none⟩,
          ⟨some ⟨.d0, .d2, .d1⟩, .bin .quo (.t ⟨.d0, .d1, .d5⟩) (.t ⟨.d0, .d2, .d0⟩), none⟩,
          ⟨some ⟨.d0, .d2, .d2⟩, .bin .rem (.t ⟨.d0, .d2, .d1⟩) (.c (.int .i64 2)), none⟩,
          ⟨some ⟨.d0, .d2, .d3⟩, .call 74 [(.t ⟨.d0, .d2, .d2⟩)], none⟩,
          ⟨some ⟨.d0, .d2, .d4⟩, .sbin .add (.t ⟨.d0, .d1, .d3⟩) (.t ⟨.d0, .d2, .d3⟩), none⟩,
          ⟨some ⟨.d0, .d0, .d5⟩, .move (.t ⟨.d0, .d2, .d4⟩), none⟩])))
      (.region [⟨some ⟨.d0, .d2, .d5⟩, .bin .add (.t ⟨.d0, .d1, .d0⟩) (.c (.int .i64 1)), none⟩,
        ⟨some ⟨.d0, .d1, .d0⟩, .move (.t ⟨.d0, .d2, .d5⟩), none⟩])))))))
  (.seq (.region [⟨some ⟨.d0, .d2, .d6⟩, .move (.t ⟨.d0, .d0, .d5⟩), none⟩,
    ⟨some ⟨.d0, .d0, .d4⟩, .move (.t ⟨.d0, .d2, .d6⟩), none⟩])
  (.ret))))
def r_custref_BitsOf : List XR := [.tmp ⟨.d0, .d0, .d4⟩]
theorem ok_custref_BitsOf : okC Try.prog Try.f70.ntmps (bodyOf Try.f70) x_custref_BitsOf = true := by kernel_rfl
theorem okr_custref_BitsOf : okRs Try.prog Try.f70.results.toList r_custref_BitsOf = true := by kernel_rfl

/-- strings.Index -/
def x_strings_Index : XC :=
  .seq (.region [⟨some ⟨.d0, .d0, .d4⟩, .move (.c (.int .i64 0)), none⟩])
  (.seq (.region [⟨some ⟨.d0, .d0, .d5⟩, .move (.t ⟨.d0, .d0, .d0⟩), none⟩,
    ⟨some ⟨.d0, .d0, .d6⟩, .move (.t ⟨.d0, .d0, .d1⟩), none⟩,
    ⟨some ⟨.d0, .d0, .d7⟩, .call 75 [(.t ⟨.d0, .d0, .d5⟩), (.t ⟨.d0, .d0, .d6⟩)], none⟩,
    ⟨some ⟨.d0, .d0, .d4⟩, .move (.t ⟨.d0, .d0, .d7⟩), none⟩])
  (.ret))
def r_strings_Index : List XR := [.tmp ⟨.d0, .d0, .d4⟩]
theorem ok_strings_Index : okC Try.prog Try.f73.ntmps (bodyOf Try.f73) x_strings_Index = true := by kernel_rfl
theorem okr_strings_Index : okRs Try.prog Try.f73.results.toList r_strings_Index = true := by kernel_rfl

/-- custref.Num -/
def x_custref_Num : XC :=
  .seq (.region [⟨some ⟨.d0, .d0, .d2⟩, .move (.c (.string { data := #[] })), none⟩])
  (.seq (.seq (.region [⟨some ⟨.d0, .d0, .d3⟩, .move (.t ⟨.d0, .d0, .d0⟩), none⟩,
    ⟨some ⟨.d0, .d0, .d4⟩, .bin .lss (.t ⟨.d0, .d0, .d3⟩) (.c (.int .i64 0)), none⟩])
  (.cond (.t ⟨.d0, .d0, .d4⟩)
    (.seq (.region [⟨some ⟨.d0, .d0, .d5⟩, .move (.t ⟨.d0, .d0, .d0⟩), none⟩,
      ⟨some ⟨.d0, .d0, .d6⟩, .un .neg (.t ⟨.d0, .d0, .d5⟩), none⟩,
      ⟨some ⟨.d0, .d0, .d7⟩, .call 74 [(.t ⟨.d0, .d0, .d6⟩)], none⟩,
      ⟨some ⟨.d0, .d1, .d0⟩, .sbin .add (.c (.string { data := #[45] })) (.t ⟨.d0, .d0, .d7⟩), none⟩,
      ⟨some ⟨.d0, .d0, .d2⟩, .move (.t ⟨.d0, .d1, .d0⟩), none⟩])
    (.ret))
    (.skip)))
  (.seq (.seq (.region [⟨some ⟨.d0, .d1, .d1⟩, .move (.t ⟨.d0, .d0, .d0⟩), none⟩,
    ⟨some ⟨.d0, .d1, .d2⟩, .bin .lss (.t ⟨.d0, .d1, .d1⟩) (.c (.int .i64 10)), none⟩])
  (.cond (.t ⟨.d0, .d1, .d2⟩)
    (.seq (.region [⟨some ⟨.d0, .d1, .d3⟩, .move (.t ⟨.d0, .d0, .d0⟩), none⟩,
      ⟨some ⟨.d0, .d1, .d4⟩, .move (.t ⟨.d0, .d0, .d0⟩), none⟩,
      ⟨some ⟨.d0, .d1, .d5⟩, .bin .add (.t ⟨.d0, .d1, .d4⟩) (.c (.int .i64 1)), none⟩,
      ⟨some ⟨.d0, .d1, .d6⟩, .substr (.c (.string { data := #[48, 49, 50, 51, 52, 53, 54, 55, 56, 57] })) (some (.t ⟨.d0, .d1, .d3⟩)) (some (.t ⟨.d0, .d1, .d5⟩)), none⟩,
      ⟨some ⟨.d0, .d0, .d2⟩, .move (.t ⟨.d0, .d1, .d6⟩), none⟩])
    (.ret))
    (.skip)))
  (.seq (.region [⟨some ⟨.d0, .d1, .d7⟩, .move (.t ⟨.d0, .d0, .d0⟩), none⟩,
    ⟨some ⟨.d0, .d2, .d0⟩, .bin .quo (.t ⟨.d0, .d1, .d7⟩) (.c (.int .i64 10)), none⟩,
    ⟨some ⟨.d0, .d2, .d1⟩, .call 74 [(.t ⟨.d0, .d2, .d0⟩)], none⟩,
    ⟨some ⟨.d0, .d2, .d2⟩, .move (.t ⟨.d0, .d0, .d0⟩), none⟩,
    ⟨some ⟨.d0, .d2, .d3⟩, .bin .rem (.t ⟨.d0, .d2, .d2⟩) (.c (.int .i64 10)), none⟩,
    ⟨some ⟨.d0, .d2, .d4⟩, .call 74 [(.t ⟨.d0, .d2, .d3⟩)], none⟩,
    ⟨some ⟨.d0, .d2, .d5⟩, .sbin .add (.t ⟨.d0, .d2, .d1⟩) (.t ⟨.d0, .d2, .d4⟩), none⟩,
    ⟨some ⟨.d0, .d0, .d2⟩, .move (.t ⟨.d0, .d2, .d5⟩), none⟩])
  (.ret))))
def r_custref_Num : List XR := [.tmp ⟨.d0, .d0, .d2⟩]
theorem ok_custref_Num : okC Try.prog Try.f74.ntmps (bodyOf Try.f74) x_custref_Num = true := by kernel_rfl
theorem okr_custref_Num : okRs Try.prog Try.f74.results.toList r_custref_Num = true := by kernel_rfl

/-- stringslite.Index -/
def x_stringslite_Index : XC :=
  .seq (.region [⟨some ⟨.d0, .d0, .d4⟩, .move (.c (.int .i64 0)), none⟩])
  (.seq (.region [⟨some ⟨.d0, .d1, .d6⟩, .move (.t ⟨.d0, .d0, .d1⟩), none⟩,
    ⟨some ⟨.d0, .d1, .d7⟩, .slen (.t ⟨.d0, .d1, .d6⟩), none⟩,
    ⟨some ⟨.d0, .d0, .d5⟩, .move (.t ⟨.d0, .d1, .d7⟩), none⟩])
  (.seq (.block 0
    (.seq (.region [⟨some ⟨.d0, .d2, .d1⟩, .move (.t ⟨.d0, .d0, .d5⟩), none⟩,
      ⟨some ⟨.d0, .d2, .d2⟩, .bin .eql (.t ⟨.d0, .d2, .d1⟩) (.c (.int .i64 0)), none⟩,
      ⟨some ⟨.d0, .d2, .d3⟩, .move (.t ⟨.d0, .d2, .d2⟩), none⟩,
      ⟨some ⟨.d0, .d2, .d4⟩, .move (.t ⟨.d0, .d0, .d1⟩), some (⟨.d0, .d2, .d3⟩, false)⟩,
      ⟨some ⟨.d0, .d2, .d5⟩, .move (.t ⟨.d0, .d0, .d0⟩), some (⟨.d0, .d2, .d3⟩, false)⟩,
      ⟨some ⟨.d0, .d2, .d6⟩, .sbin .eql (.t ⟨.d0, .d2, .d4⟩) (.t ⟨.d0, .d2, .d5⟩), some (⟨.d0, .d2, .d3⟩, false)⟩,
      ⟨some ⟨.d0, .d2, .d7⟩, .pick (.t ⟨.d0, .d2, .d3⟩) (.c (.bool true)) (.t ⟨.d0, .d2, .d6⟩), none⟩,
      ⟨some ⟨.d0, .d2, .d0⟩, .move (.t ⟨.d0, .d2, .d7⟩), none⟩])
    (.cond (.t ⟨.d0, .d2, .d0⟩)
      (.seq (.region [⟨some ⟨.d0, .d0, .d4⟩, .move (.c (.int .i64 0)), none⟩])
      (.ret))
      (.seq (.region [⟨some ⟨.d0, .d3, .d1⟩, .move (.t ⟨.d0, .d0, .d5⟩), none⟩,
        ⟨some ⟨.d0, .d3, .d2⟩, .bin .eql (.t ⟨.d0, .d3, .d1⟩) (.c (.int .i64 1)), none⟩,
        ⟨some ⟨.d0, .d3, .d0⟩, .move (.t ⟨.d0, .d3, .d2⟩), none⟩])
      (.cond (.t ⟨.d0, .d3, .d0⟩)
        (.seq (.region [⟨some ⟨.d0, .d3, .d3⟩, .move (.t ⟨.d0, .d0, .d0⟩), none⟩,
          ⟨some ⟨.d0, .d3, .d4⟩, .move (.t ⟨.d0, .d0, .d1⟩), none⟩,
          ⟨some ⟨.d0, .d3, .d5⟩, .strAt (.t ⟨.d0, .d3, .d4⟩) (.c (.int .i64 0)), none⟩,
          ⟨some ⟨.d0, .d3, .d6⟩, .call 76 [(.t ⟨.d0, .d3, .d3⟩), (.t ⟨.d0, .d3, .d5⟩)], none⟩,
          ⟨some ⟨.d0, .d0, .d4⟩, .move (.t ⟨.d0, .d3, .d6⟩), none⟩])
        (.ret))
        (.seq (.region [⟨some ⟨.d0, .d4, .d0⟩, .move (.t ⟨.d0, .d0, .d5⟩), none⟩,
          ⟨some ⟨.d0, .d4, .d1⟩, .move (.t ⟨.d0, .d0, .d0⟩), none⟩,
          ⟨some ⟨.d0, .d4, .d2⟩, .slen (.t ⟨.d0, .d4, .d1⟩), none⟩,
          ⟨some ⟨.d0, .d4, .d3⟩, .bin .geq (.t ⟨.d0, .d4, .d0⟩) (.t ⟨.d0, .d4, .d2⟩), none⟩,
          ⟨some ⟨.d0, .d3, .d7⟩, .move (.t ⟨.d0, .d4, .d3⟩), none⟩])
        (.cond (.t ⟨.d0, .d3, .d7⟩)
          (.seq (.region [⟨some ⟨.d0, .d0, .d4⟩, .move (.c (.int .i64 (-1))), none⟩])
          (.ret))
          (.seq (.region [⟨some ⟨.d0, .d4, .d5⟩, .move (.t ⟨.d0, .d0, .d5⟩), none⟩,
            ⟨some ⟨.d0, .d4, .d6⟩, .load false 1 .g, none⟩,
            ⟨some ⟨.d0, .d4, .d7⟩, .bin .leq (.t ⟨.d0, .d4, .d5⟩) (.t ⟨.d0, .d4, .d6⟩), none⟩,
            ⟨some ⟨.d0, .d5, .d0⟩, .move (.t ⟨.d0, .d4, .d7⟩), none⟩,
            ⟨some ⟨.d0, .d5, .d1⟩, .move (.t ⟨.d0, .d0, .d0⟩), some (⟨.d0, .d5, .d0⟩, true)⟩,
            ⟨some ⟨.d0, .d5, .d2⟩, .slen (.t ⟨.d0, .d5, .d1⟩), some (⟨.d0, .d5, .d0⟩, true)⟩,
            ⟨some ⟨.d0, .d5, .d3⟩, .bin .leq (.t ⟨.d0, .d5, .d2⟩) (.c (.int .i64 64)), some (⟨.d0, .d5, .d0⟩, true)⟩,
            ⟨some ⟨.d0, .d5, .d4⟩, .pick (.t ⟨.d0, .d5, .d0⟩) (.t ⟨.d0, .d5, .d3⟩) (.c (.bool false)), none⟩,
            ⟨some ⟨.d0, .d4, .d4⟩, .move (.t ⟨.d0, .d5, .d4⟩), none⟩])
          (.cond (.t ⟨.d0, .d4, .d4⟩)
            (.seq (.region [⟨some ⟨.d0, .d5, .d5⟩, .move (.t ⟨.d0, .d0, .d0⟩), none⟩,
              ⟨some ⟨.d0, .d5, .d6⟩, .move (.t ⟨.d0, .d0, .d1⟩), none⟩,
              ⟨some ⟨.d0, .d5, .d7⟩, .dead, none⟩,
              ⟨some ⟨.d0, .d0, .d4⟩, .move (.t ⟨.d0, .d5, .d7⟩), none⟩])
            (.ret))
            (.skip))))))))))
  (.seq (.region [⟨some ⟨.d0, .d6, .d0⟩, .move (.t ⟨.d0, .d0, .d1⟩), none⟩,
    ⟨some ⟨.d0, .d6, .d1⟩, .strAt (.t ⟨.d0, .d6, .d0⟩) (.c (.int .i64 0)), none⟩,
    ⟨some ⟨.d0, .d0, .d6⟩, .move (.t ⟨.d0, .d6, .d1⟩), none⟩])
  (.seq (.region [⟨some ⟨.d0, .d6, .d2⟩, .move (.t ⟨.d0, .d0, .d1⟩), none⟩,
    ⟨some ⟨.d0, .d6, .d3⟩, .strAt (.t ⟨.d0, .d6, .d2⟩) (.c (.int .i64 1)), none⟩,
    ⟨some ⟨.d0, .d0, .d7⟩, .move (.t ⟨.d0, .d6, .d3⟩), none⟩])
  (.seq (.region [⟨some ⟨.d0, .d1, .d0⟩, .move (.c (.int .i64 0)), none⟩])
  (.seq (.region [⟨some ⟨.d0, .d6, .d4⟩, .move (.t ⟨.d0, .d0, .d0⟩), none⟩,
    ⟨some ⟨.d0, .d6, .d5⟩, .slen (.t ⟨.d0, .d6, .d4⟩), none⟩,
    ⟨some ⟨.d0, .d6, .d6⟩, .move (.t ⟨.d0, .d0, .d5⟩), none⟩,
    ⟨some ⟨.d0, .d6, .d7⟩, .bin .sub (.t ⟨.d0, .d6, .d5⟩) (.t ⟨.d0, .d6, .d6⟩), none⟩,
    ⟨some ⟨.d0, .d7, .d0⟩, .bin .add (.t ⟨.d0, .d6, .d7⟩) (.c (.int .i64 1)), none⟩,
    ⟨some ⟨.d0, .d1, .d1⟩, .move (.t ⟨.d0, .d7, .d0⟩), none⟩])
  (.seq (.region [⟨some ⟨.d0, .d1, .d2⟩, .move (.c (.int .i64 0)), none⟩])
  (.seq (.block 1
    (.loop
      (.seq (.seq (.region [⟨some ⟨.d0, .d7, .d1⟩, .move (.t ⟨.d0, .d1, .d0⟩), none⟩,
        ⟨some ⟨.d0, .d7, .d2⟩, .move (.t ⟨.d0, .d1, .d1⟩), none⟩,
        ⟨some ⟨.d0, .d7, .d3⟩, .bin .lss (.t ⟨.d0, .d7, .d1⟩) (.t ⟨.d0, .d7, .d2⟩), none⟩])
      (.cond (.t ⟨.d0, .d7, .d3⟩)
        (.skip)
        (.exit 1)))
      (.block 2
        (.seq (.seq (.region [⟨some ⟨.d0, .d7, .d4⟩, .move (.t ⟨.d0, .d0, .d0⟩), none⟩,
          ⟨some ⟨.d0, .d7, .d5⟩, .move (.t ⟨.d0, .d1, .d0⟩), none⟩,
          ⟨some ⟨.d0, .d7, .d6⟩, .strAt (.t ⟨.d0, .d7, .d4⟩) (.t ⟨.d0, .d7, .d5⟩), none⟩,
          ⟨some ⟨.d0, .d7, .d7⟩, .move (.t ⟨.d0, .d0, .d6⟩), none⟩,
          ⟨some ⟨.d1, .d0, .d0⟩, .bin .neq (.t ⟨.d0, .d7, .d6⟩) (.t ⟨.d0, .d7, .d7⟩), none⟩])
        (.cond (.t ⟨.d1, .d0, .d0⟩)
          (.seq (.region [⟨some ⟨.d1, .d0, .d1⟩, .move (.t ⟨.d0, .d0, .d0⟩), none⟩,
            ⟨some ⟨.d1, .d0, .d2⟩, .move (.t ⟨.d0, .d1, .d0⟩), none⟩,
            ⟨some ⟨.d1, .d0, .d3⟩, .bin .add (.t ⟨.d1, .d0, .d2⟩) (.c (.int .i64 1)), none⟩,
            ⟨some ⟨.d1, .d0, .d4⟩, .move (.t ⟨.d0, .d1, .d1⟩), none⟩,
            ⟨some ⟨.d1, .d0, .d5⟩, .substr (.t ⟨.d1, .d0, .d1⟩) (some (.t ⟨.d1, .d0, .d3⟩)) (some (.t ⟨.d1, .d0, .d4⟩)), none⟩,
            ⟨some ⟨.d1, .d0, .d6⟩, .move (.t ⟨.d0, .d0, .d6⟩), none⟩,
            ⟨some ⟨.d1, .d0, .d7⟩, .call 76 [(.t ⟨.d1, .d0, .d5⟩), (.t ⟨.d1, .d0, .d6⟩)], none⟩,
            ⟨some ⟨.d0, .d1, .d3⟩, .move (.t ⟨.d1, .d0, .d7⟩), none⟩])
          (.seq (.seq (.region [⟨some ⟨.d1, .d1, .d0⟩, .move (.t ⟨.d0, .d1, .d3⟩), none⟩,
            ⟨some ⟨.d1, .d1, .d1⟩, .bin .lss (.t ⟨.d1, .d1, .d0⟩) (.c (.int .i64 0)), none⟩])
          (.cond (.t ⟨.d1, .d1, .d1⟩)
            (.seq (.region [⟨some ⟨.d0, .d0, .d4⟩, .move (.c (.int .i64 (-1))), none⟩])
            (.ret))
            (.skip)))
          (.region [⟨some ⟨.d1, .d1, .d2⟩, .move (.t ⟨.d0, .d1, .d0⟩), none⟩,
            ⟨some ⟨.d1, .d1, .d3⟩, .move (.t ⟨.d0, .d1, .d3⟩), none⟩,
            ⟨some ⟨.d1, .d1, .d4⟩, .bin .add (.t ⟨.d1, .d1, .d3⟩) (.c (.int .i64 1)), none⟩,
            ⟨some ⟨.d1, .d1, .d5⟩, .bin .add (.t ⟨.d1, .d1, .d2⟩) (.t ⟨.d1, .d1, .d4⟩), none⟩,
            ⟨some ⟨.d0, .d1, .d0⟩, .move (.t ⟨.d1, .d1, .d5⟩), none⟩])))
          (.skip)))
        (.seq (.seq (.region [⟨some ⟨.d1, .d1, .d6⟩, .move (.t ⟨.d0, .d0, .d0⟩), none⟩,
          ⟨some ⟨.d1, .d1, .d7⟩, .move (.t ⟨.d0, .d1, .d0⟩), none⟩,
          ⟨some ⟨.d1, .d2, .d0⟩, .bin .add (.t ⟨.d1, .d1, .d7⟩) (.c (.int .i64 1)), none⟩,
          ⟨some ⟨.d1, .d2, .d1⟩, .strAt (.t ⟨.d1, .d1, .d6⟩) (.t ⟨.d1, .d2, .d0⟩), none⟩,
          ⟨some ⟨.d1, .d2, .d2⟩, .move (.t ⟨.d0, .d0, .d7⟩), none⟩,
          ⟨some ⟨.d1, .d2, .d3⟩, .bin .eql (.t ⟨.d1, .d2, .d1⟩) (.t ⟨.d1, .d2, .d2⟩), none⟩,
          ⟨some ⟨.d1, .d2, .d4⟩, .move (.t ⟨.d1, .d2, .d3⟩), none⟩,
          ⟨some ⟨.d1, .d2, .d5⟩, .move (.t ⟨.d0, .d0, .d0⟩), some (⟨.d1, .d2, .d4⟩, true)⟩,
          ⟨some ⟨.d1, .d2, .d6⟩, .move (.t ⟨.d0, .d1, .d0⟩), some (⟨.d1, .d2, .d4⟩, true)⟩,
          ⟨some ⟨.d1, .d2, .d7⟩, .move (.t ⟨.d0, .d1, .d0⟩), some (⟨.d1, .d2, .d4⟩, true)⟩,
          ⟨some ⟨.d1, .d3, .d0⟩, .move (.t ⟨.d0, .d0, .d5⟩), some (⟨.d1, .d2, .d4⟩, true)⟩,
          ⟨some ⟨.d1, .d3, .d1⟩, .bin .add (.t ⟨.d1, .d2, .d7⟩) (.t ⟨.d1, .d3, .d0⟩), some (⟨.d1, .d2, .d4⟩, true)⟩,
          ⟨some ⟨.d1, .d3, .d2⟩, .substr (.t ⟨.d1, .d2, .d5⟩) (some (.t ⟨.d1, .d2, .d6⟩)) (some (.t ⟨.d1, .d3, .d1⟩)), some (⟨.d1, .d2, .d4⟩, true)⟩,
          ⟨some ⟨.d1, .d3, .d3⟩, .move (.t ⟨.d0, .d0, .d1⟩), some (⟨.d1, .d2, .d4⟩, true)⟩,
          ⟨some ⟨.d1, .d3, .d4⟩, .sbin .eql (.t ⟨.d1, .d3, .d2⟩) (.t ⟨.d1, .d3, .d3⟩), some (⟨.d1, .d2, .d4⟩, true)⟩,
          ⟨some ⟨.d1, .d3, .d5⟩, .pick (.t ⟨.d1, .d2, .d4⟩) (.t ⟨.d1, .d3, .d4⟩) (.c (.bool false)), none⟩])
        (.cond (.t ⟨.d1, .d3, .d5⟩)
          (.seq (.region [⟨some ⟨.d1, .d3, .d6⟩, .move (.t ⟨.d0, .d1, .d0⟩), none⟩,
            ⟨some ⟨.d0, .d0, .d4⟩, .move (.t ⟨.d1, .d3, .d6⟩), none⟩])
          (.ret))
          (.skip)))
        (.seq (.region [⟨some ⟨.d1, .d3, .d7⟩, .move (.t ⟨.d0, .d1, .d0⟩), none⟩,
          ⟨some ⟨.d1, .d4, .d0⟩, .bin .add (.t ⟨.d1, .d3, .d7⟩) (.c (.int .i64 1)), none⟩,
          ⟨some ⟨.d0, .d1, .d0⟩, .move (.t ⟨.d1, .d4, .d0⟩), none⟩])
        (.seq (.region [⟨some ⟨.d1, .d4, .d1⟩, .move (.t ⟨.d0, .d1, .d2⟩), none⟩,
          ⟨some ⟨.d1, .d4, .d2⟩, .bin .add (.t ⟨.d1, .d4, .d1⟩) (.c (.int .i64 1)), none⟩,
          ⟨some ⟨.d0, .d1, .d2⟩, .move (.t ⟨.d1, .d4, .d2⟩), none⟩])
        (.seq (.region [⟨some ⟨.d1, .d4, .d3⟩, .move (.t ⟨.d0, .d0, .d5⟩), none⟩,
          ⟨some ⟨.d1, .d4, .d4⟩, .load false 1 .g, none⟩,
          ⟨some ⟨.d1, .d4, .d5⟩, .bin .leq (.t ⟨.d1, .d4, .d3⟩) (.t ⟨.d1, .d4, .d4⟩), none⟩,
          ⟨some ⟨.d1, .d4, .d6⟩, .move (.t ⟨.d1, .d4, .d5⟩), none⟩,
          ⟨some ⟨.d1, .d4, .d7⟩, .move (.t ⟨.d0, .d1, .d2⟩), some (⟨.d1, .d4, .d6⟩, true)⟩,
          ⟨some ⟨.d1, .d5, .d0⟩, .move (.t ⟨.d0, .d1, .d0⟩), some (⟨.d1, .d4, .d6⟩, true)⟩,
          ⟨some ⟨.d1, .d5, .d1⟩, .call 78 [(.t ⟨.d1, .d5, .d0⟩)], some (⟨.d1, .d4, .d6⟩, true)⟩,
          ⟨some ⟨.d1, .d5, .d2⟩, .bin .gtr (.t ⟨.d1, .d4, .d7⟩) (.t ⟨.d1, .d5, .d1⟩), some (⟨.d1, .d4, .d6⟩, true)⟩,
          ⟨some ⟨.d1, .d5, .d3⟩, .pick (.t ⟨.d1, .d4, .d6⟩) (.t ⟨.d1, .d5, .d2⟩) (.c (.bool false)), none⟩])
        (.cond (.t ⟨.d1, .d5, .d3⟩)
          (.seq (.region [⟨some ⟨.d1, .d5, .d4⟩, .move (.t ⟨.d0, .d0, .d0⟩), none⟩,
            ⟨some ⟨.d1, .d5, .d5⟩, .move (.t ⟨.d0, .d1, .d0⟩), none⟩,
            ⟨some ⟨.d1, .d5, .d6⟩, .substr (.t ⟨.d1, .d5, .d4⟩) (some (.t ⟨.d1, .d5, .d5⟩)) none, none⟩,
            ⟨some ⟨.d1, .d5, .d7⟩, .move (.t ⟨.d0, .d0, .d1⟩), none⟩,
            ⟨some ⟨.d1, .d6, .d0⟩, .dead, none⟩,
            ⟨some ⟨.d0, .d1, .d4⟩, .move (.t ⟨.d1, .d6, .d0⟩), none⟩])
          (.seq (.seq (.region [⟨some ⟨.d1, .d6, .d1⟩, .move (.t ⟨.d0, .d1, .d4⟩), none⟩,
            ⟨some ⟨.d1, .d6, .d2⟩, .bin .geq (.t ⟨.d1, .d6, .d1⟩) (.c (.int .i64 0)), none⟩])
          (.cond (.t ⟨.d1, .d6, .d2⟩)
            (.seq (.region [⟨some ⟨.d1, .d6, .d3⟩, .move (.t ⟨.d0, .d1, .d4⟩), none⟩,
              ⟨some ⟨.d1, .d6, .d4⟩, .move (.t ⟨.d0, .d1, .d0⟩), none⟩,
              ⟨some ⟨.d1, .d6, .d5⟩, .bin .add (.t ⟨.d1, .d6, .d3⟩) (.t ⟨.d1, .d6, .d4⟩), none⟩,
              ⟨some ⟨.d0, .d0, .d4⟩, .move (.t ⟨.d1, .d6, .d5⟩), none⟩])
            (.ret))
            (.skip)))
          (.seq (.region [⟨some ⟨.d0, .d0, .d4⟩, .move (.c (.int .i64 (-1))), none⟩])
          (.ret))))
          (.seq (.region [⟨some ⟨.d1, .d6, .d6⟩, .move (.t ⟨.d0, .d0, .d5⟩), none⟩,
            ⟨some ⟨.d1, .d6, .d7⟩, .load false 1 .g, none⟩,
            ⟨some ⟨.d1, .d7, .d0⟩, .bin .gtr (.t ⟨.d1, .d6, .d6⟩) (.t ⟨.d1, .d6, .d7⟩), none⟩,
            ⟨some ⟨.d1, .d7, .d1⟩, .move (.t ⟨.d1, .d7, .d0⟩), none⟩,
            ⟨some ⟨.d1, .d7, .d2⟩, .move (.t ⟨.d0, .d1, .d2⟩), some (⟨.d1, .d7, .d1⟩, true)⟩,
            ⟨some ⟨.d1, .d7, .d3⟩, .move (.t ⟨.d0, .d1, .d0⟩), some (⟨.d1, .d7, .d1⟩, true)⟩,
            ⟨some ⟨.d1, .d7, .d4⟩, .bin .shr (.t ⟨.d1, .d7, .d3⟩) (.c (.int .u64 4)), some (⟨.d1, .d7, .d1⟩, true)⟩,
            ⟨some ⟨.d1, .d7, .d5⟩, .bin .add (.c (.int .i64 4)) (.t ⟨.d1, .d7, .d4⟩), some (⟨.d1, .d7, .d1⟩, true)⟩,
            ⟨some ⟨.d1, .d7, .d6⟩, .bin .geq (.t ⟨.d1, .d7, .d2⟩) (.t ⟨.d1, .d7, .d5⟩), some (⟨.d1, .d7, .d1⟩, true)⟩,
            ⟨some ⟨.d1, .d7, .d7⟩, .pick (.t ⟨.d1, .d7, .d1⟩) (.t ⟨.d1, .d7, .d6⟩) (.c (.bool false)), none⟩,
            ⟨some ⟨.d2, .d0, .d0⟩, .move (.t ⟨.d1, .d7, .d7⟩), none⟩,
            ⟨some ⟨.d2, .d0, .d1⟩, .move (.t ⟨.d0, .d1, .d0⟩), some (⟨.d2, .d0, .d0⟩, true)⟩,
            ⟨some ⟨.d2, .d0, .d2⟩, .move (.t ⟨.d0, .d1, .d1⟩), some (⟨.d2, .d0, .d0⟩, true)⟩,
            ⟨some ⟨.d2, .d0, .d3⟩, .bin .lss (.t ⟨.d2, .d0, .d1⟩) (.t ⟨.d2, .d0, .d2⟩), some (⟨.d2, .d0, .d0⟩, true)⟩,
            ⟨some ⟨.d2, .d0, .d4⟩, .pick (.t ⟨.d2, .d0, .d0⟩) (.t ⟨.d2, .d0, .d3⟩) (.c (.bool false)), none⟩])
          (.cond (.t ⟨.d2, .d0, .d4⟩)
            (.seq (.region [⟨some ⟨.d2, .d0, .d5⟩, .move (.t ⟨.d0, .d0, .d0⟩), none⟩,
              ⟨some ⟨.d2, .d0, .d6⟩, .move (.t ⟨.d0, .d1, .d0⟩), none⟩,
              ⟨some ⟨.d2, .d0, .d7⟩, .substr (.t ⟨.d2, .d0, .d5⟩) (some (.t ⟨.d2, .d0, .d6⟩)) none, none⟩,
              ⟨some ⟨.d2, .d1, .d0⟩, .move (.t ⟨.d0, .d0, .d1⟩), none⟩,
              ⟨some ⟨.d2, .d1, .d1⟩, .call 79 [(.t ⟨.d2, .d0, .d7⟩), (.t ⟨.d2, .d1, .d0⟩)], none⟩,
              ⟨some ⟨.d0, .d1, .d5⟩, .move (.t ⟨.d2, .d1, .d1⟩), none⟩])
            (.seq (.seq (.region [⟨some ⟨.d2, .d1, .d2⟩, .move (.t ⟨.d0, .d1, .d5⟩), none⟩,
              ⟨some ⟨.d2, .d1, .d3⟩, .bin .lss (.t ⟨.d2, .d1, .d2⟩) (.c (.int .i64 0)), none⟩])
            (.cond (.t ⟨.d2, .d1, .d3⟩)
              (.seq (.region [⟨some ⟨.d0, .d0, .d4⟩, .move (.c (.int .i64 (-1))), none⟩])
              (.ret))
              (.skip)))
            (.seq (.region [⟨some ⟨.d2, .d1, .d4⟩, .move (.t ⟨.d0, .d1, .d0⟩), none⟩,
              ⟨some ⟨.d2, .d1, .d5⟩, .move (.t ⟨.d0, .d1, .d5⟩), none⟩,
              ⟨some ⟨.d2, .d1, .d6⟩, .bin .add (.t ⟨.d2, .d1, .d4⟩) (.t ⟨.d2, .d1, .d5⟩), none⟩,
              ⟨some ⟨.d0, .d0, .d4⟩, .move (.t ⟨.d2, .d1, .d6⟩), none⟩])
            (.ret))))
            (.skip)))))))))))))
  (.seq (.region [⟨some ⟨.d0, .d0, .d4⟩, .move (.c (.int .i64 (-1))), none⟩])
  (.ret))))))))))
def r_stringslite_Index : List XR := [.tmp ⟨.d0, .d0, .d4⟩]
theorem ok_stringslite_Index : okC Try.prog Try.f75.ntmps (bodyOf Try.f75) x_stringslite_Index = true := by kernel_rfl
theorem okr_stringslite_Index : okRs Try.prog Try.f75.results.toList r_stringslite_Index = true := by kernel_rfl

/-- stringslite.IndexByte -/
def x_stringslite_IndexByte : XC :=
  .seq (.region [⟨some ⟨.d0, .d0, .d4⟩, .move (.c (.int .i64 0)), none⟩])
  (.seq (.region [⟨some ⟨.d0, .d0, .d5⟩, .move (.t ⟨.d0, .d0, .d0⟩), none⟩,
    ⟨some ⟨.d0, .d0, .d6⟩, .move (.t ⟨.d0, .d0, .d1⟩), none⟩,
    ⟨some ⟨.d0, .d0, .d7⟩, .ext 0 [(.t ⟨.d0, .d0, .d5⟩), (.t ⟨.d0, .d0, .d6⟩)], none⟩,
    ⟨some ⟨.d0, .d0, .d4⟩, .move (.t ⟨.d0, .d0, .d7⟩), none⟩])
  (.ret))
def r_stringslite_IndexByte : List XR := [.tmp ⟨.d0, .d0, .d4⟩]
theorem ok_stringslite_IndexByte : okC Try.prog Try.f76.ntmps (bodyOf Try.f76) x_stringslite_IndexByte = true := by kernel_rfl
theorem okr_stringslite_IndexByte : okRs Try.prog Try.f76.results.toList r_stringslite_IndexByte = true := by kernel_rfl

/-- bytealg.Cutover -/
def x_bytealg_Cutover : XC :=
  .seq (.region [⟨some ⟨.d0, .d0, .d2⟩, .move (.c (.int .i64 0)), none⟩])
  (.seq (.region [⟨some ⟨.d0, .d0, .d3⟩, .move (.t ⟨.d0, .d0, .d0⟩), none⟩,
    ⟨some ⟨.d0, .d0, .d4⟩, .bin .add (.t ⟨.d0, .d0, .d3⟩) (.c (.int .i64 16)), none⟩,
    ⟨some ⟨.d0, .d0, .d5⟩, .bin .quo (.t ⟨.d0, .d0, .d4⟩) (.c (.int .i64 8)), none⟩,
    ⟨some ⟨.d0, .d0, .d2⟩, .move (.t ⟨.d0, .d0, .d5⟩), none⟩])
  (.ret))
def r_bytealg_Cutover : List XR := [.tmp ⟨.d0, .d0, .d2⟩]
theorem ok_bytealg_Cutover : okC Try.prog Try.f78.ntmps (bodyOf Try.f78) x_bytealg_Cutover = true := by kernel_rfl
theorem okr_bytealg_Cutover : okRs Try.prog Try.f78.results.toList r_bytealg_Cutover = true := by kernel_rfl

/-- bytealg.IndexRabinKarp -/
def x_bytealg_IndexRabinKarp_string : XC :=
  .seq (.region [⟨some ⟨.d0, .d0, .d4⟩, .move (.c (.int .i64 0)), none⟩])
  (.seq (.region [⟨some ⟨.d0, .d1, .d4⟩, .move (.t ⟨.d0, .d0, .d1⟩), none⟩,
    ⟨some ⟨.d0, .d1, .d5⟩, .call 81 [(.t ⟨.d0, .d1, .d4⟩)], none⟩,
    ⟨some ⟨.d0, .d1, .d3⟩, .move (.t ⟨.d0, .d1, .d5⟩), none⟩,
    ⟨some ⟨.d0, .d1, .d6⟩, .extract 0 (.t ⟨.d0, .d1, .d3⟩), none⟩,
    ⟨some ⟨.d0, .d1, .d7⟩, .extract 1 (.t ⟨.d0, .d1, .d3⟩), none⟩,
    ⟨some ⟨.d0, .d0, .d5⟩, .move (.t ⟨.d0, .d1, .d6⟩), none⟩,
    ⟨some ⟨.d0, .d0, .d6⟩, .move (.t ⟨.d0, .d1, .d7⟩), none⟩])
  (.seq (.region [⟨some ⟨.d0, .d2, .d0⟩, .move (.t ⟨.d0, .d0, .d1⟩), none⟩,
    ⟨some ⟨.d0, .d2, .d1⟩, .slen (.t ⟨.d0, .d2, .d0⟩), none⟩,
    ⟨some ⟨.d0, .d0, .d7⟩, .move (.t ⟨.d0, .d2, .d1⟩), none⟩])
  (.seq (.region [⟨some ⟨.d0, .d1, .d0⟩, .move (.c (.int .u32 0)), none⟩])
  (.seq (.seq (.region [⟨some ⟨.d0, .d1, .d1⟩, .move (.c (.int .i64 0)), none⟩])
  (.block 0
    (.loop
      (.seq (.seq (.region [⟨some ⟨.d0, .d2, .d2⟩, .move (.t ⟨.d0, .d1, .d1⟩), none⟩,
        ⟨some ⟨.d0, .d2, .d3⟩, .move (.t ⟨.d0, .d0, .d7⟩), none⟩,
        ⟨some ⟨.d0, .d2, .d4⟩, .bin .lss (.t ⟨.d0, .d2, .d2⟩) (.t ⟨.d0, .d2, .d3⟩), none⟩])
      (.cond (.t ⟨.d0, .d2, .d4⟩)
        (.skip)
        (.exit 0)))
      (.seq (.block 1
        (.region [⟨some ⟨.d0, .d2, .d7⟩, .move (.t ⟨.d0, .d1, .d0⟩), none⟩,
          ⟨some ⟨.d0, .d3, .d0⟩, .bin .mul (.t ⟨.d0, .d2, .d7⟩) (.c (.int .u32 16777619)), none⟩,
          ⟨some ⟨.d0, .d3, .d1⟩, .move (.t ⟨.d0, .d0, .d0⟩), none⟩,
          ⟨some ⟨.d0, .d3, .d2⟩, .move (.t ⟨.d0, .d1, .d1⟩), none⟩,
          ⟨some ⟨.d0, .d3, .d3⟩, .strAt (.t ⟨.d0, .d3, .d1⟩) (.t ⟨.d0, .d3, .d2⟩), none⟩,
          ⟨some ⟨.d0, .d3, .d4⟩, .convInt .u32 (.t ⟨.d0, .d3, .d3⟩), none⟩,
          ⟨some ⟨.d0, .d3, .d5⟩, .bin .add (.t ⟨.d0, .d3, .d0⟩) (.t ⟨.d0, .d3, .d4⟩), none⟩,
          ⟨some ⟨.d0, .d1, .d0⟩, .move (.t ⟨.d0, .d3, .d5⟩), none⟩]))
      (.region [⟨some ⟨.d0, .d2, .d5⟩, .move (.t ⟨.d0, .d1, .d1⟩), none⟩,
        ⟨some ⟨.d0, .d2, .d6⟩, .bin .add (.t ⟨.d0, .d2, .d5⟩) (.c (.int .i64 1)), none⟩,
        ⟨some ⟨.d0, .d1, .d1⟩, .move (.t ⟨.d0, .d2, .d6⟩), none⟩]))))))
  (.seq (.seq (.region [⟨some ⟨.d0, .d3, .d6⟩, .move (.t ⟨.d0, .d1, .d0⟩), none⟩,
    ⟨some ⟨.d0, .d3, .d7⟩, .move (.t ⟨.d0, .d0, .d5⟩), none⟩,
    ⟨some ⟨.d0, .d4, .d0⟩, .bin .eql (.t ⟨.d0, .d3, .d6⟩) (.t ⟨.d0, .d3, .d7⟩), none⟩,
    ⟨some ⟨.d0, .d4, .d1⟩, .move (.t ⟨.d0, .d4, .d0⟩), none⟩,
    ⟨some ⟨.d0, .d4, .d2⟩, .move (.t ⟨.d0, .d0, .d0⟩), some (⟨.d0, .d4, .d1⟩, true)⟩,
    ⟨some ⟨.d0, .d4, .d3⟩, .move (.t ⟨.d0, .d0, .d7⟩), some (⟨.d0, .d4, .d1⟩, true)⟩,
    ⟨some ⟨.d0, .d4, .d4⟩, .substr (.t ⟨.d0, .d4, .d2⟩) none (some (.t ⟨.d0, .d4, .d3⟩)), some (⟨.d0, .d4, .d1⟩, true)⟩,
    ⟨some ⟨.d0, .d4, .d5⟩, .move (.t ⟨.d0, .d0, .d1⟩), some (⟨.d0, .d4, .d1⟩, true)⟩,
    ⟨some ⟨.d0, .d4, .d6⟩, .sbin .eql (.t ⟨.d0, .d4, .d4⟩) (.t ⟨.d0, .d4, .d5⟩), some (⟨.d0, .d4, .d1⟩, true)⟩,
    ⟨some ⟨.d0, .d4, .d7⟩, .pick (.t ⟨.d0, .d4, .d1⟩) (.t ⟨.d0, .d4, .d6⟩) (.c (.bool false)), none⟩])
  (.cond (.t ⟨.d0, .d4, .d7⟩)
    (.seq (.region [⟨some ⟨.d0, .d0, .d4⟩, .move (.c (.int .i64 0)), none⟩])
    (.ret))
    (.skip)))
  (.seq (.seq (.region [⟨some ⟨.d0, .d5, .d0⟩, .move (.t ⟨.d0, .d0, .d7⟩), none⟩,
    ⟨some ⟨.d0, .d1, .d2⟩, .move (.t ⟨.d0, .d5, .d0⟩), none⟩])
  (.block 2
    (.loop
      (.seq (.seq (.region [⟨some ⟨.d0, .d5, .d1⟩, .move (.t ⟨.d0, .d1, .d2⟩), none⟩,
        ⟨some ⟨.d0, .d5, .d2⟩, .move (.t ⟨.d0, .d0, .d0⟩), none⟩,
        ⟨some ⟨.d0, .d5, .d3⟩, .slen (.t ⟨.d0, .d5, .d2⟩), none⟩,
        ⟨some ⟨.d0, .d5, .d4⟩, .bin .lss (.t ⟨.d0, .d5, .d1⟩) (.t ⟨.d0, .d5, .d3⟩), none⟩])
      (.cond (.t ⟨.d0, .d5, .d4⟩)
        (.skip)
        (.exit 2)))
      (.block 3
        (.seq (.region [⟨some ⟨.d0, .d5, .d5⟩, .move (.t ⟨.d0, .d1, .d0⟩), none⟩,
          ⟨some ⟨.d0, .d5, .d6⟩, .bin .mul (.t ⟨.d0, .d5, .d5⟩) (.c (.int .u32 16777619)), none⟩,
          ⟨some ⟨.d0, .d1, .d0⟩, .move (.t ⟨.d0, .d5, .d6⟩), none⟩])
        (.seq (.region [⟨some ⟨.d0, .d5, .d7⟩, .move (.t ⟨.d0, .d1, .d0⟩), none⟩,
          ⟨some ⟨.d0, .d6, .d0⟩, .move (.t ⟨.d0, .d0, .d0⟩), none⟩,
          ⟨some ⟨.d0, .d6, .d1⟩, .move (.t ⟨.d0, .d1, .d2⟩), none⟩,
          ⟨some ⟨.d0, .d6, .d2⟩, .strAt (.t ⟨.d0, .d6, .d0⟩) (.t ⟨.d0, .d6, .d1⟩), none⟩,
          ⟨some ⟨.d0, .d6, .d3⟩, .convInt .u32 (.t ⟨.d0, .d6, .d2⟩), none⟩,
          ⟨some ⟨.d0, .d6, .d4⟩, .bin .add (.t ⟨.d0, .d5, .d7⟩) (.t ⟨.d0, .d6, .d3⟩), none⟩,
          ⟨some ⟨.d0, .d1, .d0⟩, .move (.t ⟨.d0, .d6, .d4⟩), none⟩])
        (.seq (.region [⟨some ⟨.d0, .d6, .d5⟩, .move (.t ⟨.d0, .d1, .d0⟩), none⟩,
          ⟨some ⟨.d0, .d6, .d6⟩, .move (.t ⟨.d0, .d0, .d6⟩), none⟩,
          ⟨some ⟨.d0, .d6, .d7⟩, .move (.t ⟨.d0, .d0, .d0⟩), none⟩,
          ⟨some ⟨.d0, .d7, .d0⟩, .move (.t ⟨.d0, .d1, .d2⟩), none⟩,
          ⟨some ⟨.d0, .d7, .d1⟩, .move (.t ⟨.d0, .d0, .d7⟩), none⟩,
          ⟨some ⟨.d0, .d7, .d2⟩, .bin .sub (.t ⟨.d0, .d7, .d0⟩) (.t ⟨.d0, .d7, .d1⟩), none⟩,
          ⟨some ⟨.d0, .d7, .d3⟩, .strAt (.t ⟨.d0, .d6, .d7⟩) (.t ⟨.d0, .d7, .d2⟩), none⟩,
          ⟨some ⟨.d0, .d7, .d4⟩, .convInt .u32 (.t ⟨.d0, .d7, .d3⟩), none⟩,
          ⟨some ⟨.d0, .d7, .d5⟩, .bin .mul (.t ⟨.d0, .d6, .d6⟩) (.t ⟨.d0, .d7, .d4⟩), none⟩,
          ⟨some ⟨.d0, .d7, .d6⟩, .bin .sub (.t ⟨.d0, .d6, .d5⟩) (.t ⟨.d0, .d7, .d5⟩), none⟩,
          ⟨some ⟨.d0, .d1, .d0⟩, .move (.t ⟨.d0, .d7, .d6⟩), none⟩])
        (.seq (.region [⟨some ⟨.d0, .d7, .d7⟩, .move (.t ⟨.d0, .d1, .d2⟩), none⟩,
          ⟨some ⟨.d1, .d0, .d0⟩, .bin .add (.t ⟨.d0, .d7, .d7⟩) (.c (.int .i64 1)), none⟩,
          ⟨some ⟨.d0, .d1, .d2⟩, .move (.t ⟨.d1, .d0, .d0⟩), none⟩])
        (.seq (.region [⟨some ⟨.d1, .d0, .d1⟩, .move (.t ⟨.d0, .d1, .d0⟩), none⟩,
          ⟨some ⟨.d1, .d0, .d2⟩, .move (.t ⟨.d0, .d0, .d5⟩), none⟩,
          ⟨some ⟨.d1, .d0, .d3⟩, .bin .eql (.t ⟨.d1, .d0, .d1⟩) (.t ⟨.d1, .d0, .d2⟩), none⟩,
          ⟨some ⟨.d1, .d0, .d4⟩, .move (.t ⟨.d1, .d0, .d3⟩), none⟩,
          ⟨some ⟨.d1, .d0, .d5⟩, .move (.t ⟨.d0, .d0, .d0⟩), some (⟨.d1, .d0, .d4⟩, true)⟩,
          ⟨some ⟨.d1, .d0, .d6⟩, .move (.t ⟨.d0, .d1, .d2⟩), some (⟨.d1, .d0, .d4⟩, true)⟩,
          ⟨some ⟨.d1, .d0, .d7⟩, .move (.t ⟨.d0, .d0, .d7⟩), some (⟨.d1, .d0, .d4⟩, true)⟩,
          ⟨some ⟨.d1, .d1, .d0⟩, .bin .sub (.t ⟨.d1, .d0, .d6⟩) (.t ⟨.d1, .d0, .d7⟩), some (⟨.d1, .d0, .d4⟩, true)⟩,
          ⟨some ⟨.d1, .d1, .d1⟩, .move (.t ⟨.d0, .d1, .d2⟩), some (⟨.d1, .d0, .d4⟩, true)⟩,
          ⟨some ⟨.d1, .d1, .d2⟩, .substr (.t ⟨.d1, .d0, .d5⟩) (some (.t ⟨.d1, .d1, .d0⟩)) (some (.t ⟨.d1, .d1, .d1⟩)), some (⟨.d1, .d0, .d4⟩, true)⟩,
          ⟨some ⟨.d1, .d1, .d3⟩, .move (.t ⟨.d0, .d0, .d1⟩), some (⟨.d1, .d0, .d4⟩, true)⟩,
          ⟨some ⟨.d1, .d1, .d4⟩, .sbin .eql (.t ⟨.d1, .d1, .d2⟩) (.t ⟨.d1, .d1, .d3⟩), some (⟨.d1, .d0, .d4⟩, true)⟩,
          ⟨some ⟨.d1, .d1, .d5⟩, .pick (.t ⟨.d1, .d0, .d4⟩) (.t ⟨.d1, .d1, .d4⟩) (.c (.bool false)), none⟩])
        (.cond (.t ⟨.d1, .d1, .d5⟩)
          (.seq (.region [⟨some ⟨.d1, .d1, .d6⟩, .move (.t ⟨.d0, .d1, .d2⟩), none⟩,
            ⟨some ⟨.d1, .d1, .d7⟩, .move (.t ⟨.d0, .d0, .d7⟩), none⟩,
            ⟨some ⟨.d1, .d2, .d0⟩, .bin .sub (.t ⟨.d1, .d1, .d6⟩) (.t ⟨.d1, .d1, .d7⟩), none⟩,
            ⟨some ⟨.d0, .d0, .d4⟩, .move (.t ⟨.d1, .d2, .d0⟩), none⟩])
          (.ret))
          (.skip))))))))))))
  (.seq (.region [⟨some ⟨.d0, .d0, .d4⟩, .move (.c (.int .i64 (-1))), none⟩])
  (.ret))))))))
def r_bytealg_IndexRabinKarp_string : List XR := [.tmp ⟨.d0, .d0, .d4⟩]
theorem ok_bytealg_IndexRabinKarp_string : okC Try.prog Try.f79.ntmps (bodyOf Try.f79) x_bytealg_IndexRabinKarp_string = true := by kernel_rfl
theorem okr_bytealg_IndexRabinKarp_string : okRs Try.prog Try.f79.results.toList r_bytealg_IndexRabinKarp_string = true := by kernel_rfl

/-- bytealg.hashStr -/
def x_bytealg_hashStr_string : XC :=
  .seq (.region [⟨some ⟨.d0, .d0, .d2⟩, .move (.c (.int .u32 0)), none⟩,
    ⟨some ⟨.d0, .d0, .d3⟩, .move (.c (.int .u32 0)), none⟩])
  (.seq (.region [⟨some ⟨.d0, .d0, .d4⟩, .move (.c (.int .u32 0)), none⟩])
  (.seq (.seq (.region [⟨some ⟨.d0, .d0, .d5⟩, .move (.c (.int .i64 0)), none⟩])
  (.block 0
    (.loop
      (.seq (.seq (.region [⟨some ⟨.d0, .d1, .d1⟩, .move (.t ⟨.d0, .d0, .d5⟩), none⟩,
        ⟨some ⟨.d0, .d1, .d2⟩, .move (.t ⟨.d0, .d0, .d0⟩), none⟩,
        ⟨some ⟨.d0, .d1, .d3⟩, .slen (.t ⟨.d0, .d1, .d2⟩), none⟩,
        ⟨some ⟨.d0, .d1, .d4⟩, .bin .lss (.t ⟨.d0, .d1, .d1⟩) (.t ⟨.d0, .d1, .d3⟩), none⟩])
      (.cond (.t ⟨.d0, .d1, .d4⟩)
        (.skip)
        (.exit 0)))
      (.seq (.block 1
        (.region [⟨some ⟨.d0, .d1, .d7⟩, .move (.t ⟨.d0, .d0, .d4⟩), none⟩,
          ⟨some ⟨.d0, .d2, .d0⟩, .bin .mul (.t ⟨.d0, .d1, .d7⟩) (.c (.int .u32 16777619)), none⟩,
          ⟨some ⟨.d0, .d2, .d1⟩, .move (.t ⟨.d0, .d0, .d0⟩), none⟩,
          ⟨some ⟨.d0, .d2, .d2⟩, .move (.t ⟨.d0, .d0, .d5⟩), none⟩,
          ⟨some ⟨.d0, .d2, .d3⟩, .strAt (.t ⟨.d0, .d2, .d1⟩) (.t ⟨.d0, .d2, .d2⟩), none⟩,
          ⟨some ⟨.d0, .d2, .d4⟩, .convInt .u32 (.t ⟨.d0, .d2, .d3⟩), none⟩,
          ⟨some ⟨.d0, .d2, .d5⟩, .bin .add (.t ⟨.d0, .d2, .d0⟩) (.t ⟨.d0, .d2, .d4⟩), none⟩,
          ⟨some ⟨.d0, .d0, .d4⟩, .move (.t ⟨.d0, .d2, .d5⟩), none⟩]))
      (.region [⟨some ⟨.d0, .d1, .d5⟩, .move (.t ⟨.d0, .d0, .d5⟩), none⟩,
        ⟨some ⟨.d0, .d1, .d6⟩, .bin .add (.t ⟨.d0, .d1, .d5⟩) (.c (.int .i64 1)), none⟩,
        ⟨some ⟨.d0, .d0, .d5⟩, .move (.t ⟨.d0, .d1, .d6⟩), none⟩]))))))
  (.seq (.region [⟨some ⟨.d0, .d0, .d6⟩, .move (.c (.int .u32 1)), none⟩,
    ⟨some ⟨.d0, .d0, .d7⟩, .move (.c (.int .u32 16777619)), none⟩])
  (.seq (.seq (.region [⟨some ⟨.d0, .d2, .d6⟩, .move (.t ⟨.d0, .d0, .d0⟩), none⟩,
    ⟨some ⟨.d0, .d2, .d7⟩, .slen (.t ⟨.d0, .d2, .d6⟩), none⟩,
    ⟨some ⟨.d0, .d1, .d0⟩, .move (.t ⟨.d0, .d2, .d7⟩), none⟩])
  (.block 2
    (.loop
      (.seq (.seq (.region [⟨some ⟨.d0, .d3, .d0⟩, .move (.t ⟨.d0, .d1, .d0⟩), none⟩,
        ⟨some ⟨.d0, .d3, .d1⟩, .bin .gtr (.t ⟨.d0, .d3, .d0⟩) (.c (.int .i64 0)), none⟩])
      (.cond (.t ⟨.d0, .d3, .d1⟩)
        (.skip)
        (.exit 2)))
      (.seq (.block 3
        (.seq (.seq (.region [⟨some ⟨.d0, .d3, .d4⟩, .move (.t ⟨.d0, .d1, .d0⟩), none⟩,
          ⟨some ⟨.d0, .d3, .d5⟩, .bin .and (.t ⟨.d0, .d3, .d4⟩) (.c (.int .i64 1)), none⟩,
          ⟨some ⟨.d0, .d3, .d6⟩, .bin .neq (.t ⟨.d0, .d3, .d5⟩) (.c (.int .i64 0)), none⟩])
        (.cond (.t ⟨.d0, .d3, .d6⟩)
          (.region [⟨some ⟨.d0, .d3, .d7⟩, .move (.t ⟨.d0, .d0, .d6⟩), none⟩,
            ⟨some ⟨.d0, .d4, .d0⟩, .move (.t ⟨.d0, .d0, .d7⟩), none⟩,
            ⟨some ⟨.d0, .d4, .d1⟩, .bin .mul (.t ⟨.d0, .d3, .d7⟩) (.t ⟨.d0, .d4, .d0⟩), none⟩,
            ⟨some ⟨.d0, .d0, .d6⟩, .move (.t ⟨.d0, .d4, .d1⟩), none⟩])
          (.skip)))
        (.region [⟨some ⟨.d0, .d4, .d2⟩, .move (.t ⟨.d0, .d0, .d7⟩), none⟩,
          ⟨some ⟨.d0, .d4, .d3⟩, .move (.t ⟨.d0, .d0, .d7⟩), none⟩,
          ⟨some ⟨.d0, .d4, .d4⟩, .bin .mul (.t ⟨.d0, .d4, .d2⟩) (.t ⟨.d0, .d4, .d3⟩), none⟩,
          ⟨some ⟨.d0, .d0, .d7⟩, .move (.t ⟨.d0, .d4, .d4⟩), none⟩])))
      (.region [⟨some ⟨.d0, .d3, .d2⟩, .move (.t ⟨.d0, .d1, .d0⟩), none⟩,
        ⟨some ⟨.d0, .d3, .d3⟩, .bin .shr (.t ⟨.d0, .d3, .d2⟩) (.c (.int .u64 1)), none⟩,
        ⟨some ⟨.d0, .d1, .d0⟩, .move (.t ⟨.d0, .d3, .d3⟩), none⟩]))))))
  (.seq (.region [⟨some ⟨.d0, .d4, .d5⟩, .move (.t ⟨.d0, .d0, .d4⟩), none⟩,
    ⟨some ⟨.d0, .d4, .d6⟩, .move (.t ⟨.d0, .d0, .d6⟩), none⟩,
    ⟨some ⟨.d0, .d0, .d2⟩, .move (.t ⟨.d0, .d4, .d5⟩), none⟩,
    ⟨some ⟨.d0, .d0, .d3⟩, .move (.t ⟨.d0, .d4, .d6⟩), none⟩])
  (.ret))))))
def r_bytealg_hashStr_string : List XR := [.tmp ⟨.d0, .d0, .d2⟩, .tmp ⟨.d0, .d0, .d3⟩]
theorem ok_bytealg_hashStr_string : okC Try.prog Try.f81.ntmps (bodyOf Try.f81) x_bytealg_hashStr_string = true := by kernel_rfl
theorem okr_bytealg_hashStr_string : okRs Try.prog Try.f81.results.toList r_bytealg_hashStr_string = true := by kernel_rfl
end Go.Proofs.Ytegnfpmbmbbaiaa
