/-
  The functions of the program in short form, and that the model's code is what they stand for. Printed by xgen.py.
-/
import Derived.Test.YtmkdgnocbjbijaaFw
import Derived.Test.YtmkdgnocbjbijaaProg
import Derived.KernelRfl
namespace Go.Proofs.Ytmkdgnocbjbijaa
set_option linter.unusedVariables false
set_option maxRecDepth 100000

/-- custlaw.CookieSays -/
def x_custlaw_CookieSays : XC :=
  .seq (.region [⟨some ⟨.d0, .d1, .d0⟩, .box 0 2 (.t ⟨.d0, .d0, .d0⟩), none⟩,
    ⟨some ⟨.d0, .d1, .d1⟩, .box 1 4 (.t ⟨.d0, .d0, .d1⟩), none⟩,
    ⟨some ⟨.d0, .d2, .d0⟩, .move (.c (.bool false)), none⟩])
  (.seq (.region [⟨some ⟨.d0, .d3, .d6⟩, .load true 2 (.t ⟨.d0, .d1, .d0⟩), none⟩,
    ⟨some ⟨.d0, .d3, .d7⟩, .load true 4 (.t ⟨.d0, .d1, .d1⟩), none⟩,
    ⟨some ⟨.d0, .d4, .d0⟩, .move (.t ⟨.d0, .d0, .d2⟩), none⟩,
    ⟨some ⟨.d0, .d4, .d1⟩, .move (.t ⟨.d0, .d0, .d4⟩), none⟩,
    ⟨some ⟨.d0, .d4, .d2⟩, .move (.t ⟨.d0, .d0, .d5⟩), none⟩,
    ⟨some ⟨.d0, .d4, .d3⟩, .call 31 [(.t ⟨.d0, .d3, .d6⟩), (.t ⟨.d0, .d3, .d7⟩), (.t ⟨.d0, .d4, .d0⟩), (.t ⟨.d0, .d4, .d1⟩), (.t ⟨.d0, .d4, .d2⟩)], none⟩,
    ⟨some ⟨.d0, .d3, .d5⟩, .move (.t ⟨.d0, .d4, .d3⟩), none⟩,
    ⟨some ⟨.d0, .d4, .d4⟩, .extract 0 (.t ⟨.d0, .d3, .d5⟩), none⟩,
    ⟨some ⟨.d0, .d4, .d5⟩, .extract 1 (.t ⟨.d0, .d3, .d5⟩), none⟩,
    ⟨some ⟨.d0, .d2, .d1⟩, .move (.t ⟨.d0, .d4, .d4⟩), none⟩,
    ⟨some ⟨.d0, .d2, .d2⟩, .move (.t ⟨.d0, .d4, .d5⟩), none⟩])
  (.seq (.region [⟨some ⟨.d0, .d4, .d7⟩, .load true 2 (.t ⟨.d0, .d1, .d0⟩), none⟩,
    ⟨some ⟨.d0, .d5, .d0⟩, .load true 4 (.t ⟨.d0, .d1, .d1⟩), none⟩,
    ⟨some ⟨.d0, .d5, .d1⟩, .move (.t ⟨.d0, .d0, .d2⟩), none⟩,
    ⟨some ⟨.d0, .d5, .d2⟩, .move (.t ⟨.d0, .d0, .d4⟩), none⟩,
    ⟨some ⟨.d0, .d5, .d3⟩, .move (.t ⟨.d0, .d0, .d5⟩), none⟩,
    ⟨some ⟨.d0, .d5, .d4⟩, .call 32 [(.t ⟨.d0, .d4, .d7⟩), (.t ⟨.d0, .d5, .d0⟩), (.t ⟨.d0, .d5, .d1⟩), (.t ⟨.d0, .d5, .d2⟩), (.t ⟨.d0, .d5, .d3⟩)], none⟩,
    ⟨some ⟨.d0, .d4, .d6⟩, .move (.t ⟨.d0, .d5, .d4⟩), none⟩,
    ⟨some ⟨.d0, .d5, .d5⟩, .extract 0 (.t ⟨.d0, .d4, .d6⟩), none⟩,
    ⟨some ⟨.d0, .d5, .d6⟩, .extract 1 (.t ⟨.d0, .d4, .d6⟩), none⟩,
    ⟨some ⟨.d0, .d2, .d3⟩, .move (.t ⟨.d0, .d5, .d5⟩), none⟩,
    ⟨some ⟨.d0, .d2, .d4⟩, .move (.t ⟨.d0, .d5, .d6⟩), none⟩])
  (.seq (.region [⟨some ⟨.d0, .d6, .d0⟩, .load true 2 (.t ⟨.d0, .d1, .d0⟩), none⟩,
    ⟨some ⟨.d0, .d6, .d1⟩, .load true 4 (.t ⟨.d0, .d1, .d1⟩), none⟩,
    ⟨some ⟨.d0, .d6, .d2⟩, .move (.t ⟨.d0, .d0, .d2⟩), none⟩,
    ⟨some ⟨.d0, .d6, .d3⟩, .move (.t ⟨.d0, .d0, .d3⟩), none⟩,
    ⟨some ⟨.d0, .d6, .d4⟩, .move (.t ⟨.d0, .d0, .d6⟩), none⟩,
    ⟨some ⟨.d0, .d6, .d5⟩, .call 33 [(.t ⟨.d0, .d6, .d0⟩), (.t ⟨.d0, .d6, .d1⟩), (.t ⟨.d0, .d6, .d2⟩), (.t ⟨.d0, .d6, .d3⟩), (.t ⟨.d0, .d6, .d4⟩)], none⟩,
    ⟨some ⟨.d0, .d5, .d7⟩, .move (.t ⟨.d0, .d6, .d5⟩), none⟩,
    ⟨some ⟨.d0, .d6, .d6⟩, .extract 0 (.t ⟨.d0, .d5, .d7⟩), none⟩,
    ⟨some ⟨.d0, .d6, .d7⟩, .extract 1 (.t ⟨.d0, .d5, .d7⟩), none⟩,
    ⟨some ⟨.d0, .d2, .d5⟩, .move (.t ⟨.d0, .d6, .d6⟩), none⟩,
    ⟨some ⟨.d0, .d2, .d6⟩, .move (.t ⟨.d0, .d6, .d7⟩), none⟩])
  (.seq (.region [⟨some ⟨.d0, .d7, .d1⟩, .load true 2 (.t ⟨.d0, .d1, .d0⟩), none⟩,
    ⟨some ⟨.d0, .d7, .d2⟩, .load true 4 (.t ⟨.d0, .d1, .d1⟩), none⟩,
    ⟨some ⟨.d0, .d7, .d3⟩, .move (.t ⟨.d0, .d0, .d2⟩), none⟩,
    ⟨some ⟨.d0, .d7, .d4⟩, .move (.t ⟨.d0, .d0, .d3⟩), none⟩,
    ⟨some ⟨.d0, .d7, .d5⟩, .move (.t ⟨.d0, .d0, .d6⟩), none⟩,
    ⟨some ⟨.d0, .d7, .d6⟩, .call 34 [(.t ⟨.d0, .d7, .d1⟩), (.t ⟨.d0, .d7, .d2⟩), (.t ⟨.d0, .d7, .d3⟩), (.t ⟨.d0, .d7, .d4⟩), (.t ⟨.d0, .d7, .d5⟩)], none⟩,
    ⟨some ⟨.d0, .d7, .d0⟩, .move (.t ⟨.d0, .d7, .d6⟩), none⟩,
    ⟨some ⟨.d0, .d7, .d7⟩, .extract 0 (.t ⟨.d0, .d7, .d0⟩), none⟩,
    ⟨some ⟨.d1, .d0, .d0⟩, .extract 1 (.t ⟨.d0, .d7, .d0⟩), none⟩,
    ⟨some ⟨.d0, .d2, .d7⟩, .move (.t ⟨.d0, .d7, .d7⟩), none⟩,
    ⟨some ⟨.d0, .d3, .d0⟩, .move (.t ⟨.d1, .d0, .d0⟩), none⟩])
  (.seq (.region [⟨some ⟨.d1, .d0, .d1⟩, .call 35 [], none⟩,
    ⟨some ⟨.d0, .d3, .d1⟩, .alloc 2 [.int .i64 0, .int .i64 0, .int .i64 0, .int .i64 0, .int .i64 0, .int .i64 0, .int .i64 0, .int .i64 0], none⟩,
    ⟨none, .store 8 (.t ⟨.d0, .d3, .d1⟩) (.t ⟨.d1, .d0, .d1⟩), none⟩])
  (.seq (.region [⟨some ⟨.d0, .d3, .d2⟩, .move (.c (.int .i64 0)), none⟩])
  (.seq (.seq (.region [⟨some ⟨.d1, .d0, .d2⟩, .call 36 [], none⟩,
    ⟨some ⟨.d1, .d0, .d3⟩, .len (.t ⟨.d1, .d0, .d2⟩), none⟩,
    ⟨some ⟨.d1, .d0, .d4⟩, .move (.c (.int .i64 0)), none⟩])
  (.block 0
    (.loop
      (.seq (.region [⟨some ⟨.d1, .d0, .d5⟩, .bin .lss (.t ⟨.d1, .d0, .d4⟩) (.t ⟨.d1, .d0, .d3⟩), none⟩])
      (.seq (.cond (.t ⟨.d1, .d0, .d5⟩)
        (.skip)
        (.exit 0))
      (.seq (.block 1
        (.seq (.region [⟨some ⟨.d1, .d0, .d6⟩, .move (.t ⟨.d1, .d0, .d4⟩), none⟩,
          ⟨some ⟨.d1, .d0, .d7⟩, .indexSl 1 (.t ⟨.d1, .d0, .d2⟩) (.t ⟨.d1, .d0, .d4⟩), none⟩,
          ⟨some ⟨.d1, .d1, .d0⟩, .load false 1 (.t ⟨.d1, .d0, .d7⟩), none⟩,
          ⟨some ⟨.d0, .d3, .d3⟩, .move (.t ⟨.d1, .d0, .d6⟩), none⟩,
          ⟨some ⟨.d0, .d3, .d4⟩, .move (.t ⟨.d1, .d1, .d0⟩), none⟩])
        (.seq (.region [⟨some ⟨.d1, .d1, .d1⟩, .move (.t ⟨.d0, .d3, .d4⟩), none⟩,
          ⟨some ⟨.d1, .d1, .d2⟩, .move (.t ⟨.d0, .d0, .d7⟩), none⟩,
          ⟨some ⟨.d1, .d1, .d3⟩, .bin .leq (.t ⟨.d1, .d1, .d1⟩) (.t ⟨.d1, .d1, .d2⟩), none⟩])
        (.cond (.t ⟨.d1, .d1, .d3⟩)
          (.region [⟨some ⟨.d1, .d1, .d4⟩, .move (.t ⟨.d0, .d3, .d3⟩), none⟩,
            ⟨some ⟨.d0, .d3, .d2⟩, .move (.t ⟨.d1, .d1, .d4⟩), none⟩])
          (.skip)))))
      (.region [⟨some ⟨.d1, .d1, .d5⟩, .bin .add (.t ⟨.d1, .d0, .d4⟩) (.c (.int .i64 1)), none⟩,
        ⟨some ⟨.d1, .d0, .d4⟩, .move (.t ⟨.d1, .d1, .d5⟩), none⟩])))))))
  (.seq (.regionD [0, 0, 3, 7, 15, 15, 63, 127, 255, 511, 511, 2047, 4095, 8191, 16383, 16383, 65535, 131071, 262143, 524287, 524287, 2097151, 4194303, 8388607, 16777215, 33554431, 16777215, 134217727, 268435455, 536870911] [⟨some ⟨.d1, .d1, .d6⟩, .move (.t ⟨.d0, .d2, .d1⟩), none⟩,
    ⟨some ⟨.d1, .d1, .d7⟩, .move (.t ⟨.d0, .d2, .d3⟩), none⟩,
    ⟨some ⟨.d1, .d2, .d0⟩, .bin .eql (.t ⟨.d1, .d1, .d6⟩) (.t ⟨.d1, .d1, .d7⟩), none⟩,
    ⟨some ⟨.d1, .d2, .d1⟩, .move (.t ⟨.d1, .d2, .d0⟩), none⟩,
    ⟨some ⟨.d1, .d2, .d2⟩, .move (.t ⟨.d0, .d2, .d2⟩), some (⟨.d1, .d2, .d1⟩, true)⟩,
    ⟨some ⟨.d1, .d2, .d3⟩, .move (.t ⟨.d0, .d2, .d4⟩), some (⟨.d1, .d2, .d1⟩, true)⟩,
    ⟨some ⟨.d1, .d2, .d4⟩, .bin .eql (.t ⟨.d1, .d2, .d2⟩) (.t ⟨.d1, .d2, .d3⟩), some (⟨.d1, .d2, .d1⟩, true)⟩,
    ⟨some ⟨.d1, .d2, .d5⟩, .pick (.t ⟨.d1, .d2, .d1⟩) (.t ⟨.d1, .d2, .d4⟩) (.c (.bool false)), none⟩,
    ⟨some ⟨.d1, .d2, .d6⟩, .move (.t ⟨.d1, .d2, .d5⟩), none⟩,
    ⟨some ⟨.d1, .d2, .d7⟩, .move (.t ⟨.d0, .d2, .d5⟩), some (⟨.d1, .d2, .d6⟩, true)⟩,
    ⟨some ⟨.d1, .d3, .d0⟩, .move (.t ⟨.d0, .d2, .d7⟩), some (⟨.d1, .d2, .d6⟩, true)⟩,
    ⟨some ⟨.d1, .d3, .d1⟩, .bin .eql (.t ⟨.d1, .d2, .d7⟩) (.t ⟨.d1, .d3, .d0⟩), some (⟨.d1, .d2, .d6⟩, true)⟩,
    ⟨some ⟨.d1, .d3, .d2⟩, .pick (.t ⟨.d1, .d2, .d6⟩) (.t ⟨.d1, .d3, .d1⟩) (.c (.bool false)), none⟩,
    ⟨some ⟨.d1, .d3, .d3⟩, .move (.t ⟨.d1, .d3, .d2⟩), none⟩,
    ⟨some ⟨.d1, .d3, .d4⟩, .move (.t ⟨.d0, .d2, .d6⟩), some (⟨.d1, .d3, .d3⟩, true)⟩,
    ⟨some ⟨.d1, .d3, .d5⟩, .move (.t ⟨.d0, .d3, .d0⟩), some (⟨.d1, .d3, .d3⟩, true)⟩,
    ⟨some ⟨.d1, .d3, .d6⟩, .bin .eql (.t ⟨.d1, .d3, .d4⟩) (.t ⟨.d1, .d3, .d5⟩), some (⟨.d1, .d3, .d3⟩, true)⟩,
    ⟨some ⟨.d1, .d3, .d7⟩, .pick (.t ⟨.d1, .d3, .d3⟩) (.t ⟨.d1, .d3, .d6⟩) (.c (.bool false)), none⟩,
    ⟨some ⟨.d1, .d4, .d0⟩, .move (.t ⟨.d1, .d3, .d7⟩), none⟩,
    ⟨some ⟨.d1, .d4, .d1⟩, .sliceA 1 8 (.t ⟨.d0, .d3, .d1⟩), some (⟨.d1, .d4, .d0⟩, true)⟩,
    ⟨some ⟨.d1, .d4, .d2⟩, .call 36 [], some (⟨.d1, .d4, .d0⟩, true)⟩,
    ⟨some ⟨.d1, .d4, .d3⟩, .call 30 [(.t ⟨.d1, .d4, .d1⟩), (.t ⟨.d1, .d4, .d2⟩)], some (⟨.d1, .d4, .d0⟩, true)⟩,
    ⟨some ⟨.d1, .d4, .d4⟩, .pick (.t ⟨.d1, .d4, .d0⟩) (.t ⟨.d1, .d4, .d3⟩) (.c (.bool false)), none⟩,
    ⟨some ⟨.d1, .d4, .d5⟩, .move (.t ⟨.d1, .d4, .d4⟩), none⟩,
    ⟨some ⟨.d1, .d4, .d6⟩, .move (.t ⟨.d0, .d0, .d7⟩), some (⟨.d1, .d4, .d5⟩, true)⟩,
    ⟨some ⟨.d1, .d4, .d7⟩, .call 37 [(.t ⟨.d1, .d4, .d6⟩)], some (⟨.d1, .d4, .d5⟩, true)⟩,
    ⟨some ⟨.d1, .d5, .d0⟩, .move (.t ⟨.d0, .d3, .d2⟩), some (⟨.d1, .d4, .d5⟩, true)⟩,
    ⟨some ⟨.d1, .d5, .d1⟩, .bin .eql (.t ⟨.d1, .d4, .d7⟩) (.t ⟨.d1, .d5, .d0⟩), some (⟨.d1, .d4, .d5⟩, true)⟩,
    ⟨some ⟨.d1, .d5, .d2⟩, .pick (.t ⟨.d1, .d4, .d5⟩) (.t ⟨.d1, .d5, .d1⟩) (.c (.bool false)), none⟩,
    ⟨some ⟨.d0, .d2, .d0⟩, .move (.t ⟨.d1, .d5, .d2⟩), none⟩])
  (.ret)))))))))
def r_custlaw_CookieSays : List XR := [.tmp ⟨.d0, .d2, .d0⟩]
theorem ok_custlaw_CookieSays : okC Try.prog Try.f7.ntmps (bodyOf Try.f7) x_custlaw_CookieSays = true := by kernel_rfl
theorem okr_custlaw_CookieSays : okRs Try.prog Try.f7.results.toList r_custlaw_CookieSays = true := by kernel_rfl

/-- custref.Between -/
def x_custref_Between : XC :=
  .seq (.region [⟨some ⟨.d0, .d0, .d6⟩, .move (.c (.bool false)), none⟩])
  (.seq (.region [⟨some ⟨.d0, .d0, .d7⟩, .move (.t ⟨.d0, .d0, .d1⟩), none⟩,
    ⟨some ⟨.d0, .d1, .d0⟩, .move (.t ⟨.d0, .d0, .d0⟩), none⟩,
    ⟨some ⟨.d0, .d1, .d1⟩, .bin .leq (.t ⟨.d0, .d0, .d7⟩) (.t ⟨.d0, .d1, .d0⟩), none⟩,
    ⟨some ⟨.d0, .d1, .d2⟩, .move (.t ⟨.d0, .d1, .d1⟩), none⟩,
    ⟨some ⟨.d0, .d1, .d3⟩, .move (.t ⟨.d0, .d0, .d0⟩), some (⟨.d0, .d1, .d2⟩, true)⟩,
    ⟨some ⟨.d0, .d1, .d4⟩, .move (.t ⟨.d0, .d0, .d2⟩), some (⟨.d0, .d1, .d2⟩, true)⟩,
    ⟨some ⟨.d0, .d1, .d5⟩, .bin .leq (.t ⟨.d0, .d1, .d3⟩) (.t ⟨.d0, .d1, .d4⟩), some (⟨.d0, .d1, .d2⟩, true)⟩,
    ⟨some ⟨.d0, .d1, .d6⟩, .pick (.t ⟨.d0, .d1, .d2⟩) (.t ⟨.d0, .d1, .d5⟩) (.c (.bool false)), none⟩,
    ⟨some ⟨.d0, .d0, .d6⟩, .move (.t ⟨.d0, .d1, .d6⟩), none⟩])
  (.ret))
def r_custref_Between : List XR := [.tmp ⟨.d0, .d0, .d6⟩]
theorem ok_custref_Between : okC Try.prog Try.f10.ntmps (bodyOf Try.f10) x_custref_Between = true := by kernel_rfl
theorem okr_custref_Between : okRs Try.prog Try.f10.results.toList r_custref_Between = true := by kernel_rfl

/-- slices.Equal -/
def x_slices_Equal_int : XC :=
  .seq (.region [⟨some ⟨.d0, .d0, .d4⟩, .move (.c (.bool false)), none⟩])
  (.seq (.seq (.region [⟨some ⟨.d0, .d0, .d6⟩, .move (.t ⟨.d0, .d0, .d0⟩), none⟩,
    ⟨some ⟨.d0, .d0, .d7⟩, .len (.t ⟨.d0, .d0, .d6⟩), none⟩,
    ⟨some ⟨.d0, .d1, .d0⟩, .move (.t ⟨.d0, .d0, .d1⟩), none⟩,
    ⟨some ⟨.d0, .d1, .d1⟩, .len (.t ⟨.d0, .d1, .d0⟩), none⟩,
    ⟨some ⟨.d0, .d1, .d2⟩, .bin .neq (.t ⟨.d0, .d0, .d7⟩) (.t ⟨.d0, .d1, .d1⟩), none⟩])
  (.cond (.t ⟨.d0, .d1, .d2⟩)
    (.seq (.region [⟨some ⟨.d0, .d0, .d4⟩, .move (.c (.bool false)), none⟩])
    (.ret))
    (.skip)))
  (.seq (.seq (.region [⟨some ⟨.d0, .d1, .d3⟩, .move (.t ⟨.d0, .d0, .d0⟩), none⟩,
    ⟨some ⟨.d0, .d1, .d4⟩, .len (.t ⟨.d0, .d1, .d3⟩), none⟩,
    ⟨some ⟨.d0, .d1, .d5⟩, .move (.c (.int .i64 0)), none⟩])
  (.block 0
    (.loop
      (.seq (.region [⟨some ⟨.d0, .d1, .d6⟩, .bin .lss (.t ⟨.d0, .d1, .d5⟩) (.t ⟨.d0, .d1, .d4⟩), none⟩])
      (.seq (.cond (.t ⟨.d0, .d1, .d6⟩)
        (.skip)
        (.exit 0))
      (.seq (.block 1
        (.seq (.region [⟨some ⟨.d0, .d1, .d7⟩, .move (.t ⟨.d0, .d1, .d5⟩), none⟩,
          ⟨some ⟨.d0, .d0, .d5⟩, .move (.t ⟨.d0, .d1, .d7⟩), none⟩])
        (.seq (.regionD [0, 0, 3, 7, 0, 0, 48, 112, 255] [⟨some ⟨.d0, .d2, .d0⟩, .move (.t ⟨.d0, .d0, .d0⟩), none⟩,
          ⟨some ⟨.d0, .d2, .d1⟩, .move (.t ⟨.d0, .d0, .d5⟩), none⟩,
          ⟨some ⟨.d0, .d2, .d2⟩, .indexSl 1 (.t ⟨.d0, .d2, .d0⟩) (.t ⟨.d0, .d2, .d1⟩), none⟩,
          ⟨some ⟨.d0, .d2, .d3⟩, .load false 1 (.t ⟨.d0, .d2, .d2⟩), none⟩,
          ⟨some ⟨.d0, .d2, .d4⟩, .move (.t ⟨.d0, .d0, .d1⟩), none⟩,
          ⟨some ⟨.d0, .d2, .d5⟩, .move (.t ⟨.d0, .d0, .d5⟩), none⟩,
          ⟨some ⟨.d0, .d2, .d6⟩, .indexSl 1 (.t ⟨.d0, .d2, .d4⟩) (.t ⟨.d0, .d2, .d5⟩), none⟩,
          ⟨some ⟨.d0, .d2, .d7⟩, .load false 1 (.t ⟨.d0, .d2, .d6⟩), none⟩,
          ⟨some ⟨.d0, .d3, .d0⟩, .bin .neq (.t ⟨.d0, .d2, .d3⟩) (.t ⟨.d0, .d2, .d7⟩), none⟩])
        (.cond (.t ⟨.d0, .d3, .d0⟩)
          (.seq (.region [⟨some ⟨.d0, .d0, .d4⟩, .move (.c (.bool false)), none⟩])
          (.ret))
          (.skip)))))
      (.region [⟨some ⟨.d0, .d3, .d1⟩, .bin .add (.t ⟨.d0, .d1, .d5⟩) (.c (.int .i64 1)), none⟩,
        ⟨some ⟨.d0, .d1, .d5⟩, .move (.t ⟨.d0, .d3, .d1⟩), none⟩])))))))
  (.seq (.region [⟨some ⟨.d0, .d0, .d4⟩, .move (.c (.bool true)), none⟩])
  (.ret))))
def r_slices_Equal_int : List XR := [.tmp ⟨.d0, .d0, .d4⟩]
theorem ok_slices_Equal_int : okC Try.prog Try.f30.ntmps (bodyOf Try.f30) x_slices_Equal_int = true := by kernel_rfl
theorem okr_slices_Equal_int : okRs Try.prog Try.f30.results.toList r_slices_Equal_int = true := by kernel_rfl

/-- cookie.Make -/
def x_cookie_Make : XC :=
  .seq (.region [⟨some ⟨.d0, .d0, .d5⟩, .box 0 2 (.t ⟨.d0, .d0, .d0⟩), none⟩,
    ⟨some ⟨.d0, .d0, .d6⟩, .box 1 4 (.t ⟨.d0, .d0, .d1⟩), none⟩,
    ⟨some ⟨.d0, .d1, .d2⟩, .move (.c (.int .u32 0)), none⟩,
    ⟨some ⟨.d0, .d1, .d3⟩, .move (.c (.int .i64 0)), none⟩])
  (.seq (.seq (.region [⟨some ⟨.d0, .d1, .d5⟩, .fieldAddr 2 (.t ⟨.d0, .d0, .d6⟩), none⟩,
    ⟨some ⟨.d0, .d1, .d6⟩, .load false 1 (.t ⟨.d0, .d1, .d5⟩), none⟩,
    ⟨some ⟨.d0, .d1, .d7⟩, .call 56 [(.t ⟨.d0, .d1, .d6⟩)], none⟩,
    ⟨some ⟨.d0, .d2, .d0⟩, .un .not (.t ⟨.d0, .d1, .d7⟩), none⟩,
    ⟨some ⟨.d0, .d2, .d1⟩, .move (.t ⟨.d0, .d2, .d0⟩), none⟩,
    ⟨some ⟨.d0, .d2, .d2⟩, .fieldAddr 3 (.t ⟨.d0, .d0, .d6⟩), some (⟨.d0, .d2, .d1⟩, false)⟩,
    ⟨some ⟨.d0, .d2, .d3⟩, .load false 1 (.t ⟨.d0, .d2, .d2⟩), some (⟨.d0, .d2, .d1⟩, false)⟩,
    ⟨some ⟨.d0, .d2, .d4⟩, .call 56 [(.t ⟨.d0, .d2, .d3⟩)], some (⟨.d0, .d2, .d1⟩, false)⟩,
    ⟨some ⟨.d0, .d2, .d5⟩, .un .not (.t ⟨.d0, .d2, .d4⟩), some (⟨.d0, .d2, .d1⟩, false)⟩,
    ⟨some ⟨.d0, .d2, .d6⟩, .pick (.t ⟨.d0, .d2, .d1⟩) (.c (.bool true)) (.t ⟨.d0, .d2, .d5⟩), none⟩,
    ⟨some ⟨.d0, .d2, .d7⟩, .move (.t ⟨.d0, .d2, .d6⟩), none⟩,
    ⟨some ⟨.d0, .d3, .d0⟩, .move (.t ⟨.d0, .d0, .d3⟩), some (⟨.d0, .d2, .d7⟩, false)⟩,
    ⟨some ⟨.d0, .d3, .d1⟩, .bin .lss (.t ⟨.d0, .d3, .d0⟩) (.c (.int .i64 0)), some (⟨.d0, .d2, .d7⟩, false)⟩,
    ⟨some ⟨.d0, .d3, .d2⟩, .pick (.t ⟨.d0, .d2, .d7⟩) (.c (.bool true)) (.t ⟨.d0, .d3, .d1⟩), none⟩,
    ⟨some ⟨.d0, .d3, .d3⟩, .move (.t ⟨.d0, .d3, .d2⟩), none⟩,
    ⟨some ⟨.d0, .d3, .d4⟩, .move (.t ⟨.d0, .d0, .d3⟩), some (⟨.d0, .d3, .d3⟩, false)⟩,
    ⟨some ⟨.d0, .d3, .d5⟩, .bin .gtr (.t ⟨.d0, .d3, .d4⟩) (.c (.int .i64 31)), some (⟨.d0, .d3, .d3⟩, false)⟩,
    ⟨some ⟨.d0, .d3, .d6⟩, .pick (.t ⟨.d0, .d3, .d3⟩) (.c (.bool true)) (.t ⟨.d0, .d3, .d5⟩), none⟩,
    ⟨some ⟨.d0, .d3, .d7⟩, .move (.t ⟨.d0, .d3, .d6⟩), none⟩,
    ⟨some ⟨.d0, .d4, .d0⟩, .move (.t ⟨.d0, .d0, .d4⟩), some (⟨.d0, .d3, .d7⟩, false)⟩,
    ⟨some ⟨.d0, .d4, .d1⟩, .bin .lss (.t ⟨.d0, .d4, .d0⟩) (.c (.int .i64 0)), some (⟨.d0, .d3, .d7⟩, false)⟩,
    ⟨some ⟨.d0, .d4, .d2⟩, .pick (.t ⟨.d0, .d3, .d7⟩) (.c (.bool true)) (.t ⟨.d0, .d4, .d1⟩), none⟩,
    ⟨some ⟨.d0, .d4, .d3⟩, .move (.t ⟨.d0, .d4, .d2⟩), none⟩,
    ⟨some ⟨.d0, .d4, .d4⟩, .move (.t ⟨.d0, .d0, .d4⟩), some (⟨.d0, .d4, .d3⟩, false)⟩,
    ⟨some ⟨.d0, .d4, .d5⟩, .bin .gtr (.t ⟨.d0, .d4, .d4⟩) (.c (.int .i64 7)), some (⟨.d0, .d4, .d3⟩, false)⟩,
    ⟨some ⟨.d0, .d4, .d6⟩, .pick (.t ⟨.d0, .d4, .d3⟩) (.c (.bool true)) (.t ⟨.d0, .d4, .d5⟩), none⟩])
  (.cond (.t ⟨.d0, .d4, .d6⟩)
    (.seq (.region [⟨some ⟨.d0, .d1, .d2⟩, .move (.c (.int .u32 0)), none⟩,
      ⟨some ⟨.d0, .d1, .d3⟩, .move (.c (.int .i64 1)), none⟩])
    (.ret))
    (.skip)))
  (.seq (.regionD [0, 1, 3, 0, 8, 31, 63, 0, 128, 384, 0, 1024, 3968, 8064, 16319, 32767, 0, 98239, 262143, 0, 524288, 0, 2097152, 7864320, 16252928, 33554431, 67108863] [⟨some ⟨.d0, .d4, .d7⟩, .fieldAddr 0 (.t ⟨.d0, .d0, .d6⟩), none⟩,
    ⟨some ⟨.d0, .d5, .d0⟩, .load false 1 (.t ⟨.d0, .d4, .d7⟩), none⟩,
    ⟨some ⟨.d0, .d5, .d1⟩, .call 57 [(.t ⟨.d0, .d5, .d0⟩)], none⟩,
    ⟨some ⟨.d0, .d5, .d2⟩, .fieldAddr 1 (.t ⟨.d0, .d0, .d6⟩), none⟩,
    ⟨some ⟨.d0, .d5, .d3⟩, .load false 1 (.t ⟨.d0, .d5, .d2⟩), none⟩,
    ⟨some ⟨.d0, .d5, .d4⟩, .call 57 [(.t ⟨.d0, .d5, .d3⟩)], none⟩,
    ⟨some ⟨.d0, .d5, .d5⟩, .sbin .add (.t ⟨.d0, .d5, .d1⟩) (.t ⟨.d0, .d5, .d4⟩), none⟩,
    ⟨some ⟨.d0, .d5, .d6⟩, .fieldAddr 2 (.t ⟨.d0, .d0, .d6⟩), none⟩,
    ⟨some ⟨.d0, .d5, .d7⟩, .load false 1 (.t ⟨.d0, .d5, .d6⟩), none⟩,
    ⟨some ⟨.d0, .d6, .d0⟩, .bin .shl (.t ⟨.d0, .d5, .d7⟩) (.c (.int .u64 16)), none⟩,
    ⟨some ⟨.d0, .d6, .d1⟩, .fieldAddr 3 (.t ⟨.d0, .d0, .d6⟩), none⟩,
    ⟨some ⟨.d0, .d6, .d2⟩, .load false 1 (.t ⟨.d0, .d6, .d1⟩), none⟩,
    ⟨some ⟨.d0, .d6, .d3⟩, .bin .or (.t ⟨.d0, .d6, .d0⟩) (.t ⟨.d0, .d6, .d2⟩), none⟩,
    ⟨some ⟨.d0, .d6, .d4⟩, .convInt .u32 (.t ⟨.d0, .d6, .d3⟩), none⟩,
    ⟨some ⟨.d0, .d6, .d5⟩, .call 57 [(.t ⟨.d0, .d6, .d4⟩)], none⟩,
    ⟨some ⟨.d0, .d6, .d6⟩, .sbin .add (.t ⟨.d0, .d5, .d5⟩) (.t ⟨.d0, .d6, .d5⟩), none⟩,
    ⟨some ⟨.d0, .d6, .d7⟩, .move (.t ⟨.d0, .d0, .d2⟩), none⟩,
    ⟨some ⟨.d0, .d7, .d0⟩, .call 57 [(.t ⟨.d0, .d6, .d7⟩)], none⟩,
    ⟨some ⟨.d0, .d7, .d1⟩, .sbin .add (.t ⟨.d0, .d6, .d6⟩) (.t ⟨.d0, .d7, .d0⟩), none⟩,
    ⟨some ⟨.d0, .d7, .d2⟩, .move (.t ⟨.d0, .d0, .d3⟩), none⟩,
    ⟨some ⟨.d0, .d7, .d3⟩, .convInt .u8 (.t ⟨.d0, .d7, .d2⟩), none⟩,
    ⟨some ⟨.d0, .d7, .d4⟩, .move (.t ⟨.d0, .d0, .d4⟩), none⟩,
    ⟨some ⟨.d0, .d7, .d5⟩, .convInt .u8 (.t ⟨.d0, .d7, .d4⟩), none⟩,
    ⟨some ⟨.d0, .d7, .d6⟩, .buildSlice 2 2 [.int .u8 0] [(0, (.t ⟨.d0, .d7, .d3⟩)), (1, (.t ⟨.d0, .d7, .d5⟩))], none⟩,
    ⟨some ⟨.d0, .d7, .d7⟩, .b2s (.t ⟨.d0, .d7, .d6⟩), none⟩,
    ⟨some ⟨.d1, .d0, .d0⟩, .sbin .add (.t ⟨.d0, .d7, .d1⟩) (.t ⟨.d0, .d7, .d7⟩), none⟩,
    ⟨some ⟨.d0, .d1, .d4⟩, .move (.t ⟨.d1, .d0, .d0⟩), none⟩])
  (.seq (.region [⟨some ⟨.d1, .d0, .d1⟩, .move (.t ⟨.d0, .d0, .d3⟩), none⟩,
    ⟨some ⟨.d1, .d0, .d2⟩, .bin .shl (.t ⟨.d1, .d0, .d1⟩) (.c (.int .u64 27)), none⟩,
    ⟨some ⟨.d1, .d0, .d3⟩, .move (.t ⟨.d0, .d0, .d4⟩), none⟩,
    ⟨some ⟨.d1, .d0, .d4⟩, .bin .shl (.t ⟨.d1, .d0, .d3⟩) (.c (.int .u64 24)), none⟩,
    ⟨some ⟨.d1, .d0, .d5⟩, .bin .or (.t ⟨.d1, .d0, .d2⟩) (.t ⟨.d1, .d0, .d4⟩), none⟩,
    ⟨some ⟨.d1, .d0, .d6⟩, .convInt .u32 (.t ⟨.d1, .d0, .d5⟩), none⟩,
    ⟨some ⟨.d1, .d0, .d7⟩, .load true 2 (.t ⟨.d0, .d0, .d5⟩), none⟩,
    ⟨some ⟨.d1, .d1, .d0⟩, .move (.t ⟨.d0, .d1, .d4⟩), none⟩,
    ⟨some ⟨.d1, .d1, .d1⟩, .call 58 [(.t ⟨.d1, .d0, .d7⟩), (.t ⟨.d1, .d1, .d0⟩)], none⟩,
    ⟨some ⟨.d1, .d1, .d2⟩, .bin .and (.t ⟨.d1, .d1, .d1⟩) (.c (.int .u64 16777215)), none⟩,
    ⟨some ⟨.d1, .d1, .d3⟩, .convInt .u32 (.t ⟨.d1, .d1, .d2⟩), none⟩,
    ⟨some ⟨.d1, .d1, .d4⟩, .bin .or (.t ⟨.d1, .d0, .d6⟩) (.t ⟨.d1, .d1, .d3⟩), none⟩,
    ⟨some ⟨.d0, .d1, .d2⟩, .move (.t ⟨.d1, .d1, .d4⟩), none⟩,
    ⟨some ⟨.d0, .d1, .d3⟩, .move (.c (.int .i64 0)), none⟩])
  (.ret))))
def r_cookie_Make : List XR := [.tmp ⟨.d0, .d1, .d2⟩, .tmp ⟨.d0, .d1, .d3⟩]
theorem ok_cookie_Make : okC Try.prog Try.f31.ntmps (bodyOf Try.f31) x_cookie_Make = true := by kernel_rfl
theorem okr_cookie_Make : okRs Try.prog Try.f31.results.toList r_cookie_Make = true := by kernel_rfl

/-- custref.CookieOf -/
def x_custref_CookieOf : XC :=
  .seq (.region [⟨some ⟨.d0, .d0, .d5⟩, .box 0 2 (.t ⟨.d0, .d0, .d0⟩), none⟩,
    ⟨some ⟨.d0, .d0, .d6⟩, .box 1 4 (.t ⟨.d0, .d0, .d1⟩), none⟩,
    ⟨some ⟨.d0, .d1, .d2⟩, .move (.c (.int .u32 0)), none⟩,
    ⟨some ⟨.d0, .d1, .d3⟩, .move (.c (.int .i64 0)), none⟩])
  (.seq (.seq (.region [⟨some ⟨.d0, .d1, .d6⟩, .load true 4 (.t ⟨.d0, .d0, .d6⟩), none⟩,
    ⟨some ⟨.d0, .d1, .d7⟩, .call 59 [(.t ⟨.d0, .d1, .d6⟩)], none⟩,
    ⟨some ⟨.d0, .d2, .d0⟩, .un .not (.t ⟨.d0, .d1, .d7⟩), none⟩,
    ⟨some ⟨.d0, .d2, .d1⟩, .move (.t ⟨.d0, .d2, .d0⟩), none⟩,
    ⟨some ⟨.d0, .d2, .d2⟩, .move (.t ⟨.d0, .d0, .d3⟩), some (⟨.d0, .d2, .d1⟩, false)⟩,
    ⟨some ⟨.d0, .d2, .d3⟩, .call 10 [(.t ⟨.d0, .d2, .d2⟩), (.c (.int .i64 0)), (.c (.int .i64 31))], some (⟨.d0, .d2, .d1⟩, false)⟩,
    ⟨some ⟨.d0, .d2, .d4⟩, .un .not (.t ⟨.d0, .d2, .d3⟩), some (⟨.d0, .d2, .d1⟩, false)⟩,
    ⟨some ⟨.d0, .d2, .d5⟩, .pick (.t ⟨.d0, .d2, .d1⟩) (.c (.bool true)) (.t ⟨.d0, .d2, .d4⟩), none⟩,
    ⟨some ⟨.d0, .d2, .d6⟩, .move (.t ⟨.d0, .d2, .d5⟩), none⟩,
    ⟨some ⟨.d0, .d2, .d7⟩, .move (.t ⟨.d0, .d0, .d4⟩), some (⟨.d0, .d2, .d6⟩, false)⟩,
    ⟨some ⟨.d0, .d3, .d0⟩, .call 10 [(.t ⟨.d0, .d2, .d7⟩), (.c (.int .i64 0)), (.c (.int .i64 7))], some (⟨.d0, .d2, .d6⟩, false)⟩,
    ⟨some ⟨.d0, .d3, .d1⟩, .un .not (.t ⟨.d0, .d3, .d0⟩), some (⟨.d0, .d2, .d6⟩, false)⟩,
    ⟨some ⟨.d0, .d3, .d2⟩, .pick (.t ⟨.d0, .d2, .d6⟩) (.c (.bool true)) (.t ⟨.d0, .d3, .d1⟩), none⟩])
  (.cond (.t ⟨.d0, .d3, .d2⟩)
    (.seq (.region [⟨some ⟨.d0, .d1, .d2⟩, .move (.c (.int .u32 0)), none⟩,
      ⟨some ⟨.d0, .d1, .d3⟩, .move (.c (.int .i64 1)), none⟩])
    (.ret))
    (.skip)))
  (.seq (.regionD [0, 1, 3, 0, 8, 31, 63, 0, 128, 447, 1023, 0, 2048, 7103, 16383, 0, 48063, 131071, 0, 0, 786432, 1948607, 4194303, 8388607] [⟨some ⟨.d0, .d3, .d3⟩, .fieldAddr 0 (.t ⟨.d0, .d0, .d6⟩), none⟩,
    ⟨some ⟨.d0, .d3, .d4⟩, .load false 1 (.t ⟨.d0, .d3, .d3⟩), none⟩,
    ⟨some ⟨.d0, .d3, .d5⟩, .call 60 [(.t ⟨.d0, .d3, .d4⟩)], none⟩,
    ⟨some ⟨.d0, .d3, .d6⟩, .fieldAddr 1 (.t ⟨.d0, .d0, .d6⟩), none⟩,
    ⟨some ⟨.d0, .d3, .d7⟩, .load false 1 (.t ⟨.d0, .d3, .d6⟩), none⟩,
    ⟨some ⟨.d0, .d4, .d0⟩, .call 60 [(.t ⟨.d0, .d3, .d7⟩)], none⟩,
    ⟨some ⟨.d0, .d4, .d1⟩, .sbin .add (.t ⟨.d0, .d3, .d5⟩) (.t ⟨.d0, .d4, .d0⟩), none⟩,
    ⟨some ⟨.d0, .d4, .d2⟩, .fieldAddr 2 (.t ⟨.d0, .d0, .d6⟩), none⟩,
    ⟨some ⟨.d0, .d4, .d3⟩, .load false 1 (.t ⟨.d0, .d4, .d2⟩), none⟩,
    ⟨some ⟨.d0, .d4, .d4⟩, .call 61 [(.t ⟨.d0, .d4, .d3⟩)], none⟩,
    ⟨some ⟨.d0, .d4, .d5⟩, .sbin .add (.t ⟨.d0, .d4, .d1⟩) (.t ⟨.d0, .d4, .d4⟩), none⟩,
    ⟨some ⟨.d0, .d4, .d6⟩, .fieldAddr 3 (.t ⟨.d0, .d0, .d6⟩), none⟩,
    ⟨some ⟨.d0, .d4, .d7⟩, .load false 1 (.t ⟨.d0, .d4, .d6⟩), none⟩,
    ⟨some ⟨.d0, .d5, .d0⟩, .call 61 [(.t ⟨.d0, .d4, .d7⟩)], none⟩,
    ⟨some ⟨.d0, .d5, .d1⟩, .sbin .add (.t ⟨.d0, .d4, .d5⟩) (.t ⟨.d0, .d5, .d0⟩), none⟩,
    ⟨some ⟨.d0, .d5, .d2⟩, .move (.t ⟨.d0, .d0, .d2⟩), none⟩,
    ⟨some ⟨.d0, .d5, .d3⟩, .call 60 [(.t ⟨.d0, .d5, .d2⟩)], none⟩,
    ⟨some ⟨.d0, .d5, .d4⟩, .sbin .add (.t ⟨.d0, .d5, .d1⟩) (.t ⟨.d0, .d5, .d3⟩), none⟩,
    ⟨some ⟨.d0, .d5, .d5⟩, .move (.t ⟨.d0, .d0, .d3⟩), none⟩,
    ⟨some ⟨.d0, .d5, .d6⟩, .move (.t ⟨.d0, .d0, .d4⟩), none⟩,
    ⟨some ⟨.d0, .d5, .d7⟩, .buildSlice 2 2 [.int .i64 0] [(0, (.t ⟨.d0, .d5, .d5⟩)), (1, (.t ⟨.d0, .d5, .d6⟩))], none⟩,
    ⟨some ⟨.d0, .d6, .d0⟩, .call 62 [(.t ⟨.d0, .d5, .d7⟩)], none⟩,
    ⟨some ⟨.d0, .d6, .d1⟩, .sbin .add (.t ⟨.d0, .d5, .d4⟩) (.t ⟨.d0, .d6, .d0⟩), none⟩,
    ⟨some ⟨.d0, .d1, .d4⟩, .move (.t ⟨.d0, .d6, .d1⟩), none⟩])
  (.seq (.region [⟨some ⟨.d0, .d6, .d2⟩, .load true 2 (.t ⟨.d0, .d0, .d5⟩), none⟩,
    ⟨some ⟨.d0, .d6, .d3⟩, .move (.t ⟨.d0, .d1, .d4⟩), none⟩,
    ⟨some ⟨.d0, .d6, .d4⟩, .call 63 [(.t ⟨.d0, .d6, .d2⟩), (.t ⟨.d0, .d6, .d3⟩)], none⟩,
    ⟨some ⟨.d0, .d6, .d5⟩, .bin .rem (.t ⟨.d0, .d6, .d4⟩) (.c (.int .u64 16777216)), none⟩,
    ⟨some ⟨.d0, .d1, .d5⟩, .move (.t ⟨.d0, .d6, .d5⟩), none⟩])
  (.seq (.region [⟨some ⟨.d0, .d6, .d6⟩, .move (.t ⟨.d0, .d0, .d3⟩), none⟩,
    ⟨some ⟨.d0, .d6, .d7⟩, .bin .mul (.t ⟨.d0, .d6, .d6⟩) (.c (.int .i64 8)), none⟩,
    ⟨some ⟨.d0, .d7, .d0⟩, .move (.t ⟨.d0, .d0, .d4⟩), none⟩,
    ⟨some ⟨.d0, .d7, .d1⟩, .bin .add (.t ⟨.d0, .d6, .d7⟩) (.t ⟨.d0, .d7, .d0⟩), none⟩,
    ⟨some ⟨.d0, .d7, .d2⟩, .bin .mul (.t ⟨.d0, .d7, .d1⟩) (.c (.int .i64 16777216)), none⟩,
    ⟨some ⟨.d0, .d7, .d3⟩, .move (.t ⟨.d0, .d1, .d5⟩), none⟩,
    ⟨some ⟨.d0, .d7, .d4⟩, .convInt .i64 (.t ⟨.d0, .d7, .d3⟩), none⟩,
    ⟨some ⟨.d0, .d7, .d5⟩, .bin .add (.t ⟨.d0, .d7, .d2⟩) (.t ⟨.d0, .d7, .d4⟩), none⟩,
    ⟨some ⟨.d0, .d7, .d6⟩, .convInt .u32 (.t ⟨.d0, .d7, .d5⟩), none⟩,
    ⟨some ⟨.d0, .d1, .d2⟩, .move (.t ⟨.d0, .d7, .d6⟩), none⟩,
    ⟨some ⟨.d0, .d1, .d3⟩, .move (.c (.int .i64 0)), none⟩])
  (.ret)))))
def r_custref_CookieOf : List XR := [.tmp ⟨.d0, .d1, .d2⟩, .tmp ⟨.d0, .d1, .d3⟩]
theorem ok_custref_CookieOf : okC Try.prog Try.f32.ntmps (bodyOf Try.f32) x_custref_CookieOf = true := by kernel_rfl
theorem okr_custref_CookieOf : okRs Try.prog Try.f32.results.toList r_custref_CookieOf = true := by kernel_rfl

/-- cookie.Open -/
def x_cookie_Open : XC :=
  .seq (.region [⟨some ⟨.d0, .d0, .d5⟩, .box 0 2 (.t ⟨.d0, .d0, .d0⟩), none⟩,
    ⟨some ⟨.d0, .d0, .d6⟩, .box 1 4 (.t ⟨.d0, .d0, .d1⟩), none⟩,
    ⟨some ⟨.d0, .d1, .d2⟩, .move (.c (.int .i64 0)), none⟩,
    ⟨some ⟨.d0, .d1, .d3⟩, .move (.c (.int .i64 0)), none⟩])
  (.seq (.seq (.region [⟨some ⟨.d0, .d2, .d0⟩, .move (.t ⟨.d0, .d0, .d4⟩), none⟩,
    ⟨some ⟨.d0, .d2, .d1⟩, .bin .lss (.t ⟨.d0, .d2, .d0⟩) (.c (.int .i64 0)), none⟩,
    ⟨some ⟨.d0, .d2, .d2⟩, .move (.t ⟨.d0, .d2, .d1⟩), none⟩,
    ⟨some ⟨.d0, .d2, .d3⟩, .move (.t ⟨.d0, .d0, .d4⟩), some (⟨.d0, .d2, .d2⟩, false)⟩,
    ⟨some ⟨.d0, .d2, .d4⟩, .bin .gtr (.t ⟨.d0, .d2, .d3⟩) (.c (.int .i64 31)), some (⟨.d0, .d2, .d2⟩, false)⟩,
    ⟨some ⟨.d0, .d2, .d5⟩, .pick (.t ⟨.d0, .d2, .d2⟩) (.c (.bool true)) (.t ⟨.d0, .d2, .d4⟩), none⟩])
  (.cond (.t ⟨.d0, .d2, .d5⟩)
    (.seq (.region [⟨some ⟨.d0, .d1, .d2⟩, .move (.c (.int .i64 0)), none⟩,
      ⟨some ⟨.d0, .d1, .d3⟩, .move (.c (.int .i64 1)), none⟩])
    (.ret))
    (.skip)))
  (.seq (.region [⟨some ⟨.d0, .d2, .d6⟩, .move (.t ⟨.d0, .d0, .d3⟩), none⟩,
    ⟨some ⟨.d0, .d2, .d7⟩, .bin .shr (.t ⟨.d0, .d2, .d6⟩) (.c (.int .u64 27)), none⟩,
    ⟨some ⟨.d0, .d3, .d0⟩, .convInt .i64 (.t ⟨.d0, .d2, .d7⟩), none⟩,
    ⟨some ⟨.d0, .d3, .d1⟩, .move (.t ⟨.d0, .d0, .d3⟩), none⟩,
    ⟨some ⟨.d0, .d3, .d2⟩, .bin .shr (.t ⟨.d0, .d3, .d1⟩) (.c (.int .u64 24)), none⟩,
    ⟨some ⟨.d0, .d3, .d3⟩, .bin .and (.t ⟨.d0, .d3, .d2⟩) (.c (.int .u32 7)), none⟩,
    ⟨some ⟨.d0, .d3, .d4⟩, .convInt .i64 (.t ⟨.d0, .d3, .d3⟩), none⟩,
    ⟨some ⟨.d0, .d1, .d4⟩, .move (.t ⟨.d0, .d3, .d0⟩), none⟩,
    ⟨some ⟨.d0, .d1, .d5⟩, .move (.t ⟨.d0, .d3, .d4⟩), none⟩])
  (.seq (.region [⟨some ⟨.d0, .d3, .d6⟩, .load true 2 (.t ⟨.d0, .d0, .d5⟩), none⟩,
    ⟨some ⟨.d0, .d3, .d7⟩, .load true 4 (.t ⟨.d0, .d0, .d6⟩), none⟩,
    ⟨some ⟨.d0, .d4, .d0⟩, .move (.t ⟨.d0, .d0, .d2⟩), none⟩,
    ⟨some ⟨.d0, .d4, .d1⟩, .move (.t ⟨.d0, .d1, .d4⟩), none⟩,
    ⟨some ⟨.d0, .d4, .d2⟩, .move (.t ⟨.d0, .d1, .d5⟩), none⟩,
    ⟨some ⟨.d0, .d4, .d3⟩, .call 31 [(.t ⟨.d0, .d3, .d6⟩), (.t ⟨.d0, .d3, .d7⟩), (.t ⟨.d0, .d4, .d0⟩), (.t ⟨.d0, .d4, .d1⟩), (.t ⟨.d0, .d4, .d2⟩)], none⟩,
    ⟨some ⟨.d0, .d3, .d5⟩, .move (.t ⟨.d0, .d4, .d3⟩), none⟩,
    ⟨some ⟨.d0, .d4, .d4⟩, .extract 0 (.t ⟨.d0, .d3, .d5⟩), none⟩,
    ⟨some ⟨.d0, .d4, .d5⟩, .extract 1 (.t ⟨.d0, .d3, .d5⟩), none⟩,
    ⟨some ⟨.d0, .d1, .d6⟩, .move (.t ⟨.d0, .d4, .d4⟩), none⟩,
    ⟨some ⟨.d0, .d1, .d7⟩, .move (.t ⟨.d0, .d4, .d5⟩), none⟩])
  (.seq (.block 0
    (.seq (.region [⟨some ⟨.d0, .d4, .d7⟩, .move (.t ⟨.d0, .d1, .d7⟩), none⟩,
      ⟨some ⟨.d0, .d5, .d0⟩, .bin .neq (.t ⟨.d0, .d4, .d7⟩) (.c (.int .i64 0)), none⟩,
      ⟨some ⟨.d0, .d4, .d6⟩, .move (.t ⟨.d0, .d5, .d0⟩), none⟩])
    (.cond (.t ⟨.d0, .d4, .d6⟩)
      (.seq (.region [⟨some ⟨.d0, .d5, .d1⟩, .move (.t ⟨.d0, .d1, .d7⟩), none⟩,
        ⟨some ⟨.d0, .d1, .d2⟩, .move (.c (.int .i64 0)), none⟩,
        ⟨some ⟨.d0, .d1, .d3⟩, .move (.t ⟨.d0, .d5, .d1⟩), none⟩])
      (.ret))
      (.seq (.region [⟨some ⟨.d0, .d5, .d3⟩, .move (.t ⟨.d0, .d0, .d4⟩), none⟩,
        ⟨some ⟨.d0, .d5, .d4⟩, .move (.t ⟨.d0, .d1, .d4⟩), none⟩,
        ⟨some ⟨.d0, .d5, .d5⟩, .bin .sub (.t ⟨.d0, .d5, .d3⟩) (.t ⟨.d0, .d5, .d4⟩), none⟩,
        ⟨some ⟨.d0, .d5, .d6⟩, .bin .and (.t ⟨.d0, .d5, .d5⟩) (.c (.int .i64 31)), none⟩,
        ⟨some ⟨.d0, .d5, .d7⟩, .bin .gtr (.t ⟨.d0, .d5, .d6⟩) (.c (.int .i64 1)), none⟩,
        ⟨some ⟨.d0, .d5, .d2⟩, .move (.t ⟨.d0, .d5, .d7⟩), none⟩])
      (.cond (.t ⟨.d0, .d5, .d2⟩)
        (.seq (.region [⟨some ⟨.d0, .d1, .d2⟩, .move (.c (.int .i64 0)), none⟩,
          ⟨some ⟨.d0, .d1, .d3⟩, .move (.c (.int .i64 9)), none⟩])
        (.ret))
        (.seq (.region [⟨some ⟨.d0, .d6, .d1⟩, .move (.t ⟨.d0, .d1, .d6⟩), none⟩,
          ⟨some ⟨.d0, .d6, .d2⟩, .move (.t ⟨.d0, .d0, .d3⟩), none⟩,
          ⟨some ⟨.d0, .d6, .d3⟩, .bin .neq (.t ⟨.d0, .d6, .d1⟩) (.t ⟨.d0, .d6, .d2⟩), none⟩,
          ⟨some ⟨.d0, .d6, .d0⟩, .move (.t ⟨.d0, .d6, .d3⟩), none⟩])
        (.cond (.t ⟨.d0, .d6, .d0⟩)
          (.seq (.region [⟨some ⟨.d0, .d1, .d2⟩, .move (.c (.int .i64 0)), none⟩,
            ⟨some ⟨.d0, .d1, .d3⟩, .move (.c (.int .i64 5)), none⟩])
          (.ret))
          (.skip))))))))
  (.seq (.region [⟨some ⟨.d0, .d6, .d4⟩, .call 35 [], none⟩,
    ⟨some ⟨.d0, .d6, .d5⟩, .move (.t ⟨.d0, .d1, .d5⟩), none⟩,
    ⟨some ⟨.d0, .d6, .d6⟩, .indexV false 1 8 (.t ⟨.d0, .d6, .d4⟩) (.t ⟨.d0, .d6, .d5⟩), none⟩,
    ⟨some ⟨.d0, .d1, .d2⟩, .move (.t ⟨.d0, .d6, .d6⟩), none⟩,
    ⟨some ⟨.d0, .d1, .d3⟩, .move (.c (.int .i64 0)), none⟩])
  (.ret))))))
def r_cookie_Open : List XR := [.tmp ⟨.d0, .d1, .d2⟩, .tmp ⟨.d0, .d1, .d3⟩]
theorem ok_cookie_Open : okC Try.prog Try.f33.ntmps (bodyOf Try.f33) x_cookie_Open = true := by kernel_rfl
theorem okr_cookie_Open : okRs Try.prog Try.f33.results.toList r_cookie_Open = true := by kernel_rfl

/-- custref.Opened -/
def x_custref_Opened : XC :=
  .seq (.region [⟨some ⟨.d0, .d0, .d5⟩, .box 0 2 (.t ⟨.d0, .d0, .d0⟩), none⟩,
    ⟨some ⟨.d0, .d0, .d6⟩, .box 1 4 (.t ⟨.d0, .d0, .d1⟩), none⟩,
    ⟨some ⟨.d0, .d1, .d2⟩, .move (.c (.int .i64 0)), none⟩,
    ⟨some ⟨.d0, .d1, .d3⟩, .move (.c (.int .i64 0)), none⟩])
  (.seq (.seq (.region [⟨some ⟨.d0, .d2, .d1⟩, .load true 4 (.t ⟨.d0, .d0, .d6⟩), none⟩,
    ⟨some ⟨.d0, .d2, .d2⟩, .call 59 [(.t ⟨.d0, .d2, .d1⟩)], none⟩,
    ⟨some ⟨.d0, .d2, .d3⟩, .un .not (.t ⟨.d0, .d2, .d2⟩), none⟩,
    ⟨some ⟨.d0, .d2, .d4⟩, .move (.t ⟨.d0, .d2, .d3⟩), none⟩,
    ⟨some ⟨.d0, .d2, .d5⟩, .move (.t ⟨.d0, .d0, .d4⟩), some (⟨.d0, .d2, .d4⟩, false)⟩,
    ⟨some ⟨.d0, .d2, .d6⟩, .call 10 [(.t ⟨.d0, .d2, .d5⟩), (.c (.int .i64 0)), (.c (.int .i64 31))], some (⟨.d0, .d2, .d4⟩, false)⟩,
    ⟨some ⟨.d0, .d2, .d7⟩, .un .not (.t ⟨.d0, .d2, .d6⟩), some (⟨.d0, .d2, .d4⟩, false)⟩,
    ⟨some ⟨.d0, .d3, .d0⟩, .pick (.t ⟨.d0, .d2, .d4⟩) (.c (.bool true)) (.t ⟨.d0, .d2, .d7⟩), none⟩])
  (.cond (.t ⟨.d0, .d3, .d0⟩)
    (.seq (.region [⟨some ⟨.d0, .d1, .d2⟩, .move (.c (.int .i64 0)), none⟩,
      ⟨some ⟨.d0, .d1, .d3⟩, .move (.c (.int .i64 1)), none⟩])
    (.ret))
    (.skip)))
  (.seq (.region [⟨some ⟨.d0, .d3, .d1⟩, .move (.t ⟨.d0, .d0, .d3⟩), none⟩,
    ⟨some ⟨.d0, .d3, .d2⟩, .convInt .i64 (.t ⟨.d0, .d3, .d1⟩), none⟩,
    ⟨some ⟨.d0, .d3, .d3⟩, .bin .quo (.t ⟨.d0, .d3, .d2⟩) (.c (.int .i64 16777216)), none⟩,
    ⟨some ⟨.d0, .d1, .d4⟩, .move (.t ⟨.d0, .d3, .d3⟩), none⟩])
  (.seq (.region [⟨some ⟨.d0, .d3, .d4⟩, .move (.t ⟨.d0, .d1, .d4⟩), none⟩,
    ⟨some ⟨.d0, .d3, .d5⟩, .bin .quo (.t ⟨.d0, .d3, .d4⟩) (.c (.int .i64 8)), none⟩,
    ⟨some ⟨.d0, .d3, .d6⟩, .move (.t ⟨.d0, .d1, .d4⟩), none⟩,
    ⟨some ⟨.d0, .d3, .d7⟩, .bin .rem (.t ⟨.d0, .d3, .d6⟩) (.c (.int .i64 8)), none⟩,
    ⟨some ⟨.d0, .d1, .d5⟩, .move (.t ⟨.d0, .d3, .d5⟩), none⟩,
    ⟨some ⟨.d0, .d1, .d6⟩, .move (.t ⟨.d0, .d3, .d7⟩), none⟩])
  (.seq (.seq (.region [⟨some ⟨.d0, .d4, .d0⟩, .move (.t ⟨.d0, .d1, .d5⟩), none⟩,
    ⟨some ⟨.d0, .d4, .d1⟩, .move (.t ⟨.d0, .d0, .d4⟩), none⟩,
    ⟨some ⟨.d0, .d4, .d2⟩, .bin .neq (.t ⟨.d0, .d4, .d0⟩) (.t ⟨.d0, .d4, .d1⟩), none⟩,
    ⟨some ⟨.d0, .d4, .d3⟩, .move (.t ⟨.d0, .d4, .d2⟩), none⟩,
    ⟨some ⟨.d0, .d4, .d4⟩, .move (.t ⟨.d0, .d1, .d5⟩), some (⟨.d0, .d4, .d3⟩, true)⟩,
    ⟨some ⟨.d0, .d4, .d5⟩, .move (.t ⟨.d0, .d0, .d4⟩), some (⟨.d0, .d4, .d3⟩, true)⟩,
    ⟨some ⟨.d0, .d4, .d6⟩, .bin .add (.t ⟨.d0, .d4, .d5⟩) (.c (.int .i64 31)), some (⟨.d0, .d4, .d3⟩, true)⟩,
    ⟨some ⟨.d0, .d4, .d7⟩, .bin .rem (.t ⟨.d0, .d4, .d6⟩) (.c (.int .i64 32)), some (⟨.d0, .d4, .d3⟩, true)⟩,
    ⟨some ⟨.d0, .d5, .d0⟩, .bin .neq (.t ⟨.d0, .d4, .d4⟩) (.t ⟨.d0, .d4, .d7⟩), some (⟨.d0, .d4, .d3⟩, true)⟩,
    ⟨some ⟨.d0, .d5, .d1⟩, .pick (.t ⟨.d0, .d4, .d3⟩) (.t ⟨.d0, .d5, .d0⟩) (.c (.bool false)), none⟩])
  (.cond (.t ⟨.d0, .d5, .d1⟩)
    (.seq (.region [⟨some ⟨.d0, .d1, .d2⟩, .move (.c (.int .i64 0)), none⟩,
      ⟨some ⟨.d0, .d1, .d3⟩, .move (.c (.int .i64 9)), none⟩])
    (.ret))
    (.skip)))
  (.seq (.seq (.region [⟨some ⟨.d0, .d5, .d3⟩, .load true 2 (.t ⟨.d0, .d0, .d5⟩), none⟩,
    ⟨some ⟨.d0, .d5, .d4⟩, .load true 4 (.t ⟨.d0, .d0, .d6⟩), none⟩,
    ⟨some ⟨.d0, .d5, .d5⟩, .move (.t ⟨.d0, .d0, .d2⟩), none⟩,
    ⟨some ⟨.d0, .d5, .d6⟩, .move (.t ⟨.d0, .d1, .d5⟩), none⟩,
    ⟨some ⟨.d0, .d5, .d7⟩, .move (.t ⟨.d0, .d1, .d6⟩), none⟩,
    ⟨some ⟨.d0, .d6, .d0⟩, .call 32 [(.t ⟨.d0, .d5, .d3⟩), (.t ⟨.d0, .d5, .d4⟩), (.t ⟨.d0, .d5, .d5⟩), (.t ⟨.d0, .d5, .d6⟩), (.t ⟨.d0, .d5, .d7⟩)], none⟩,
    ⟨some ⟨.d0, .d5, .d2⟩, .move (.t ⟨.d0, .d6, .d0⟩), none⟩,
    ⟨some ⟨.d0, .d6, .d1⟩, .extract 0 (.t ⟨.d0, .d5, .d2⟩), none⟩,
    ⟨some ⟨.d0, .d6, .d2⟩, .extract 1 (.t ⟨.d0, .d5, .d2⟩), none⟩,
    ⟨some ⟨.d0, .d1, .d7⟩, .move (.t ⟨.d0, .d6, .d1⟩), none⟩,
    ⟨some ⟨.d0, .d2, .d0⟩, .move (.t ⟨.d0, .d6, .d2⟩), none⟩])
  (.seq (.region [⟨some ⟨.d0, .d6, .d3⟩, .move (.t ⟨.d0, .d1, .d7⟩), none⟩,
    ⟨some ⟨.d0, .d6, .d4⟩, .move (.t ⟨.d0, .d0, .d3⟩), none⟩,
    ⟨some ⟨.d0, .d6, .d5⟩, .bin .neq (.t ⟨.d0, .d6, .d3⟩) (.t ⟨.d0, .d6, .d4⟩), none⟩])
  (.cond (.t ⟨.d0, .d6, .d5⟩)
    (.seq (.region [⟨some ⟨.d0, .d1, .d2⟩, .move (.c (.int .i64 0)), none⟩,
      ⟨some ⟨.d0, .d1, .d3⟩, .move (.c (.int .i64 5)), none⟩])
    (.ret))
    (.skip))))
  (.seq (.region [⟨some ⟨.d0, .d6, .d6⟩, .call 36 [], none⟩,
    ⟨some ⟨.d0, .d6, .d7⟩, .move (.t ⟨.d0, .d1, .d6⟩), none⟩,
    ⟨some ⟨.d0, .d7, .d0⟩, .indexSl 1 (.t ⟨.d0, .d6, .d6⟩) (.t ⟨.d0, .d6, .d7⟩), none⟩,
    ⟨some ⟨.d0, .d7, .d1⟩, .load false 1 (.t ⟨.d0, .d7, .d0⟩), none⟩,
    ⟨some ⟨.d0, .d1, .d2⟩, .move (.t ⟨.d0, .d7, .d1⟩), none⟩,
    ⟨some ⟨.d0, .d1, .d3⟩, .move (.c (.int .i64 0)), none⟩])
  (.ret)))))))
def r_custref_Opened : List XR := [.tmp ⟨.d0, .d1, .d2⟩, .tmp ⟨.d0, .d1, .d3⟩]
theorem ok_custref_Opened : okC Try.prog Try.f34.ntmps (bodyOf Try.f34) x_custref_Opened = true := by kernel_rfl
theorem okr_custref_Opened : okRs Try.prog Try.f34.results.toList r_custref_Opened = true := by kernel_rfl

/-- cookie.Sizes -/
def x_cookie_Sizes : XC :=
  .seq (.region [⟨some ⟨.d0, .d0, .d0⟩, .alloc 0 [.int .i64 0, .int .i64 0, .int .i64 0, .int .i64 0, .int .i64 0, .int .i64 0, .int .i64 0, .int .i64 0], none⟩])
  (.seq (.region [⟨some ⟨.d0, .d0, .d1⟩, .build [.int .i64 0, .int .i64 0, .int .i64 0, .int .i64 0, .int .i64 0, .int .i64 0, .int .i64 0, .int .i64 0] [(0, 1, (.c (.int .i64 216))), (1, 1, (.c (.int .i64 536))), (2, 1, (.c (.int .i64 1220))), (3, 1, (.c (.int .i64 1300))), (4, 1, (.c (.int .i64 1360))), (5, 1, (.c (.int .i64 1440))), (6, 1, (.c (.int .i64 1460))), (7, 1, (.c (.int .i64 8960)))], none⟩,
    ⟨none, .store 8 (.t ⟨.d0, .d0, .d0⟩) (.t ⟨.d0, .d0, .d1⟩), none⟩])
  (.ret))
def r_cookie_Sizes : List XR := [.cell ⟨.d0, .d0, .d0⟩ true 8]
theorem ok_cookie_Sizes : okC Try.prog Try.f35.ntmps (bodyOf Try.f35) x_cookie_Sizes = true := by kernel_rfl
theorem okr_cookie_Sizes : okRs Try.prog Try.f35.results.toList r_cookie_Sizes = true := by kernel_rfl

/-- custref.CookieSizes -/
def x_custref_CookieSizes : XC :=
  .seq (.region [⟨some ⟨.d0, .d0, .d0⟩, .move (.c (.slice none 0 0)), none⟩])
  (.seq (.region [⟨some ⟨.d0, .d0, .d1⟩, .buildSlice 0 8 [.int .i64 0] [(0, (.c (.int .i64 216))), (1, (.c (.int .i64 536))), (2, (.c (.int .i64 1220))), (3, (.c (.int .i64 1300))), (4, (.c (.int .i64 1360))), (5, (.c (.int .i64 1440))), (6, (.c (.int .i64 1460))), (7, (.c (.int .i64 8960)))], none⟩,
    ⟨some ⟨.d0, .d0, .d0⟩, .move (.t ⟨.d0, .d0, .d1⟩), none⟩])
  (.ret))
def r_custref_CookieSizes : List XR := [.tmp ⟨.d0, .d0, .d0⟩]
theorem ok_custref_CookieSizes : okC Try.prog Try.f36.ntmps (bodyOf Try.f36) x_custref_CookieSizes = true := by kernel_rfl
theorem okr_custref_CookieSizes : okRs Try.prog Try.f36.results.toList r_custref_CookieSizes = true := by kernel_rfl

/-- cookie.Index -/
def x_cookie_Index : XC :=
  .seq (.region [⟨some ⟨.d0, .d0, .d2⟩, .move (.c (.int .i64 0)), none⟩])
  (.seq (.region [⟨some ⟨.d0, .d0, .d3⟩, .move (.c (.int .i64 0)), none⟩])
  (.seq (.seq (.region [⟨some ⟨.d0, .d0, .d6⟩, .call 35 [], none⟩,
    ⟨some ⟨.d0, .d0, .d7⟩, .move (.c (.int .i64 0)), none⟩])
  (.block 0
    (.loop
      (.seq (.region [⟨some ⟨.d0, .d1, .d0⟩, .bin .lss (.t ⟨.d0, .d0, .d7⟩) (.c (.int .i64 8)), none⟩])
      (.seq (.cond (.t ⟨.d0, .d1, .d0⟩)
        (.skip)
        (.exit 0))
      (.seq (.block 1
        (.seq (.region [⟨some ⟨.d0, .d1, .d1⟩, .move (.t ⟨.d0, .d0, .d7⟩), none⟩,
          ⟨some ⟨.d0, .d1, .d2⟩, .indexV false 1 8 (.t ⟨.d0, .d0, .d6⟩) (.t ⟨.d0, .d0, .d7⟩), none⟩,
          ⟨some ⟨.d0, .d0, .d4⟩, .move (.t ⟨.d0, .d1, .d1⟩), none⟩,
          ⟨some ⟨.d0, .d0, .d5⟩, .move (.t ⟨.d0, .d1, .d2⟩), none⟩])
        (.seq (.region [⟨some ⟨.d0, .d1, .d3⟩, .move (.t ⟨.d0, .d0, .d5⟩), none⟩,
          ⟨some ⟨.d0, .d1, .d4⟩, .move (.t ⟨.d0, .d0, .d0⟩), none⟩,
          ⟨some ⟨.d0, .d1, .d5⟩, .bin .leq (.t ⟨.d0, .d1, .d3⟩) (.t ⟨.d0, .d1, .d4⟩), none⟩])
        (.cond (.t ⟨.d0, .d1, .d5⟩)
          (.region [⟨some ⟨.d0, .d1, .d6⟩, .move (.t ⟨.d0, .d0, .d4⟩), none⟩,
            ⟨some ⟨.d0, .d0, .d3⟩, .move (.t ⟨.d0, .d1, .d6⟩), none⟩])
          (.skip)))))
      (.region [⟨some ⟨.d0, .d1, .d7⟩, .bin .add (.t ⟨.d0, .d0, .d7⟩) (.c (.int .i64 1)), none⟩,
        ⟨some ⟨.d0, .d0, .d7⟩, .move (.t ⟨.d0, .d1, .d7⟩), none⟩])))))))
  (.seq (.region [⟨some ⟨.d0, .d2, .d0⟩, .move (.t ⟨.d0, .d0, .d3⟩), none⟩,
    ⟨some ⟨.d0, .d0, .d2⟩, .move (.t ⟨.d0, .d2, .d0⟩), none⟩])
  (.ret))))
def r_cookie_Index : List XR := [.tmp ⟨.d0, .d0, .d2⟩]
theorem ok_cookie_Index : okC Try.prog Try.f37.ntmps (bodyOf Try.f37) x_cookie_Index = true := by kernel_rfl
theorem okr_cookie_Index : okRs Try.prog Try.f37.results.toList r_cookie_Index = true := by kernel_rfl

/-- cookie.port -/
def x_cookie_port : XC :=
  .seq (.region [⟨some ⟨.d0, .d0, .d2⟩, .move (.c (.bool false)), none⟩])
  (.seq (.region [⟨some ⟨.d0, .d0, .d3⟩, .move (.t ⟨.d0, .d0, .d0⟩), none⟩,
    ⟨some ⟨.d0, .d0, .d4⟩, .bin .geq (.t ⟨.d0, .d0, .d3⟩) (.c (.int .i64 0)), none⟩,
    ⟨some ⟨.d0, .d0, .d5⟩, .move (.t ⟨.d0, .d0, .d4⟩), none⟩,
    ⟨some ⟨.d0, .d0, .d6⟩, .move (.t ⟨.d0, .d0, .d0⟩), some (⟨.d0, .d0, .d5⟩, true)⟩,
    ⟨some ⟨.d0, .d0, .d7⟩, .bin .leq (.t ⟨.d0, .d0, .d6⟩) (.c (.int .i64 65535)), some (⟨.d0, .d0, .d5⟩, true)⟩,
    ⟨some ⟨.d0, .d1, .d0⟩, .pick (.t ⟨.d0, .d0, .d5⟩) (.t ⟨.d0, .d0, .d7⟩) (.c (.bool false)), none⟩,
    ⟨some ⟨.d0, .d0, .d2⟩, .move (.t ⟨.d0, .d1, .d0⟩), none⟩])
  (.ret))
def r_cookie_port : List XR := [.tmp ⟨.d0, .d0, .d2⟩]
theorem ok_cookie_port : okC Try.prog Try.f56.ntmps (bodyOf Try.f56) x_cookie_port = true := by kernel_rfl
theorem okr_cookie_port : okRs Try.prog Try.f56.results.toList r_cookie_port = true := by kernel_rfl

/-- cookie.long -/
def x_cookie_long : XC :=
  .seq (.region [⟨some ⟨.d0, .d0, .d2⟩, .move (.c (.string { data := #[] })), none⟩])
  (.seq (.region [⟨some ⟨.d0, .d0, .d3⟩, .move (.t ⟨.d0, .d0, .d0⟩), none⟩,
    ⟨some ⟨.d0, .d0, .d4⟩, .bin .shr (.t ⟨.d0, .d0, .d3⟩) (.c (.int .u64 24)), none⟩,
    ⟨some ⟨.d0, .d0, .d5⟩, .convInt .u8 (.t ⟨.d0, .d0, .d4⟩), none⟩,
    ⟨some ⟨.d0, .d0, .d6⟩, .move (.t ⟨.d0, .d0, .d0⟩), none⟩,
    ⟨some ⟨.d0, .d0, .d7⟩, .bin .shr (.t ⟨.d0, .d0, .d6⟩) (.c (.int .u64 16)), none⟩,
    ⟨some ⟨.d0, .d1, .d0⟩, .convInt .u8 (.t ⟨.d0, .d0, .d7⟩), none⟩,
    ⟨some ⟨.d0, .d1, .d1⟩, .move (.t ⟨.d0, .d0, .d0⟩), none⟩,
    ⟨some ⟨.d0, .d1, .d2⟩, .bin .shr (.t ⟨.d0, .d1, .d1⟩) (.c (.int .u64 8)), none⟩,
    ⟨some ⟨.d0, .d1, .d3⟩, .convInt .u8 (.t ⟨.d0, .d1, .d2⟩), none⟩,
    ⟨some ⟨.d0, .d1, .d4⟩, .move (.t ⟨.d0, .d0, .d0⟩), none⟩,
    ⟨some ⟨.d0, .d1, .d5⟩, .convInt .u8 (.t ⟨.d0, .d1, .d4⟩), none⟩,
    ⟨some ⟨.d0, .d1, .d6⟩, .buildSlice 0 4 [.int .u8 0] [(0, (.t ⟨.d0, .d0, .d5⟩)), (1, (.t ⟨.d0, .d1, .d0⟩)), (2, (.t ⟨.d0, .d1, .d3⟩)), (3, (.t ⟨.d0, .d1, .d5⟩))], none⟩,
    ⟨some ⟨.d0, .d1, .d7⟩, .b2s (.t ⟨.d0, .d1, .d6⟩), none⟩,
    ⟨some ⟨.d0, .d0, .d2⟩, .move (.t ⟨.d0, .d1, .d7⟩), none⟩])
  (.ret))
def r_cookie_long : List XR := [.tmp ⟨.d0, .d0, .d2⟩]
theorem ok_cookie_long : okC Try.prog Try.f57.ntmps (bodyOf Try.f57) x_cookie_long = true := by kernel_rfl
theorem okr_cookie_long : okRs Try.prog Try.f57.results.toList r_cookie_long = true := by kernel_rfl

/-- sip.Of -/
def x_sip_Of : XC :=
  .seq (.region [⟨some ⟨.d0, .d0, .d2⟩, .box 0 2 (.t ⟨.d0, .d0, .d0⟩), none⟩,
    ⟨some ⟨.d0, .d0, .d4⟩, .move (.c (.int .u64 0)), none⟩])
  (.seq (.region [⟨some ⟨.d0, .d1, .d2⟩, .load true 2 (.t ⟨.d0, .d0, .d2⟩), none⟩,
    ⟨some ⟨.d0, .d1, .d3⟩, .call 70 [(.t ⟨.d0, .d1, .d2⟩)], none⟩,
    ⟨some ⟨.d0, .d1, .d4⟩, .move (.t ⟨.d0, .d0, .d1⟩), none⟩,
    ⟨some ⟨.d0, .d1, .d5⟩, .call 69 [(.t ⟨.d0, .d1, .d3⟩), (.t ⟨.d0, .d1, .d4⟩)], none⟩,
    ⟨some ⟨.d0, .d1, .d1⟩, .move (.t ⟨.d0, .d1, .d5⟩), none⟩,
    ⟨some ⟨.d0, .d1, .d6⟩, .extract 0 (.t ⟨.d0, .d1, .d1⟩), none⟩,
    ⟨some ⟨.d0, .d1, .d7⟩, .extract 1 (.t ⟨.d0, .d1, .d1⟩), none⟩,
    ⟨some ⟨.d0, .d0, .d5⟩, .alloc 1 [.int .u64 0, .int .u64 0, .int .u64 0, .int .u64 0, .string { data := #[] }, .int .i64 0], none⟩,
    ⟨none, .store 6 (.t ⟨.d0, .d0, .d5⟩) (.t ⟨.d0, .d1, .d6⟩), none⟩,
    ⟨some ⟨.d0, .d0, .d6⟩, .move (.t ⟨.d0, .d1, .d7⟩), none⟩])
  (.seq (.region [⟨some ⟨.d0, .d2, .d1⟩, .load true 6 (.t ⟨.d0, .d0, .d5⟩), none⟩,
    ⟨some ⟨.d0, .d2, .d2⟩, .call 71 [(.t ⟨.d0, .d2, .d1⟩)], none⟩,
    ⟨some ⟨.d0, .d2, .d0⟩, .move (.t ⟨.d0, .d2, .d2⟩), none⟩,
    ⟨some ⟨.d0, .d2, .d3⟩, .extract 0 (.t ⟨.d0, .d2, .d0⟩), none⟩,
    ⟨some ⟨.d0, .d2, .d4⟩, .extract 1 (.t ⟨.d0, .d2, .d0⟩), none⟩,
    ⟨some ⟨.d0, .d0, .d7⟩, .move (.t ⟨.d0, .d2, .d3⟩), none⟩,
    ⟨some ⟨.d0, .d1, .d0⟩, .move (.t ⟨.d0, .d2, .d4⟩), none⟩])
  (.seq (.region [⟨some ⟨.d0, .d2, .d5⟩, .move (.t ⟨.d0, .d0, .d7⟩), none⟩,
    ⟨some ⟨.d0, .d0, .d4⟩, .move (.t ⟨.d0, .d2, .d5⟩), none⟩])
  (.ret))))
def r_sip_Of : List XR := [.tmp ⟨.d0, .d0, .d4⟩]
theorem ok_sip_Of : okC Try.prog Try.f58.ntmps (bodyOf Try.f58) x_sip_Of = true := by kernel_rfl
theorem okr_sip_Of : okRs Try.prog Try.f58.results.toList r_sip_Of = true := by kernel_rfl

/-- custref.RoadRight -/
def x_custref_RoadRight : XC :=
  .seq (.region [⟨some ⟨.d0, .d0, .d1⟩, .box 0 4 (.t ⟨.d0, .d0, .d0⟩), none⟩,
    ⟨some ⟨.d0, .d0, .d2⟩, .move (.c (.bool false)), none⟩])
  (.seq (.region [⟨some ⟨.d0, .d0, .d3⟩, .fieldAddr 2 (.t ⟨.d0, .d0, .d1⟩), none⟩,
    ⟨some ⟨.d0, .d0, .d4⟩, .load false 1 (.t ⟨.d0, .d0, .d3⟩), none⟩,
    ⟨some ⟨.d0, .d0, .d5⟩, .call 10 [(.t ⟨.d0, .d0, .d4⟩), (.c (.int .i64 0)), (.c (.int .i64 65535))], none⟩,
    ⟨some ⟨.d0, .d0, .d6⟩, .move (.t ⟨.d0, .d0, .d5⟩), none⟩,
    ⟨some ⟨.d0, .d0, .d7⟩, .fieldAddr 3 (.t ⟨.d0, .d0, .d1⟩), some (⟨.d0, .d0, .d6⟩, true)⟩,
    ⟨some ⟨.d0, .d1, .d0⟩, .load false 1 (.t ⟨.d0, .d0, .d7⟩), some (⟨.d0, .d0, .d6⟩, true)⟩,
    ⟨some ⟨.d0, .d1, .d1⟩, .call 10 [(.t ⟨.d0, .d1, .d0⟩), (.c (.int .i64 0)), (.c (.int .i64 65535))], some (⟨.d0, .d0, .d6⟩, true)⟩,
    ⟨some ⟨.d0, .d1, .d2⟩, .pick (.t ⟨.d0, .d0, .d6⟩) (.t ⟨.d0, .d1, .d1⟩) (.c (.bool false)), none⟩,
    ⟨some ⟨.d0, .d0, .d2⟩, .move (.t ⟨.d0, .d1, .d2⟩), none⟩])
  (.ret))
def r_custref_RoadRight : List XR := [.tmp ⟨.d0, .d0, .d2⟩]
theorem ok_custref_RoadRight : okC Try.prog Try.f59.ntmps (bodyOf Try.f59) x_custref_RoadRight = true := by kernel_rfl
theorem okr_custref_RoadRight : okRs Try.prog Try.f59.results.toList r_custref_RoadRight = true := by kernel_rfl

/-- custref.Long -/
def x_custref_Long : XC :=
  .seq (.region [⟨some ⟨.d0, .d0, .d2⟩, .move (.c (.string { data := #[] })), none⟩])
  (.seq (.region [⟨some ⟨.d0, .d0, .d3⟩, .move (.t ⟨.d0, .d0, .d0⟩), none⟩,
    ⟨some ⟨.d0, .d0, .d4⟩, .bin .quo (.t ⟨.d0, .d0, .d3⟩) (.c (.int .u32 65536)), none⟩,
    ⟨some ⟨.d0, .d0, .d5⟩, .convInt .i64 (.t ⟨.d0, .d0, .d4⟩), none⟩,
    ⟨some ⟨.d0, .d0, .d6⟩, .call 61 [(.t ⟨.d0, .d0, .d5⟩)], none⟩,
    ⟨some ⟨.d0, .d0, .d7⟩, .move (.t ⟨.d0, .d0, .d0⟩), none⟩,
    ⟨some ⟨.d0, .d1, .d0⟩, .bin .rem (.t ⟨.d0, .d0, .d7⟩) (.c (.int .u32 65536)), none⟩,
    ⟨some ⟨.d0, .d1, .d1⟩, .convInt .i64 (.t ⟨.d0, .d1, .d0⟩), none⟩,
    ⟨some ⟨.d0, .d1, .d2⟩, .call 61 [(.t ⟨.d0, .d1, .d1⟩)], none⟩,
    ⟨some ⟨.d0, .d1, .d3⟩, .sbin .add (.t ⟨.d0, .d0, .d6⟩) (.t ⟨.d0, .d1, .d2⟩), none⟩,
    ⟨some ⟨.d0, .d0, .d2⟩, .move (.t ⟨.d0, .d1, .d3⟩), none⟩])
  (.ret))
def r_custref_Long : List XR := [.tmp ⟨.d0, .d0, .d2⟩]
theorem ok_custref_Long : okC Try.prog Try.f60.ntmps (bodyOf Try.f60) x_custref_Long = true := by kernel_rfl
theorem okr_custref_Long : okRs Try.prog Try.f60.results.toList r_custref_Long = true := by kernel_rfl

/-- custref.Word -/
def x_custref_Word : XC :=
  .seq (.region [⟨some ⟨.d0, .d0, .d2⟩, .move (.c (.string { data := #[] })), none⟩])
  (.seq (.region [⟨some ⟨.d0, .d0, .d3⟩, .move (.t ⟨.d0, .d0, .d0⟩), none⟩,
    ⟨some ⟨.d0, .d0, .d4⟩, .bin .quo (.t ⟨.d0, .d0, .d3⟩) (.c (.int .i64 256)), none⟩,
    ⟨some ⟨.d0, .d0, .d5⟩, .move (.t ⟨.d0, .d0, .d0⟩), none⟩,
    ⟨some ⟨.d0, .d0, .d6⟩, .bin .rem (.t ⟨.d0, .d0, .d5⟩) (.c (.int .i64 256)), none⟩,
    ⟨some ⟨.d0, .d0, .d7⟩, .buildSlice 0 2 [.int .i64 0] [(0, (.t ⟨.d0, .d0, .d4⟩)), (1, (.t ⟨.d0, .d0, .d6⟩))], none⟩,
    ⟨some ⟨.d0, .d1, .d0⟩, .call 62 [(.t ⟨.d0, .d0, .d7⟩)], none⟩,
    ⟨some ⟨.d0, .d0, .d2⟩, .move (.t ⟨.d0, .d1, .d0⟩), none⟩])
  (.ret))
def r_custref_Word : List XR := [.tmp ⟨.d0, .d0, .d2⟩]
theorem ok_custref_Word : okC Try.prog Try.f61.ntmps (bodyOf Try.f61) x_custref_Word = true := by kernel_rfl
theorem okr_custref_Word : okRs Try.prog Try.f61.results.toList r_custref_Word = true := by kernel_rfl

/-- custref.Bytes -/
def x_custref_Bytes : XC :=
  .seq (.region [⟨some ⟨.d0, .d0, .d2⟩, .move (.c (.string { data := #[] })), none⟩])
  (.seq (.region [⟨some ⟨.d0, .d0, .d6⟩, .move (.t ⟨.d0, .d0, .d0⟩), none⟩,
    ⟨some ⟨.d0, .d0, .d7⟩, .len (.t ⟨.d0, .d0, .d6⟩), none⟩,
    ⟨some ⟨.d0, .d1, .d0⟩, .makeSlice 1 1 [.int .u8 0] (.t ⟨.d0, .d0, .d7⟩) (.t ⟨.d0, .d0, .d7⟩), none⟩,
    ⟨some ⟨.d0, .d0, .d3⟩, .move (.t ⟨.d0, .d1, .d0⟩), none⟩])
  (.seq (.seq (.region [⟨some ⟨.d0, .d1, .d1⟩, .move (.t ⟨.d0, .d0, .d0⟩), none⟩,
    ⟨some ⟨.d0, .d1, .d2⟩, .len (.t ⟨.d0, .d1, .d1⟩), none⟩,
    ⟨some ⟨.d0, .d1, .d3⟩, .move (.c (.int .i64 0)), none⟩])
  (.block 0
    (.loop
      (.seq (.region [⟨some ⟨.d0, .d1, .d4⟩, .bin .lss (.t ⟨.d0, .d1, .d3⟩) (.t ⟨.d0, .d1, .d2⟩), none⟩])
      (.seq (.cond (.t ⟨.d0, .d1, .d4⟩)
        (.skip)
        (.exit 0))
      (.seq (.block 1
        (.seq (.region [⟨some ⟨.d0, .d1, .d5⟩, .move (.t ⟨.d0, .d1, .d3⟩), none⟩,
          ⟨some ⟨.d0, .d1, .d6⟩, .indexSl 1 (.t ⟨.d0, .d1, .d1⟩) (.t ⟨.d0, .d1, .d3⟩), none⟩,
          ⟨some ⟨.d0, .d1, .d7⟩, .load false 1 (.t ⟨.d0, .d1, .d6⟩), none⟩,
          ⟨some ⟨.d0, .d0, .d4⟩, .move (.t ⟨.d0, .d1, .d5⟩), none⟩,
          ⟨some ⟨.d0, .d0, .d5⟩, .move (.t ⟨.d0, .d1, .d7⟩), none⟩])
        (.region [⟨some ⟨.d0, .d2, .d0⟩, .move (.t ⟨.d0, .d0, .d3⟩), none⟩,
          ⟨some ⟨.d0, .d2, .d1⟩, .move (.t ⟨.d0, .d0, .d4⟩), none⟩,
          ⟨some ⟨.d0, .d2, .d2⟩, .move (.t ⟨.d0, .d0, .d5⟩), none⟩,
          ⟨some ⟨.d0, .d2, .d3⟩, .convInt .u8 (.t ⟨.d0, .d2, .d2⟩), none⟩,
          ⟨some ⟨.d0, .d2, .d4⟩, .indexSl 1 (.t ⟨.d0, .d2, .d0⟩) (.t ⟨.d0, .d2, .d1⟩), none⟩,
          ⟨none, .store 1 (.t ⟨.d0, .d2, .d4⟩) (.t ⟨.d0, .d2, .d3⟩), none⟩])))
      (.region [⟨some ⟨.d0, .d2, .d5⟩, .bin .add (.t ⟨.d0, .d1, .d3⟩) (.c (.int .i64 1)), none⟩,
        ⟨some ⟨.d0, .d1, .d3⟩, .move (.t ⟨.d0, .d2, .d5⟩), none⟩])))))))
  (.seq (.region [⟨some ⟨.d0, .d2, .d6⟩, .move (.t ⟨.d0, .d0, .d3⟩), none⟩,
    ⟨some ⟨.d0, .d2, .d7⟩, .b2s (.t ⟨.d0, .d2, .d6⟩), none⟩,
    ⟨some ⟨.d0, .d0, .d2⟩, .move (.t ⟨.d0, .d2, .d7⟩), none⟩])
  (.ret))))
def r_custref_Bytes : List XR := [.tmp ⟨.d0, .d0, .d2⟩]
theorem ok_custref_Bytes : okC Try.prog Try.f62.ntmps (bodyOf Try.f62) x_custref_Bytes = true := by kernel_rfl
theorem okr_custref_Bytes : okRs Try.prog Try.f62.results.toList r_custref_Bytes = true := by kernel_rfl

/-- custref.SipOf -/
def x_custref_SipOf : XC :=
  .seq (.region [⟨some ⟨.d0, .d0, .d2⟩, .box 0 2 (.t ⟨.d0, .d0, .d0⟩), none⟩,
    ⟨some ⟨.d0, .d0, .d4⟩, .move (.c (.int .u64 0)), none⟩])
  (.seq (.region [⟨some ⟨.d0, .d1, .d2⟩, .load true 2 (.t ⟨.d0, .d0, .d2⟩), none⟩,
    ⟨some ⟨.d0, .d1, .d3⟩, .call 73 [(.t ⟨.d0, .d1, .d2⟩)], none⟩,
    ⟨some ⟨.d0, .d1, .d4⟩, .move (.t ⟨.d0, .d0, .d1⟩), none⟩,
    ⟨some ⟨.d0, .d1, .d5⟩, .call 72 [(.t ⟨.d0, .d1, .d3⟩), (.t ⟨.d0, .d1, .d4⟩)], none⟩,
    ⟨some ⟨.d0, .d1, .d1⟩, .move (.t ⟨.d0, .d1, .d5⟩), none⟩,
    ⟨some ⟨.d0, .d1, .d6⟩, .extract 0 (.t ⟨.d0, .d1, .d1⟩), none⟩,
    ⟨some ⟨.d0, .d1, .d7⟩, .extract 1 (.t ⟨.d0, .d1, .d1⟩), none⟩,
    ⟨some ⟨.d0, .d0, .d5⟩, .alloc 1 [.int .u64 0, .int .u64 0, .int .u64 0, .int .u64 0, .string { data := #[] }, .int .i64 0], none⟩,
    ⟨none, .store 6 (.t ⟨.d0, .d0, .d5⟩) (.t ⟨.d0, .d1, .d6⟩), none⟩,
    ⟨some ⟨.d0, .d0, .d6⟩, .move (.t ⟨.d0, .d1, .d7⟩), none⟩])
  (.seq (.region [⟨some ⟨.d0, .d2, .d1⟩, .load true 6 (.t ⟨.d0, .d0, .d5⟩), none⟩,
    ⟨some ⟨.d0, .d2, .d2⟩, .call 74 [(.t ⟨.d0, .d2, .d1⟩)], none⟩,
    ⟨some ⟨.d0, .d2, .d0⟩, .move (.t ⟨.d0, .d2, .d2⟩), none⟩,
    ⟨some ⟨.d0, .d2, .d3⟩, .extract 0 (.t ⟨.d0, .d2, .d0⟩), none⟩,
    ⟨some ⟨.d0, .d2, .d4⟩, .extract 1 (.t ⟨.d0, .d2, .d0⟩), none⟩,
    ⟨some ⟨.d0, .d0, .d7⟩, .move (.t ⟨.d0, .d2, .d3⟩), none⟩,
    ⟨some ⟨.d0, .d1, .d0⟩, .move (.t ⟨.d0, .d2, .d4⟩), none⟩])
  (.seq (.region [⟨some ⟨.d0, .d2, .d5⟩, .move (.t ⟨.d0, .d0, .d7⟩), none⟩,
    ⟨some ⟨.d0, .d0, .d4⟩, .move (.t ⟨.d0, .d2, .d5⟩), none⟩])
  (.ret))))
def r_custref_SipOf : List XR := [.tmp ⟨.d0, .d0, .d4⟩]
theorem ok_custref_SipOf : okC Try.prog Try.f63.ntmps (bodyOf Try.f63) x_custref_SipOf = true := by kernel_rfl
theorem okr_custref_SipOf : okRs Try.prog Try.f63.results.toList r_custref_SipOf = true := by kernel_rfl

/-- sip.More -/
def x_sip_More : XC :=
  .seq (.region [⟨some ⟨.d0, .d0, .d2⟩, .box 0 6 (.t ⟨.d0, .d0, .d0⟩), none⟩,
    ⟨some ⟨.d0, .d0, .d4⟩, .alloc 1 [.int .u64 0, .int .u64 0, .int .u64 0, .int .u64 0, .string { data := #[] }, .int .i64 0], none⟩,
    ⟨some ⟨.d0, .d0, .d5⟩, .move (.c (.int .i64 0)), none⟩])
  (.seq (.seq (.region [⟨some ⟨.d0, .d1, .d0⟩, .load true 6 (.t ⟨.d0, .d0, .d2⟩), none⟩,
    ⟨some ⟨.d0, .d1, .d1⟩, .call 77 [(.t ⟨.d0, .d1, .d0⟩)], none⟩,
    ⟨some ⟨.d0, .d0, .d6⟩, .move (.t ⟨.d0, .d1, .d1⟩), none⟩])
  (.seq (.region [⟨some ⟨.d0, .d1, .d2⟩, .move (.t ⟨.d0, .d0, .d6⟩), none⟩,
    ⟨some ⟨.d0, .d1, .d3⟩, .bin .neq (.t ⟨.d0, .d1, .d2⟩) (.c (.int .i64 0)), none⟩])
  (.cond (.t ⟨.d0, .d1, .d3⟩)
    (.seq (.region [⟨some ⟨.d0, .d1, .d4⟩, .load true 6 (.t ⟨.d0, .d0, .d2⟩), none⟩,
      ⟨some ⟨.d0, .d1, .d5⟩, .move (.t ⟨.d0, .d0, .d6⟩), none⟩,
      ⟨none, .store 6 (.t ⟨.d0, .d0, .d4⟩) (.t ⟨.d0, .d1, .d4⟩), none⟩,
      ⟨some ⟨.d0, .d0, .d5⟩, .move (.t ⟨.d0, .d1, .d5⟩), none⟩])
    (.ret))
    (.skip))))
  (.seq (.region [⟨some ⟨.d0, .d1, .d6⟩, .fieldAddr 5 (.t ⟨.d0, .d0, .d2⟩), none⟩,
    ⟨some ⟨.d0, .d1, .d7⟩, .load false 1 (.t ⟨.d0, .d1, .d6⟩), none⟩,
    ⟨some ⟨.d0, .d2, .d0⟩, .move (.t ⟨.d0, .d0, .d1⟩), none⟩,
    ⟨some ⟨.d0, .d2, .d1⟩, .slen (.t ⟨.d0, .d2, .d0⟩), none⟩,
    ⟨some ⟨.d0, .d2, .d2⟩, .bin .add (.t ⟨.d0, .d1, .d7⟩) (.t ⟨.d0, .d2, .d1⟩), none⟩,
    ⟨some ⟨.d0, .d2, .d3⟩, .fieldAddr 5 (.t ⟨.d0, .d0, .d2⟩), none⟩,
    ⟨none, .store 1 (.t ⟨.d0, .d2, .d3⟩) (.t ⟨.d0, .d2, .d2⟩), none⟩])
  (.seq (.region [⟨some ⟨.d0, .d2, .d4⟩, .fieldAddr 4 (.t ⟨.d0, .d0, .d2⟩), none⟩,
    ⟨some ⟨.d0, .d2, .d5⟩, .load false 1 (.t ⟨.d0, .d2, .d4⟩), none⟩,
    ⟨some ⟨.d0, .d2, .d6⟩, .move (.t ⟨.d0, .d0, .d1⟩), none⟩,
    ⟨some ⟨.d0, .d2, .d7⟩, .sbin .add (.t ⟨.d0, .d2, .d5⟩) (.t ⟨.d0, .d2, .d6⟩), none⟩,
    ⟨some ⟨.d0, .d0, .d7⟩, .move (.t ⟨.d0, .d2, .d7⟩), none⟩])
  (.seq (.block 0
    (.loop
      (.seq (.seq (.region [⟨some ⟨.d0, .d3, .d0⟩, .move (.t ⟨.d0, .d0, .d7⟩), none⟩,
        ⟨some ⟨.d0, .d3, .d1⟩, .slen (.t ⟨.d0, .d3, .d0⟩), none⟩,
        ⟨some ⟨.d0, .d3, .d2⟩, .bin .geq (.t ⟨.d0, .d3, .d1⟩) (.c (.int .i64 8)), none⟩])
      (.cond (.t ⟨.d0, .d3, .d2⟩)
        (.skip)
        (.exit 0)))
      (.seq (.block 1
        (.region [⟨some ⟨.d0, .d3, .d5⟩, .fieldAddr 0 (.t ⟨.d0, .d0, .d2⟩), none⟩,
          ⟨some ⟨.d0, .d3, .d6⟩, .move (.t ⟨.d0, .d0, .d7⟩), none⟩,
          ⟨some ⟨.d0, .d3, .d7⟩, .substr (.t ⟨.d0, .d3, .d6⟩) none (some (.c (.int .i64 8))), none⟩,
          ⟨some ⟨.d0, .d4, .d0⟩, .call 79 [(.t ⟨.d0, .d3, .d7⟩)], none⟩,
          ⟨some ⟨.d0, .d4, .d1⟩, .call 78 [(.t ⟨.d0, .d3, .d5⟩), (.t ⟨.d0, .d4, .d0⟩)], none⟩]))
      (.region [⟨some ⟨.d0, .d3, .d3⟩, .move (.t ⟨.d0, .d0, .d7⟩), none⟩,
        ⟨some ⟨.d0, .d3, .d4⟩, .substr (.t ⟨.d0, .d3, .d3⟩) (some (.c (.int .i64 8))) none, none⟩,
        ⟨some ⟨.d0, .d0, .d7⟩, .move (.t ⟨.d0, .d3, .d4⟩), none⟩])))))
  (.seq (.region [⟨some ⟨.d0, .d4, .d2⟩, .move (.t ⟨.d0, .d0, .d7⟩), none⟩,
    ⟨some ⟨.d0, .d4, .d3⟩, .fieldAddr 4 (.t ⟨.d0, .d0, .d2⟩), none⟩,
    ⟨none, .store 1 (.t ⟨.d0, .d4, .d3⟩) (.t ⟨.d0, .d4, .d2⟩), none⟩])
  (.seq (.region [⟨some ⟨.d0, .d4, .d4⟩, .load true 6 (.t ⟨.d0, .d0, .d2⟩), none⟩,
    ⟨none, .store 6 (.t ⟨.d0, .d0, .d4⟩) (.t ⟨.d0, .d4, .d4⟩), none⟩,
    ⟨some ⟨.d0, .d0, .d5⟩, .move (.c (.int .i64 0)), none⟩])
  (.ret)))))))
def r_sip_More : List XR := [.cell ⟨.d0, .d0, .d4⟩ true 6, .tmp ⟨.d0, .d0, .d5⟩]
theorem ok_sip_More : okC Try.prog Try.f69.ntmps (bodyOf Try.f69) x_sip_More = true := by kernel_rfl
theorem okr_sip_More : okRs Try.prog Try.f69.results.toList r_sip_More = true := by kernel_rfl

/-- sip.Begin -/
def x_sip_Begin : XC :=
  .seq (.region [⟨some ⟨.d0, .d0, .d1⟩, .box 0 2 (.t ⟨.d0, .d0, .d0⟩), none⟩,
    ⟨some ⟨.d0, .d0, .d2⟩, .alloc 1 [.int .u64 0, .int .u64 0, .int .u64 0, .int .u64 0, .string { data := #[] }, .int .i64 0], none⟩])
  (.seq (.region [⟨some ⟨.d0, .d0, .d3⟩, .indexArr 1 2 (.t ⟨.d0, .d0, .d1⟩) (.c (.int .i64 0)), none⟩,
    ⟨some ⟨.d0, .d0, .d4⟩, .load false 1 (.t ⟨.d0, .d0, .d3⟩), none⟩,
    ⟨some ⟨.d0, .d0, .d5⟩, .bin .xor (.t ⟨.d0, .d0, .d4⟩) (.c (.int .u64 8317987319222330741)), none⟩,
    ⟨some ⟨.d0, .d0, .d6⟩, .indexArr 1 2 (.t ⟨.d0, .d0, .d1⟩) (.c (.int .i64 1)), none⟩,
    ⟨some ⟨.d0, .d0, .d7⟩, .load false 1 (.t ⟨.d0, .d0, .d6⟩), none⟩,
    ⟨some ⟨.d0, .d1, .d0⟩, .bin .xor (.t ⟨.d0, .d0, .d7⟩) (.c (.int .u64 7237128888997146477)), none⟩,
    ⟨some ⟨.d0, .d1, .d1⟩, .indexArr 1 2 (.t ⟨.d0, .d0, .d1⟩) (.c (.int .i64 0)), none⟩,
    ⟨some ⟨.d0, .d1, .d2⟩, .load false 1 (.t ⟨.d0, .d1, .d1⟩), none⟩,
    ⟨some ⟨.d0, .d1, .d3⟩, .bin .xor (.t ⟨.d0, .d1, .d2⟩) (.c (.int .u64 7816392313619706465)), none⟩,
    ⟨some ⟨.d0, .d1, .d4⟩, .indexArr 1 2 (.t ⟨.d0, .d0, .d1⟩) (.c (.int .i64 1)), none⟩,
    ⟨some ⟨.d0, .d1, .d5⟩, .load false 1 (.t ⟨.d0, .d1, .d4⟩), none⟩,
    ⟨some ⟨.d0, .d1, .d6⟩, .bin .xor (.t ⟨.d0, .d1, .d5⟩) (.c (.int .u64 8387220255154660723)), none⟩,
    ⟨some ⟨.d0, .d1, .d7⟩, .build [.int .u64 0, .int .u64 0, .int .u64 0, .int .u64 0] [(0, 1, (.t ⟨.d0, .d0, .d5⟩)), (1, 1, (.t ⟨.d0, .d1, .d0⟩)), (2, 1, (.t ⟨.d0, .d1, .d3⟩)), (3, 1, (.t ⟨.d0, .d1, .d6⟩))], none⟩,
    ⟨some ⟨.d0, .d2, .d0⟩, .build [.int .u64 0, .int .u64 0, .int .u64 0, .int .u64 0, .string { data := #[] }, .int .i64 0] [(0, 4, (.t ⟨.d0, .d1, .d7⟩))], none⟩,
    ⟨none, .store 6 (.t ⟨.d0, .d0, .d2⟩) (.t ⟨.d0, .d2, .d0⟩), none⟩])
  (.ret))
def r_sip_Begin : List XR := [.cell ⟨.d0, .d0, .d2⟩ true 6]
theorem ok_sip_Begin : okC Try.prog Try.f70.ntmps (bodyOf Try.f70) x_sip_Begin = true := by kernel_rfl
theorem okr_sip_Begin : okRs Try.prog Try.f70.results.toList r_sip_Begin = true := by kernel_rfl

/-- sip.End -/
def x_sip_End : XC :=
  .seq (.region [⟨some ⟨.d0, .d0, .d1⟩, .box 0 6 (.t ⟨.d0, .d0, .d0⟩), none⟩,
    ⟨some ⟨.d0, .d0, .d2⟩, .move (.c (.int .u64 0)), none⟩,
    ⟨some ⟨.d0, .d0, .d3⟩, .move (.c (.int .i64 0)), none⟩])
  (.seq (.seq (.region [⟨some ⟨.d0, .d0, .d5⟩, .load true 6 (.t ⟨.d0, .d0, .d1⟩), none⟩,
    ⟨some ⟨.d0, .d0, .d6⟩, .call 77 [(.t ⟨.d0, .d0, .d5⟩)], none⟩,
    ⟨some ⟨.d0, .d0, .d4⟩, .move (.t ⟨.d0, .d0, .d6⟩), none⟩])
  (.seq (.region [⟨some ⟨.d0, .d0, .d7⟩, .move (.t ⟨.d0, .d0, .d4⟩), none⟩,
    ⟨some ⟨.d0, .d1, .d0⟩, .bin .neq (.t ⟨.d0, .d0, .d7⟩) (.c (.int .i64 0)), none⟩])
  (.cond (.t ⟨.d0, .d1, .d0⟩)
    (.seq (.region [⟨some ⟨.d0, .d1, .d1⟩, .move (.t ⟨.d0, .d0, .d4⟩), none⟩,
      ⟨some ⟨.d0, .d0, .d2⟩, .move (.c (.int .u64 0)), none⟩,
      ⟨some ⟨.d0, .d0, .d3⟩, .move (.t ⟨.d0, .d1, .d1⟩), none⟩])
    (.ret))
    (.skip))))
  (.seq (.regionD [0, 0, 2, 6, 0, 16, 48, 112, 254, 511] [⟨some ⟨.d0, .d1, .d2⟩, .fieldAddr 0 (.t ⟨.d0, .d0, .d1⟩), none⟩,
    ⟨some ⟨.d0, .d1, .d3⟩, .fieldAddr 4 (.t ⟨.d0, .d0, .d1⟩), none⟩,
    ⟨some ⟨.d0, .d1, .d4⟩, .load false 1 (.t ⟨.d0, .d1, .d3⟩), none⟩,
    ⟨some ⟨.d0, .d1, .d5⟩, .call 79 [(.t ⟨.d0, .d1, .d4⟩)], none⟩,
    ⟨some ⟨.d0, .d1, .d6⟩, .fieldAddr 5 (.t ⟨.d0, .d0, .d1⟩), none⟩,
    ⟨some ⟨.d0, .d1, .d7⟩, .load false 1 (.t ⟨.d0, .d1, .d6⟩), none⟩,
    ⟨some ⟨.d0, .d2, .d0⟩, .convInt .u64 (.t ⟨.d0, .d1, .d7⟩), none⟩,
    ⟨some ⟨.d0, .d2, .d1⟩, .bin .shl (.t ⟨.d0, .d2, .d0⟩) (.c (.int .u64 56)), none⟩,
    ⟨some ⟨.d0, .d2, .d2⟩, .bin .or (.t ⟨.d0, .d1, .d5⟩) (.t ⟨.d0, .d2, .d1⟩), none⟩,
    ⟨some ⟨.d0, .d2, .d3⟩, .call 78 [(.t ⟨.d0, .d1, .d2⟩), (.t ⟨.d0, .d2, .d2⟩)], none⟩])
  (.seq (.region [⟨some ⟨.d0, .d2, .d4⟩, .fieldAddr 0 (.t ⟨.d0, .d0, .d1⟩), none⟩,
    ⟨some ⟨.d0, .d2, .d5⟩, .indexArr 1 4 (.t ⟨.d0, .d2, .d4⟩) (.c (.int .i64 2)), none⟩,
    ⟨some ⟨.d0, .d2, .d6⟩, .load false 1 (.t ⟨.d0, .d2, .d5⟩), none⟩,
    ⟨some ⟨.d0, .d2, .d7⟩, .bin .xor (.t ⟨.d0, .d2, .d6⟩) (.c (.int .u64 255)), none⟩,
    ⟨some ⟨.d0, .d3, .d0⟩, .fieldAddr 0 (.t ⟨.d0, .d0, .d1⟩), none⟩,
    ⟨some ⟨.d0, .d3, .d1⟩, .indexArr 1 4 (.t ⟨.d0, .d3, .d0⟩) (.c (.int .i64 2)), none⟩,
    ⟨none, .store 1 (.t ⟨.d0, .d3, .d1⟩) (.t ⟨.d0, .d2, .d7⟩), none⟩])
  (.seq (.region [⟨some ⟨.d0, .d3, .d2⟩, .fieldAddr 0 (.t ⟨.d0, .d0, .d1⟩), none⟩,
    ⟨some ⟨.d0, .d3, .d3⟩, .call 80 [(.t ⟨.d0, .d3, .d2⟩), (.c (.int .i64 4))], none⟩])
  (.seq (.region [⟨some ⟨.d0, .d3, .d4⟩, .fieldAddr 0 (.t ⟨.d0, .d0, .d1⟩), none⟩,
    ⟨some ⟨.d0, .d3, .d5⟩, .indexArr 1 4 (.t ⟨.d0, .d3, .d4⟩) (.c (.int .i64 0)), none⟩,
    ⟨some ⟨.d0, .d3, .d6⟩, .load false 1 (.t ⟨.d0, .d3, .d5⟩), none⟩,
    ⟨some ⟨.d0, .d3, .d7⟩, .fieldAddr 0 (.t ⟨.d0, .d0, .d1⟩), none⟩,
    ⟨some ⟨.d0, .d4, .d0⟩, .indexArr 1 4 (.t ⟨.d0, .d3, .d7⟩) (.c (.int .i64 1)), none⟩,
    ⟨some ⟨.d0, .d4, .d1⟩, .load false 1 (.t ⟨.d0, .d4, .d0⟩), none⟩,
    ⟨some ⟨.d0, .d4, .d2⟩, .bin .xor (.t ⟨.d0, .d3, .d6⟩) (.t ⟨.d0, .d4, .d1⟩), none⟩,
    ⟨some ⟨.d0, .d4, .d3⟩, .fieldAddr 0 (.t ⟨.d0, .d0, .d1⟩), none⟩,
    ⟨some ⟨.d0, .d4, .d4⟩, .indexArr 1 4 (.t ⟨.d0, .d4, .d3⟩) (.c (.int .i64 2)), none⟩,
    ⟨some ⟨.d0, .d4, .d5⟩, .load false 1 (.t ⟨.d0, .d4, .d4⟩), none⟩,
    ⟨some ⟨.d0, .d4, .d6⟩, .bin .xor (.t ⟨.d0, .d4, .d2⟩) (.t ⟨.d0, .d4, .d5⟩), none⟩,
    ⟨some ⟨.d0, .d4, .d7⟩, .fieldAddr 0 (.t ⟨.d0, .d0, .d1⟩), none⟩,
    ⟨some ⟨.d0, .d5, .d0⟩, .indexArr 1 4 (.t ⟨.d0, .d4, .d7⟩) (.c (.int .i64 3)), none⟩,
    ⟨some ⟨.d0, .d5, .d1⟩, .load false 1 (.t ⟨.d0, .d5, .d0⟩), none⟩,
    ⟨some ⟨.d0, .d5, .d2⟩, .bin .xor (.t ⟨.d0, .d4, .d6⟩) (.t ⟨.d0, .d5, .d1⟩), none⟩,
    ⟨some ⟨.d0, .d0, .d2⟩, .move (.t ⟨.d0, .d5, .d2⟩), none⟩,
    ⟨some ⟨.d0, .d0, .d3⟩, .move (.c (.int .i64 0)), none⟩])
  (.ret))))))
def r_sip_End : List XR := [.tmp ⟨.d0, .d0, .d2⟩, .tmp ⟨.d0, .d0, .d3⟩]
theorem ok_sip_End : okC Try.prog Try.f71.ntmps (bodyOf Try.f71) x_sip_End = true := by kernel_rfl
theorem okr_sip_End : okRs Try.prog Try.f71.results.toList r_sip_End = true := by kernel_rfl

/-- custref.SipMore -/
def x_custref_SipMore : XC :=
  .seq (.region [⟨some ⟨.d0, .d0, .d2⟩, .box 0 6 (.t ⟨.d0, .d0, .d0⟩), none⟩,
    ⟨some ⟨.d0, .d0, .d4⟩, .alloc 1 [.int .u64 0, .int .u64 0, .int .u64 0, .int .u64 0, .string { data := #[] }, .int .i64 0], none⟩,
    ⟨some ⟨.d0, .d0, .d5⟩, .move (.c (.int .i64 0)), none⟩])
  (.seq (.seq (.region [⟨some ⟨.d0, .d1, .d0⟩, .load true 6 (.t ⟨.d0, .d0, .d2⟩), none⟩,
    ⟨some ⟨.d0, .d1, .d1⟩, .call 81 [(.t ⟨.d0, .d1, .d0⟩)], none⟩,
    ⟨some ⟨.d0, .d0, .d6⟩, .move (.t ⟨.d0, .d1, .d1⟩), none⟩])
  (.seq (.region [⟨some ⟨.d0, .d1, .d2⟩, .move (.t ⟨.d0, .d0, .d6⟩), none⟩,
    ⟨some ⟨.d0, .d1, .d3⟩, .bin .neq (.t ⟨.d0, .d1, .d2⟩) (.c (.int .i64 0)), none⟩])
  (.cond (.t ⟨.d0, .d1, .d3⟩)
    (.seq (.region [⟨some ⟨.d0, .d1, .d4⟩, .load true 6 (.t ⟨.d0, .d0, .d2⟩), none⟩,
      ⟨some ⟨.d0, .d1, .d5⟩, .move (.t ⟨.d0, .d0, .d6⟩), none⟩,
      ⟨none, .store 6 (.t ⟨.d0, .d0, .d4⟩) (.t ⟨.d0, .d1, .d4⟩), none⟩,
      ⟨some ⟨.d0, .d0, .d5⟩, .move (.t ⟨.d0, .d1, .d5⟩), none⟩])
    (.ret))
    (.skip))))
  (.seq (.seq (.region [⟨some ⟨.d0, .d1, .d6⟩, .move (.t ⟨.d0, .d0, .d1⟩), none⟩,
    ⟨some ⟨.d0, .d1, .d7⟩, .slen (.t ⟨.d0, .d1, .d6⟩), none⟩,
    ⟨some ⟨.d0, .d2, .d0⟩, .move (.c (.int .i64 0)), none⟩])
  (.block 0
    (.loop
      (.seq (.region [⟨some ⟨.d0, .d2, .d1⟩, .bin .lss (.t ⟨.d0, .d2, .d0⟩) (.t ⟨.d0, .d1, .d7⟩), none⟩])
      (.seq (.cond (.t ⟨.d0, .d2, .d1⟩)
        (.skip)
        (.exit 0))
      (.seq (.block 1
        (.seq (.region [⟨some ⟨.d0, .d2, .d2⟩, .move (.t ⟨.d0, .d2, .d0⟩), none⟩,
          ⟨some ⟨.d0, .d0, .d7⟩, .move (.t ⟨.d0, .d2, .d2⟩), none⟩])
        (.seq (.regionD [0, 1, 0, 0, 0, 16, 60, 127, 255, 511] [⟨some ⟨.d0, .d2, .d3⟩, .fieldAddr 4 (.t ⟨.d0, .d0, .d2⟩), none⟩,
          ⟨some ⟨.d0, .d2, .d4⟩, .load false 1 (.t ⟨.d0, .d2, .d3⟩), none⟩,
          ⟨some ⟨.d0, .d2, .d5⟩, .move (.t ⟨.d0, .d0, .d1⟩), none⟩,
          ⟨some ⟨.d0, .d2, .d6⟩, .move (.t ⟨.d0, .d0, .d7⟩), none⟩,
          ⟨some ⟨.d0, .d2, .d7⟩, .move (.t ⟨.d0, .d0, .d7⟩), none⟩,
          ⟨some ⟨.d0, .d3, .d0⟩, .bin .add (.t ⟨.d0, .d2, .d7⟩) (.c (.int .i64 1)), none⟩,
          ⟨some ⟨.d0, .d3, .d1⟩, .substr (.t ⟨.d0, .d2, .d5⟩) (some (.t ⟨.d0, .d2, .d6⟩)) (some (.t ⟨.d0, .d3, .d0⟩)), none⟩,
          ⟨some ⟨.d0, .d3, .d2⟩, .sbin .add (.t ⟨.d0, .d2, .d4⟩) (.t ⟨.d0, .d3, .d1⟩), none⟩,
          ⟨some ⟨.d0, .d3, .d3⟩, .fieldAddr 4 (.t ⟨.d0, .d0, .d2⟩), none⟩,
          ⟨none, .store 1 (.t ⟨.d0, .d3, .d3⟩) (.t ⟨.d0, .d3, .d2⟩), none⟩])
        (.seq (.region [⟨some ⟨.d0, .d3, .d4⟩, .fieldAddr 5 (.t ⟨.d0, .d0, .d2⟩), none⟩,
          ⟨some ⟨.d0, .d3, .d5⟩, .load false 1 (.t ⟨.d0, .d3, .d4⟩), none⟩,
          ⟨some ⟨.d0, .d3, .d6⟩, .bin .add (.t ⟨.d0, .d3, .d5⟩) (.c (.int .i64 1)), none⟩,
          ⟨some ⟨.d0, .d3, .d7⟩, .fieldAddr 5 (.t ⟨.d0, .d0, .d2⟩), none⟩,
          ⟨none, .store 1 (.t ⟨.d0, .d3, .d7⟩) (.t ⟨.d0, .d3, .d6⟩), none⟩])
        (.seq (.region [⟨some ⟨.d0, .d4, .d0⟩, .fieldAddr 4 (.t ⟨.d0, .d0, .d2⟩), none⟩,
          ⟨some ⟨.d0, .d4, .d1⟩, .load false 1 (.t ⟨.d0, .d4, .d0⟩), none⟩,
          ⟨some ⟨.d0, .d4, .d2⟩, .slen (.t ⟨.d0, .d4, .d1⟩), none⟩,
          ⟨some ⟨.d0, .d4, .d3⟩, .bin .eql (.t ⟨.d0, .d4, .d2⟩) (.c (.int .i64 8)), none⟩])
        (.cond (.t ⟨.d0, .d4, .d3⟩)
          (.regionD [0, 1, 0, 4, 12, 31, 63, 127, 255, 511] [⟨some ⟨.d0, .d4, .d4⟩, .fieldAddr 0 (.t ⟨.d0, .d0, .d2⟩), none⟩,
            ⟨some ⟨.d0, .d4, .d5⟩, .load true 4 (.t ⟨.d0, .d4, .d4⟩), none⟩,
            ⟨some ⟨.d0, .d4, .d6⟩, .fieldAddr 4 (.t ⟨.d0, .d0, .d2⟩), none⟩,
            ⟨some ⟨.d0, .d4, .d7⟩, .load false 1 (.t ⟨.d0, .d4, .d6⟩), none⟩,
            ⟨some ⟨.d0, .d5, .d0⟩, .call 83 [(.t ⟨.d0, .d4, .d7⟩)], none⟩,
            ⟨some ⟨.d0, .d5, .d1⟩, .call 82 [(.t ⟨.d0, .d4, .d5⟩), (.t ⟨.d0, .d5, .d0⟩)], none⟩,
            ⟨some ⟨.d0, .d5, .d2⟩, .fieldAddr 0 (.t ⟨.d0, .d0, .d2⟩), none⟩,
            ⟨none, .store 4 (.t ⟨.d0, .d5, .d2⟩) (.t ⟨.d0, .d5, .d1⟩), none⟩,
            ⟨some ⟨.d0, .d5, .d3⟩, .fieldAddr 4 (.t ⟨.d0, .d0, .d2⟩), none⟩,
            ⟨none, .store 1 (.t ⟨.d0, .d5, .d3⟩) (.c (.string { data := #[] })), none⟩])
          (.skip)))))))
      (.region [⟨some ⟨.d0, .d5, .d4⟩, .bin .add (.t ⟨.d0, .d2, .d0⟩) (.c (.int .i64 1)), none⟩,
        ⟨some ⟨.d0, .d2, .d0⟩, .move (.t ⟨.d0, .d5, .d4⟩), none⟩])))))))
  (.seq (.region [⟨some ⟨.d0, .d5, .d5⟩, .load true 6 (.t ⟨.d0, .d0, .d2⟩), none⟩,
    ⟨none, .store 6 (.t ⟨.d0, .d0, .d4⟩) (.t ⟨.d0, .d5, .d5⟩), none⟩,
    ⟨some ⟨.d0, .d0, .d5⟩, .move (.c (.int .i64 0)), none⟩])
  (.ret))))
def r_custref_SipMore : List XR := [.cell ⟨.d0, .d0, .d4⟩ true 6, .tmp ⟨.d0, .d0, .d5⟩]
theorem ok_custref_SipMore : okC Try.prog Try.f72.ntmps (bodyOf Try.f72) x_custref_SipMore = true := by kernel_rfl
theorem okr_custref_SipMore : okRs Try.prog Try.f72.results.toList r_custref_SipMore = true := by kernel_rfl

/-- custref.SipBegin -/
def x_custref_SipBegin : XC :=
  .seq (.region [⟨some ⟨.d0, .d0, .d1⟩, .box 0 2 (.t ⟨.d0, .d0, .d0⟩), none⟩,
    ⟨some ⟨.d0, .d0, .d2⟩, .alloc 1 [.int .u64 0, .int .u64 0, .int .u64 0, .int .u64 0, .string { data := #[] }, .int .i64 0], none⟩])
  (.seq (.region [⟨some ⟨.d0, .d0, .d3⟩, .move (.c (.string { data := #[117, 101, 115, 112, 101, 109, 111, 115, 109, 111, 100, 110, 97, 114, 111, 100, 97, 114, 101, 110, 101, 103, 121, 108, 115, 101, 116, 121, 98, 100, 101, 116] })), none⟩])
  (.seq (.region [⟨some ⟨.d0, .d0, .d4⟩, .alloc 2 [.int .u64 0, .int .u64 0, .int .u64 0, .int .u64 0, .string { data := #[] }, .int .i64 0], none⟩])
  (.seq (.seq (.region [⟨some ⟨.d0, .d0, .d6⟩, .move (.c (.int .i64 0)), none⟩])
  (.block 0
    (.loop
      (.seq (.region [⟨some ⟨.d0, .d0, .d7⟩, .bin .lss (.t ⟨.d0, .d0, .d6⟩) (.c (.int .i64 4)), none⟩])
      (.seq (.cond (.t ⟨.d0, .d0, .d7⟩)
        (.skip)
        (.exit 0))
      (.seq (.block 1
        (.seq (.region [⟨some ⟨.d0, .d1, .d0⟩, .move (.t ⟨.d0, .d0, .d6⟩), none⟩,
          ⟨some ⟨.d0, .d0, .d5⟩, .move (.t ⟨.d0, .d1, .d0⟩), none⟩])
        (.regionD [0, 0, 2, 6, 14, 0, 0, 64, 0, 256, 768, 2016, 4064, 8190, 0, 32767, 65535] [⟨some ⟨.d0, .d1, .d1⟩, .move (.t ⟨.d0, .d0, .d5⟩), none⟩,
          ⟨some ⟨.d0, .d1, .d2⟩, .move (.t ⟨.d0, .d0, .d5⟩), none⟩,
          ⟨some ⟨.d0, .d1, .d3⟩, .bin .rem (.t ⟨.d0, .d1, .d2⟩) (.c (.int .i64 2)), none⟩,
          ⟨some ⟨.d0, .d1, .d4⟩, .indexArr 1 2 (.t ⟨.d0, .d0, .d1⟩) (.t ⟨.d0, .d1, .d3⟩), none⟩,
          ⟨some ⟨.d0, .d1, .d5⟩, .load false 1 (.t ⟨.d0, .d1, .d4⟩), none⟩,
          ⟨some ⟨.d0, .d1, .d6⟩, .move (.t ⟨.d0, .d0, .d3⟩), none⟩,
          ⟨some ⟨.d0, .d1, .d7⟩, .move (.t ⟨.d0, .d0, .d5⟩), none⟩,
          ⟨some ⟨.d0, .d2, .d0⟩, .bin .mul (.c (.int .i64 8)) (.t ⟨.d0, .d1, .d7⟩), none⟩,
          ⟨some ⟨.d0, .d2, .d1⟩, .move (.t ⟨.d0, .d0, .d5⟩), none⟩,
          ⟨some ⟨.d0, .d2, .d2⟩, .bin .mul (.c (.int .i64 8)) (.t ⟨.d0, .d2, .d1⟩), none⟩,
          ⟨some ⟨.d0, .d2, .d3⟩, .bin .add (.t ⟨.d0, .d2, .d2⟩) (.c (.int .i64 8)), none⟩,
          ⟨some ⟨.d0, .d2, .d4⟩, .substr (.t ⟨.d0, .d1, .d6⟩) (some (.t ⟨.d0, .d2, .d0⟩)) (some (.t ⟨.d0, .d2, .d3⟩)), none⟩,
          ⟨some ⟨.d0, .d2, .d5⟩, .call 83 [(.t ⟨.d0, .d2, .d4⟩)], none⟩,
          ⟨some ⟨.d0, .d2, .d6⟩, .bin .xor (.t ⟨.d0, .d1, .d5⟩) (.t ⟨.d0, .d2, .d5⟩), none⟩,
          ⟨some ⟨.d0, .d2, .d7⟩, .fieldAddr 0 (.t ⟨.d0, .d0, .d4⟩), none⟩,
          ⟨some ⟨.d0, .d3, .d0⟩, .indexArr 1 4 (.t ⟨.d0, .d2, .d7⟩) (.t ⟨.d0, .d1, .d1⟩), none⟩,
          ⟨none, .store 1 (.t ⟨.d0, .d3, .d0⟩) (.t ⟨.d0, .d2, .d6⟩), none⟩])))
      (.region [⟨some ⟨.d0, .d3, .d1⟩, .bin .add (.t ⟨.d0, .d0, .d6⟩) (.c (.int .i64 1)), none⟩,
        ⟨some ⟨.d0, .d0, .d6⟩, .move (.t ⟨.d0, .d3, .d1⟩), none⟩])))))))
  (.seq (.region [⟨some ⟨.d0, .d3, .d2⟩, .load true 6 (.t ⟨.d0, .d0, .d4⟩), none⟩,
    ⟨none, .store 6 (.t ⟨.d0, .d0, .d2⟩) (.t ⟨.d0, .d3, .d2⟩), none⟩])
  (.ret)))))
def r_custref_SipBegin : List XR := [.cell ⟨.d0, .d0, .d2⟩ true 6]
theorem ok_custref_SipBegin : okC Try.prog Try.f73.ntmps (bodyOf Try.f73) x_custref_SipBegin = true := by kernel_rfl
theorem okr_custref_SipBegin : okRs Try.prog Try.f73.results.toList r_custref_SipBegin = true := by kernel_rfl

/-- custref.SipEnd -/
def x_custref_SipEnd : XC :=
  .seq (.region [⟨some ⟨.d0, .d0, .d1⟩, .box 0 6 (.t ⟨.d0, .d0, .d0⟩), none⟩,
    ⟨some ⟨.d0, .d0, .d2⟩, .move (.c (.int .u64 0)), none⟩,
    ⟨some ⟨.d0, .d0, .d3⟩, .move (.c (.int .i64 0)), none⟩])
  (.seq (.seq (.region [⟨some ⟨.d0, .d0, .d7⟩, .load true 6 (.t ⟨.d0, .d0, .d1⟩), none⟩,
    ⟨some ⟨.d0, .d1, .d0⟩, .call 81 [(.t ⟨.d0, .d0, .d7⟩)], none⟩,
    ⟨some ⟨.d0, .d0, .d4⟩, .move (.t ⟨.d0, .d1, .d0⟩), none⟩])
  (.seq (.region [⟨some ⟨.d0, .d1, .d1⟩, .move (.t ⟨.d0, .d0, .d4⟩), none⟩,
    ⟨some ⟨.d0, .d1, .d2⟩, .bin .neq (.t ⟨.d0, .d1, .d1⟩) (.c (.int .i64 0)), none⟩])
  (.cond (.t ⟨.d0, .d1, .d2⟩)
    (.seq (.region [⟨some ⟨.d0, .d1, .d3⟩, .move (.t ⟨.d0, .d0, .d4⟩), none⟩,
      ⟨some ⟨.d0, .d0, .d2⟩, .move (.c (.int .u64 0)), none⟩,
      ⟨some ⟨.d0, .d0, .d3⟩, .move (.t ⟨.d0, .d1, .d3⟩), none⟩])
    (.ret))
    (.skip))))
  (.seq (.regionD [0, 1, 3, 7, 0, 16, 48, 112, 240, 511, 1023] [⟨some ⟨.d0, .d1, .d4⟩, .fieldAddr 4 (.t ⟨.d0, .d0, .d1⟩), none⟩,
    ⟨some ⟨.d0, .d1, .d5⟩, .load false 1 (.t ⟨.d0, .d1, .d4⟩), none⟩,
    ⟨some ⟨.d0, .d1, .d6⟩, .sbin .add (.t ⟨.d0, .d1, .d5⟩) (.c (.string { data := #[0, 0, 0, 0, 0, 0, 0] })), none⟩,
    ⟨some ⟨.d0, .d1, .d7⟩, .substr (.t ⟨.d0, .d1, .d6⟩) none (some (.c (.int .i64 7))), none⟩,
    ⟨some ⟨.d0, .d2, .d0⟩, .fieldAddr 5 (.t ⟨.d0, .d0, .d1⟩), none⟩,
    ⟨some ⟨.d0, .d2, .d1⟩, .load false 1 (.t ⟨.d0, .d2, .d0⟩), none⟩,
    ⟨some ⟨.d0, .d2, .d2⟩, .bin .rem (.t ⟨.d0, .d2, .d1⟩) (.c (.int .i64 256)), none⟩,
    ⟨some ⟨.d0, .d2, .d3⟩, .buildSlice 1 1 [.int .i64 0] [(0, (.t ⟨.d0, .d2, .d2⟩))], none⟩,
    ⟨some ⟨.d0, .d2, .d4⟩, .call 62 [(.t ⟨.d0, .d2, .d3⟩)], none⟩,
    ⟨some ⟨.d0, .d2, .d5⟩, .sbin .add (.t ⟨.d0, .d1, .d7⟩) (.t ⟨.d0, .d2, .d4⟩), none⟩,
    ⟨some ⟨.d0, .d0, .d5⟩, .move (.t ⟨.d0, .d2, .d5⟩), none⟩])
  (.seq (.regionD [0, 1, 0, 4, 15, 0, 63] [⟨some ⟨.d0, .d2, .d6⟩, .fieldAddr 0 (.t ⟨.d0, .d0, .d1⟩), none⟩,
    ⟨some ⟨.d0, .d2, .d7⟩, .load true 4 (.t ⟨.d0, .d2, .d6⟩), none⟩,
    ⟨some ⟨.d0, .d3, .d0⟩, .move (.t ⟨.d0, .d0, .d5⟩), none⟩,
    ⟨some ⟨.d0, .d3, .d1⟩, .call 83 [(.t ⟨.d0, .d3, .d0⟩)], none⟩,
    ⟨some ⟨.d0, .d3, .d2⟩, .call 82 [(.t ⟨.d0, .d2, .d7⟩), (.t ⟨.d0, .d3, .d1⟩)], none⟩,
    ⟨some ⟨.d0, .d0, .d6⟩, .alloc 2 [.int .u64 0, .int .u64 0, .int .u64 0, .int .u64 0], none⟩,
    ⟨none, .store 4 (.t ⟨.d0, .d0, .d6⟩) (.t ⟨.d0, .d3, .d2⟩), none⟩])
  (.seq (.region [⟨some ⟨.d0, .d3, .d3⟩, .indexArr 1 4 (.t ⟨.d0, .d0, .d6⟩) (.c (.int .i64 2)), none⟩,
    ⟨some ⟨.d0, .d3, .d4⟩, .load false 1 (.t ⟨.d0, .d3, .d3⟩), none⟩,
    ⟨some ⟨.d0, .d3, .d5⟩, .bin .xor (.t ⟨.d0, .d3, .d4⟩) (.c (.int .u64 255)), none⟩,
    ⟨some ⟨.d0, .d3, .d6⟩, .indexArr 1 4 (.t ⟨.d0, .d0, .d6⟩) (.c (.int .i64 2)), none⟩,
    ⟨none, .store 1 (.t ⟨.d0, .d3, .d6⟩) (.t ⟨.d0, .d3, .d5⟩), none⟩])
  (.seq (.region [⟨some ⟨.d0, .d3, .d7⟩, .load true 4 (.t ⟨.d0, .d0, .d6⟩), none⟩,
    ⟨some ⟨.d0, .d4, .d0⟩, .call 84 [(.t ⟨.d0, .d3, .d7⟩)], none⟩,
    ⟨some ⟨.d0, .d4, .d1⟩, .call 84 [(.t ⟨.d0, .d4, .d0⟩)], none⟩,
    ⟨some ⟨.d0, .d4, .d2⟩, .call 84 [(.t ⟨.d0, .d4, .d1⟩)], none⟩,
    ⟨some ⟨.d0, .d4, .d3⟩, .call 84 [(.t ⟨.d0, .d4, .d2⟩)], none⟩,
    ⟨none, .store 4 (.t ⟨.d0, .d0, .d6⟩) (.t ⟨.d0, .d4, .d3⟩), none⟩])
  (.seq (.region [⟨some ⟨.d0, .d4, .d4⟩, .indexArr 1 4 (.t ⟨.d0, .d0, .d6⟩) (.c (.int .i64 0)), none⟩,
    ⟨some ⟨.d0, .d4, .d5⟩, .load false 1 (.t ⟨.d0, .d4, .d4⟩), none⟩,
    ⟨some ⟨.d0, .d4, .d6⟩, .indexArr 1 4 (.t ⟨.d0, .d0, .d6⟩) (.c (.int .i64 1)), none⟩,
    ⟨some ⟨.d0, .d4, .d7⟩, .load false 1 (.t ⟨.d0, .d4, .d6⟩), none⟩,
    ⟨some ⟨.d0, .d5, .d0⟩, .bin .xor (.t ⟨.d0, .d4, .d5⟩) (.t ⟨.d0, .d4, .d7⟩), none⟩,
    ⟨some ⟨.d0, .d5, .d1⟩, .indexArr 1 4 (.t ⟨.d0, .d0, .d6⟩) (.c (.int .i64 2)), none⟩,
    ⟨some ⟨.d0, .d5, .d2⟩, .load false 1 (.t ⟨.d0, .d5, .d1⟩), none⟩,
    ⟨some ⟨.d0, .d5, .d3⟩, .bin .xor (.t ⟨.d0, .d5, .d0⟩) (.t ⟨.d0, .d5, .d2⟩), none⟩,
    ⟨some ⟨.d0, .d5, .d4⟩, .indexArr 1 4 (.t ⟨.d0, .d0, .d6⟩) (.c (.int .i64 3)), none⟩,
    ⟨some ⟨.d0, .d5, .d5⟩, .load false 1 (.t ⟨.d0, .d5, .d4⟩), none⟩,
    ⟨some ⟨.d0, .d5, .d6⟩, .bin .xor (.t ⟨.d0, .d5, .d3⟩) (.t ⟨.d0, .d5, .d5⟩), none⟩,
    ⟨some ⟨.d0, .d0, .d2⟩, .move (.t ⟨.d0, .d5, .d6⟩), none⟩,
    ⟨some ⟨.d0, .d0, .d3⟩, .move (.c (.int .i64 0)), none⟩])
  (.ret)))))))
def r_custref_SipEnd : List XR := [.tmp ⟨.d0, .d0, .d2⟩, .tmp ⟨.d0, .d0, .d3⟩]
theorem ok_custref_SipEnd : okC Try.prog Try.f74.ntmps (bodyOf Try.f74) x_custref_SipEnd = true := by kernel_rfl
theorem okr_custref_SipEnd : okRs Try.prog Try.f74.results.toList r_custref_SipEnd = true := by kernel_rfl

/-- sip.check -/
def x_sip_check : XC :=
  .seq (.region [⟨some ⟨.d0, .d0, .d1⟩, .box 0 6 (.t ⟨.d0, .d0, .d0⟩), none⟩,
    ⟨some ⟨.d0, .d0, .d2⟩, .move (.c (.int .i64 0)), none⟩])
  (.seq (.seq (.region [⟨some ⟨.d0, .d0, .d3⟩, .fieldAddr 5 (.t ⟨.d0, .d0, .d1⟩), none⟩,
    ⟨some ⟨.d0, .d0, .d4⟩, .load false 1 (.t ⟨.d0, .d0, .d3⟩), none⟩,
    ⟨some ⟨.d0, .d0, .d5⟩, .bin .lss (.t ⟨.d0, .d0, .d4⟩) (.c (.int .i64 0)), none⟩,
    ⟨some ⟨.d0, .d0, .d6⟩, .move (.t ⟨.d0, .d0, .d5⟩), none⟩,
    ⟨some ⟨.d0, .d0, .d7⟩, .fieldAddr 4 (.t ⟨.d0, .d0, .d1⟩), some (⟨.d0, .d0, .d6⟩, false)⟩,
    ⟨some ⟨.d0, .d1, .d0⟩, .load false 1 (.t ⟨.d0, .d0, .d7⟩), some (⟨.d0, .d0, .d6⟩, false)⟩,
    ⟨some ⟨.d0, .d1, .d1⟩, .slen (.t ⟨.d0, .d1, .d0⟩), some (⟨.d0, .d0, .d6⟩, false)⟩,
    ⟨some ⟨.d0, .d1, .d2⟩, .fieldAddr 5 (.t ⟨.d0, .d0, .d1⟩), some (⟨.d0, .d0, .d6⟩, false)⟩,
    ⟨some ⟨.d0, .d1, .d3⟩, .load false 1 (.t ⟨.d0, .d1, .d2⟩), some (⟨.d0, .d0, .d6⟩, false)⟩,
    ⟨some ⟨.d0, .d1, .d4⟩, .bin .rem (.t ⟨.d0, .d1, .d3⟩) (.c (.int .i64 8)), some (⟨.d0, .d0, .d6⟩, false)⟩,
    ⟨some ⟨.d0, .d1, .d5⟩, .bin .neq (.t ⟨.d0, .d1, .d1⟩) (.t ⟨.d0, .d1, .d4⟩), some (⟨.d0, .d0, .d6⟩, false)⟩,
    ⟨some ⟨.d0, .d1, .d6⟩, .pick (.t ⟨.d0, .d0, .d6⟩) (.c (.bool true)) (.t ⟨.d0, .d1, .d5⟩), none⟩])
  (.cond (.t ⟨.d0, .d1, .d6⟩)
    (.seq (.region [⟨some ⟨.d0, .d0, .d2⟩, .move (.c (.int .i64 4)), none⟩])
    (.ret))
    (.skip)))
  (.seq (.region [⟨some ⟨.d0, .d0, .d2⟩, .move (.c (.int .i64 0)), none⟩])
  (.ret)))
def r_sip_check : List XR := [.tmp ⟨.d0, .d0, .d2⟩]
theorem ok_sip_check : okC Try.prog Try.f77.ntmps (bodyOf Try.f77) x_sip_check = true := by kernel_rfl
theorem okr_sip_check : okRs Try.prog Try.f77.results.toList r_sip_check = true := by kernel_rfl

/-- sip.take -/
def x_sip_take : XC :=
  .seq (.regionD [0, 1, 3, 7, 0, 31, 1, 127, 255] [⟨some ⟨.d0, .d0, .d4⟩, .move (.t ⟨.d0, .d0, .d0⟩), none⟩,
    ⟨some ⟨.d0, .d0, .d5⟩, .nilCheck (.t ⟨.d0, .d0, .d4⟩), none⟩,
    ⟨some ⟨.d0, .d0, .d6⟩, .indexArr 1 4 (.t ⟨.d0, .d0, .d5⟩) (.c (.int .i64 3)), none⟩,
    ⟨some ⟨.d0, .d0, .d7⟩, .load false 1 (.t ⟨.d0, .d0, .d6⟩), none⟩,
    ⟨some ⟨.d0, .d1, .d0⟩, .move (.t ⟨.d0, .d0, .d1⟩), none⟩,
    ⟨some ⟨.d0, .d1, .d1⟩, .bin .xor (.t ⟨.d0, .d0, .d7⟩) (.t ⟨.d0, .d1, .d0⟩), none⟩,
    ⟨some ⟨.d0, .d1, .d2⟩, .nilCheck (.t ⟨.d0, .d0, .d4⟩), none⟩,
    ⟨some ⟨.d0, .d1, .d3⟩, .indexArr 1 4 (.t ⟨.d0, .d1, .d2⟩) (.c (.int .i64 3)), none⟩,
    ⟨none, .store 1 (.t ⟨.d0, .d1, .d3⟩) (.t ⟨.d0, .d1, .d1⟩), none⟩])
  (.seq (.region [⟨some ⟨.d0, .d1, .d4⟩, .move (.t ⟨.d0, .d0, .d0⟩), none⟩,
    ⟨some ⟨.d0, .d1, .d5⟩, .call 80 [(.t ⟨.d0, .d1, .d4⟩), (.c (.int .i64 2))], none⟩])
  (.regionD [0, 1, 3, 7, 0, 31, 1, 127, 255] [⟨some ⟨.d0, .d1, .d6⟩, .move (.t ⟨.d0, .d0, .d0⟩), none⟩,
    ⟨some ⟨.d0, .d1, .d7⟩, .nilCheck (.t ⟨.d0, .d1, .d6⟩), none⟩,
    ⟨some ⟨.d0, .d2, .d0⟩, .indexArr 1 4 (.t ⟨.d0, .d1, .d7⟩) (.c (.int .i64 0)), none⟩,
    ⟨some ⟨.d0, .d2, .d1⟩, .load false 1 (.t ⟨.d0, .d2, .d0⟩), none⟩,
    ⟨some ⟨.d0, .d2, .d2⟩, .move (.t ⟨.d0, .d0, .d1⟩), none⟩,
    ⟨some ⟨.d0, .d2, .d3⟩, .bin .xor (.t ⟨.d0, .d2, .d1⟩) (.t ⟨.d0, .d2, .d2⟩), none⟩,
    ⟨some ⟨.d0, .d2, .d4⟩, .nilCheck (.t ⟨.d0, .d1, .d6⟩), none⟩,
    ⟨some ⟨.d0, .d2, .d5⟩, .indexArr 1 4 (.t ⟨.d0, .d2, .d4⟩) (.c (.int .i64 0)), none⟩,
    ⟨none, .store 1 (.t ⟨.d0, .d2, .d5⟩) (.t ⟨.d0, .d2, .d3⟩), none⟩]))
def r_sip_take : List XR := []
theorem ok_sip_take : okC Try.prog Try.f78.ntmps (bodyOf Try.f78) x_sip_take = true := by kernel_rfl
theorem okr_sip_take : okRs Try.prog Try.f78.results.toList r_sip_take = true := by kernel_rfl

/-- sip.number -/
def x_sip_number : XC :=
  .seq (.region [⟨some ⟨.d0, .d0, .d2⟩, .move (.c (.int .u64 0)), none⟩])
  (.seq (.region [⟨some ⟨.d0, .d0, .d3⟩, .move (.c (.int .u64 0)), none⟩])
  (.seq (.seq (.region [⟨some ⟨.d0, .d0, .d5⟩, .move (.t ⟨.d0, .d0, .d0⟩), none⟩,
    ⟨some ⟨.d0, .d0, .d6⟩, .slen (.t ⟨.d0, .d0, .d5⟩), none⟩,
    ⟨some ⟨.d0, .d0, .d7⟩, .move (.c (.int .i64 0)), none⟩])
  (.block 0
    (.loop
      (.seq (.region [⟨some ⟨.d0, .d1, .d0⟩, .bin .lss (.t ⟨.d0, .d0, .d7⟩) (.t ⟨.d0, .d0, .d6⟩), none⟩])
      (.seq (.cond (.t ⟨.d0, .d1, .d0⟩)
        (.skip)
        (.exit 0))
      (.seq (.block 1
        (.seq (.region [⟨some ⟨.d0, .d1, .d1⟩, .move (.t ⟨.d0, .d0, .d7⟩), none⟩,
          ⟨some ⟨.d0, .d0, .d4⟩, .move (.t ⟨.d0, .d1, .d1⟩), none⟩])
        (.region [⟨some ⟨.d0, .d1, .d2⟩, .move (.t ⟨.d0, .d0, .d3⟩), none⟩,
          ⟨some ⟨.d0, .d1, .d3⟩, .move (.t ⟨.d0, .d0, .d0⟩), none⟩,
          ⟨some ⟨.d0, .d1, .d4⟩, .move (.t ⟨.d0, .d0, .d4⟩), none⟩,
          ⟨some ⟨.d0, .d1, .d5⟩, .strAt (.t ⟨.d0, .d1, .d3⟩) (.t ⟨.d0, .d1, .d4⟩), none⟩,
          ⟨some ⟨.d0, .d1, .d6⟩, .convInt .u64 (.t ⟨.d0, .d1, .d5⟩), none⟩,
          ⟨some ⟨.d0, .d1, .d7⟩, .move (.t ⟨.d0, .d0, .d4⟩), none⟩,
          ⟨some ⟨.d0, .d2, .d0⟩, .bin .mul (.c (.int .i64 8)) (.t ⟨.d0, .d1, .d7⟩), none⟩,
          ⟨some ⟨.d0, .d2, .d1⟩, .bin .shl (.t ⟨.d0, .d1, .d6⟩) (.t ⟨.d0, .d2, .d0⟩), none⟩,
          ⟨some ⟨.d0, .d2, .d2⟩, .bin .or (.t ⟨.d0, .d1, .d2⟩) (.t ⟨.d0, .d2, .d1⟩), none⟩,
          ⟨some ⟨.d0, .d0, .d3⟩, .move (.t ⟨.d0, .d2, .d2⟩), none⟩])))
      (.region [⟨some ⟨.d0, .d2, .d3⟩, .bin .add (.t ⟨.d0, .d0, .d7⟩) (.c (.int .i64 1)), none⟩,
        ⟨some ⟨.d0, .d0, .d7⟩, .move (.t ⟨.d0, .d2, .d3⟩), none⟩])))))))
  (.seq (.region [⟨some ⟨.d0, .d2, .d4⟩, .move (.t ⟨.d0, .d0, .d3⟩), none⟩,
    ⟨some ⟨.d0, .d0, .d2⟩, .move (.t ⟨.d0, .d2, .d4⟩), none⟩])
  (.ret))))
def r_sip_number : List XR := [.tmp ⟨.d0, .d0, .d2⟩]
theorem ok_sip_number : okC Try.prog Try.f79.ntmps (bodyOf Try.f79) x_sip_number = true := by kernel_rfl
theorem okr_sip_number : okRs Try.prog Try.f79.results.toList r_sip_number = true := by kernel_rfl

/-- sip.rounds -/
def x_sip_rounds : XC :=
  .seq (.regionD [0, 1, 3, 7, 0, 16, 48, 112, 0, 256, 768, 1792, 0, 4096, 12288, 28672, 15, 65791, 200703, 524287] [⟨some ⟨.d0, .d1, .d0⟩, .move (.t ⟨.d0, .d0, .d0⟩), none⟩,
    ⟨some ⟨.d0, .d1, .d1⟩, .nilCheck (.t ⟨.d0, .d1, .d0⟩), none⟩,
    ⟨some ⟨.d0, .d1, .d2⟩, .indexArr 1 4 (.t ⟨.d0, .d1, .d1⟩) (.c (.int .i64 0)), none⟩,
    ⟨some ⟨.d0, .d1, .d3⟩, .load false 1 (.t ⟨.d0, .d1, .d2⟩), none⟩,
    ⟨some ⟨.d0, .d1, .d4⟩, .move (.t ⟨.d0, .d0, .d0⟩), none⟩,
    ⟨some ⟨.d0, .d1, .d5⟩, .nilCheck (.t ⟨.d0, .d1, .d4⟩), none⟩,
    ⟨some ⟨.d0, .d1, .d6⟩, .indexArr 1 4 (.t ⟨.d0, .d1, .d5⟩) (.c (.int .i64 1)), none⟩,
    ⟨some ⟨.d0, .d1, .d7⟩, .load false 1 (.t ⟨.d0, .d1, .d6⟩), none⟩,
    ⟨some ⟨.d0, .d2, .d0⟩, .move (.t ⟨.d0, .d0, .d0⟩), none⟩,
    ⟨some ⟨.d0, .d2, .d1⟩, .nilCheck (.t ⟨.d0, .d2, .d0⟩), none⟩,
    ⟨some ⟨.d0, .d2, .d2⟩, .indexArr 1 4 (.t ⟨.d0, .d2, .d1⟩) (.c (.int .i64 2)), none⟩,
    ⟨some ⟨.d0, .d2, .d3⟩, .load false 1 (.t ⟨.d0, .d2, .d2⟩), none⟩,
    ⟨some ⟨.d0, .d2, .d4⟩, .move (.t ⟨.d0, .d0, .d0⟩), none⟩,
    ⟨some ⟨.d0, .d2, .d5⟩, .nilCheck (.t ⟨.d0, .d2, .d4⟩), none⟩,
    ⟨some ⟨.d0, .d2, .d6⟩, .indexArr 1 4 (.t ⟨.d0, .d2, .d5⟩) (.c (.int .i64 3)), none⟩,
    ⟨some ⟨.d0, .d2, .d7⟩, .load false 1 (.t ⟨.d0, .d2, .d6⟩), none⟩,
    ⟨some ⟨.d0, .d0, .d4⟩, .move (.t ⟨.d0, .d1, .d3⟩), none⟩,
    ⟨some ⟨.d0, .d0, .d5⟩, .move (.t ⟨.d0, .d1, .d7⟩), none⟩,
    ⟨some ⟨.d0, .d0, .d6⟩, .move (.t ⟨.d0, .d2, .d3⟩), none⟩,
    ⟨some ⟨.d0, .d0, .d7⟩, .move (.t ⟨.d0, .d2, .d7⟩), none⟩])
  (.seq (.seq (.region [⟨some ⟨.d0, .d3, .d0⟩, .move (.t ⟨.d0, .d0, .d1⟩), none⟩,
    ⟨some ⟨.d0, .d3, .d1⟩, .move (.c (.int .i64 0)), none⟩])
  (.block 0
    (.loop
      (.seq (.region [⟨some ⟨.d0, .d3, .d2⟩, .bin .lss (.t ⟨.d0, .d3, .d1⟩) (.t ⟨.d0, .d3, .d0⟩), none⟩])
      (.seq (.cond (.t ⟨.d0, .d3, .d2⟩)
        (.skip)
        (.exit 0))
      (.seq (.block 1
        (.seq (.region [⟨some ⟨.d0, .d3, .d3⟩, .move (.t ⟨.d0, .d0, .d4⟩), none⟩,
          ⟨some ⟨.d0, .d3, .d4⟩, .move (.t ⟨.d0, .d0, .d5⟩), none⟩,
          ⟨some ⟨.d0, .d3, .d5⟩, .bin .add (.t ⟨.d0, .d3, .d3⟩) (.t ⟨.d0, .d3, .d4⟩), none⟩,
          ⟨some ⟨.d0, .d0, .d4⟩, .move (.t ⟨.d0, .d3, .d5⟩), none⟩])
        (.seq (.region [⟨some ⟨.d0, .d3, .d6⟩, .move (.t ⟨.d0, .d0, .d5⟩), none⟩,
          ⟨some ⟨.d0, .d3, .d7⟩, .call 85 [(.t ⟨.d0, .d3, .d6⟩), (.c (.int .i64 13))], none⟩,
          ⟨some ⟨.d0, .d4, .d0⟩, .move (.t ⟨.d0, .d0, .d4⟩), none⟩,
          ⟨some ⟨.d0, .d4, .d1⟩, .bin .xor (.t ⟨.d0, .d3, .d7⟩) (.t ⟨.d0, .d4, .d0⟩), none⟩,
          ⟨some ⟨.d0, .d0, .d5⟩, .move (.t ⟨.d0, .d4, .d1⟩), none⟩])
        (.seq (.region [⟨some ⟨.d0, .d4, .d2⟩, .move (.t ⟨.d0, .d0, .d4⟩), none⟩,
          ⟨some ⟨.d0, .d4, .d3⟩, .call 85 [(.t ⟨.d0, .d4, .d2⟩), (.c (.int .i64 32))], none⟩,
          ⟨some ⟨.d0, .d0, .d4⟩, .move (.t ⟨.d0, .d4, .d3⟩), none⟩])
        (.seq (.region [⟨some ⟨.d0, .d4, .d4⟩, .move (.t ⟨.d0, .d0, .d6⟩), none⟩,
          ⟨some ⟨.d0, .d4, .d5⟩, .move (.t ⟨.d0, .d0, .d7⟩), none⟩,
          ⟨some ⟨.d0, .d4, .d6⟩, .bin .add (.t ⟨.d0, .d4, .d4⟩) (.t ⟨.d0, .d4, .d5⟩), none⟩,
          ⟨some ⟨.d0, .d0, .d6⟩, .move (.t ⟨.d0, .d4, .d6⟩), none⟩])
        (.seq (.region [⟨some ⟨.d0, .d4, .d7⟩, .move (.t ⟨.d0, .d0, .d7⟩), none⟩,
          ⟨some ⟨.d0, .d5, .d0⟩, .call 85 [(.t ⟨.d0, .d4, .d7⟩), (.c (.int .i64 16))], none⟩,
          ⟨some ⟨.d0, .d5, .d1⟩, .move (.t ⟨.d0, .d0, .d6⟩), none⟩,
          ⟨some ⟨.d0, .d5, .d2⟩, .bin .xor (.t ⟨.d0, .d5, .d0⟩) (.t ⟨.d0, .d5, .d1⟩), none⟩,
          ⟨some ⟨.d0, .d0, .d7⟩, .move (.t ⟨.d0, .d5, .d2⟩), none⟩])
        (.seq (.region [⟨some ⟨.d0, .d5, .d3⟩, .move (.t ⟨.d0, .d0, .d4⟩), none⟩,
          ⟨some ⟨.d0, .d5, .d4⟩, .move (.t ⟨.d0, .d0, .d7⟩), none⟩,
          ⟨some ⟨.d0, .d5, .d5⟩, .bin .add (.t ⟨.d0, .d5, .d3⟩) (.t ⟨.d0, .d5, .d4⟩), none⟩,
          ⟨some ⟨.d0, .d0, .d4⟩, .move (.t ⟨.d0, .d5, .d5⟩), none⟩])
        (.seq (.region [⟨some ⟨.d0, .d5, .d6⟩, .move (.t ⟨.d0, .d0, .d7⟩), none⟩,
          ⟨some ⟨.d0, .d5, .d7⟩, .call 85 [(.t ⟨.d0, .d5, .d6⟩), (.c (.int .i64 21))], none⟩,
          ⟨some ⟨.d0, .d6, .d0⟩, .move (.t ⟨.d0, .d0, .d4⟩), none⟩,
          ⟨some ⟨.d0, .d6, .d1⟩, .bin .xor (.t ⟨.d0, .d5, .d7⟩) (.t ⟨.d0, .d6, .d0⟩), none⟩,
          ⟨some ⟨.d0, .d0, .d7⟩, .move (.t ⟨.d0, .d6, .d1⟩), none⟩])
        (.seq (.region [⟨some ⟨.d0, .d6, .d2⟩, .move (.t ⟨.d0, .d0, .d6⟩), none⟩,
          ⟨some ⟨.d0, .d6, .d3⟩, .move (.t ⟨.d0, .d0, .d5⟩), none⟩,
          ⟨some ⟨.d0, .d6, .d4⟩, .bin .add (.t ⟨.d0, .d6, .d2⟩) (.t ⟨.d0, .d6, .d3⟩), none⟩,
          ⟨some ⟨.d0, .d0, .d6⟩, .move (.t ⟨.d0, .d6, .d4⟩), none⟩])
        (.seq (.region [⟨some ⟨.d0, .d6, .d5⟩, .move (.t ⟨.d0, .d0, .d5⟩), none⟩,
          ⟨some ⟨.d0, .d6, .d6⟩, .call 85 [(.t ⟨.d0, .d6, .d5⟩), (.c (.int .i64 17))], none⟩,
          ⟨some ⟨.d0, .d6, .d7⟩, .move (.t ⟨.d0, .d0, .d6⟩), none⟩,
          ⟨some ⟨.d0, .d7, .d0⟩, .bin .xor (.t ⟨.d0, .d6, .d6⟩) (.t ⟨.d0, .d6, .d7⟩), none⟩,
          ⟨some ⟨.d0, .d0, .d5⟩, .move (.t ⟨.d0, .d7, .d0⟩), none⟩])
        (.region [⟨some ⟨.d0, .d7, .d1⟩, .move (.t ⟨.d0, .d0, .d6⟩), none⟩,
          ⟨some ⟨.d0, .d7, .d2⟩, .call 85 [(.t ⟨.d0, .d7, .d1⟩), (.c (.int .i64 32))], none⟩,
          ⟨some ⟨.d0, .d0, .d6⟩, .move (.t ⟨.d0, .d7, .d2⟩), none⟩])))))))))))
      (.region [⟨some ⟨.d0, .d7, .d3⟩, .bin .add (.t ⟨.d0, .d3, .d1⟩) (.c (.int .i64 1)), none⟩,
        ⟨some ⟨.d0, .d3, .d1⟩, .move (.t ⟨.d0, .d7, .d3⟩), none⟩])))))))
  (.region [⟨some ⟨.d0, .d7, .d4⟩, .move (.t ⟨.d0, .d0, .d0⟩), none⟩,
    ⟨some ⟨.d0, .d7, .d5⟩, .move (.t ⟨.d0, .d0, .d4⟩), none⟩,
    ⟨some ⟨.d0, .d7, .d6⟩, .move (.t ⟨.d0, .d0, .d5⟩), none⟩,
    ⟨some ⟨.d0, .d7, .d7⟩, .move (.t ⟨.d0, .d0, .d6⟩), none⟩,
    ⟨some ⟨.d1, .d0, .d0⟩, .move (.t ⟨.d0, .d0, .d7⟩), none⟩,
    ⟨some ⟨.d1, .d0, .d1⟩, .build [.int .u64 0, .int .u64 0, .int .u64 0, .int .u64 0] [(0, 1, (.t ⟨.d0, .d7, .d5⟩)), (1, 1, (.t ⟨.d0, .d7, .d6⟩)), (2, 1, (.t ⟨.d0, .d7, .d7⟩)), (3, 1, (.t ⟨.d1, .d0, .d0⟩))], none⟩,
    ⟨some ⟨.d1, .d0, .d2⟩, .nilCheck (.t ⟨.d0, .d7, .d4⟩), none⟩,
    ⟨none, .store 4 (.t ⟨.d1, .d0, .d2⟩) (.t ⟨.d1, .d0, .d1⟩), none⟩]))
def r_sip_rounds : List XR := []
theorem ok_sip_rounds : okC Try.prog Try.f80.ntmps (bodyOf Try.f80) x_sip_rounds = true := by kernel_rfl
theorem okr_sip_rounds : okRs Try.prog Try.f80.results.toList r_sip_rounds = true := by kernel_rfl

/-- custref.SipRight -/
def x_custref_SipRight : XC :=
  .seq (.region [⟨some ⟨.d0, .d0, .d1⟩, .box 0 6 (.t ⟨.d0, .d0, .d0⟩), none⟩,
    ⟨some ⟨.d0, .d0, .d2⟩, .move (.c (.int .i64 0)), none⟩])
  (.seq (.seq (.region [⟨some ⟨.d0, .d0, .d3⟩, .fieldAddr 5 (.t ⟨.d0, .d0, .d1⟩), none⟩,
    ⟨some ⟨.d0, .d0, .d4⟩, .load false 1 (.t ⟨.d0, .d0, .d3⟩), none⟩,
    ⟨some ⟨.d0, .d0, .d5⟩, .bin .lss (.t ⟨.d0, .d0, .d4⟩) (.c (.int .i64 0)), none⟩,
    ⟨some ⟨.d0, .d0, .d6⟩, .move (.t ⟨.d0, .d0, .d5⟩), none⟩,
    ⟨some ⟨.d0, .d0, .d7⟩, .fieldAddr 4 (.t ⟨.d0, .d0, .d1⟩), some (⟨.d0, .d0, .d6⟩, false)⟩,
    ⟨some ⟨.d0, .d1, .d0⟩, .load false 1 (.t ⟨.d0, .d0, .d7⟩), some (⟨.d0, .d0, .d6⟩, false)⟩,
    ⟨some ⟨.d0, .d1, .d1⟩, .slen (.t ⟨.d0, .d1, .d0⟩), some (⟨.d0, .d0, .d6⟩, false)⟩,
    ⟨some ⟨.d0, .d1, .d2⟩, .bin .gtr (.t ⟨.d0, .d1, .d1⟩) (.c (.int .i64 7)), some (⟨.d0, .d0, .d6⟩, false)⟩,
    ⟨some ⟨.d0, .d1, .d3⟩, .pick (.t ⟨.d0, .d0, .d6⟩) (.c (.bool true)) (.t ⟨.d0, .d1, .d2⟩), none⟩,
    ⟨some ⟨.d0, .d1, .d4⟩, .move (.t ⟨.d0, .d1, .d3⟩), none⟩,
    ⟨some ⟨.d0, .d1, .d5⟩, .fieldAddr 4 (.t ⟨.d0, .d0, .d1⟩), some (⟨.d0, .d1, .d4⟩, false)⟩,
    ⟨some ⟨.d0, .d1, .d6⟩, .load false 1 (.t ⟨.d0, .d1, .d5⟩), some (⟨.d0, .d1, .d4⟩, false)⟩,
    ⟨some ⟨.d0, .d1, .d7⟩, .slen (.t ⟨.d0, .d1, .d6⟩), some (⟨.d0, .d1, .d4⟩, false)⟩,
    ⟨some ⟨.d0, .d2, .d0⟩, .fieldAddr 5 (.t ⟨.d0, .d0, .d1⟩), some (⟨.d0, .d1, .d4⟩, false)⟩,
    ⟨some ⟨.d0, .d2, .d1⟩, .load false 1 (.t ⟨.d0, .d2, .d0⟩), some (⟨.d0, .d1, .d4⟩, false)⟩,
    ⟨some ⟨.d0, .d2, .d2⟩, .bin .rem (.t ⟨.d0, .d2, .d1⟩) (.c (.int .i64 8)), some (⟨.d0, .d1, .d4⟩, false)⟩,
    ⟨some ⟨.d0, .d2, .d3⟩, .bin .neq (.t ⟨.d0, .d1, .d7⟩) (.t ⟨.d0, .d2, .d2⟩), some (⟨.d0, .d1, .d4⟩, false)⟩,
    ⟨some ⟨.d0, .d2, .d4⟩, .pick (.t ⟨.d0, .d1, .d4⟩) (.c (.bool true)) (.t ⟨.d0, .d2, .d3⟩), none⟩])
  (.cond (.t ⟨.d0, .d2, .d4⟩)
    (.seq (.region [⟨some ⟨.d0, .d0, .d2⟩, .move (.c (.int .i64 4)), none⟩])
    (.ret))
    (.skip)))
  (.seq (.region [⟨some ⟨.d0, .d0, .d2⟩, .move (.c (.int .i64 0)), none⟩])
  (.ret)))
def r_custref_SipRight : List XR := [.tmp ⟨.d0, .d0, .d2⟩]
theorem ok_custref_SipRight : okC Try.prog Try.f81.ntmps (bodyOf Try.f81) x_custref_SipRight = true := by kernel_rfl
theorem okr_custref_SipRight : okRs Try.prog Try.f81.results.toList r_custref_SipRight = true := by kernel_rfl

/-- custref.SipTake -/
def x_custref_SipTake : XC :=
  .seq (.region [⟨some ⟨.d0, .d0, .d2⟩, .box 0 4 (.t ⟨.d0, .d0, .d0⟩), none⟩,
    ⟨some ⟨.d0, .d0, .d4⟩, .alloc 1 [.int .u64 0, .int .u64 0, .int .u64 0, .int .u64 0], none⟩])
  (.seq (.region [⟨some ⟨.d0, .d0, .d5⟩, .indexArr 1 4 (.t ⟨.d0, .d0, .d2⟩) (.c (.int .i64 3)), none⟩,
    ⟨some ⟨.d0, .d0, .d6⟩, .load false 1 (.t ⟨.d0, .d0, .d5⟩), none⟩,
    ⟨some ⟨.d0, .d0, .d7⟩, .move (.t ⟨.d0, .d0, .d1⟩), none⟩,
    ⟨some ⟨.d0, .d1, .d0⟩, .bin .xor (.t ⟨.d0, .d0, .d6⟩) (.t ⟨.d0, .d0, .d7⟩), none⟩,
    ⟨some ⟨.d0, .d1, .d1⟩, .indexArr 1 4 (.t ⟨.d0, .d0, .d2⟩) (.c (.int .i64 3)), none⟩,
    ⟨none, .store 1 (.t ⟨.d0, .d1, .d1⟩) (.t ⟨.d0, .d1, .d0⟩), none⟩])
  (.seq (.region [⟨some ⟨.d0, .d1, .d2⟩, .load true 4 (.t ⟨.d0, .d0, .d2⟩), none⟩,
    ⟨some ⟨.d0, .d1, .d3⟩, .call 84 [(.t ⟨.d0, .d1, .d2⟩)], none⟩,
    ⟨some ⟨.d0, .d1, .d4⟩, .call 84 [(.t ⟨.d0, .d1, .d3⟩)], none⟩,
    ⟨none, .store 4 (.t ⟨.d0, .d0, .d2⟩) (.t ⟨.d0, .d1, .d4⟩), none⟩])
  (.seq (.region [⟨some ⟨.d0, .d1, .d5⟩, .indexArr 1 4 (.t ⟨.d0, .d0, .d2⟩) (.c (.int .i64 0)), none⟩,
    ⟨some ⟨.d0, .d1, .d6⟩, .load false 1 (.t ⟨.d0, .d1, .d5⟩), none⟩,
    ⟨some ⟨.d0, .d1, .d7⟩, .move (.t ⟨.d0, .d0, .d1⟩), none⟩,
    ⟨some ⟨.d0, .d2, .d0⟩, .bin .xor (.t ⟨.d0, .d1, .d6⟩) (.t ⟨.d0, .d1, .d7⟩), none⟩,
    ⟨some ⟨.d0, .d2, .d1⟩, .indexArr 1 4 (.t ⟨.d0, .d0, .d2⟩) (.c (.int .i64 0)), none⟩,
    ⟨none, .store 1 (.t ⟨.d0, .d2, .d1⟩) (.t ⟨.d0, .d2, .d0⟩), none⟩])
  (.seq (.region [⟨some ⟨.d0, .d2, .d2⟩, .load true 4 (.t ⟨.d0, .d0, .d2⟩), none⟩,
    ⟨none, .store 4 (.t ⟨.d0, .d0, .d4⟩) (.t ⟨.d0, .d2, .d2⟩), none⟩])
  (.ret)))))
def r_custref_SipTake : List XR := [.cell ⟨.d0, .d0, .d4⟩ true 4]
theorem ok_custref_SipTake : okC Try.prog Try.f82.ntmps (bodyOf Try.f82) x_custref_SipTake = true := by kernel_rfl
theorem okr_custref_SipTake : okRs Try.prog Try.f82.results.toList r_custref_SipTake = true := by kernel_rfl

/-- custref.eight -/
def x_custref_eight : XC :=
  .seq (.region [⟨some ⟨.d0, .d0, .d2⟩, .move (.c (.int .u64 0)), none⟩])
  (.seq (.region [⟨some ⟨.d0, .d0, .d3⟩, .move (.c (.int .u64 0)), none⟩])
  (.seq (.seq (.region [⟨some ⟨.d0, .d0, .d4⟩, .move (.c (.int .i64 7)), none⟩])
  (.block 0
    (.loop
      (.seq (.seq (.region [⟨some ⟨.d0, .d0, .d5⟩, .move (.t ⟨.d0, .d0, .d4⟩), none⟩,
        ⟨some ⟨.d0, .d0, .d6⟩, .bin .geq (.t ⟨.d0, .d0, .d5⟩) (.c (.int .i64 0)), none⟩])
      (.cond (.t ⟨.d0, .d0, .d6⟩)
        (.skip)
        (.exit 0)))
      (.seq (.block 1
        (.region [⟨some ⟨.d0, .d1, .d1⟩, .move (.t ⟨.d0, .d0, .d3⟩), none⟩,
          ⟨some ⟨.d0, .d1, .d2⟩, .bin .mul (.c (.int .u64 256)) (.t ⟨.d0, .d1, .d1⟩), none⟩,
          ⟨some ⟨.d0, .d1, .d3⟩, .move (.t ⟨.d0, .d0, .d0⟩), none⟩,
          ⟨some ⟨.d0, .d1, .d4⟩, .move (.t ⟨.d0, .d0, .d4⟩), none⟩,
          ⟨some ⟨.d0, .d1, .d5⟩, .strAt (.t ⟨.d0, .d1, .d3⟩) (.t ⟨.d0, .d1, .d4⟩), none⟩,
          ⟨some ⟨.d0, .d1, .d6⟩, .convInt .u64 (.t ⟨.d0, .d1, .d5⟩), none⟩,
          ⟨some ⟨.d0, .d1, .d7⟩, .bin .add (.t ⟨.d0, .d1, .d2⟩) (.t ⟨.d0, .d1, .d6⟩), none⟩,
          ⟨some ⟨.d0, .d0, .d3⟩, .move (.t ⟨.d0, .d1, .d7⟩), none⟩]))
      (.region [⟨some ⟨.d0, .d0, .d7⟩, .move (.t ⟨.d0, .d0, .d4⟩), none⟩,
        ⟨some ⟨.d0, .d1, .d0⟩, .bin .sub (.t ⟨.d0, .d0, .d7⟩) (.c (.int .i64 1)), none⟩,
        ⟨some ⟨.d0, .d0, .d4⟩, .move (.t ⟨.d0, .d1, .d0⟩), none⟩]))))))
  (.seq (.region [⟨some ⟨.d0, .d2, .d0⟩, .move (.t ⟨.d0, .d0, .d3⟩), none⟩,
    ⟨some ⟨.d0, .d0, .d2⟩, .move (.t ⟨.d0, .d2, .d0⟩), none⟩])
  (.ret))))
def r_custref_eight : List XR := [.tmp ⟨.d0, .d0, .d2⟩]
theorem ok_custref_eight : okC Try.prog Try.f83.ntmps (bodyOf Try.f83) x_custref_eight = true := by kernel_rfl
theorem okr_custref_eight : okRs Try.prog Try.f83.results.toList r_custref_eight = true := by kernel_rfl

/-- custref.SipRound -/
def x_custref_SipRound : XC :=
  .seq (.region [⟨some ⟨.d0, .d0, .d1⟩, .box 0 4 (.t ⟨.d0, .d0, .d0⟩), none⟩,
    ⟨some ⟨.d0, .d0, .d2⟩, .alloc 1 [.int .u64 0, .int .u64 0, .int .u64 0, .int .u64 0], none⟩])
  (.seq (.region [⟨some ⟨.d0, .d0, .d3⟩, .indexArr 1 4 (.t ⟨.d0, .d0, .d1⟩) (.c (.int .i64 0)), none⟩,
    ⟨some ⟨.d0, .d0, .d4⟩, .load false 1 (.t ⟨.d0, .d0, .d3⟩), none⟩,
    ⟨some ⟨.d0, .d0, .d5⟩, .indexArr 1 4 (.t ⟨.d0, .d0, .d1⟩) (.c (.int .i64 1)), none⟩,
    ⟨some ⟨.d0, .d0, .d6⟩, .load false 1 (.t ⟨.d0, .d0, .d5⟩), none⟩,
    ⟨some ⟨.d0, .d0, .d7⟩, .bin .add (.t ⟨.d0, .d0, .d4⟩) (.t ⟨.d0, .d0, .d6⟩), none⟩,
    ⟨some ⟨.d0, .d1, .d0⟩, .indexArr 1 4 (.t ⟨.d0, .d0, .d1⟩) (.c (.int .i64 0)), none⟩,
    ⟨none, .store 1 (.t ⟨.d0, .d1, .d0⟩) (.t ⟨.d0, .d0, .d7⟩), none⟩])
  (.seq (.regionD [0, 1, 3, 0, 8, 31, 63, 127] [⟨some ⟨.d0, .d1, .d1⟩, .indexArr 1 4 (.t ⟨.d0, .d0, .d1⟩) (.c (.int .i64 1)), none⟩,
    ⟨some ⟨.d0, .d1, .d2⟩, .load false 1 (.t ⟨.d0, .d1, .d1⟩), none⟩,
    ⟨some ⟨.d0, .d1, .d3⟩, .call 86 [(.t ⟨.d0, .d1, .d2⟩), (.c (.int .i64 13))], none⟩,
    ⟨some ⟨.d0, .d1, .d4⟩, .indexArr 1 4 (.t ⟨.d0, .d0, .d1⟩) (.c (.int .i64 0)), none⟩,
    ⟨some ⟨.d0, .d1, .d5⟩, .load false 1 (.t ⟨.d0, .d1, .d4⟩), none⟩,
    ⟨some ⟨.d0, .d1, .d6⟩, .bin .xor (.t ⟨.d0, .d1, .d3⟩) (.t ⟨.d0, .d1, .d5⟩), none⟩,
    ⟨some ⟨.d0, .d1, .d7⟩, .indexArr 1 4 (.t ⟨.d0, .d0, .d1⟩) (.c (.int .i64 1)), none⟩,
    ⟨none, .store 1 (.t ⟨.d0, .d1, .d7⟩) (.t ⟨.d0, .d1, .d6⟩), none⟩])
  (.seq (.region [⟨some ⟨.d0, .d2, .d0⟩, .indexArr 1 4 (.t ⟨.d0, .d0, .d1⟩) (.c (.int .i64 0)), none⟩,
    ⟨some ⟨.d0, .d2, .d1⟩, .load false 1 (.t ⟨.d0, .d2, .d0⟩), none⟩,
    ⟨some ⟨.d0, .d2, .d2⟩, .call 86 [(.t ⟨.d0, .d2, .d1⟩), (.c (.int .i64 32))], none⟩,
    ⟨some ⟨.d0, .d2, .d3⟩, .indexArr 1 4 (.t ⟨.d0, .d0, .d1⟩) (.c (.int .i64 0)), none⟩,
    ⟨none, .store 1 (.t ⟨.d0, .d2, .d3⟩) (.t ⟨.d0, .d2, .d2⟩), none⟩])
  (.seq (.region [⟨some ⟨.d0, .d2, .d4⟩, .indexArr 1 4 (.t ⟨.d0, .d0, .d1⟩) (.c (.int .i64 2)), none⟩,
    ⟨some ⟨.d0, .d2, .d5⟩, .load false 1 (.t ⟨.d0, .d2, .d4⟩), none⟩,
    ⟨some ⟨.d0, .d2, .d6⟩, .indexArr 1 4 (.t ⟨.d0, .d0, .d1⟩) (.c (.int .i64 3)), none⟩,
    ⟨some ⟨.d0, .d2, .d7⟩, .load false 1 (.t ⟨.d0, .d2, .d6⟩), none⟩,
    ⟨some ⟨.d0, .d3, .d0⟩, .bin .add (.t ⟨.d0, .d2, .d5⟩) (.t ⟨.d0, .d2, .d7⟩), none⟩,
    ⟨some ⟨.d0, .d3, .d1⟩, .indexArr 1 4 (.t ⟨.d0, .d0, .d1⟩) (.c (.int .i64 2)), none⟩,
    ⟨none, .store 1 (.t ⟨.d0, .d3, .d1⟩) (.t ⟨.d0, .d3, .d0⟩), none⟩])
  (.seq (.regionD [0, 1, 3, 0, 8, 31, 63, 127] [⟨some ⟨.d0, .d3, .d2⟩, .indexArr 1 4 (.t ⟨.d0, .d0, .d1⟩) (.c (.int .i64 3)), none⟩,
    ⟨some ⟨.d0, .d3, .d3⟩, .load false 1 (.t ⟨.d0, .d3, .d2⟩), none⟩,
    ⟨some ⟨.d0, .d3, .d4⟩, .call 86 [(.t ⟨.d0, .d3, .d3⟩), (.c (.int .i64 16))], none⟩,
    ⟨some ⟨.d0, .d3, .d5⟩, .indexArr 1 4 (.t ⟨.d0, .d0, .d1⟩) (.c (.int .i64 2)), none⟩,
    ⟨some ⟨.d0, .d3, .d6⟩, .load false 1 (.t ⟨.d0, .d3, .d5⟩), none⟩,
    ⟨some ⟨.d0, .d3, .d7⟩, .bin .xor (.t ⟨.d0, .d3, .d4⟩) (.t ⟨.d0, .d3, .d6⟩), none⟩,
    ⟨some ⟨.d0, .d4, .d0⟩, .indexArr 1 4 (.t ⟨.d0, .d0, .d1⟩) (.c (.int .i64 3)), none⟩,
    ⟨none, .store 1 (.t ⟨.d0, .d4, .d0⟩) (.t ⟨.d0, .d3, .d7⟩), none⟩])
  (.seq (.region [⟨some ⟨.d0, .d4, .d1⟩, .indexArr 1 4 (.t ⟨.d0, .d0, .d1⟩) (.c (.int .i64 0)), none⟩,
    ⟨some ⟨.d0, .d4, .d2⟩, .load false 1 (.t ⟨.d0, .d4, .d1⟩), none⟩,
    ⟨some ⟨.d0, .d4, .d3⟩, .indexArr 1 4 (.t ⟨.d0, .d0, .d1⟩) (.c (.int .i64 3)), none⟩,
    ⟨some ⟨.d0, .d4, .d4⟩, .load false 1 (.t ⟨.d0, .d4, .d3⟩), none⟩,
    ⟨some ⟨.d0, .d4, .d5⟩, .bin .add (.t ⟨.d0, .d4, .d2⟩) (.t ⟨.d0, .d4, .d4⟩), none⟩,
    ⟨some ⟨.d0, .d4, .d6⟩, .indexArr 1 4 (.t ⟨.d0, .d0, .d1⟩) (.c (.int .i64 0)), none⟩,
    ⟨none, .store 1 (.t ⟨.d0, .d4, .d6⟩) (.t ⟨.d0, .d4, .d5⟩), none⟩])
  (.seq (.regionD [0, 1, 3, 0, 8, 31, 63, 127] [⟨some ⟨.d0, .d4, .d7⟩, .indexArr 1 4 (.t ⟨.d0, .d0, .d1⟩) (.c (.int .i64 3)), none⟩,
    ⟨some ⟨.d0, .d5, .d0⟩, .load false 1 (.t ⟨.d0, .d4, .d7⟩), none⟩,
    ⟨some ⟨.d0, .d5, .d1⟩, .call 86 [(.t ⟨.d0, .d5, .d0⟩), (.c (.int .i64 21))], none⟩,
    ⟨some ⟨.d0, .d5, .d2⟩, .indexArr 1 4 (.t ⟨.d0, .d0, .d1⟩) (.c (.int .i64 0)), none⟩,
    ⟨some ⟨.d0, .d5, .d3⟩, .load false 1 (.t ⟨.d0, .d5, .d2⟩), none⟩,
    ⟨some ⟨.d0, .d5, .d4⟩, .bin .xor (.t ⟨.d0, .d5, .d1⟩) (.t ⟨.d0, .d5, .d3⟩), none⟩,
    ⟨some ⟨.d0, .d5, .d5⟩, .indexArr 1 4 (.t ⟨.d0, .d0, .d1⟩) (.c (.int .i64 3)), none⟩,
    ⟨none, .store 1 (.t ⟨.d0, .d5, .d5⟩) (.t ⟨.d0, .d5, .d4⟩), none⟩])
  (.seq (.region [⟨some ⟨.d0, .d5, .d6⟩, .indexArr 1 4 (.t ⟨.d0, .d0, .d1⟩) (.c (.int .i64 2)), none⟩,
    ⟨some ⟨.d0, .d5, .d7⟩, .load false 1 (.t ⟨.d0, .d5, .d6⟩), none⟩,
    ⟨some ⟨.d0, .d6, .d0⟩, .indexArr 1 4 (.t ⟨.d0, .d0, .d1⟩) (.c (.int .i64 1)), none⟩,
    ⟨some ⟨.d0, .d6, .d1⟩, .load false 1 (.t ⟨.d0, .d6, .d0⟩), none⟩,
    ⟨some ⟨.d0, .d6, .d2⟩, .bin .add (.t ⟨.d0, .d5, .d7⟩) (.t ⟨.d0, .d6, .d1⟩), none⟩,
    ⟨some ⟨.d0, .d6, .d3⟩, .indexArr 1 4 (.t ⟨.d0, .d0, .d1⟩) (.c (.int .i64 2)), none⟩,
    ⟨none, .store 1 (.t ⟨.d0, .d6, .d3⟩) (.t ⟨.d0, .d6, .d2⟩), none⟩])
  (.seq (.regionD [0, 1, 3, 0, 8, 31, 63, 127] [⟨some ⟨.d0, .d6, .d4⟩, .indexArr 1 4 (.t ⟨.d0, .d0, .d1⟩) (.c (.int .i64 1)), none⟩,
    ⟨some ⟨.d0, .d6, .d5⟩, .load false 1 (.t ⟨.d0, .d6, .d4⟩), none⟩,
    ⟨some ⟨.d0, .d6, .d6⟩, .call 86 [(.t ⟨.d0, .d6, .d5⟩), (.c (.int .i64 17))], none⟩,
    ⟨some ⟨.d0, .d6, .d7⟩, .indexArr 1 4 (.t ⟨.d0, .d0, .d1⟩) (.c (.int .i64 2)), none⟩,
    ⟨some ⟨.d0, .d7, .d0⟩, .load false 1 (.t ⟨.d0, .d6, .d7⟩), none⟩,
    ⟨some ⟨.d0, .d7, .d1⟩, .bin .xor (.t ⟨.d0, .d6, .d6⟩) (.t ⟨.d0, .d7, .d0⟩), none⟩,
    ⟨some ⟨.d0, .d7, .d2⟩, .indexArr 1 4 (.t ⟨.d0, .d0, .d1⟩) (.c (.int .i64 1)), none⟩,
    ⟨none, .store 1 (.t ⟨.d0, .d7, .d2⟩) (.t ⟨.d0, .d7, .d1⟩), none⟩])
  (.seq (.region [⟨some ⟨.d0, .d7, .d3⟩, .indexArr 1 4 (.t ⟨.d0, .d0, .d1⟩) (.c (.int .i64 2)), none⟩,
    ⟨some ⟨.d0, .d7, .d4⟩, .load false 1 (.t ⟨.d0, .d7, .d3⟩), none⟩,
    ⟨some ⟨.d0, .d7, .d5⟩, .call 86 [(.t ⟨.d0, .d7, .d4⟩), (.c (.int .i64 32))], none⟩,
    ⟨some ⟨.d0, .d7, .d6⟩, .indexArr 1 4 (.t ⟨.d0, .d0, .d1⟩) (.c (.int .i64 2)), none⟩,
    ⟨none, .store 1 (.t ⟨.d0, .d7, .d6⟩) (.t ⟨.d0, .d7, .d5⟩), none⟩])
  (.seq (.region [⟨some ⟨.d0, .d7, .d7⟩, .load true 4 (.t ⟨.d0, .d0, .d1⟩), none⟩,
    ⟨none, .store 4 (.t ⟨.d0, .d0, .d2⟩) (.t ⟨.d0, .d7, .d7⟩), none⟩])
  (.ret))))))))))))
def r_custref_SipRound : List XR := [.cell ⟨.d0, .d0, .d2⟩ true 4]
theorem ok_custref_SipRound : okC Try.prog Try.f84.ntmps (bodyOf Try.f84) x_custref_SipRound = true := by kernel_rfl
theorem okr_custref_SipRound : okRs Try.prog Try.f84.results.toList r_custref_SipRound = true := by kernel_rfl

/-- bits.RotateLeft64 -/
def x_bits_RotateLeft64 : XC :=
  .seq (.region [⟨some ⟨.d0, .d0, .d4⟩, .move (.c (.int .u64 0)), none⟩])
  (.seq (.region [⟨some ⟨.d0, .d0, .d6⟩, .move (.t ⟨.d0, .d0, .d1⟩), none⟩,
    ⟨some ⟨.d0, .d0, .d7⟩, .convInt .u64 (.t ⟨.d0, .d0, .d6⟩), none⟩,
    ⟨some ⟨.d0, .d1, .d0⟩, .bin .and (.t ⟨.d0, .d0, .d7⟩) (.c (.int .u64 63)), none⟩,
    ⟨some ⟨.d0, .d0, .d5⟩, .move (.t ⟨.d0, .d1, .d0⟩), none⟩])
  (.seq (.region [⟨some ⟨.d0, .d1, .d1⟩, .move (.t ⟨.d0, .d0, .d0⟩), none⟩,
    ⟨some ⟨.d0, .d1, .d2⟩, .move (.t ⟨.d0, .d0, .d5⟩), none⟩,
    ⟨some ⟨.d0, .d1, .d3⟩, .bin .shl (.t ⟨.d0, .d1, .d1⟩) (.t ⟨.d0, .d1, .d2⟩), none⟩,
    ⟨some ⟨.d0, .d1, .d4⟩, .move (.t ⟨.d0, .d0, .d0⟩), none⟩,
    ⟨some ⟨.d0, .d1, .d5⟩, .move (.t ⟨.d0, .d0, .d5⟩), none⟩,
    ⟨some ⟨.d0, .d1, .d6⟩, .bin .sub (.c (.int .u64 64)) (.t ⟨.d0, .d1, .d5⟩), none⟩,
    ⟨some ⟨.d0, .d1, .d7⟩, .bin .shr (.t ⟨.d0, .d1, .d4⟩) (.t ⟨.d0, .d1, .d6⟩), none⟩,
    ⟨some ⟨.d0, .d2, .d0⟩, .bin .or (.t ⟨.d0, .d1, .d3⟩) (.t ⟨.d0, .d1, .d7⟩), none⟩,
    ⟨some ⟨.d0, .d0, .d4⟩, .move (.t ⟨.d0, .d2, .d0⟩), none⟩])
  (.ret)))
def r_bits_RotateLeft64 : List XR := [.tmp ⟨.d0, .d0, .d4⟩]
theorem ok_bits_RotateLeft64 : okC Try.prog Try.f85.ntmps (bodyOf Try.f85) x_bits_RotateLeft64 = true := by kernel_rfl
theorem okr_bits_RotateLeft64 : okRs Try.prog Try.f85.results.toList r_bits_RotateLeft64 = true := by kernel_rfl

/-- custref.Turned -/
def x_custref_Turned : XC :=
  .seq (.region [⟨some ⟨.d0, .d0, .d4⟩, .move (.c (.int .u64 0)), none⟩])
  (.seq (.regionD [0, 0, 2, 7, 0, 0, 32, 96, 240, 511, 1023] [⟨some ⟨.d0, .d0, .d5⟩, .move (.t ⟨.d0, .d0, .d0⟩), none⟩,
    ⟨some ⟨.d0, .d0, .d6⟩, .move (.t ⟨.d0, .d0, .d1⟩), none⟩,
    ⟨some ⟨.d0, .d0, .d7⟩, .bin .shl (.c (.int .u64 1)) (.t ⟨.d0, .d0, .d6⟩), none⟩,
    ⟨some ⟨.d0, .d1, .d0⟩, .bin .mul (.t ⟨.d0, .d0, .d5⟩) (.t ⟨.d0, .d0, .d7⟩), none⟩,
    ⟨some ⟨.d0, .d1, .d1⟩, .move (.t ⟨.d0, .d0, .d0⟩), none⟩,
    ⟨some ⟨.d0, .d1, .d2⟩, .move (.t ⟨.d0, .d0, .d1⟩), none⟩,
    ⟨some ⟨.d0, .d1, .d3⟩, .bin .sub (.c (.int .i64 64)) (.t ⟨.d0, .d1, .d2⟩), none⟩,
    ⟨some ⟨.d0, .d1, .d4⟩, .bin .shl (.c (.int .u64 1)) (.t ⟨.d0, .d1, .d3⟩), none⟩,
    ⟨some ⟨.d0, .d1, .d5⟩, .bin .quo (.t ⟨.d0, .d1, .d1⟩) (.t ⟨.d0, .d1, .d4⟩), none⟩,
    ⟨some ⟨.d0, .d1, .d6⟩, .bin .add (.t ⟨.d0, .d1, .d0⟩) (.t ⟨.d0, .d1, .d5⟩), none⟩,
    ⟨some ⟨.d0, .d0, .d4⟩, .move (.t ⟨.d0, .d1, .d6⟩), none⟩])
  (.ret))
def r_custref_Turned : List XR := [.tmp ⟨.d0, .d0, .d4⟩]
theorem ok_custref_Turned : okC Try.prog Try.f86.ntmps (bodyOf Try.f86) x_custref_Turned = true := by kernel_rfl
theorem okr_custref_Turned : okRs Try.prog Try.f86.results.toList r_custref_Turned = true := by kernel_rfl
end Go.Proofs.Ytmkdgnocbjbijaa
