/-
  The functions of the program in short form, and that the model's code is what they stand for. Printed by xgen.py.
-/
import Derived.Test.YtkpechddgjbfkaaFw
import Derived.Test.YtkpechddgjbfkaaProg
import Derived.KernelRfl
namespace Go.Proofs.Ytkpechddgjbfkaa
set_option linter.unusedVariables false
set_option maxRecDepth 100000

/-- custlaw.SipSays -/
def x_custlaw_SipSays : XC :=
  .seq (.region [⟨some ⟨.d0, .d0, .d3⟩, .box 0 2 (.t ⟨.d0, .d0, .d0⟩), none⟩,
    ⟨some ⟨.d0, .d0, .d4⟩, .box 1 6 (.t ⟨.d0, .d0, .d1⟩), none⟩,
    ⟨some ⟨.d0, .d0, .d6⟩, .move (.c (.bool false)), none⟩])
  (.seq (.seq (.region [⟨some ⟨.d0, .d1, .d7⟩, .fieldAddr 5 (.t ⟨.d0, .d0, .d4⟩), none⟩,
    ⟨some ⟨.d0, .d2, .d0⟩, .load false 1 (.t ⟨.d0, .d1, .d7⟩), none⟩,
    ⟨some ⟨.d0, .d2, .d1⟩, .bin .gtr (.t ⟨.d0, .d2, .d0⟩) (.c (.int .i64 4611686018427387904)), none⟩])
  (.cond (.t ⟨.d0, .d2, .d1⟩)
    (.seq (.region [⟨some ⟨.d0, .d0, .d6⟩, .move (.c (.bool true)), none⟩])
    (.ret))
    (.skip)))
  (.seq (.region [⟨some ⟨.d0, .d2, .d3⟩, .load true 6 (.t ⟨.d0, .d0, .d4⟩), none⟩,
    ⟨some ⟨.d0, .d2, .d4⟩, .move (.t ⟨.d0, .d0, .d2⟩), none⟩,
    ⟨some ⟨.d0, .d2, .d5⟩, .call 36 [(.t ⟨.d0, .d2, .d3⟩), (.t ⟨.d0, .d2, .d4⟩)], none⟩,
    ⟨some ⟨.d0, .d2, .d2⟩, .move (.t ⟨.d0, .d2, .d5⟩), none⟩,
    ⟨some ⟨.d0, .d2, .d6⟩, .extract 0 (.t ⟨.d0, .d2, .d2⟩), none⟩,
    ⟨some ⟨.d0, .d2, .d7⟩, .extract 1 (.t ⟨.d0, .d2, .d2⟩), none⟩,
    ⟨some ⟨.d0, .d0, .d7⟩, .alloc 2 [.int .u64 0, .int .u64 0, .int .u64 0, .int .u64 0, .string { data := #[] }, .int .i64 0], none⟩,
    ⟨none, .store 6 (.t ⟨.d0, .d0, .d7⟩) (.t ⟨.d0, .d2, .d6⟩), none⟩,
    ⟨some ⟨.d0, .d1, .d0⟩, .move (.t ⟨.d0, .d2, .d7⟩), none⟩])
  (.seq (.region [⟨some ⟨.d0, .d3, .d1⟩, .load true 6 (.t ⟨.d0, .d0, .d4⟩), none⟩,
    ⟨some ⟨.d0, .d3, .d2⟩, .move (.t ⟨.d0, .d0, .d2⟩), none⟩,
    ⟨some ⟨.d0, .d3, .d3⟩, .call 37 [(.t ⟨.d0, .d3, .d1⟩), (.t ⟨.d0, .d3, .d2⟩)], none⟩,
    ⟨some ⟨.d0, .d3, .d0⟩, .move (.t ⟨.d0, .d3, .d3⟩), none⟩,
    ⟨some ⟨.d0, .d3, .d4⟩, .extract 0 (.t ⟨.d0, .d3, .d0⟩), none⟩,
    ⟨some ⟨.d0, .d3, .d5⟩, .extract 1 (.t ⟨.d0, .d3, .d0⟩), none⟩,
    ⟨some ⟨.d0, .d1, .d1⟩, .alloc 3 [.int .u64 0, .int .u64 0, .int .u64 0, .int .u64 0, .string { data := #[] }, .int .i64 0], none⟩,
    ⟨none, .store 6 (.t ⟨.d0, .d1, .d1⟩) (.t ⟨.d0, .d3, .d4⟩), none⟩,
    ⟨some ⟨.d0, .d1, .d2⟩, .move (.t ⟨.d0, .d3, .d5⟩), none⟩])
  (.seq (.region [⟨some ⟨.d0, .d3, .d7⟩, .load true 6 (.t ⟨.d0, .d0, .d4⟩), none⟩,
    ⟨some ⟨.d0, .d4, .d0⟩, .call 38 [(.t ⟨.d0, .d3, .d7⟩)], none⟩,
    ⟨some ⟨.d0, .d3, .d6⟩, .move (.t ⟨.d0, .d4, .d0⟩), none⟩,
    ⟨some ⟨.d0, .d4, .d1⟩, .extract 0 (.t ⟨.d0, .d3, .d6⟩), none⟩,
    ⟨some ⟨.d0, .d4, .d2⟩, .extract 1 (.t ⟨.d0, .d3, .d6⟩), none⟩,
    ⟨some ⟨.d0, .d1, .d3⟩, .move (.t ⟨.d0, .d4, .d1⟩), none⟩,
    ⟨some ⟨.d0, .d1, .d4⟩, .move (.t ⟨.d0, .d4, .d2⟩), none⟩])
  (.seq (.region [⟨some ⟨.d0, .d4, .d4⟩, .load true 6 (.t ⟨.d0, .d0, .d4⟩), none⟩,
    ⟨some ⟨.d0, .d4, .d5⟩, .call 39 [(.t ⟨.d0, .d4, .d4⟩)], none⟩,
    ⟨some ⟨.d0, .d4, .d3⟩, .move (.t ⟨.d0, .d4, .d5⟩), none⟩,
    ⟨some ⟨.d0, .d4, .d6⟩, .extract 0 (.t ⟨.d0, .d4, .d3⟩), none⟩,
    ⟨some ⟨.d0, .d4, .d7⟩, .extract 1 (.t ⟨.d0, .d4, .d3⟩), none⟩,
    ⟨some ⟨.d0, .d1, .d5⟩, .move (.t ⟨.d0, .d4, .d6⟩), none⟩,
    ⟨some ⟨.d0, .d1, .d6⟩, .move (.t ⟨.d0, .d4, .d7⟩), none⟩])
  (.seq (.regionD [0, 1, 0, 7, 15, 31, 63, 63, 255, 511, 1023, 2047, 2047, 8191, 16383, 32767, 65535, 65535, 262143, 524287, 1048575, 2097151, 2097151, 8388607, 16777215, 33554431, 67108863, 67108863, 268435455, 67108863, 67108863, 2147483647, 4294967295, 8589934591, 17179869183] [⟨some ⟨.d0, .d5, .d0⟩, .load true 2 (.t ⟨.d0, .d0, .d3⟩), none⟩,
    ⟨some ⟨.d0, .d5, .d1⟩, .call 40 [(.t ⟨.d0, .d5, .d0⟩)], none⟩,
    ⟨some ⟨.d0, .d5, .d2⟩, .load true 2 (.t ⟨.d0, .d0, .d3⟩), none⟩,
    ⟨some ⟨.d0, .d5, .d3⟩, .call 41 [(.t ⟨.d0, .d5, .d2⟩)], none⟩,
    ⟨some ⟨.d0, .d5, .d4⟩, .eqs false [0, 0, 0, 0, 2, 0] (.t ⟨.d0, .d5, .d1⟩) (.t ⟨.d0, .d5, .d3⟩), none⟩,
    ⟨some ⟨.d0, .d5, .d5⟩, .move (.t ⟨.d0, .d5, .d4⟩), none⟩,
    ⟨some ⟨.d0, .d5, .d6⟩, .load true 6 (.t ⟨.d0, .d0, .d7⟩), some (⟨.d0, .d5, .d5⟩, true)⟩,
    ⟨some ⟨.d0, .d5, .d7⟩, .load true 6 (.t ⟨.d0, .d1, .d1⟩), some (⟨.d0, .d5, .d5⟩, true)⟩,
    ⟨some ⟨.d0, .d6, .d0⟩, .eqs false [0, 0, 0, 0, 2, 0] (.t ⟨.d0, .d5, .d6⟩) (.t ⟨.d0, .d5, .d7⟩), some (⟨.d0, .d5, .d5⟩, true)⟩,
    ⟨some ⟨.d0, .d6, .d1⟩, .pick (.t ⟨.d0, .d5, .d5⟩) (.t ⟨.d0, .d6, .d0⟩) (.c (.bool false)), none⟩,
    ⟨some ⟨.d0, .d6, .d2⟩, .move (.t ⟨.d0, .d6, .d1⟩), none⟩,
    ⟨some ⟨.d0, .d6, .d3⟩, .move (.t ⟨.d0, .d1, .d0⟩), some (⟨.d0, .d6, .d2⟩, true)⟩,
    ⟨some ⟨.d0, .d6, .d4⟩, .move (.t ⟨.d0, .d1, .d2⟩), some (⟨.d0, .d6, .d2⟩, true)⟩,
    ⟨some ⟨.d0, .d6, .d5⟩, .bin .eql (.t ⟨.d0, .d6, .d3⟩) (.t ⟨.d0, .d6, .d4⟩), some (⟨.d0, .d6, .d2⟩, true)⟩,
    ⟨some ⟨.d0, .d6, .d6⟩, .pick (.t ⟨.d0, .d6, .d2⟩) (.t ⟨.d0, .d6, .d5⟩) (.c (.bool false)), none⟩,
    ⟨some ⟨.d0, .d6, .d7⟩, .move (.t ⟨.d0, .d6, .d6⟩), none⟩,
    ⟨some ⟨.d0, .d7, .d0⟩, .move (.t ⟨.d0, .d1, .d3⟩), some (⟨.d0, .d6, .d7⟩, true)⟩,
    ⟨some ⟨.d0, .d7, .d1⟩, .move (.t ⟨.d0, .d1, .d5⟩), some (⟨.d0, .d6, .d7⟩, true)⟩,
    ⟨some ⟨.d0, .d7, .d2⟩, .bin .eql (.t ⟨.d0, .d7, .d0⟩) (.t ⟨.d0, .d7, .d1⟩), some (⟨.d0, .d6, .d7⟩, true)⟩,
    ⟨some ⟨.d0, .d7, .d3⟩, .pick (.t ⟨.d0, .d6, .d7⟩) (.t ⟨.d0, .d7, .d2⟩) (.c (.bool false)), none⟩,
    ⟨some ⟨.d0, .d7, .d4⟩, .move (.t ⟨.d0, .d7, .d3⟩), none⟩,
    ⟨some ⟨.d0, .d7, .d5⟩, .move (.t ⟨.d0, .d1, .d4⟩), some (⟨.d0, .d7, .d4⟩, true)⟩,
    ⟨some ⟨.d0, .d7, .d6⟩, .move (.t ⟨.d0, .d1, .d6⟩), some (⟨.d0, .d7, .d4⟩, true)⟩,
    ⟨some ⟨.d0, .d7, .d7⟩, .bin .eql (.t ⟨.d0, .d7, .d5⟩) (.t ⟨.d0, .d7, .d6⟩), some (⟨.d0, .d7, .d4⟩, true)⟩,
    ⟨some ⟨.d1, .d0, .d0⟩, .pick (.t ⟨.d0, .d7, .d4⟩) (.t ⟨.d0, .d7, .d7⟩) (.c (.bool false)), none⟩,
    ⟨some ⟨.d1, .d0, .d1⟩, .move (.t ⟨.d1, .d0, .d0⟩), none⟩,
    ⟨some ⟨.d1, .d0, .d2⟩, .load true 2 (.t ⟨.d0, .d0, .d3⟩), some (⟨.d1, .d0, .d1⟩, true)⟩,
    ⟨some ⟨.d1, .d0, .d3⟩, .move (.t ⟨.d0, .d0, .d2⟩), some (⟨.d1, .d0, .d1⟩, true)⟩,
    ⟨some ⟨.d1, .d0, .d4⟩, .call 42 [(.t ⟨.d1, .d0, .d2⟩), (.t ⟨.d1, .d0, .d3⟩)], some (⟨.d1, .d0, .d1⟩, true)⟩,
    ⟨some ⟨.d1, .d0, .d5⟩, .load true 2 (.t ⟨.d0, .d0, .d3⟩), some (⟨.d1, .d0, .d1⟩, true)⟩,
    ⟨some ⟨.d1, .d0, .d6⟩, .move (.t ⟨.d0, .d0, .d2⟩), some (⟨.d1, .d0, .d1⟩, true)⟩,
    ⟨some ⟨.d1, .d0, .d7⟩, .call 43 [(.t ⟨.d1, .d0, .d5⟩), (.t ⟨.d1, .d0, .d6⟩)], some (⟨.d1, .d0, .d1⟩, true)⟩,
    ⟨some ⟨.d1, .d1, .d0⟩, .bin .eql (.t ⟨.d1, .d0, .d4⟩) (.t ⟨.d1, .d0, .d7⟩), some (⟨.d1, .d0, .d1⟩, true)⟩,
    ⟨some ⟨.d1, .d1, .d1⟩, .pick (.t ⟨.d1, .d0, .d1⟩) (.t ⟨.d1, .d1, .d0⟩) (.c (.bool false)), none⟩,
    ⟨some ⟨.d0, .d0, .d6⟩, .move (.t ⟨.d1, .d1, .d1⟩), none⟩])
  (.ret)))))))
def r_custlaw_SipSays : List XR := [.tmp ⟨.d0, .d0, .d6⟩]
theorem ok_custlaw_SipSays : okC Try.prog Try.f8.ntmps (bodyOf Try.f8) x_custlaw_SipSays = true := by kernel_rfl
theorem okr_custlaw_SipSays : okRs Try.prog Try.f8.results.toList r_custlaw_SipSays = true := by kernel_rfl

/-- sip.More -/
def x_sip_More : XC :=
  .seq (.region [⟨some ⟨.d0, .d0, .d2⟩, .box 0 6 (.t ⟨.d0, .d0, .d0⟩), none⟩,
    ⟨some ⟨.d0, .d0, .d4⟩, .alloc 1 [.int .u64 0, .int .u64 0, .int .u64 0, .int .u64 0, .string { data := #[] }, .int .i64 0], none⟩,
    ⟨some ⟨.d0, .d0, .d5⟩, .move (.c (.int .i64 0)), none⟩])
  (.seq (.seq (.region [⟨some ⟨.d0, .d1, .d0⟩, .load true 6 (.t ⟨.d0, .d0, .d2⟩), none⟩,
    ⟨some ⟨.d0, .d1, .d1⟩, .call 68 [(.t ⟨.d0, .d1, .d0⟩)], none⟩,
    ⟨some ⟨.d0, .d0, .d6⟩, .move (.t ⟨.d0, .d1, .d1⟩), none⟩])
  (.seq (.region [⟨some ⟨.d0, .d1, .d2⟩, .move (.t ⟨.d0, .d0, .d6⟩), none⟩,
    ⟨some ⟨.d0, .d1, .d3⟩, .bin .neq (.t ⟨.d0, .d1, .d2⟩) (.c (.int .i64 0)), none⟩])
  (.cond (.t ⟨.d0, .d1, .d3⟩)
    (.seq (.region [⟨some ⟨.d0, .d1, .d4⟩, .load true 6 (.t ⟨.d0, .d0, .d2⟩), none⟩,
      ⟨some ⟨.d0, .d1, .d5⟩, .move (.t ⟨.d0, .d0, .d6⟩), none⟩,
      ⟨none, .store 6 (.t ⟨.d0, .d0, .d4⟩) (.t ⟨.d0, .d1, .d4⟩), none⟩,
      ⟨some ⟨.d0, .d0, .d5⟩, .move (.t ⟨.d0, .d1, .d5⟩), none⟩])
    (.ret))
    (.skip))))
  (.seq (.region [⟨some ⟨.d0, .d1, .d6⟩, .fieldAddr 5 (.t ⟨.d0, .d0, .d2⟩), none⟩,
    ⟨some ⟨.d0, .d1, .d7⟩, .load false 1 (.t ⟨.d0, .d1, .d6⟩), none⟩,
    ⟨some ⟨.d0, .d2, .d0⟩, .move (.t ⟨.d0, .d0, .d1⟩), none⟩,
    ⟨some ⟨.d0, .d2, .d1⟩, .slen (.t ⟨.d0, .d2, .d0⟩), none⟩,
    ⟨some ⟨.d0, .d2, .d2⟩, .bin .add (.t ⟨.d0, .d1, .d7⟩) (.t ⟨.d0, .d2, .d1⟩), none⟩,
    ⟨some ⟨.d0, .d2, .d3⟩, .fieldAddr 5 (.t ⟨.d0, .d0, .d2⟩), none⟩,
    ⟨none, .store 1 (.t ⟨.d0, .d2, .d3⟩) (.t ⟨.d0, .d2, .d2⟩), none⟩])
  (.seq (.region [⟨some ⟨.d0, .d2, .d4⟩, .fieldAddr 4 (.t ⟨.d0, .d0, .d2⟩), none⟩,
    ⟨some ⟨.d0, .d2, .d5⟩, .load false 1 (.t ⟨.d0, .d2, .d4⟩), none⟩,
    ⟨some ⟨.d0, .d2, .d6⟩, .move (.t ⟨.d0, .d0, .d1⟩), none⟩,
    ⟨some ⟨.d0, .d2, .d7⟩, .sbin .add (.t ⟨.d0, .d2, .d5⟩) (.t ⟨.d0, .d2, .d6⟩), none⟩,
    ⟨some ⟨.d0, .d0, .d7⟩, .move (.t ⟨.d0, .d2, .d7⟩), none⟩])
  (.seq (.block 0
    (.loop
      (.seq (.seq (.region [⟨some ⟨.d0, .d3, .d0⟩, .move (.t ⟨.d0, .d0, .d7⟩), none⟩,
        ⟨some ⟨.d0, .d3, .d1⟩, .slen (.t ⟨.d0, .d3, .d0⟩), none⟩,
        ⟨some ⟨.d0, .d3, .d2⟩, .bin .geq (.t ⟨.d0, .d3, .d1⟩) (.c (.int .i64 8)), none⟩])
      (.cond (.t ⟨.d0, .d3, .d2⟩)
        (.skip)
        (.exit 0)))
      (.seq (.block 1
        (.region [⟨some ⟨.d0, .d3, .d5⟩, .fieldAddr 0 (.t ⟨.d0, .d0, .d2⟩), none⟩,
          ⟨some ⟨.d0, .d3, .d6⟩, .move (.t ⟨.d0, .d0, .d7⟩), none⟩,
          ⟨some ⟨.d0, .d3, .d7⟩, .substr (.t ⟨.d0, .d3, .d6⟩) none (some (.c (.int .i64 8))), none⟩,
          ⟨some ⟨.d0, .d4, .d0⟩, .call 70 [(.t ⟨.d0, .d3, .d7⟩)], none⟩,
          ⟨some ⟨.d0, .d4, .d1⟩, .call 69 [(.t ⟨.d0, .d3, .d5⟩), (.t ⟨.d0, .d4, .d0⟩)], none⟩]))
      (.region [⟨some ⟨.d0, .d3, .d3⟩, .move (.t ⟨.d0, .d0, .d7⟩), none⟩,
        ⟨some ⟨.d0, .d3, .d4⟩, .substr (.t ⟨.d0, .d3, .d3⟩) (some (.c (.int .i64 8))) none, none⟩,
        ⟨some ⟨.d0, .d0, .d7⟩, .move (.t ⟨.d0, .d3, .d4⟩), none⟩])))))
  (.seq (.region [⟨some ⟨.d0, .d4, .d2⟩, .move (.t ⟨.d0, .d0, .d7⟩), none⟩,
    ⟨some ⟨.d0, .d4, .d3⟩, .fieldAddr 4 (.t ⟨.d0, .d0, .d2⟩), none⟩,
    ⟨none, .store 1 (.t ⟨.d0, .d4, .d3⟩) (.t ⟨.d0, .d4, .d2⟩), none⟩])
  (.seq (.region [⟨some ⟨.d0, .d4, .d4⟩, .load true 6 (.t ⟨.d0, .d0, .d2⟩), none⟩,
    ⟨none, .store 6 (.t ⟨.d0, .d0, .d4⟩) (.t ⟨.d0, .d4, .d4⟩), none⟩,
    ⟨some ⟨.d0, .d0, .d5⟩, .move (.c (.int .i64 0)), none⟩])
  (.ret)))))))
def r_sip_More : List XR := [.cell ⟨.d0, .d0, .d4⟩ true 6, .tmp ⟨.d0, .d0, .d5⟩]
theorem ok_sip_More : okC Try.prog Try.f36.ntmps (bodyOf Try.f36) x_sip_More = true := by kernel_rfl
theorem okr_sip_More : okRs Try.prog Try.f36.results.toList r_sip_More = true := by kernel_rfl

/-- custref.SipMore -/
def x_custref_SipMore : XC :=
  .seq (.region [⟨some ⟨.d0, .d0, .d2⟩, .box 0 6 (.t ⟨.d0, .d0, .d0⟩), none⟩,
    ⟨some ⟨.d0, .d0, .d4⟩, .alloc 1 [.int .u64 0, .int .u64 0, .int .u64 0, .int .u64 0, .string { data := #[] }, .int .i64 0], none⟩,
    ⟨some ⟨.d0, .d0, .d5⟩, .move (.c (.int .i64 0)), none⟩])
  (.seq (.seq (.region [⟨some ⟨.d0, .d1, .d0⟩, .load true 6 (.t ⟨.d0, .d0, .d2⟩), none⟩,
    ⟨some ⟨.d0, .d1, .d1⟩, .call 71 [(.t ⟨.d0, .d1, .d0⟩)], none⟩,
    ⟨some ⟨.d0, .d0, .d6⟩, .move (.t ⟨.d0, .d1, .d1⟩), none⟩])
  (.seq (.region [⟨some ⟨.d0, .d1, .d2⟩, .move (.t ⟨.d0, .d0, .d6⟩), none⟩,
    ⟨some ⟨.d0, .d1, .d3⟩, .bin .neq (.t ⟨.d0, .d1, .d2⟩) (.c (.int .i64 0)), none⟩])
  (.cond (.t ⟨.d0, .d1, .d3⟩)
    (.seq (.region [⟨some ⟨.d0, .d1, .d4⟩, .load true 6 (.t ⟨.d0, .d0, .d2⟩), none⟩,
      ⟨some ⟨.d0, .d1, .d5⟩, .move (.t ⟨.d0, .d0, .d6⟩), none⟩,
      ⟨none, .store 6 (.t ⟨.d0, .d0, .d4⟩) (.t ⟨.d0, .d1, .d4⟩), none⟩,
      ⟨some ⟨.d0, .d0, .d5⟩, .move (.t ⟨.d0, .d1, .d5⟩), none⟩])
    (.ret))
    (.skip))))
  (.seq (.seq (.region [⟨some ⟨.d0, .d1, .d6⟩, .move (.t ⟨.d0, .d0, .d1⟩), none⟩,
    ⟨some ⟨.d0, .d1, .d7⟩, .slen (.t ⟨.d0, .d1, .d6⟩), none⟩,
    ⟨some ⟨.d0, .d2, .d0⟩, .move (.c (.int .i64 0)), none⟩])
  (.block 0
    (.loop
      (.seq (.region [⟨some ⟨.d0, .d2, .d1⟩, .bin .lss (.t ⟨.d0, .d2, .d0⟩) (.t ⟨.d0, .d1, .d7⟩), none⟩])
      (.seq (.cond (.t ⟨.d0, .d2, .d1⟩)
        (.skip)
        (.exit 0))
      (.seq (.block 1
        (.seq (.region [⟨some ⟨.d0, .d2, .d2⟩, .move (.t ⟨.d0, .d2, .d0⟩), none⟩,
          ⟨some ⟨.d0, .d0, .d7⟩, .move (.t ⟨.d0, .d2, .d2⟩), none⟩])
        (.seq (.regionD [0, 1, 0, 0, 0, 16, 60, 127, 255, 511] [⟨some ⟨.d0, .d2, .d3⟩, .fieldAddr 4 (.t ⟨.d0, .d0, .d2⟩), none⟩,
          ⟨some ⟨.d0, .d2, .d4⟩, .load false 1 (.t ⟨.d0, .d2, .d3⟩), none⟩,
          ⟨some ⟨.d0, .d2, .d5⟩, .move (.t ⟨.d0, .d0, .d1⟩), none⟩,
          ⟨some ⟨.d0, .d2, .d6⟩, .move (.t ⟨.d0, .d0, .d7⟩), none⟩,
          ⟨some ⟨.d0, .d2, .d7⟩, .move (.t ⟨.d0, .d0, .d7⟩), none⟩,
          ⟨some ⟨.d0, .d3, .d0⟩, .bin .add (.t ⟨.d0, .d2, .d7⟩) (.c (.int .i64 1)), none⟩,
          ⟨some ⟨.d0, .d3, .d1⟩, .substr (.t ⟨.d0, .d2, .d5⟩) (some (.t ⟨.d0, .d2, .d6⟩)) (some (.t ⟨.d0, .d3, .d0⟩)), none⟩,
          ⟨some ⟨.d0, .d3, .d2⟩, .sbin .add (.t ⟨.d0, .d2, .d4⟩) (.t ⟨.d0, .d3, .d1⟩), none⟩,
          ⟨some ⟨.d0, .d3, .d3⟩, .fieldAddr 4 (.t ⟨.d0, .d0, .d2⟩), none⟩,
          ⟨none, .store 1 (.t ⟨.d0, .d3, .d3⟩) (.t ⟨.d0, .d3, .d2⟩), none⟩])
        (.seq (.region [⟨some ⟨.d0, .d3, .d4⟩, .fieldAddr 5 (.t ⟨.d0, .d0, .d2⟩), none⟩,
          ⟨some ⟨.d0, .d3, .d5⟩, .load false 1 (.t ⟨.d0, .d3, .d4⟩), none⟩,
          ⟨some ⟨.d0, .d3, .d6⟩, .bin .add (.t ⟨.d0, .d3, .d5⟩) (.c (.int .i64 1)), none⟩,
          ⟨some ⟨.d0, .d3, .d7⟩, .fieldAddr 5 (.t ⟨.d0, .d0, .d2⟩), none⟩,
          ⟨none, .store 1 (.t ⟨.d0, .d3, .d7⟩) (.t ⟨.d0, .d3, .d6⟩), none⟩])
        (.seq (.region [⟨some ⟨.d0, .d4, .d0⟩, .fieldAddr 4 (.t ⟨.d0, .d0, .d2⟩), none⟩,
          ⟨some ⟨.d0, .d4, .d1⟩, .load false 1 (.t ⟨.d0, .d4, .d0⟩), none⟩,
          ⟨some ⟨.d0, .d4, .d2⟩, .slen (.t ⟨.d0, .d4, .d1⟩), none⟩,
          ⟨some ⟨.d0, .d4, .d3⟩, .bin .eql (.t ⟨.d0, .d4, .d2⟩) (.c (.int .i64 8)), none⟩])
        (.cond (.t ⟨.d0, .d4, .d3⟩)
          (.regionD [0, 1, 0, 4, 12, 31, 63, 127, 255, 511] [⟨some ⟨.d0, .d4, .d4⟩, .fieldAddr 0 (.t ⟨.d0, .d0, .d2⟩), none⟩,
            ⟨some ⟨.d0, .d4, .d5⟩, .load true 4 (.t ⟨.d0, .d4, .d4⟩), none⟩,
            ⟨some ⟨.d0, .d4, .d6⟩, .fieldAddr 4 (.t ⟨.d0, .d0, .d2⟩), none⟩,
            ⟨some ⟨.d0, .d4, .d7⟩, .load false 1 (.t ⟨.d0, .d4, .d6⟩), none⟩,
            ⟨some ⟨.d0, .d5, .d0⟩, .call 73 [(.t ⟨.d0, .d4, .d7⟩)], none⟩,
            ⟨some ⟨.d0, .d5, .d1⟩, .call 72 [(.t ⟨.d0, .d4, .d5⟩), (.t ⟨.d0, .d5, .d0⟩)], none⟩,
            ⟨some ⟨.d0, .d5, .d2⟩, .fieldAddr 0 (.t ⟨.d0, .d0, .d2⟩), none⟩,
            ⟨none, .store 4 (.t ⟨.d0, .d5, .d2⟩) (.t ⟨.d0, .d5, .d1⟩), none⟩,
            ⟨some ⟨.d0, .d5, .d3⟩, .fieldAddr 4 (.t ⟨.d0, .d0, .d2⟩), none⟩,
            ⟨none, .store 1 (.t ⟨.d0, .d5, .d3⟩) (.c (.string { data := #[] })), none⟩])
          (.skip)))))))
      (.region [⟨some ⟨.d0, .d5, .d4⟩, .bin .add (.t ⟨.d0, .d2, .d0⟩) (.c (.int .i64 1)), none⟩,
        ⟨some ⟨.d0, .d2, .d0⟩, .move (.t ⟨.d0, .d5, .d4⟩), none⟩])))))))
  (.seq (.region [⟨some ⟨.d0, .d5, .d5⟩, .load true 6 (.t ⟨.d0, .d0, .d2⟩), none⟩,
    ⟨none, .store 6 (.t ⟨.d0, .d0, .d4⟩) (.t ⟨.d0, .d5, .d5⟩), none⟩,
    ⟨some ⟨.d0, .d0, .d5⟩, .move (.c (.int .i64 0)), none⟩])
  (.ret))))
def r_custref_SipMore : List XR := [.cell ⟨.d0, .d0, .d4⟩ true 6, .tmp ⟨.d0, .d0, .d5⟩]
theorem ok_custref_SipMore : okC Try.prog Try.f37.ntmps (bodyOf Try.f37) x_custref_SipMore = true := by kernel_rfl
theorem okr_custref_SipMore : okRs Try.prog Try.f37.results.toList r_custref_SipMore = true := by kernel_rfl

/-- sip.End -/
def x_sip_End : XC :=
  .seq (.region [⟨some ⟨.d0, .d0, .d1⟩, .box 0 6 (.t ⟨.d0, .d0, .d0⟩), none⟩,
    ⟨some ⟨.d0, .d0, .d2⟩, .move (.c (.int .u64 0)), none⟩,
    ⟨some ⟨.d0, .d0, .d3⟩, .move (.c (.int .i64 0)), none⟩])
  (.seq (.seq (.region [⟨some ⟨.d0, .d0, .d5⟩, .load true 6 (.t ⟨.d0, .d0, .d1⟩), none⟩,
    ⟨some ⟨.d0, .d0, .d6⟩, .call 68 [(.t ⟨.d0, .d0, .d5⟩)], none⟩,
    ⟨some ⟨.d0, .d0, .d4⟩, .move (.t ⟨.d0, .d0, .d6⟩), none⟩])
  (.seq (.region [⟨some ⟨.d0, .d0, .d7⟩, .move (.t ⟨.d0, .d0, .d4⟩), none⟩,
    ⟨some ⟨.d0, .d1, .d0⟩, .bin .neq (.t ⟨.d0, .d0, .d7⟩) (.c (.int .i64 0)), none⟩])
  (.cond (.t ⟨.d0, .d1, .d0⟩)
    (.seq (.region [⟨some ⟨.d0, .d1, .d1⟩, .move (.t ⟨.d0, .d0, .d4⟩), none⟩,
      ⟨some ⟨.d0, .d0, .d2⟩, .move (.c (.int .u64 0)), none⟩,
      ⟨some ⟨.d0, .d0, .d3⟩, .move (.t ⟨.d0, .d1, .d1⟩), none⟩])
    (.ret))
    (.skip))))
  (.seq (.regionD [0, 0, 2, 6, 0, 16, 48, 112, 254, 511] [⟨some ⟨.d0, .d1, .d2⟩, .fieldAddr 0 (.t ⟨.d0, .d0, .d1⟩), none⟩,
    ⟨some ⟨.d0, .d1, .d3⟩, .fieldAddr 4 (.t ⟨.d0, .d0, .d1⟩), none⟩,
    ⟨some ⟨.d0, .d1, .d4⟩, .load false 1 (.t ⟨.d0, .d1, .d3⟩), none⟩,
    ⟨some ⟨.d0, .d1, .d5⟩, .call 70 [(.t ⟨.d0, .d1, .d4⟩)], none⟩,
    ⟨some ⟨.d0, .d1, .d6⟩, .fieldAddr 5 (.t ⟨.d0, .d0, .d1⟩), none⟩,
    ⟨some ⟨.d0, .d1, .d7⟩, .load false 1 (.t ⟨.d0, .d1, .d6⟩), none⟩,
    ⟨some ⟨.d0, .d2, .d0⟩, .convInt .u64 (.t ⟨.d0, .d1, .d7⟩), none⟩,
    ⟨some ⟨.d0, .d2, .d1⟩, .bin .shl (.t ⟨.d0, .d2, .d0⟩) (.c (.int .u64 56)), none⟩,
    ⟨some ⟨.d0, .d2, .d2⟩, .bin .or (.t ⟨.d0, .d1, .d5⟩) (.t ⟨.d0, .d2, .d1⟩), none⟩,
    ⟨some ⟨.d0, .d2, .d3⟩, .call 69 [(.t ⟨.d0, .d1, .d2⟩), (.t ⟨.d0, .d2, .d2⟩)], none⟩])
  (.seq (.region [⟨some ⟨.d0, .d2, .d4⟩, .fieldAddr 0 (.t ⟨.d0, .d0, .d1⟩), none⟩,
    ⟨some ⟨.d0, .d2, .d5⟩, .indexArr 1 4 (.t ⟨.d0, .d2, .d4⟩) (.c (.int .i64 2)), none⟩,
    ⟨some ⟨.d0, .d2, .d6⟩, .load false 1 (.t ⟨.d0, .d2, .d5⟩), none⟩,
    ⟨some ⟨.d0, .d2, .d7⟩, .bin .xor (.t ⟨.d0, .d2, .d6⟩) (.c (.int .u64 255)), none⟩,
    ⟨some ⟨.d0, .d3, .d0⟩, .fieldAddr 0 (.t ⟨.d0, .d0, .d1⟩), none⟩,
    ⟨some ⟨.d0, .d3, .d1⟩, .indexArr 1 4 (.t ⟨.d0, .d3, .d0⟩) (.c (.int .i64 2)), none⟩,
    ⟨none, .store 1 (.t ⟨.d0, .d3, .d1⟩) (.t ⟨.d0, .d2, .d7⟩), none⟩])
  (.seq (.region [⟨some ⟨.d0, .d3, .d2⟩, .fieldAddr 0 (.t ⟨.d0, .d0, .d1⟩), none⟩,
    ⟨some ⟨.d0, .d3, .d3⟩, .call 74 [(.t ⟨.d0, .d3, .d2⟩), (.c (.int .i64 4))], none⟩])
  (.seq (.region [⟨some ⟨.d0, .d3, .d4⟩, .fieldAddr 0 (.t ⟨.d0, .d0, .d1⟩), none⟩,
    ⟨some ⟨.d0, .d3, .d5⟩, .indexArr 1 4 (.t ⟨.d0, .d3, .d4⟩) (.c (.int .i64 0)), none⟩,
    ⟨some ⟨.d0, .d3, .d6⟩, .load false 1 (.t ⟨.d0, .d3, .d5⟩), none⟩,
    ⟨some ⟨.d0, .d3, .d7⟩, .fieldAddr 0 (.t ⟨.d0, .d0, .d1⟩), none⟩,
    ⟨some ⟨.d0, .d4, .d0⟩, .indexArr 1 4 (.t ⟨.d0, .d3, .d7⟩) (.c (.int .i64 1)), none⟩,
    ⟨some ⟨.d0, .d4, .d1⟩, .load false 1 (.t ⟨.d0, .d4, .d0⟩), none⟩,
    ⟨some ⟨.d0, .d4, .d2⟩, .bin .xor (.t ⟨.d0, .d3, .d6⟩) (.t ⟨.d0, .d4, .d1⟩), none⟩,
    ⟨some ⟨.d0, .d4, .d3⟩, .fieldAddr 0 (.t ⟨.d0, .d0, .d1⟩), none⟩,
    ⟨some ⟨.d0, .d4, .d4⟩, .indexArr 1 4 (.t ⟨.d0, .d4, .d3⟩) (.c (.int .i64 2)), none⟩,
    ⟨some ⟨.d0, .d4, .d5⟩, .load false 1 (.t ⟨.d0, .d4, .d4⟩), none⟩,
    ⟨some ⟨.d0, .d4, .d6⟩, .bin .xor (.t ⟨.d0, .d4, .d2⟩) (.t ⟨.d0, .d4, .d5⟩), none⟩,
    ⟨some ⟨.d0, .d4, .d7⟩, .fieldAddr 0 (.t ⟨.d0, .d0, .d1⟩), none⟩,
    ⟨some ⟨.d0, .d5, .d0⟩, .indexArr 1 4 (.t ⟨.d0, .d4, .d7⟩) (.c (.int .i64 3)), none⟩,
    ⟨some ⟨.d0, .d5, .d1⟩, .load false 1 (.t ⟨.d0, .d5, .d0⟩), none⟩,
    ⟨some ⟨.d0, .d5, .d2⟩, .bin .xor (.t ⟨.d0, .d4, .d6⟩) (.t ⟨.d0, .d5, .d1⟩), none⟩,
    ⟨some ⟨.d0, .d0, .d2⟩, .move (.t ⟨.d0, .d5, .d2⟩), none⟩,
    ⟨some ⟨.d0, .d0, .d3⟩, .move (.c (.int .i64 0)), none⟩])
  (.ret))))))
def r_sip_End : List XR := [.tmp ⟨.d0, .d0, .d2⟩, .tmp ⟨.d0, .d0, .d3⟩]
theorem ok_sip_End : okC Try.prog Try.f38.ntmps (bodyOf Try.f38) x_sip_End = true := by kernel_rfl
theorem okr_sip_End : okRs Try.prog Try.f38.results.toList r_sip_End = true := by kernel_rfl

/-- custref.SipEnd -/
def x_custref_SipEnd : XC :=
  .seq (.region [⟨some ⟨.d0, .d0, .d1⟩, .box 0 6 (.t ⟨.d0, .d0, .d0⟩), none⟩,
    ⟨some ⟨.d0, .d0, .d2⟩, .move (.c (.int .u64 0)), none⟩,
    ⟨some ⟨.d0, .d0, .d3⟩, .move (.c (.int .i64 0)), none⟩])
  (.seq (.seq (.region [⟨some ⟨.d0, .d0, .d7⟩, .load true 6 (.t ⟨.d0, .d0, .d1⟩), none⟩,
    ⟨some ⟨.d0, .d1, .d0⟩, .call 71 [(.t ⟨.d0, .d0, .d7⟩)], none⟩,
    ⟨some ⟨.d0, .d0, .d4⟩, .move (.t ⟨.d0, .d1, .d0⟩), none⟩])
  (.seq (.region [⟨some ⟨.d0, .d1, .d1⟩, .move (.t ⟨.d0, .d0, .d4⟩), none⟩,
    ⟨some ⟨.d0, .d1, .d2⟩, .bin .neq (.t ⟨.d0, .d1, .d1⟩) (.c (.int .i64 0)), none⟩])
  (.cond (.t ⟨.d0, .d1, .d2⟩)
    (.seq (.region [⟨some ⟨.d0, .d1, .d3⟩, .move (.t ⟨.d0, .d0, .d4⟩), none⟩,
      ⟨some ⟨.d0, .d0, .d2⟩, .move (.c (.int .u64 0)), none⟩,
      ⟨some ⟨.d0, .d0, .d3⟩, .move (.t ⟨.d0, .d1, .d3⟩), none⟩])
    (.ret))
    (.skip))))
  (.seq (.regionD [0, 1, 3, 7, 0, 16, 48, 112, 240, 511, 1023] [⟨some ⟨.d0, .d1, .d4⟩, .fieldAddr 4 (.t ⟨.d0, .d0, .d1⟩), none⟩,
    ⟨some ⟨.d0, .d1, .d5⟩, .load false 1 (.t ⟨.d0, .d1, .d4⟩), none⟩,
    ⟨some ⟨.d0, .d1, .d6⟩, .sbin .add (.t ⟨.d0, .d1, .d5⟩) (.c (.string { data := #[0, 0, 0, 0, 0, 0, 0] })), none⟩,
    ⟨some ⟨.d0, .d1, .d7⟩, .substr (.t ⟨.d0, .d1, .d6⟩) none (some (.c (.int .i64 7))), none⟩,
    ⟨some ⟨.d0, .d2, .d0⟩, .fieldAddr 5 (.t ⟨.d0, .d0, .d1⟩), none⟩,
    ⟨some ⟨.d0, .d2, .d1⟩, .load false 1 (.t ⟨.d0, .d2, .d0⟩), none⟩,
    ⟨some ⟨.d0, .d2, .d2⟩, .bin .rem (.t ⟨.d0, .d2, .d1⟩) (.c (.int .i64 256)), none⟩,
    ⟨some ⟨.d0, .d2, .d3⟩, .buildSlice 1 1 [.int .i64 0] [(0, (.t ⟨.d0, .d2, .d2⟩))], none⟩,
    ⟨some ⟨.d0, .d2, .d4⟩, .call 75 [(.t ⟨.d0, .d2, .d3⟩)], none⟩,
    ⟨some ⟨.d0, .d2, .d5⟩, .sbin .add (.t ⟨.d0, .d1, .d7⟩) (.t ⟨.d0, .d2, .d4⟩), none⟩,
    ⟨some ⟨.d0, .d0, .d5⟩, .move (.t ⟨.d0, .d2, .d5⟩), none⟩])
  (.seq (.regionD [0, 1, 0, 4, 15, 0, 63] [⟨some ⟨.d0, .d2, .d6⟩, .fieldAddr 0 (.t ⟨.d0, .d0, .d1⟩), none⟩,
    ⟨some ⟨.d0, .d2, .d7⟩, .load true 4 (.t ⟨.d0, .d2, .d6⟩), none⟩,
    ⟨some ⟨.d0, .d3, .d0⟩, .move (.t ⟨.d0, .d0, .d5⟩), none⟩,
    ⟨some ⟨.d0, .d3, .d1⟩, .call 73 [(.t ⟨.d0, .d3, .d0⟩)], none⟩,
    ⟨some ⟨.d0, .d3, .d2⟩, .call 72 [(.t ⟨.d0, .d2, .d7⟩), (.t ⟨.d0, .d3, .d1⟩)], none⟩,
    ⟨some ⟨.d0, .d0, .d6⟩, .alloc 2 [.int .u64 0, .int .u64 0, .int .u64 0, .int .u64 0], none⟩,
    ⟨none, .store 4 (.t ⟨.d0, .d0, .d6⟩) (.t ⟨.d0, .d3, .d2⟩), none⟩])
  (.seq (.region [⟨some ⟨.d0, .d3, .d3⟩, .indexArr 1 4 (.t ⟨.d0, .d0, .d6⟩) (.c (.int .i64 2)), none⟩,
    ⟨some ⟨.d0, .d3, .d4⟩, .load false 1 (.t ⟨.d0, .d3, .d3⟩), none⟩,
    ⟨some ⟨.d0, .d3, .d5⟩, .bin .xor (.t ⟨.d0, .d3, .d4⟩) (.c (.int .u64 255)), none⟩,
    ⟨some ⟨.d0, .d3, .d6⟩, .indexArr 1 4 (.t ⟨.d0, .d0, .d6⟩) (.c (.int .i64 2)), none⟩,
    ⟨none, .store 1 (.t ⟨.d0, .d3, .d6⟩) (.t ⟨.d0, .d3, .d5⟩), none⟩])
  (.seq (.region [⟨some ⟨.d0, .d3, .d7⟩, .load true 4 (.t ⟨.d0, .d0, .d6⟩), none⟩,
    ⟨some ⟨.d0, .d4, .d0⟩, .call 76 [(.t ⟨.d0, .d3, .d7⟩)], none⟩,
    ⟨some ⟨.d0, .d4, .d1⟩, .call 76 [(.t ⟨.d0, .d4, .d0⟩)], none⟩,
    ⟨some ⟨.d0, .d4, .d2⟩, .call 76 [(.t ⟨.d0, .d4, .d1⟩)], none⟩,
    ⟨some ⟨.d0, .d4, .d3⟩, .call 76 [(.t ⟨.d0, .d4, .d2⟩)], none⟩,
    ⟨none, .store 4 (.t ⟨.d0, .d0, .d6⟩) (.t ⟨.d0, .d4, .d3⟩), none⟩])
  (.seq (.region [⟨some ⟨.d0, .d4, .d4⟩, .indexArr 1 4 (.t ⟨.d0, .d0, .d6⟩) (.c (.int .i64 0)), none⟩,
    ⟨some ⟨.d0, .d4, .d5⟩, .load false 1 (.t ⟨.d0, .d4, .d4⟩), none⟩,
    ⟨some ⟨.d0, .d4, .d6⟩, .indexArr 1 4 (.t ⟨.d0, .d0, .d6⟩) (.c (.int .i64 1)), none⟩,
    ⟨some ⟨.d0, .d4, .d7⟩, .load false 1 (.t ⟨.d0, .d4, .d6⟩), none⟩,
    ⟨some ⟨.d0, .d5, .d0⟩, .bin .xor (.t ⟨.d0, .d4, .d5⟩) (.t ⟨.d0, .d4, .d7⟩), none⟩,
    ⟨some ⟨.d0, .d5, .d1⟩, .indexArr 1 4 (.t ⟨.d0, .d0, .d6⟩) (.c (.int .i64 2)), none⟩,
    ⟨some ⟨.d0, .d5, .d2⟩, .load false 1 (.t ⟨.d0, .d5, .d1⟩), none⟩,
    ⟨some ⟨.d0, .d5, .d3⟩, .bin .xor (.t ⟨.d0, .d5, .d0⟩) (.t ⟨.d0, .d5, .d2⟩), none⟩,
    ⟨some ⟨.d0, .d5, .d4⟩, .indexArr 1 4 (.t ⟨.d0, .d0, .d6⟩) (.c (.int .i64 3)), none⟩,
    ⟨some ⟨.d0, .d5, .d5⟩, .load false 1 (.t ⟨.d0, .d5, .d4⟩), none⟩,
    ⟨some ⟨.d0, .d5, .d6⟩, .bin .xor (.t ⟨.d0, .d5, .d3⟩) (.t ⟨.d0, .d5, .d5⟩), none⟩,
    ⟨some ⟨.d0, .d0, .d2⟩, .move (.t ⟨.d0, .d5, .d6⟩), none⟩,
    ⟨some ⟨.d0, .d0, .d3⟩, .move (.c (.int .i64 0)), none⟩])
  (.ret)))))))
def r_custref_SipEnd : List XR := [.tmp ⟨.d0, .d0, .d2⟩, .tmp ⟨.d0, .d0, .d3⟩]
theorem ok_custref_SipEnd : okC Try.prog Try.f39.ntmps (bodyOf Try.f39) x_custref_SipEnd = true := by kernel_rfl
theorem okr_custref_SipEnd : okRs Try.prog Try.f39.results.toList r_custref_SipEnd = true := by kernel_rfl

/-- sip.Begin -/
def x_sip_Begin : XC :=
  .seq (.region [⟨some ⟨.d0, .d0, .d1⟩, .box 0 2 (.t ⟨.d0, .d0, .d0⟩), none⟩,
    ⟨some ⟨.d0, .d0, .d2⟩, .alloc 1 [.int .u64 0, .int .u64 0, .int .u64 0, .int .u64 0, .string { data := #[] }, .int .i64 0], none⟩])
  (.seq (.region [⟨some ⟨.d0, .d0, .d3⟩, .indexArr 1 2 (.t ⟨.d0, .d0, .d1⟩) (.c (.int .i64 0)), none⟩,
    ⟨some ⟨.d0, .d0, .d4⟩, .load false 1 (.t ⟨.d0, .d0, .d3⟩), none⟩,
    ⟨some ⟨.d0, .d0, .d5⟩, .bin .xor (.t ⟨.d0, .d0, .d4⟩) (.c (.int .u64 8317987319222330741)), none⟩,
    ⟨some ⟨.d0, .d0, .d6⟩, .indexArr 1 2 (.t ⟨.d0, .d0, .d1⟩) (.c (.int .i64 1)), none⟩,
    ⟨some ⟨.d0, .d0, .d7⟩, .load false 1 (.t ⟨.d0, .d0, .d6⟩), none⟩,
    ⟨some ⟨.d0, .d1, .d0⟩, .bin .xor (.t ⟨.d0, .d0, .d7⟩) (.c (.int .u64 7237128888997146477)), none⟩,
    ⟨some ⟨.d0, .d1, .d1⟩, .indexArr 1 2 (.t ⟨.d0, .d0, .d1⟩) (.c (.int .i64 0)), none⟩,
    ⟨some ⟨.d0, .d1, .d2⟩, .load false 1 (.t ⟨.d0, .d1, .d1⟩), none⟩,
    ⟨some ⟨.d0, .d1, .d3⟩, .bin .xor (.t ⟨.d0, .d1, .d2⟩) (.c (.int .u64 7816392313619706465)), none⟩,
    ⟨some ⟨.d0, .d1, .d4⟩, .indexArr 1 2 (.t ⟨.d0, .d0, .d1⟩) (.c (.int .i64 1)), none⟩,
    ⟨some ⟨.d0, .d1, .d5⟩, .load false 1 (.t ⟨.d0, .d1, .d4⟩), none⟩,
    ⟨some ⟨.d0, .d1, .d6⟩, .bin .xor (.t ⟨.d0, .d1, .d5⟩) (.c (.int .u64 8387220255154660723)), none⟩,
    ⟨some ⟨.d0, .d1, .d7⟩, .build [.int .u64 0, .int .u64 0, .int .u64 0, .int .u64 0] [(0, 1, (.t ⟨.d0, .d0, .d5⟩)), (1, 1, (.t ⟨.d0, .d1, .d0⟩)), (2, 1, (.t ⟨.d0, .d1, .d3⟩)), (3, 1, (.t ⟨.d0, .d1, .d6⟩))], none⟩,
    ⟨some ⟨.d0, .d2, .d0⟩, .build [.int .u64 0, .int .u64 0, .int .u64 0, .int .u64 0, .string { data := #[] }, .int .i64 0] [(0, 4, (.t ⟨.d0, .d1, .d7⟩))], none⟩,
    ⟨none, .store 6 (.t ⟨.d0, .d0, .d2⟩) (.t ⟨.d0, .d2, .d0⟩), none⟩])
  (.ret))
def r_sip_Begin : List XR := [.cell ⟨.d0, .d0, .d2⟩ true 6]
theorem ok_sip_Begin : okC Try.prog Try.f40.ntmps (bodyOf Try.f40) x_sip_Begin = true := by kernel_rfl
theorem okr_sip_Begin : okRs Try.prog Try.f40.results.toList r_sip_Begin = true := by kernel_rfl

/-- custref.SipBegin -/
def x_custref_SipBegin : XC :=
  .seq (.region [⟨some ⟨.d0, .d0, .d1⟩, .box 0 2 (.t ⟨.d0, .d0, .d0⟩), none⟩,
    ⟨some ⟨.d0, .d0, .d2⟩, .alloc 1 [.int .u64 0, .int .u64 0, .int .u64 0, .int .u64 0, .string { data := #[] }, .int .i64 0], none⟩])
  (.seq (.region [⟨some ⟨.d0, .d0, .d3⟩, .move (.c (.string { data := #[117, 101, 115, 112, 101, 109, 111, 115, 109, 111, 100, 110, 97, 114, 111, 100, 97, 114, 101, 110, 101, 103, 121, 108, 115, 101, 116, 121, 98, 100, 101, 116] })), none⟩])
  (.seq (.region [⟨some ⟨.d0, .d0, .d4⟩, .alloc 2 [.int .u64 0, .int .u64 0, .int .u64 0, .int .u64 0, .string { data := #[] }, .int .i64 0], none⟩])
  (.seq (.seq (.region [⟨some ⟨.d0, .d0, .d6⟩, .move (.c (.int .i64 0)), none⟩])
  (.block 0
    (.loop
      (.seq (.region [⟨some ⟨.d0, .d0, .d7⟩, .bin .lss (.t ⟨.d0, .d0, .d6⟩) (.c (.int .i64 4)), none⟩])
      (.seq (.cond (.t ⟨.d0, .d0, .d7⟩)
        (.skip)
        (.exit 0))
      (.seq (.block 1
        (.seq (.region [⟨some ⟨.d0, .d1, .d0⟩, .move (.t ⟨.d0, .d0, .d6⟩), none⟩,
          ⟨some ⟨.d0, .d0, .d5⟩, .move (.t ⟨.d0, .d1, .d0⟩), none⟩])
        (.regionD [0, 0, 2, 6, 14, 0, 0, 64, 0, 256, 768, 2016, 4064, 8190, 0, 32767, 65535] [⟨some ⟨.d0, .d1, .d1⟩, .move (.t ⟨.d0, .d0, .d5⟩), none⟩,
          ⟨some ⟨.d0, .d1, .d2⟩, .move (.t ⟨.d0, .d0, .d5⟩), none⟩,
          ⟨some ⟨.d0, .d1, .d3⟩, .bin .rem (.t ⟨.d0, .d1, .d2⟩) (.c (.int .i64 2)), none⟩,
          ⟨some ⟨.d0, .d1, .d4⟩, .indexArr 1 2 (.t ⟨.d0, .d0, .d1⟩) (.t ⟨.d0, .d1, .d3⟩), none⟩,
          ⟨some ⟨.d0, .d1, .d5⟩, .load false 1 (.t ⟨.d0, .d1, .d4⟩), none⟩,
          ⟨some ⟨.d0, .d1, .d6⟩, .move (.t ⟨.d0, .d0, .d3⟩), none⟩,
          ⟨some ⟨.d0, .d1, .d7⟩, .move (.t ⟨.d0, .d0, .d5⟩), none⟩,
          ⟨some ⟨.d0, .d2, .d0⟩, .bin .mul (.c (.int .i64 8)) (.t ⟨.d0, .d1, .d7⟩), none⟩,
          ⟨some ⟨.d0, .d2, .d1⟩, .move (.t ⟨.d0, .d0, .d5⟩), none⟩,
          ⟨some ⟨.d0, .d2, .d2⟩, .bin .mul (.c (.int .i64 8)) (.t ⟨.d0, .d2, .d1⟩), none⟩,
          ⟨some ⟨.d0, .d2, .d3⟩, .bin .add (.t ⟨.d0, .d2, .d2⟩) (.c (.int .i64 8)), none⟩,
          ⟨some ⟨.d0, .d2, .d4⟩, .substr (.t ⟨.d0, .d1, .d6⟩) (some (.t ⟨.d0, .d2, .d0⟩)) (some (.t ⟨.d0, .d2, .d3⟩)), none⟩,
          ⟨some ⟨.d0, .d2, .d5⟩, .call 73 [(.t ⟨.d0, .d2, .d4⟩)], none⟩,
          ⟨some ⟨.d0, .d2, .d6⟩, .bin .xor (.t ⟨.d0, .d1, .d5⟩) (.t ⟨.d0, .d2, .d5⟩), none⟩,
          ⟨some ⟨.d0, .d2, .d7⟩, .fieldAddr 0 (.t ⟨.d0, .d0, .d4⟩), none⟩,
          ⟨some ⟨.d0, .d3, .d0⟩, .indexArr 1 4 (.t ⟨.d0, .d2, .d7⟩) (.t ⟨.d0, .d1, .d1⟩), none⟩,
          ⟨none, .store 1 (.t ⟨.d0, .d3, .d0⟩) (.t ⟨.d0, .d2, .d6⟩), none⟩])))
      (.region [⟨some ⟨.d0, .d3, .d1⟩, .bin .add (.t ⟨.d0, .d0, .d6⟩) (.c (.int .i64 1)), none⟩,
        ⟨some ⟨.d0, .d0, .d6⟩, .move (.t ⟨.d0, .d3, .d1⟩), none⟩])))))))
  (.seq (.region [⟨some ⟨.d0, .d3, .d2⟩, .load true 6 (.t ⟨.d0, .d0, .d4⟩), none⟩,
    ⟨none, .store 6 (.t ⟨.d0, .d0, .d2⟩) (.t ⟨.d0, .d3, .d2⟩), none⟩])
  (.ret)))))
def r_custref_SipBegin : List XR := [.cell ⟨.d0, .d0, .d2⟩ true 6]
theorem ok_custref_SipBegin : okC Try.prog Try.f41.ntmps (bodyOf Try.f41) x_custref_SipBegin = true := by kernel_rfl
theorem okr_custref_SipBegin : okRs Try.prog Try.f41.results.toList r_custref_SipBegin = true := by kernel_rfl

/-- sip.Of -/
def x_sip_Of : XC :=
  .seq (.region [⟨some ⟨.d0, .d0, .d2⟩, .box 0 2 (.t ⟨.d0, .d0, .d0⟩), none⟩,
    ⟨some ⟨.d0, .d0, .d4⟩, .move (.c (.int .u64 0)), none⟩])
  (.seq (.region [⟨some ⟨.d0, .d1, .d2⟩, .load true 2 (.t ⟨.d0, .d0, .d2⟩), none⟩,
    ⟨some ⟨.d0, .d1, .d3⟩, .call 40 [(.t ⟨.d0, .d1, .d2⟩)], none⟩,
    ⟨some ⟨.d0, .d1, .d4⟩, .move (.t ⟨.d0, .d0, .d1⟩), none⟩,
    ⟨some ⟨.d0, .d1, .d5⟩, .call 36 [(.t ⟨.d0, .d1, .d3⟩), (.t ⟨.d0, .d1, .d4⟩)], none⟩,
    ⟨some ⟨.d0, .d1, .d1⟩, .move (.t ⟨.d0, .d1, .d5⟩), none⟩,
    ⟨some ⟨.d0, .d1, .d6⟩, .extract 0 (.t ⟨.d0, .d1, .d1⟩), none⟩,
    ⟨some ⟨.d0, .d1, .d7⟩, .extract 1 (.t ⟨.d0, .d1, .d1⟩), none⟩,
    ⟨some ⟨.d0, .d0, .d5⟩, .alloc 1 [.int .u64 0, .int .u64 0, .int .u64 0, .int .u64 0, .string { data := #[] }, .int .i64 0], none⟩,
    ⟨none, .store 6 (.t ⟨.d0, .d0, .d5⟩) (.t ⟨.d0, .d1, .d6⟩), none⟩,
    ⟨some ⟨.d0, .d0, .d6⟩, .move (.t ⟨.d0, .d1, .d7⟩), none⟩])
  (.seq (.region [⟨some ⟨.d0, .d2, .d1⟩, .load true 6 (.t ⟨.d0, .d0, .d5⟩), none⟩,
    ⟨some ⟨.d0, .d2, .d2⟩, .call 38 [(.t ⟨.d0, .d2, .d1⟩)], none⟩,
    ⟨some ⟨.d0, .d2, .d0⟩, .move (.t ⟨.d0, .d2, .d2⟩), none⟩,
    ⟨some ⟨.d0, .d2, .d3⟩, .extract 0 (.t ⟨.d0, .d2, .d0⟩), none⟩,
    ⟨some ⟨.d0, .d2, .d4⟩, .extract 1 (.t ⟨.d0, .d2, .d0⟩), none⟩,
    ⟨some ⟨.d0, .d0, .d7⟩, .move (.t ⟨.d0, .d2, .d3⟩), none⟩,
    ⟨some ⟨.d0, .d1, .d0⟩, .move (.t ⟨.d0, .d2, .d4⟩), none⟩])
  (.seq (.region [⟨some ⟨.d0, .d2, .d5⟩, .move (.t ⟨.d0, .d0, .d7⟩), none⟩,
    ⟨some ⟨.d0, .d0, .d4⟩, .move (.t ⟨.d0, .d2, .d5⟩), none⟩])
  (.ret))))
def r_sip_Of : List XR := [.tmp ⟨.d0, .d0, .d4⟩]
theorem ok_sip_Of : okC Try.prog Try.f42.ntmps (bodyOf Try.f42) x_sip_Of = true := by kernel_rfl
theorem okr_sip_Of : okRs Try.prog Try.f42.results.toList r_sip_Of = true := by kernel_rfl

/-- custref.SipOf -/
def x_custref_SipOf : XC :=
  .seq (.region [⟨some ⟨.d0, .d0, .d2⟩, .box 0 2 (.t ⟨.d0, .d0, .d0⟩), none⟩,
    ⟨some ⟨.d0, .d0, .d4⟩, .move (.c (.int .u64 0)), none⟩])
  (.seq (.region [⟨some ⟨.d0, .d1, .d2⟩, .load true 2 (.t ⟨.d0, .d0, .d2⟩), none⟩,
    ⟨some ⟨.d0, .d1, .d3⟩, .call 41 [(.t ⟨.d0, .d1, .d2⟩)], none⟩,
    ⟨some ⟨.d0, .d1, .d4⟩, .move (.t ⟨.d0, .d0, .d1⟩), none⟩,
    ⟨some ⟨.d0, .d1, .d5⟩, .call 37 [(.t ⟨.d0, .d1, .d3⟩), (.t ⟨.d0, .d1, .d4⟩)], none⟩,
    ⟨some ⟨.d0, .d1, .d1⟩, .move (.t ⟨.d0, .d1, .d5⟩), none⟩,
    ⟨some ⟨.d0, .d1, .d6⟩, .extract 0 (.t ⟨.d0, .d1, .d1⟩), none⟩,
    ⟨some ⟨.d0, .d1, .d7⟩, .extract 1 (.t ⟨.d0, .d1, .d1⟩), none⟩,
    ⟨some ⟨.d0, .d0, .d5⟩, .alloc 1 [.int .u64 0, .int .u64 0, .int .u64 0, .int .u64 0, .string { data := #[] }, .int .i64 0], none⟩,
    ⟨none, .store 6 (.t ⟨.d0, .d0, .d5⟩) (.t ⟨.d0, .d1, .d6⟩), none⟩,
    ⟨some ⟨.d0, .d0, .d6⟩, .move (.t ⟨.d0, .d1, .d7⟩), none⟩])
  (.seq (.region [⟨some ⟨.d0, .d2, .d1⟩, .load true 6 (.t ⟨.d0, .d0, .d5⟩), none⟩,
    ⟨some ⟨.d0, .d2, .d2⟩, .call 39 [(.t ⟨.d0, .d2, .d1⟩)], none⟩,
    ⟨some ⟨.d0, .d2, .d0⟩, .move (.t ⟨.d0, .d2, .d2⟩), none⟩,
    ⟨some ⟨.d0, .d2, .d3⟩, .extract 0 (.t ⟨.d0, .d2, .d0⟩), none⟩,
    ⟨some ⟨.d0, .d2, .d4⟩, .extract 1 (.t ⟨.d0, .d2, .d0⟩), none⟩,
    ⟨some ⟨.d0, .d0, .d7⟩, .move (.t ⟨.d0, .d2, .d3⟩), none⟩,
    ⟨some ⟨.d0, .d1, .d0⟩, .move (.t ⟨.d0, .d2, .d4⟩), none⟩])
  (.seq (.region [⟨some ⟨.d0, .d2, .d5⟩, .move (.t ⟨.d0, .d0, .d7⟩), none⟩,
    ⟨some ⟨.d0, .d0, .d4⟩, .move (.t ⟨.d0, .d2, .d5⟩), none⟩])
  (.ret))))
def r_custref_SipOf : List XR := [.tmp ⟨.d0, .d0, .d4⟩]
theorem ok_custref_SipOf : okC Try.prog Try.f43.ntmps (bodyOf Try.f43) x_custref_SipOf = true := by kernel_rfl
theorem okr_custref_SipOf : okRs Try.prog Try.f43.results.toList r_custref_SipOf = true := by kernel_rfl

/-- sip.check -/
def x_sip_check : XC :=
  .seq (.region [⟨some ⟨.d0, .d0, .d1⟩, .box 0 6 (.t ⟨.d0, .d0, .d0⟩), none⟩,
    ⟨some ⟨.d0, .d0, .d2⟩, .move (.c (.int .i64 0)), none⟩])
  (.seq (.seq (.region [⟨some ⟨.d0, .d0, .d3⟩, .fieldAddr 5 (.t ⟨.d0, .d0, .d1⟩), none⟩,
    ⟨some ⟨.d0, .d0, .d4⟩, .load false 1 (.t ⟨.d0, .d0, .d3⟩), none⟩,
    ⟨some ⟨.d0, .d0, .d5⟩, .bin .lss (.t ⟨.d0, .d0, .d4⟩) (.c (.int .i64 0)), none⟩,
    ⟨some ⟨.d0, .d0, .d6⟩, .move (.t ⟨.d0, .d0, .d5⟩), none⟩,
    ⟨some ⟨.d0, .d0, .d7⟩, .fieldAddr 4 (.t ⟨.d0, .d0, .d1⟩), some (⟨.d0, .d0, .d6⟩, false)⟩,
    ⟨some ⟨.d0, .d1, .d0⟩, .load false 1 (.t ⟨.d0, .d0, .d7⟩), some (⟨.d0, .d0, .d6⟩, false)⟩,
    ⟨some ⟨.d0, .d1, .d1⟩, .slen (.t ⟨.d0, .d1, .d0⟩), some (⟨.d0, .d0, .d6⟩, false)⟩,
    ⟨some ⟨.d0, .d1, .d2⟩, .fieldAddr 5 (.t ⟨.d0, .d0, .d1⟩), some (⟨.d0, .d0, .d6⟩, false)⟩,
    ⟨some ⟨.d0, .d1, .d3⟩, .load false 1 (.t ⟨.d0, .d1, .d2⟩), some (⟨.d0, .d0, .d6⟩, false)⟩,
    ⟨some ⟨.d0, .d1, .d4⟩, .bin .rem (.t ⟨.d0, .d1, .d3⟩) (.c (.int .i64 8)), some (⟨.d0, .d0, .d6⟩, false)⟩,
    ⟨some ⟨.d0, .d1, .d5⟩, .bin .neq (.t ⟨.d0, .d1, .d1⟩) (.t ⟨.d0, .d1, .d4⟩), some (⟨.d0, .d0, .d6⟩, false)⟩,
    ⟨some ⟨.d0, .d1, .d6⟩, .pick (.t ⟨.d0, .d0, .d6⟩) (.c (.bool true)) (.t ⟨.d0, .d1, .d5⟩), none⟩])
  (.cond (.t ⟨.d0, .d1, .d6⟩)
    (.seq (.region [⟨some ⟨.d0, .d0, .d2⟩, .move (.c (.int .i64 4)), none⟩])
    (.ret))
    (.skip)))
  (.seq (.region [⟨some ⟨.d0, .d0, .d2⟩, .move (.c (.int .i64 0)), none⟩])
  (.ret)))
def r_sip_check : List XR := [.tmp ⟨.d0, .d0, .d2⟩]
theorem ok_sip_check : okC Try.prog Try.f68.ntmps (bodyOf Try.f68) x_sip_check = true := by kernel_rfl
theorem okr_sip_check : okRs Try.prog Try.f68.results.toList r_sip_check = true := by kernel_rfl

/-- sip.take -/
def x_sip_take : XC :=
  .seq (.regionD [0, 1, 3, 7, 0, 31, 1, 127, 255] [⟨some ⟨.d0, .d0, .d4⟩, .move (.t ⟨.d0, .d0, .d0⟩), none⟩,
    ⟨some ⟨.d0, .d0, .d5⟩, .nilCheck (.t ⟨.d0, .d0, .d4⟩), none⟩,
    ⟨some ⟨.d0, .d0, .d6⟩, .indexArr 1 4 (.t ⟨.d0, .d0, .d5⟩) (.c (.int .i64 3)), none⟩,
    ⟨some ⟨.d0, .d0, .d7⟩, .load false 1 (.t ⟨.d0, .d0, .d6⟩), none⟩,
    ⟨some ⟨.d0, .d1, .d0⟩, .move (.t ⟨.d0, .d0, .d1⟩), none⟩,
    ⟨some ⟨.d0, .d1, .d1⟩, .bin .xor (.t ⟨.d0, .d0, .d7⟩) (.t ⟨.d0, .d1, .d0⟩), none⟩,
    ⟨some ⟨.d0, .d1, .d2⟩, .nilCheck (.t ⟨.d0, .d0, .d4⟩), none⟩,
    ⟨some ⟨.d0, .d1, .d3⟩, .indexArr 1 4 (.t ⟨.d0, .d1, .d2⟩) (.c (.int .i64 3)), none⟩,
    ⟨none, .store 1 (.t ⟨.d0, .d1, .d3⟩) (.t ⟨.d0, .d1, .d1⟩), none⟩])
  (.seq (.region [⟨some ⟨.d0, .d1, .d4⟩, .move (.t ⟨.d0, .d0, .d0⟩), none⟩,
    ⟨some ⟨.d0, .d1, .d5⟩, .call 74 [(.t ⟨.d0, .d1, .d4⟩), (.c (.int .i64 2))], none⟩])
  (.regionD [0, 1, 3, 7, 0, 31, 1, 127, 255] [⟨some ⟨.d0, .d1, .d6⟩, .move (.t ⟨.d0, .d0, .d0⟩), none⟩,
    ⟨some ⟨.d0, .d1, .d7⟩, .nilCheck (.t ⟨.d0, .d1, .d6⟩), none⟩,
    ⟨some ⟨.d0, .d2, .d0⟩, .indexArr 1 4 (.t ⟨.d0, .d1, .d7⟩) (.c (.int .i64 0)), none⟩,
    ⟨some ⟨.d0, .d2, .d1⟩, .load false 1 (.t ⟨.d0, .d2, .d0⟩), none⟩,
    ⟨some ⟨.d0, .d2, .d2⟩, .move (.t ⟨.d0, .d0, .d1⟩), none⟩,
    ⟨some ⟨.d0, .d2, .d3⟩, .bin .xor (.t ⟨.d0, .d2, .d1⟩) (.t ⟨.d0, .d2, .d2⟩), none⟩,
    ⟨some ⟨.d0, .d2, .d4⟩, .nilCheck (.t ⟨.d0, .d1, .d6⟩), none⟩,
    ⟨some ⟨.d0, .d2, .d5⟩, .indexArr 1 4 (.t ⟨.d0, .d2, .d4⟩) (.c (.int .i64 0)), none⟩,
    ⟨none, .store 1 (.t ⟨.d0, .d2, .d5⟩) (.t ⟨.d0, .d2, .d3⟩), none⟩]))
def r_sip_take : List XR := []
theorem ok_sip_take : okC Try.prog Try.f69.ntmps (bodyOf Try.f69) x_sip_take = true := by kernel_rfl
theorem okr_sip_take : okRs Try.prog Try.f69.results.toList r_sip_take = true := by kernel_rfl

/-- sip.number -/
def x_sip_number : XC :=
  .seq (.region [⟨some ⟨.d0, .d0, .d2⟩, .move (.c (.int .u64 0)), none⟩])
  (.seq (.region [⟨some ⟨.d0, .d0, .d3⟩, .move (.c (.int .u64 0)), none⟩])
  (.seq (.seq (.region [⟨some ⟨.d0, .d0, .d5⟩, .move (.t ⟨.d0, .d0, .d0⟩), none⟩,
    ⟨some ⟨.d0, .d0, .d6⟩, .slen (.t ⟨.d0, .d0, .d5⟩), none⟩,
    ⟨some ⟨.d0, .d0, .d7⟩, .move (.c (.int .i64 0)), none⟩])
  (.block 0
    (.loop
      (.seq (.region [⟨some ⟨.d0, .d1, .d0⟩, .bin .lss (.t ⟨.d0, .d0, .d7⟩) (.t ⟨.d0, .d0, .d6⟩), none⟩])
      (.seq (.cond (.t ⟨.d0, .d1, .d0⟩)
        (.skip)
        (.exit 0))
      (.seq (.block 1
        (.seq (.region [⟨some ⟨.d0, .d1, .d1⟩, .move (.t ⟨.d0, .d0, .d7⟩), none⟩,
          ⟨some ⟨.d0, .d0, .d4⟩, .move (.t ⟨.d0, .d1, .d1⟩), none⟩])
        (.region [⟨some ⟨.d0, .d1, .d2⟩, .move (.t ⟨.d0, .d0, .d3⟩), none⟩,
          ⟨some ⟨.d0, .d1, .d3⟩, .move (.t ⟨.d0, .d0, .d0⟩), none⟩,
          ⟨some ⟨.d0, .d1, .d4⟩, .move (.t ⟨.d0, .d0, .d4⟩), none⟩,
          ⟨some ⟨.d0, .d1, .d5⟩, .strAt (.t ⟨.d0, .d1, .d3⟩) (.t ⟨.d0, .d1, .d4⟩), none⟩,
          ⟨some ⟨.d0, .d1, .d6⟩, .convInt .u64 (.t ⟨.d0, .d1, .d5⟩), none⟩,
          ⟨some ⟨.d0, .d1, .d7⟩, .move (.t ⟨.d0, .d0, .d4⟩), none⟩,
          ⟨some ⟨.d0, .d2, .d0⟩, .bin .mul (.c (.int .i64 8)) (.t ⟨.d0, .d1, .d7⟩), none⟩,
          ⟨some ⟨.d0, .d2, .d1⟩, .bin .shl (.t ⟨.d0, .d1, .d6⟩) (.t ⟨.d0, .d2, .d0⟩), none⟩,
          ⟨some ⟨.d0, .d2, .d2⟩, .bin .or (.t ⟨.d0, .d1, .d2⟩) (.t ⟨.d0, .d2, .d1⟩), none⟩,
          ⟨some ⟨.d0, .d0, .d3⟩, .move (.t ⟨.d0, .d2, .d2⟩), none⟩])))
      (.region [⟨some ⟨.d0, .d2, .d3⟩, .bin .add (.t ⟨.d0, .d0, .d7⟩) (.c (.int .i64 1)), none⟩,
        ⟨some ⟨.d0, .d0, .d7⟩, .move (.t ⟨.d0, .d2, .d3⟩), none⟩])))))))
  (.seq (.region [⟨some ⟨.d0, .d2, .d4⟩, .move (.t ⟨.d0, .d0, .d3⟩), none⟩,
    ⟨some ⟨.d0, .d0, .d2⟩, .move (.t ⟨.d0, .d2, .d4⟩), none⟩])
  (.ret))))
def r_sip_number : List XR := [.tmp ⟨.d0, .d0, .d2⟩]
theorem ok_sip_number : okC Try.prog Try.f70.ntmps (bodyOf Try.f70) x_sip_number = true := by kernel_rfl
theorem okr_sip_number : okRs Try.prog Try.f70.results.toList r_sip_number = true := by kernel_rfl

/-- custref.SipRight -/
def x_custref_SipRight : XC :=
  .seq (.region [⟨some ⟨.d0, .d0, .d1⟩, .box 0 6 (.t ⟨.d0, .d0, .d0⟩), none⟩,
    ⟨some ⟨.d0, .d0, .d2⟩, .move (.c (.int .i64 0)), none⟩])
  (.seq (.seq (.region [⟨some ⟨.d0, .d0, .d3⟩, .fieldAddr 5 (.t ⟨.d0, .d0, .d1⟩), none⟩,
    ⟨some ⟨.d0, .d0, .d4⟩, .load false 1 (.t ⟨.d0, .d0, .d3⟩), none⟩,
    ⟨some ⟨.d0, .d0, .d5⟩, .bin .lss (.t ⟨.d0, .d0, .d4⟩) (.c (.int .i64 0)), none⟩,
    ⟨some ⟨.d0, .d0, .d6⟩, .move (.t ⟨.d0, .d0, .d5⟩), none⟩,
    ⟨some ⟨.d0, .d0, .d7⟩, .fieldAddr 4 (.t ⟨.d0, .d0, .d1⟩), some (⟨.d0, .d0, .d6⟩, false)⟩,
    ⟨some ⟨.d0, .d1, .d0⟩, .load false 1 (.t ⟨.d0, .d0, .d7⟩), some (⟨.d0, .d0, .d6⟩, false)⟩,
    ⟨some ⟨.d0, .d1, .d1⟩, .slen (.t ⟨.d0, .d1, .d0⟩), some (⟨.d0, .d0, .d6⟩, false)⟩,
    ⟨some ⟨.d0, .d1, .d2⟩, .bin .gtr (.t ⟨.d0, .d1, .d1⟩) (.c (.int .i64 7)), some (⟨.d0, .d0, .d6⟩, false)⟩,
    ⟨some ⟨.d0, .d1, .d3⟩, .pick (.t ⟨.d0, .d0, .d6⟩) (.c (.bool true)) (.t ⟨.d0, .d1, .d2⟩), none⟩,
    ⟨some ⟨.d0, .d1, .d4⟩, .move (.t ⟨.d0, .d1, .d3⟩), none⟩,
    ⟨some ⟨.d0, .d1, .d5⟩, .fieldAddr 4 (.t ⟨.d0, .d0, .d1⟩), some (⟨.d0, .d1, .d4⟩, false)⟩,
    ⟨some ⟨.d0, .d1, .d6⟩, .load false 1 (.t ⟨.d0, .d1, .d5⟩), some (⟨.d0, .d1, .d4⟩, false)⟩,
    ⟨some ⟨.d0, .d1, .d7⟩, .slen (.t ⟨.d0, .d1, .d6⟩), some (⟨.d0, .d1, .d4⟩, false)⟩,
    ⟨some ⟨.d0, .d2, .d0⟩, .fieldAddr 5 (.t ⟨.d0, .d0, .d1⟩), some (⟨.d0, .d1, .d4⟩, false)⟩,
    ⟨some ⟨.d0, .d2, .d1⟩, .load false 1 (.t ⟨.d0, .d2, .d0⟩), some (⟨.d0, .d1, .d4⟩, false)⟩,
    ⟨some ⟨.d0, .d2, .d2⟩, .bin .rem (.t ⟨.d0, .d2, .d1⟩) (.c (.int .i64 8)), some (⟨.d0, .d1, .d4⟩, false)⟩,
    ⟨some ⟨.d0, .d2, .d3⟩, .bin .neq (.t ⟨.d0, .d1, .d7⟩) (.t ⟨.d0, .d2, .d2⟩), some (⟨.d0, .d1, .d4⟩, false)⟩,
    ⟨some ⟨.d0, .d2, .d4⟩, .pick (.t ⟨.d0, .d1, .d4⟩) (.c (.bool true)) (.t ⟨.d0, .d2, .d3⟩), none⟩])
  (.cond (.t ⟨.d0, .d2, .d4⟩)
    (.seq (.region [⟨some ⟨.d0, .d0, .d2⟩, .move (.c (.int .i64 4)), none⟩])
    (.ret))
    (.skip)))
  (.seq (.region [⟨some ⟨.d0, .d0, .d2⟩, .move (.c (.int .i64 0)), none⟩])
  (.ret)))
def r_custref_SipRight : List XR := [.tmp ⟨.d0, .d0, .d2⟩]
theorem ok_custref_SipRight : okC Try.prog Try.f71.ntmps (bodyOf Try.f71) x_custref_SipRight = true := by kernel_rfl
theorem okr_custref_SipRight : okRs Try.prog Try.f71.results.toList r_custref_SipRight = true := by kernel_rfl

/-- custref.SipTake -/
def x_custref_SipTake : XC :=
  .seq (.region [⟨some ⟨.d0, .d0, .d2⟩, .box 0 4 (.t ⟨.d0, .d0, .d0⟩), none⟩,
    ⟨some ⟨.d0, .d0, .d4⟩, .alloc 1 [.int .u64 0, .int .u64 0, .int .u64 0, .int .u64 0], none⟩])
  (.seq (.region [⟨some ⟨.d0, .d0, .d5⟩, .indexArr 1 4 (.t ⟨.d0, .d0, .d2⟩) (.c (.int .i64 3)), none⟩,
    ⟨some ⟨.d0, .d0, .d6⟩, .load false 1 (.t ⟨.d0, .d0, .d5⟩), none⟩,
    ⟨some ⟨.d0, .d0, .d7⟩, .move (.t ⟨.d0, .d0, .d1⟩), none⟩,
    ⟨some ⟨.d0, .d1, .d0⟩, .bin .xor (.t ⟨.d0, .d0, .d6⟩) (.t ⟨.d0, .d0, .d7⟩), none⟩,
    ⟨some ⟨.d0, .d1, .d1⟩, .indexArr 1 4 (.t ⟨.d0, .d0, .d2⟩) (.c (.int .i64 3)), none⟩,
    ⟨none, .store 1 (.t ⟨.d0, .d1, .d1⟩) (.t ⟨.d0, .d1, .d0⟩), none⟩])
  (.seq (.region [⟨some ⟨.d0, .d1, .d2⟩, .load true 4 (.t ⟨.d0, .d0, .d2⟩), none⟩,
    ⟨some ⟨.d0, .d1, .d3⟩, .call 76 [(.t ⟨.d0, .d1, .d2⟩)], none⟩,
    ⟨some ⟨.d0, .d1, .d4⟩, .call 76 [(.t ⟨.d0, .d1, .d3⟩)], none⟩,
    ⟨none, .store 4 (.t ⟨.d0, .d0, .d2⟩) (.t ⟨.d0, .d1, .d4⟩), none⟩])
  (.seq (.region [⟨some ⟨.d0, .d1, .d5⟩, .indexArr 1 4 (.t ⟨.d0, .d0, .d2⟩) (.c (.int .i64 0)), none⟩,
    ⟨some ⟨.d0, .d1, .d6⟩, .load false 1 (.t ⟨.d0, .d1, .d5⟩), none⟩,
    ⟨some ⟨.d0, .d1, .d7⟩, .move (.t ⟨.d0, .d0, .d1⟩), none⟩,
    ⟨some ⟨.d0, .d2, .d0⟩, .bin .xor (.t ⟨.d0, .d1, .d6⟩) (.t ⟨.d0, .d1, .d7⟩), none⟩,
    ⟨some ⟨.d0, .d2, .d1⟩, .indexArr 1 4 (.t ⟨.d0, .d0, .d2⟩) (.c (.int .i64 0)), none⟩,
    ⟨none, .store 1 (.t ⟨.d0, .d2, .d1⟩) (.t ⟨.d0, .d2, .d0⟩), none⟩])
  (.seq (.region [⟨some ⟨.d0, .d2, .d2⟩, .load true 4 (.t ⟨.d0, .d0, .d2⟩), none⟩,
    ⟨none, .store 4 (.t ⟨.d0, .d0, .d4⟩) (.t ⟨.d0, .d2, .d2⟩), none⟩])
  (.ret)))))
def r_custref_SipTake : List XR := [.cell ⟨.d0, .d0, .d4⟩ true 4]
theorem ok_custref_SipTake : okC Try.prog Try.f72.ntmps (bodyOf Try.f72) x_custref_SipTake = true := by kernel_rfl
theorem okr_custref_SipTake : okRs Try.prog Try.f72.results.toList r_custref_SipTake = true := by kernel_rfl

/-- custref.eight -/
def x_custref_eight : XC :=
  .seq (.region [⟨some ⟨.d0, .d0, .d2⟩, .move (.c (.int .u64 0)), none⟩])
  (.seq (.region [⟨some ⟨.d0, .d0, .d3⟩, .move (.c (.int .u64 0)), none⟩])
  (.seq (.seq (.region [⟨some ⟨.d0, .d0, .d4⟩, .move (.c (.int .i64 7)), none⟩])
  (.block 0
    (.loop
      (.seq (.seq (.region [⟨some ⟨.d0, .d0, .d5⟩, .move (.t ⟨.d0, .d0, .d4⟩), none⟩,
        ⟨some ⟨.d0, .d0, .d6⟩, .bin .geq (.t ⟨.d0, .d0, .d5⟩) (.c (.int .i64 0)), none⟩])
      (.cond (.t ⟨.d0, .d0, .d6⟩)
        (.skip)
        (.exit 0)))
      (.seq (.block 1
        (.region [⟨some ⟨.d0, .d1, .d1⟩, .move (.t ⟨.d0, .d0, .d3⟩), none⟩,
          ⟨some ⟨.d0, .d1, .d2⟩, .bin .mul (.c (.int .u64 256)) (.t ⟨.d0, .d1, .d1⟩), none⟩,
          ⟨some ⟨.d0, .d1, .d3⟩, .move (.t ⟨.d0, .d0, .d0⟩), none⟩,
          ⟨some ⟨.d0, .d1, .d4⟩, .move (.t ⟨.d0, .d0, .d4⟩), none⟩,
          ⟨some ⟨.d0, .d1, .d5⟩, .strAt (.t ⟨.d0, .d1, .d3⟩) (.t ⟨.d0, .d1, .d4⟩), none⟩,
          ⟨some ⟨.d0, .d1, .d6⟩, .convInt .u64 (.t ⟨.d0, .d1, .d5⟩), none⟩,
          ⟨some ⟨.d0, .d1, .d7⟩, .bin .add (.t ⟨.d0, .d1, .d2⟩) (.t ⟨.d0, .d1, .d6⟩), none⟩,
          ⟨some ⟨.d0, .d0, .d3⟩, .move (.t ⟨.d0, .d1, .d7⟩), none⟩]))
      (.region [⟨some ⟨.d0, .d0, .d7⟩, .move (.t ⟨.d0, .d0, .d4⟩), none⟩,
        ⟨some ⟨.d0, .d1, .d0⟩, .bin .sub (.t ⟨.d0, .d0, .d7⟩) (.c (.int .i64 1)), none⟩,
        ⟨some ⟨.d0, .d0, .d4⟩, .move (.t ⟨.d0, .d1, .d0⟩), none⟩]))))))
  (.seq (.region [⟨some ⟨.d0, .d2, .d0⟩, .move (.t ⟨.d0, .d0, .d3⟩), none⟩,
    ⟨some ⟨.d0, .d0, .d2⟩, .move (.t ⟨.d0, .d2, .d0⟩), none⟩])
  (.ret))))
def r_custref_eight : List XR := [.tmp ⟨.d0, .d0, .d2⟩]
theorem ok_custref_eight : okC Try.prog Try.f73.ntmps (bodyOf Try.f73) x_custref_eight = true := by kernel_rfl
theorem okr_custref_eight : okRs Try.prog Try.f73.results.toList r_custref_eight = true := by kernel_rfl

/-- sip.rounds -/
def x_sip_rounds : XC :=
  .seq (.regionD [0, 1, 3, 7, 0, 16, 48, 112, 0, 256, 768, 1792, 0, 4096, 12288, 28672, 15, 65791, 200703, 524287] [⟨some ⟨.d0, .d1, .d0⟩, .move (.t ⟨.d0, .d0, .d0⟩), none⟩,
    ⟨some ⟨.d0, .d1, .d1⟩, .nilCheck (.t ⟨.d0, .d1, .d0⟩), none⟩,
    ⟨some ⟨.d0, .d1, .d2⟩, .indexArr 1 4 (.t ⟨.d0, .d1, .d1⟩) (.c (.int .i64 0)), none⟩,
    ⟨some ⟨.d0, .d1, .d3⟩, .load false 1 (.t ⟨.d0, .d1, .d2⟩), none⟩,
    ⟨some ⟨.d0, .d1, .d4⟩, .move (.t ⟨.d0, .d0, .d0⟩), none⟩,
    ⟨some ⟨.d0, .d1, .d5⟩, .nilCheck (.t ⟨.d0, .d1, .d4⟩), none⟩,
    ⟨some ⟨.d0, .d1, .d6⟩, .indexArr 1 4 (.t ⟨.d0, .d1, .d5⟩) (.c (.int .i64 1)), none⟩,
    ⟨some ⟨.d0, .d1, .d7⟩, .load false 1 (.t ⟨.d0, .d1, .d6⟩), none⟩,
    ⟨some ⟨.d0, .d2, .d0⟩, .move (.t ⟨.d0, .d0, .d0⟩), none⟩,
    ⟨some ⟨.d0, .d2, .d1⟩, .nilCheck (.t ⟨.d0, .d2, .d0⟩), none⟩,
    ⟨some ⟨.d0, .d2, .d2⟩, .indexArr 1 4 (.t ⟨.d0, .d2, .d1⟩) (.c (.int .i64 2)), none⟩,
    ⟨some ⟨.d0, .d2, .d3⟩, .load false 1 (.t ⟨.d0, .d2, .d2⟩), none⟩,
    ⟨some ⟨.d0, .d2, .d4⟩, .move (.t ⟨.d0, .d0, .d0⟩), none⟩,
    ⟨some ⟨.d0, .d2, .d5⟩, .nilCheck (.t ⟨.d0, .d2, .d4⟩), none⟩,
    ⟨some ⟨.d0, .d2, .d6⟩, .indexArr 1 4 (.t ⟨.d0, .d2, .d5⟩) (.c (.int .i64 3)), none⟩,
    ⟨some ⟨.d0, .d2, .d7⟩, .load false 1 (.t ⟨.d0, .d2, .d6⟩), none⟩,
    ⟨some ⟨.d0, .d0, .d4⟩, .move (.t ⟨.d0, .d1, .d3⟩), none⟩,
    ⟨some ⟨.d0, .d0, .d5⟩, .move (.t ⟨.d0, .d1, .d7⟩), none⟩,
    ⟨some ⟨.d0, .d0, .d6⟩, .move (.t ⟨.d0, .d2, .d3⟩), none⟩,
    ⟨some ⟨.d0, .d0, .d7⟩, .move (.t ⟨.d0, .d2, .d7⟩), none⟩])
  (.seq (.seq (.region [⟨some ⟨.d0, .d3, .d0⟩, .move (.t ⟨.d0, .d0, .d1⟩), none⟩,
    ⟨some ⟨.d0, .d3, .d1⟩, .move (.c (.int .i64 0)), none⟩])
  (.block 0
    (.loop
      (.seq (.region [⟨some ⟨.d0, .d3, .d2⟩, .bin .lss (.t ⟨.d0, .d3, .d1⟩) (.t ⟨.d0, .d3, .d0⟩), none⟩])
      (.seq (.cond (.t ⟨.d0, .d3, .d2⟩)
        (.skip)
        (.exit 0))
      (.seq (.block 1
        (.seq (.region [⟨some ⟨.d0, .d3, .d3⟩, .move (.t ⟨.d0, .d0, .d4⟩), none⟩,
          ⟨some ⟨.d0, .d3, .d4⟩, .move (.t ⟨.d0, .d0, .d5⟩), none⟩,
          ⟨some ⟨.d0, .d3, .d5⟩, .bin .add (.t ⟨.d0, .d3, .d3⟩) (.t ⟨.d0, .d3, .d4⟩), none⟩,
          ⟨some ⟨.d0, .d0, .d4⟩, .move (.t ⟨.d0, .d3, .d5⟩), none⟩])
        (.seq (.region [⟨some ⟨.d0, .d3, .d6⟩, .move (.t ⟨.d0, .d0, .d5⟩), none⟩,
          ⟨some ⟨.d0, .d3, .d7⟩, .call 83 [(.t ⟨.d0, .d3, .d6⟩), (.c (.int .i64 13))], none⟩,
          ⟨some ⟨.d0, .d4, .d0⟩, .move (.t ⟨.d0, .d0, .d4⟩), none⟩,
          ⟨some ⟨.d0, .d4, .d1⟩, .bin .xor (.t ⟨.d0, .d3, .d7⟩) (.t ⟨.d0, .d4, .d0⟩), none⟩,
          ⟨some ⟨.d0, .d0, .d5⟩, .move (.t ⟨.d0, .d4, .d1⟩), none⟩])
        (.seq (.region [⟨some ⟨.d0, .d4, .d2⟩, .move (.t ⟨.d0, .d0, .d4⟩), none⟩,
          ⟨some ⟨.d0, .d4, .d3⟩, .call 83 [(.t ⟨.d0, .d4, .d2⟩), (.c (.int .i64 32))], none⟩,
          ⟨some ⟨.d0, .d0, .d4⟩, .move (.t ⟨.d0, .d4, .d3⟩), none⟩])
        (.seq (.region [⟨some ⟨.d0, .d4, .d4⟩, .move (.t ⟨.d0, .d0, .d6⟩), none⟩,
          ⟨some ⟨.d0, .d4, .d5⟩, .move (.t ⟨.d0, .d0, .d7⟩), none⟩,
          ⟨some ⟨.d0, .d4, .d6⟩, .bin .add (.t ⟨.d0, .d4, .d4⟩) (.t ⟨.d0, .d4, .d5⟩), none⟩,
          ⟨some ⟨.d0, .d0, .d6⟩, .move (.t ⟨.d0, .d4, .d6⟩), none⟩])
        (.seq (.region [⟨some ⟨.d0, .d4, .d7⟩, .move (.t ⟨.d0, .d0, .d7⟩), none⟩,
          ⟨some ⟨.d0, .d5, .d0⟩, .call 83 [(.t ⟨.d0, .d4, .d7⟩), (.c (.int .i64 16))], none⟩,
          ⟨some ⟨.d0, .d5, .d1⟩, .move (.t ⟨.d0, .d0, .d6⟩), none⟩,
          ⟨some ⟨.d0, .d5, .d2⟩, .bin .xor (.t ⟨.d0, .d5, .d0⟩) (.t ⟨.d0, .d5, .d1⟩), none⟩,
          ⟨some ⟨.d0, .d0, .d7⟩, .move (.t ⟨.d0, .d5, .d2⟩), none⟩])
        (.seq (.region [⟨some ⟨.d0, .d5, .d3⟩, .move (.t ⟨.d0, .d0, .d4⟩), none⟩,
          ⟨some ⟨.d0, .d5, .d4⟩, .move (.t ⟨.d0, .d0, .d7⟩), none⟩,
          ⟨some ⟨.d0, .d5, .d5⟩, .bin .add (.t ⟨.d0, .d5, .d3⟩) (.t ⟨.d0, .d5, .d4⟩), none⟩,
          ⟨some ⟨.d0, .d0, .d4⟩, .move (.t ⟨.d0, .d5, .d5⟩), none⟩])
        (.seq (.region [⟨some ⟨.d0, .d5, .d6⟩, .move (.t ⟨.d0, .d0, .d7⟩), none⟩,
          ⟨some ⟨.d0, .d5, .d7⟩, .call 83 [(.t ⟨.d0, .d5, .d6⟩), (.c (.int .i64 21))], none⟩,
          ⟨some ⟨.d0, .d6, .d0⟩, .move (.t ⟨.d0, .d0, .d4⟩), none⟩,
          ⟨some ⟨.d0, .d6, .d1⟩, .bin .xor (.t ⟨.d0, .d5, .d7⟩) (.t ⟨.d0, .d6, .d0⟩), none⟩,
          ⟨some ⟨.d0, .d0, .d7⟩, .move (.t ⟨.d0, .d6, .d1⟩), none⟩])
        (.seq (.region [⟨some ⟨.d0, .d6, .d2⟩, .move (.t ⟨.d0, .d0, .d6⟩), none⟩,
          ⟨some ⟨.d0, .d6, .d3⟩, .move (.t ⟨.d0, .d0, .d5⟩), none⟩,
          ⟨some ⟨.d0, .d6, .d4⟩, .bin .add (.t ⟨.d0, .d6, .d2⟩) (.t ⟨.d0, .d6, .d3⟩), none⟩,
          ⟨some ⟨.d0, .d0, .d6⟩, .move (.t ⟨.d0, .d6, .d4⟩), none⟩])
        (.seq (.region [⟨some ⟨.d0, .d6, .d5⟩, .move (.t ⟨.d0, .d0, .d5⟩), none⟩,
          ⟨some ⟨.d0, .d6, .d6⟩, .call 83 [(.t ⟨.d0, .d6, .d5⟩), (.c (.int .i64 17))], none⟩,
          ⟨some ⟨.d0, .d6, .d7⟩, .move (.t ⟨.d0, .d0, .d6⟩), none⟩,
          ⟨some ⟨.d0, .d7, .d0⟩, .bin .xor (.t ⟨.d0, .d6, .d6⟩) (.t ⟨.d0, .d6, .d7⟩), none⟩,
          ⟨some ⟨.d0, .d0, .d5⟩, .move (.t ⟨.d0, .d7, .d0⟩), none⟩])
        (.region [⟨some ⟨.d0, .d7, .d1⟩, .move (.t ⟨.d0, .d0, .d6⟩), none⟩,
          ⟨some ⟨.d0, .d7, .d2⟩, .call 83 [(.t ⟨.d0, .d7, .d1⟩), (.c (.int .i64 32))], none⟩,
          ⟨some ⟨.d0, .d0, .d6⟩, .move (.t ⟨.d0, .d7, .d2⟩), none⟩])))))))))))
      (.region [⟨some ⟨.d0, .d7, .d3⟩, .bin .add (.t ⟨.d0, .d3, .d1⟩) (.c (.int .i64 1)), none⟩,
        ⟨some ⟨.d0, .d3, .d1⟩, .move (.t ⟨.d0, .d7, .d3⟩), none⟩])))))))
  (.region [⟨some ⟨.d0, .d7, .d4⟩, .move (.t ⟨.d0, .d0, .d0⟩), none⟩,
    ⟨some ⟨.d0, .d7, .d5⟩, .move (.t ⟨.d0, .d0, .d4⟩), none⟩,
    ⟨some ⟨.d0, .d7, .d6⟩, .move (.t ⟨.d0, .d0, .d5⟩), none⟩,
    ⟨some ⟨.d0, .d7, .d7⟩, .move (.t ⟨.d0, .d0, .d6⟩), none⟩,
    ⟨some ⟨.d1, .d0, .d0⟩, .move (.t ⟨.d0, .d0, .d7⟩), none⟩,
    ⟨some ⟨.d1, .d0, .d1⟩, .build [.int .u64 0, .int .u64 0, .int .u64 0, .int .u64 0] [(0, 1, (.t ⟨.d0, .d7, .d5⟩)), (1, 1, (.t ⟨.d0, .d7, .d6⟩)), (2, 1, (.t ⟨.d0, .d7, .d7⟩)), (3, 1, (.t ⟨.d1, .d0, .d0⟩))], none⟩,
    ⟨some ⟨.d1, .d0, .d2⟩, .nilCheck (.t ⟨.d0, .d7, .d4⟩), none⟩,
    ⟨none, .store 4 (.t ⟨.d1, .d0, .d2⟩) (.t ⟨.d1, .d0, .d1⟩), none⟩]))
def r_sip_rounds : List XR := []
theorem ok_sip_rounds : okC Try.prog Try.f74.ntmps (bodyOf Try.f74) x_sip_rounds = true := by kernel_rfl
theorem okr_sip_rounds : okRs Try.prog Try.f74.results.toList r_sip_rounds = true := by kernel_rfl

/-- custref.Bytes -/
def x_custref_Bytes : XC :=
  .seq (.region [⟨some ⟨.d0, .d0, .d2⟩, .move (.c (.string { data := #[] })), none⟩])
  (.seq (.region [⟨some ⟨.d0, .d0, .d6⟩, .move (.t ⟨.d0, .d0, .d0⟩), none⟩,
    ⟨some ⟨.d0, .d0, .d7⟩, .len (.t ⟨.d0, .d0, .d6⟩), none⟩,
    ⟨some ⟨.d0, .d1, .d0⟩, .makeSlice 1 1 [.int .u8 0] (.t ⟨.d0, .d0, .d7⟩) (.t ⟨.d0, .d0, .d7⟩), none⟩,
    ⟨some ⟨.d0, .d0, .d3⟩, .move (.t ⟨.d0, .d1, .d0⟩), none⟩])
  (.seq (.seq (.region [⟨some ⟨.d0, .d1, .d1⟩, .move (.t ⟨.d0, .d0, .d0⟩), none⟩,
    ⟨some ⟨.d0, .d1, .d2⟩, .len (.t ⟨.d0, .d1, .d1⟩), none⟩,
    ⟨some ⟨.d0, .d1, .d3⟩, .move (.c (.int .i64 0)), none⟩])
  (.block 0
    (.loop
      (.seq (.region [⟨some ⟨.d0, .d1, .d4⟩, .bin .lss (.t ⟨.d0, .d1, .d3⟩) (.t ⟨.d0, .d1, .d2⟩), none⟩])
      (.seq (.cond (.t ⟨.d0, .d1, .d4⟩)
        (.skip)
        (.exit 0))
      (.seq (.block 1
        (.seq (.region [⟨some ⟨.d0, .d1, .d5⟩, .move (.t ⟨.d0, .d1, .d3⟩), none⟩,
          ⟨some ⟨.d0, .d1, .d6⟩, .indexSl 1 (.t ⟨.d0, .d1, .d1⟩) (.t ⟨.d0, .d1, .d3⟩), none⟩,
          ⟨some ⟨.d0, .d1, .d7⟩, .load false 1 (.t ⟨.d0, .d1, .d6⟩), none⟩,
          ⟨some ⟨.d0, .d0, .d4⟩, .move (.t ⟨.d0, .d1, .d5⟩), none⟩,
          ⟨some ⟨.d0, .d0, .d5⟩, .move (.t ⟨.d0, .d1, .d7⟩), none⟩])
        (.region [⟨some ⟨.d0, .d2, .d0⟩, .move (.t ⟨.d0, .d0, .d3⟩), none⟩,
          ⟨some ⟨.d0, .d2, .d1⟩, .move (.t ⟨.d0, .d0, .d4⟩), none⟩,
          ⟨some ⟨.d0, .d2, .d2⟩, .move (.t ⟨.d0, .d0, .d5⟩), none⟩,
          ⟨some ⟨.d0, .d2, .d3⟩, .convInt .u8 (.t ⟨.d0, .d2, .d2⟩), none⟩,
          ⟨some ⟨.d0, .d2, .d4⟩, .indexSl 1 (.t ⟨.d0, .d2, .d0⟩) (.t ⟨.d0, .d2, .d1⟩), none⟩,
          ⟨none, .store 1 (.t ⟨.d0, .d2, .d4⟩) (.t ⟨.d0, .d2, .d3⟩), none⟩])))
      (.region [⟨some ⟨.d0, .d2, .d5⟩, .bin .add (.t ⟨.d0, .d1, .d3⟩) (.c (.int .i64 1)), none⟩,
        ⟨some ⟨.d0, .d1, .d3⟩, .move (.t ⟨.d0, .d2, .d5⟩), none⟩])))))))
  (.seq (.region [⟨some ⟨.d0, .d2, .d6⟩, .move (.t ⟨.d0, .d0, .d3⟩), none⟩,
    ⟨some ⟨.d0, .d2, .d7⟩, .b2s (.t ⟨.d0, .d2, .d6⟩), none⟩,
    ⟨some ⟨.d0, .d0, .d2⟩, .move (.t ⟨.d0, .d2, .d7⟩), none⟩])
  (.ret))))
def r_custref_Bytes : List XR := [.tmp ⟨.d0, .d0, .d2⟩]
theorem ok_custref_Bytes : okC Try.prog Try.f75.ntmps (bodyOf Try.f75) x_custref_Bytes = true := by kernel_rfl
theorem okr_custref_Bytes : okRs Try.prog Try.f75.results.toList r_custref_Bytes = true := by kernel_rfl

/-- custref.SipRound -/
def x_custref_SipRound : XC :=
  .seq (.region [⟨some ⟨.d0, .d0, .d1⟩, .box 0 4 (.t ⟨.d0, .d0, .d0⟩), none⟩,
    ⟨some ⟨.d0, .d0, .d2⟩, .alloc 1 [.int .u64 0, .int .u64 0, .int .u64 0, .int .u64 0], none⟩])
  (.seq (.region [⟨some ⟨.d0, .d0, .d3⟩, .indexArr 1 4 (.t ⟨.d0, .d0, .d1⟩) (.c (.int .i64 0)), none⟩,
    ⟨some ⟨.d0, .d0, .d4⟩, .load false 1 (.t ⟨.d0, .d0, .d3⟩), none⟩,
    ⟨some ⟨.d0, .d0, .d5⟩, .indexArr 1 4 (.t ⟨.d0, .d0, .d1⟩) (.c (.int .i64 1)), none⟩,
    ⟨some ⟨.d0, .d0, .d6⟩, .load false 1 (.t ⟨.d0, .d0, .d5⟩), none⟩,
    ⟨some ⟨.d0, .d0, .d7⟩, .bin .add (.t ⟨.d0, .d0, .d4⟩) (.t ⟨.d0, .d0, .d6⟩), none⟩,
    ⟨some ⟨.d0, .d1, .d0⟩, .indexArr 1 4 (.t ⟨.d0, .d0, .d1⟩) (.c (.int .i64 0)), none⟩,
    ⟨none, .store 1 (.t ⟨.d0, .d1, .d0⟩) (.t ⟨.d0, .d0, .d7⟩), none⟩])
  (.seq (.regionD [0, 1, 3, 0, 8, 31, 63, 127] [⟨some ⟨.d0, .d1, .d1⟩, .indexArr 1 4 (.t ⟨.d0, .d0, .d1⟩) (.c (.int .i64 1)), none⟩,
    ⟨some ⟨.d0, .d1, .d2⟩, .load false 1 (.t ⟨.d0, .d1, .d1⟩), none⟩,
    ⟨some ⟨.d0, .d1, .d3⟩, .call 84 [(.t ⟨.d0, .d1, .d2⟩), (.c (.int .i64 13))], none⟩,
    ⟨some ⟨.d0, .d1, .d4⟩, .indexArr 1 4 (.t ⟨.d0, .d0, .d1⟩) (.c (.int .i64 0)), none⟩,
    ⟨some ⟨.d0, .d1, .d5⟩, .load false 1 (.t ⟨.d0, .d1, .d4⟩), none⟩,
    ⟨some ⟨.d0, .d1, .d6⟩, .bin .xor (.t ⟨.d0, .d1, .d3⟩) (.t ⟨.d0, .d1, .d5⟩), none⟩,
    ⟨some ⟨.d0, .d1, .d7⟩, .indexArr 1 4 (.t ⟨.d0, .d0, .d1⟩) (.c (.int .i64 1)), none⟩,
    ⟨none, .store 1 (.t ⟨.d0, .d1, .d7⟩) (.t ⟨.d0, .d1, .d6⟩), none⟩])
  (.seq (.region [⟨some ⟨.d0, .d2, .d0⟩, .indexArr 1 4 (.t ⟨.d0, .d0, .d1⟩) (.c (.int .i64 0)), none⟩,
    ⟨some ⟨.d0, .d2, .d1⟩, .load false 1 (.t ⟨.d0, .d2, .d0⟩), none⟩,
    ⟨some ⟨.d0, .d2, .d2⟩, .call 84 [(.t ⟨.d0, .d2, .d1⟩), (.c (.int .i64 32))], none⟩,
    ⟨some ⟨.d0, .d2, .d3⟩, .indexArr 1 4 (.t ⟨.d0, .d0, .d1⟩) (.c (.int .i64 0)), none⟩,
    ⟨none, .store 1 (.t ⟨.d0, .d2, .d3⟩) (.t ⟨.d0, .d2, .d2⟩), none⟩])
  (.seq (.region [⟨some ⟨.d0, .d2, .d4⟩, .indexArr 1 4 (.t ⟨.d0, .d0, .d1⟩) (.c (.int .i64 2)), none⟩,
    ⟨some ⟨.d0, .d2, .d5⟩, .load false 1 (.t ⟨.d0, .d2, .d4⟩), none⟩,
    ⟨some ⟨.d0, .d2, .d6⟩, .indexArr 1 4 (.t ⟨.d0, .d0, .d1⟩) (.c (.int .i64 3)), none⟩,
    ⟨some ⟨.d0, .d2, .d7⟩, .load false 1 (.t ⟨.d0, .d2, .d6⟩), none⟩,
    ⟨some ⟨.d0, .d3, .d0⟩, .bin .add (.t ⟨.d0, .d2, .d5⟩) (.t ⟨.d0, .d2, .d7⟩), none⟩,
    ⟨some ⟨.d0, .d3, .d1⟩, .indexArr 1 4 (.t ⟨.d0, .d0, .d1⟩) (.c (.int .i64 2)), none⟩,
    ⟨none, .store 1 (.t ⟨.d0, .d3, .d1⟩) (.t ⟨.d0, .d3, .d0⟩), none⟩])
  (.seq (.regionD [0, 1, 3, 0, 8, 31, 63, 127] [⟨some ⟨.d0, .d3, .d2⟩, .indexArr 1 4 (.t ⟨.d0, .d0, .d1⟩) (.c (.int .i64 3)), none⟩,
    ⟨some ⟨.d0, .d3, .d3⟩, .load false 1 (.t ⟨.d0, .d3, .d2⟩), none⟩,
    ⟨some ⟨.d0, .d3, .d4⟩, .call 84 [(.t ⟨.d0, .d3, .d3⟩), (.c (.int .i64 16))], none⟩,
    ⟨some ⟨.d0, .d3, .d5⟩, .indexArr 1 4 (.t ⟨.d0, .d0, .d1⟩) (.c (.int .i64 2)), none⟩,
    ⟨some ⟨.d0, .d3, .d6⟩, .load false 1 (.t ⟨.d0, .d3, .d5⟩), none⟩,
    ⟨some ⟨.d0, .d3, .d7⟩, .bin .xor (.t ⟨.d0, .d3, .d4⟩) (.t ⟨.d0, .d3, .d6⟩), none⟩,
    ⟨some ⟨.d0, .d4, .d0⟩, .indexArr 1 4 (.t ⟨.d0, .d0, .d1⟩) (.c (.int .i64 3)), none⟩,
    ⟨none, .store 1 (.t ⟨.d0, .d4, .d0⟩) (.t ⟨.d0, .d3, .d7⟩), none⟩])
  (.seq (.region [⟨some ⟨.d0, .d4, .d1⟩, .indexArr 1 4 (.t ⟨.d0, .d0, .d1⟩) (.c (.int .i64 0)), none⟩,
    ⟨some ⟨.d0, .d4, .d2⟩, .load false 1 (.t ⟨.d0, .d4, .d1⟩), none⟩,
    ⟨some ⟨.d0, .d4, .d3⟩, .indexArr 1 4 (.t ⟨.d0, .d0, .d1⟩) (.c (.int .i64 3)), none⟩,
    ⟨some ⟨.d0, .d4, .d4⟩, .load false 1 (.t ⟨.d0, .d4, .d3⟩), none⟩,
    ⟨some ⟨.d0, .d4, .d5⟩, .bin .add (.t ⟨.d0, .d4, .d2⟩) (.t ⟨.d0, .d4, .d4⟩), none⟩,
    ⟨some ⟨.d0, .d4, .d6⟩, .indexArr 1 4 (.t ⟨.d0, .d0, .d1⟩) (.c (.int .i64 0)), none⟩,
    ⟨none, .store 1 (.t ⟨.d0, .d4, .d6⟩) (.t ⟨.d0, .d4, .d5⟩), none⟩])
  (.seq (.regionD [0, 1, 3, 0, 8, 31, 63, 127] [⟨some ⟨.d0, .d4, .d7⟩, .indexArr 1 4 (.t ⟨.d0, .d0, .d1⟩) (.c (.int .i64 3)), none⟩,
    ⟨some ⟨.d0, .d5, .d0⟩, .load false 1 (.t ⟨.d0, .d4, .d7⟩), none⟩,
    ⟨some ⟨.d0, .d5, .d1⟩, .call 84 [(.t ⟨.d0, .d5, .d0⟩), (.c (.int .i64 21))], none⟩,
    ⟨some ⟨.d0, .d5, .d2⟩, .indexArr 1 4 (.t ⟨.d0, .d0, .d1⟩) (.c (.int .i64 0)), none⟩,
    ⟨some ⟨.d0, .d5, .d3⟩, .load false 1 (.t ⟨.d0, .d5, .d2⟩), none⟩,
    ⟨some ⟨.d0, .d5, .d4⟩, .bin .xor (.t ⟨.d0, .d5, .d1⟩) (.t ⟨.d0, .d5, .d3⟩), none⟩,
    ⟨some ⟨.d0, .d5, .d5⟩, .indexArr 1 4 (.t ⟨.d0, .d0, .d1⟩) (.c (.int .i64 3)), none⟩,
    ⟨none, .store 1 (.t ⟨.d0, .d5, .d5⟩) (.t ⟨.d0, .d5, .d4⟩), none⟩])
  (.seq (.region [⟨some ⟨.d0, .d5, .d6⟩, .indexArr 1 4 (.t ⟨.d0, .d0, .d1⟩) (.c (.int .i64 2)), none⟩,
    ⟨some ⟨.d0, .d5, .d7⟩, .load false 1 (.t ⟨.d0, .d5, .d6⟩), none⟩,
    ⟨some ⟨.d0, .d6, .d0⟩, .indexArr 1 4 (.t ⟨.d0, .d0, .d1⟩) (.c (.int .i64 1)), none⟩,
    ⟨some ⟨.d0, .d6, .d1⟩, .load false 1 (.t ⟨.d0, .d6, .d0⟩), none⟩,
    ⟨some ⟨.d0, .d6, .d2⟩, .bin .add (.t ⟨.d0, .d5, .d7⟩) (.t ⟨.d0, .d6, .d1⟩), none⟩,
    ⟨some ⟨.d0, .d6, .d3⟩, .indexArr 1 4 (.t ⟨.d0, .d0, .d1⟩) (.c (.int .i64 2)), none⟩,
    ⟨none, .store 1 (.t ⟨.d0, .d6, .d3⟩) (.t ⟨.d0, .d6, .d2⟩), none⟩])
  (.seq (.regionD [0, 1, 3, 0, 8, 31, 63, 127] [⟨some ⟨.d0, .d6, .d4⟩, .indexArr 1 4 (.t ⟨.d0, .d0, .d1⟩) (.c (.int .i64 1)), none⟩,
    ⟨some ⟨.d0, .d6, .d5⟩, .load false 1 (.t ⟨.d0, .d6, .d4⟩), none⟩,
    ⟨some ⟨.d0, .d6, .d6⟩, .call 84 [(.t ⟨.d0, .d6, .d5⟩), (.c (.int .i64 17))], none⟩,
    ⟨some ⟨.d0, .d6, .d7⟩, .indexArr 1 4 (.t ⟨.d0, .d0, .d1⟩) (.c (.int .i64 2)), none⟩,
    ⟨some ⟨.d0, .d7, .d0⟩, .load false 1 (.t ⟨.d0, .d6, .d7⟩), none⟩,
    ⟨some ⟨.d0, .d7, .d1⟩, .bin .xor (.t ⟨.d0, .d6, .d6⟩) (.t ⟨.d0, .d7, .d0⟩), none⟩,
    ⟨some ⟨.d0, .d7, .d2⟩, .indexArr 1 4 (.t ⟨.d0, .d0, .d1⟩) (.c (.int .i64 1)), none⟩,
    ⟨none, .store 1 (.t ⟨.d0, .d7, .d2⟩) (.t ⟨.d0, .d7, .d1⟩), none⟩])
  (.seq (.region [⟨some ⟨.d0, .d7, .d3⟩, .indexArr 1 4 (.t ⟨.d0, .d0, .d1⟩) (.c (.int .i64 2)), none⟩,
    ⟨some ⟨.d0, .d7, .d4⟩, .load false 1 (.t ⟨.d0, .d7, .d3⟩), none⟩,
    ⟨some ⟨.d0, .d7, .d5⟩, .call 84 [(.t ⟨.d0, .d7, .d4⟩), (.c (.int .i64 32))], none⟩,
    ⟨some ⟨.d0, .d7, .d6⟩, .indexArr 1 4 (.t ⟨.d0, .d0, .d1⟩) (.c (.int .i64 2)), none⟩,
    ⟨none, .store 1 (.t ⟨.d0, .d7, .d6⟩) (.t ⟨.d0, .d7, .d5⟩), none⟩])
  (.seq (.region [⟨some ⟨.d0, .d7, .d7⟩, .load true 4 (.t ⟨.d0, .d0, .d1⟩), none⟩,
    ⟨none, .store 4 (.t ⟨.d0, .d0, .d2⟩) (.t ⟨.d0, .d7, .d7⟩), none⟩])
  (.ret))))))))))))
def r_custref_SipRound : List XR := [.cell ⟨.d0, .d0, .d2⟩ true 4]
theorem ok_custref_SipRound : okC Try.prog Try.f76.ntmps (bodyOf Try.f76) x_custref_SipRound = true := by kernel_rfl
theorem okr_custref_SipRound : okRs Try.prog Try.f76.results.toList r_custref_SipRound = true := by kernel_rfl

/-- bits.RotateLeft64 -/
def x_bits_RotateLeft64 : XC :=
  .seq (.region [⟨some ⟨.d0, .d0, .d4⟩, .move (.c (.int .u64 0)), none⟩])
  (.seq (.region [⟨some ⟨.d0, .d0, .d6⟩, .move (.t ⟨.d0, .d0, .d1⟩), none⟩,
    ⟨some ⟨.d0, .d0, .d7⟩, .convInt .u64 (.t ⟨.d0, .d0, .d6⟩), none⟩,
    ⟨some ⟨.d0, .d1, .d0⟩, .bin .and (.t ⟨.d0, .d0, .d7⟩) (.c (.int .u64 63)), none⟩,
    ⟨some ⟨.d0, .d0, .d5⟩, .move (.t ⟨.d0, .d1, .d0⟩), none⟩])
  (.seq (.region [⟨some ⟨.d0, .d1, .d1⟩, .move (.t ⟨.d0, .d0, .d0⟩), none⟩,
    ⟨some ⟨.d0, .d1, .d2⟩, .move (.t ⟨.d0, .d0, .d5⟩), none⟩,
    ⟨some ⟨.d0, .d1, .d3⟩, .bin .shl (.t ⟨.d0, .d1, .d1⟩) (.t ⟨.d0, .d1, .d2⟩), none⟩,
    ⟨some ⟨.d0, .d1, .d4⟩, .move (.t ⟨.d0, .d0, .d0⟩), none⟩,
    ⟨some ⟨.d0, .d1, .d5⟩, .move (.t ⟨.d0, .d0, .d5⟩), none⟩,
    ⟨some ⟨.d0, .d1, .d6⟩, .bin .sub (.c (.int .u64 64)) (.t ⟨.d0, .d1, .d5⟩), none⟩,
    ⟨some ⟨.d0, .d1, .d7⟩, .bin .shr (.t ⟨.d0, .d1, .d4⟩) (.t ⟨.d0, .d1, .d6⟩), none⟩,
    ⟨some ⟨.d0, .d2, .d0⟩, .bin .or (.t ⟨.d0, .d1, .d3⟩) (.t ⟨.d0, .d1, .d7⟩), none⟩,
    ⟨some ⟨.d0, .d0, .d4⟩, .move (.t ⟨.d0, .d2, .d0⟩), none⟩])
  (.ret)))
def r_bits_RotateLeft64 : List XR := [.tmp ⟨.d0, .d0, .d4⟩]
theorem ok_bits_RotateLeft64 : okC Try.prog Try.f83.ntmps (bodyOf Try.f83) x_bits_RotateLeft64 = true := by kernel_rfl
theorem okr_bits_RotateLeft64 : okRs Try.prog Try.f83.results.toList r_bits_RotateLeft64 = true := by kernel_rfl

/-- custref.Turned -/
def x_custref_Turned : XC :=
  .seq (.region [⟨some ⟨.d0, .d0, .d4⟩, .move (.c (.int .u64 0)), none⟩])
  (.seq (.regionD [0, 0, 2, 7, 0, 0, 32, 96, 240, 511, 1023] [⟨some ⟨.d0, .d0, .d5⟩, .move (.t ⟨.d0, .d0, .d0⟩), none⟩,
    ⟨some ⟨.d0, .d0, .d6⟩, .move (.t ⟨.d0, .d0, .d1⟩), none⟩,
    ⟨some ⟨.d0, .d0, .d7⟩, .bin .shl (.c (.int .u64 1)) (.t ⟨.d0, .d0, .d6⟩), none⟩,
    ⟨some ⟨.d0, .d1, .d0⟩, .bin .mul (.t ⟨.d0, .d0, .d5⟩) (.t ⟨.d0, .d0, .d7⟩), none⟩,
    ⟨some ⟨.d0, .d1, .d1⟩, .move (.t ⟨.d0, .d0, .d0⟩), none⟩,
    ⟨some ⟨.d0, .d1, .d2⟩, .move (.t ⟨.d0, .d0, .d1⟩), none⟩,
    ⟨some ⟨.d0, .d1, .d3⟩, .bin .sub (.c (.int .i64 64)) (.t ⟨.d0, .d1, .d2⟩), none⟩,
    ⟨some ⟨.d0, .d1, .d4⟩, .bin .shl (.c (.int .u64 1)) (.t ⟨.d0, .d1, .d3⟩), none⟩,
    ⟨some ⟨.d0, .d1, .d5⟩, .bin .quo (.t ⟨.d0, .d1, .d1⟩) (.t ⟨.d0, .d1, .d4⟩), none⟩,
    ⟨some ⟨.d0, .d1, .d6⟩, .bin .add (.t ⟨.d0, .d1, .d0⟩) (.t ⟨.d0, .d1, .d5⟩), none⟩,
    ⟨some ⟨.d0, .d0, .d4⟩, .move (.t ⟨.d0, .d1, .d6⟩), none⟩])
  (.ret))
def r_custref_Turned : List XR := [.tmp ⟨.d0, .d0, .d4⟩]
theorem ok_custref_Turned : okC Try.prog Try.f84.ntmps (bodyOf Try.f84) x_custref_Turned = true := by kernel_rfl
theorem okr_custref_Turned : okRs Try.prog Try.f84.results.toList r_custref_Turned = true := by kernel_rfl
end Go.Proofs.Ytkpechddgjbfkaa
