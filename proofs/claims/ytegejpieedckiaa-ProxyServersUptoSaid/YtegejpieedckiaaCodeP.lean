/-
  The functions of the program in short form, and that the model's code is what they stand for. Printed by xgen.py.
-/
import Derived.Test.YtegejpieedckiaaFw
import Derived.Test.YtegejpieedckiaaProg
import Derived.KernelRfl
namespace Go.Proofs.Ytegejpieedckiaa
set_option linter.unusedVariables false
set_option maxRecDepth 100000

/-- custlaw.ProxyServers -/
def x_custlaw_ProxyServers : XC :=
  .seq (.region [⟨some ⟨.d0, .d0, .d4⟩, .box 0 4 (.t ⟨.d0, .d0, .d0⟩), none⟩,
    ⟨some ⟨.d0, .d0, .d5⟩, .box 1 4 (.t ⟨.d0, .d0, .d1⟩), none⟩,
    ⟨some ⟨.d0, .d0, .d6⟩, .box 2 9 (.t ⟨.d0, .d0, .d2⟩), none⟩,
    ⟨some ⟨.d0, .d1, .d0⟩, .move (.c (.bool false)), none⟩])
  (.seq (.region [⟨some ⟨.d0, .d1, .d7⟩, .load true 4 (.t ⟨.d0, .d0, .d4⟩), none⟩,
    ⟨some ⟨.d0, .d2, .d0⟩, .load true 4 (.t ⟨.d0, .d0, .d5⟩), none⟩,
    ⟨some ⟨.d0, .d2, .d1⟩, .load true 9 (.t ⟨.d0, .d0, .d6⟩), none⟩,
    ⟨some ⟨.d0, .d2, .d2⟩, .move (.t ⟨.d0, .d0, .d3⟩), none⟩,
    ⟨some ⟨.d0, .d2, .d3⟩, .call 5 [(.t ⟨.d0, .d1, .d7⟩), (.t ⟨.d0, .d2, .d0⟩), (.t ⟨.d0, .d2, .d1⟩), (.t ⟨.d0, .d2, .d2⟩)], none⟩,
    ⟨some ⟨.d0, .d1, .d6⟩, .move (.t ⟨.d0, .d2, .d3⟩), none⟩,
    ⟨some ⟨.d0, .d2, .d4⟩, .extract 0 (.t ⟨.d0, .d1, .d6⟩), none⟩,
    ⟨some ⟨.d0, .d2, .d5⟩, .extract 1 (.t ⟨.d0, .d1, .d6⟩), none⟩,
    ⟨some ⟨.d0, .d2, .d6⟩, .extract 2 (.t ⟨.d0, .d1, .d6⟩), none⟩,
    ⟨some ⟨.d0, .d2, .d7⟩, .extract 3 (.t ⟨.d0, .d1, .d6⟩), none⟩,
    ⟨some ⟨.d0, .d1, .d1⟩, .alloc 3 [.int .u64 0, .int .u64 0, .int .i64 0, .slice none 0 0], none⟩,
    ⟨none, .store 4 (.t ⟨.d0, .d1, .d1⟩) (.t ⟨.d0, .d2, .d4⟩), none⟩,
    ⟨some ⟨.d0, .d1, .d2⟩, .move (.t ⟨.d0, .d2, .d5⟩), none⟩,
    ⟨some ⟨.d0, .d1, .d3⟩, .move (.t ⟨.d0, .d2, .d6⟩), none⟩,
    ⟨some ⟨.d0, .d1, .d4⟩, .move (.t ⟨.d0, .d2, .d7⟩), none⟩])
  (.seq (.region [⟨some ⟨.d0, .d3, .d0⟩, .load true 4 (.t ⟨.d0, .d0, .d4⟩), none⟩,
    ⟨some ⟨.d0, .d3, .d1⟩, .load true 4 (.t ⟨.d0, .d0, .d5⟩), none⟩,
    ⟨some ⟨.d0, .d3, .d2⟩, .load true 9 (.t ⟨.d0, .d0, .d6⟩), none⟩,
    ⟨some ⟨.d0, .d3, .d3⟩, .move (.t ⟨.d0, .d0, .d3⟩), none⟩,
    ⟨some ⟨.d0, .d3, .d4⟩, .call 6 [(.t ⟨.d0, .d3, .d0⟩), (.t ⟨.d0, .d3, .d1⟩), (.t ⟨.d0, .d3, .d2⟩), (.t ⟨.d0, .d3, .d3⟩)], none⟩,
    ⟨some ⟨.d0, .d1, .d5⟩, .alloc 4 [.int .u64 0, .int .u64 0, .int .i64 0, .slice none 0 0, .slice none 0 0, .slice none 0 0, .int .i64 0], none⟩,
    ⟨none, .store 7 (.t ⟨.d0, .d1, .d5⟩) (.t ⟨.d0, .d3, .d4⟩), none⟩])
  (.seq (.region [⟨some ⟨.d0, .d3, .d5⟩, .load true 4 (.t ⟨.d0, .d1, .d1⟩), none⟩,
    ⟨some ⟨.d0, .d3, .d6⟩, .fieldAddr 0 (.t ⟨.d0, .d1, .d5⟩), none⟩,
    ⟨some ⟨.d0, .d3, .d7⟩, .load true 4 (.t ⟨.d0, .d3, .d6⟩), none⟩,
    ⟨some ⟨.d0, .d4, .d0⟩, .call 7 [(.t ⟨.d0, .d3, .d5⟩), (.t ⟨.d0, .d3, .d7⟩)], none⟩,
    ⟨some ⟨.d0, .d4, .d1⟩, .move (.t ⟨.d0, .d4, .d0⟩), none⟩,
    ⟨some ⟨.d0, .d4, .d2⟩, .move (.t ⟨.d0, .d1, .d2⟩), some (⟨.d0, .d4, .d1⟩, true)⟩,
    ⟨some ⟨.d0, .d4, .d3⟩, .fieldAddr 4 (.t ⟨.d0, .d1, .d5⟩), some (⟨.d0, .d4, .d1⟩, true)⟩,
    ⟨some ⟨.d0, .d4, .d4⟩, .load false 1 (.t ⟨.d0, .d4, .d3⟩), some (⟨.d0, .d4, .d1⟩, true)⟩,
    ⟨some ⟨.d0, .d4, .d5⟩, .call 8 [(.t ⟨.d0, .d4, .d2⟩), (.t ⟨.d0, .d4, .d4⟩)], some (⟨.d0, .d4, .d1⟩, true)⟩,
    ⟨some ⟨.d0, .d4, .d6⟩, .pick (.t ⟨.d0, .d4, .d1⟩) (.t ⟨.d0, .d4, .d5⟩) (.c (.bool false)), none⟩,
    ⟨some ⟨.d0, .d4, .d7⟩, .move (.t ⟨.d0, .d4, .d6⟩), none⟩,
    ⟨some ⟨.d0, .d5, .d0⟩, .move (.t ⟨.d0, .d1, .d3⟩), some (⟨.d0, .d4, .d7⟩, true)⟩,
    ⟨some ⟨.d0, .d5, .d1⟩, .fieldAddr 5 (.t ⟨.d0, .d1, .d5⟩), some (⟨.d0, .d4, .d7⟩, true)⟩,
    ⟨some ⟨.d0, .d5, .d2⟩, .load false 1 (.t ⟨.d0, .d5, .d1⟩), some (⟨.d0, .d4, .d7⟩, true)⟩,
    ⟨some ⟨.d0, .d5, .d3⟩, .call 8 [(.t ⟨.d0, .d5, .d0⟩), (.t ⟨.d0, .d5, .d2⟩)], some (⟨.d0, .d4, .d7⟩, true)⟩,
    ⟨some ⟨.d0, .d5, .d4⟩, .pick (.t ⟨.d0, .d4, .d7⟩) (.t ⟨.d0, .d5, .d3⟩) (.c (.bool false)), none⟩,
    ⟨some ⟨.d0, .d5, .d5⟩, .move (.t ⟨.d0, .d5, .d4⟩), none⟩,
    ⟨some ⟨.d0, .d5, .d6⟩, .move (.t ⟨.d0, .d1, .d4⟩), some (⟨.d0, .d5, .d5⟩, true)⟩,
    ⟨some ⟨.d0, .d5, .d7⟩, .fieldAddr 6 (.t ⟨.d0, .d1, .d5⟩), some (⟨.d0, .d5, .d5⟩, true)⟩,
    ⟨some ⟨.d0, .d6, .d0⟩, .load false 1 (.t ⟨.d0, .d5, .d7⟩), some (⟨.d0, .d5, .d5⟩, true)⟩,
    ⟨some ⟨.d0, .d6, .d1⟩, .bin .eql (.t ⟨.d0, .d5, .d6⟩) (.t ⟨.d0, .d6, .d0⟩), some (⟨.d0, .d5, .d5⟩, true)⟩,
    ⟨some ⟨.d0, .d6, .d2⟩, .pick (.t ⟨.d0, .d5, .d5⟩) (.t ⟨.d0, .d6, .d1⟩) (.c (.bool false)), none⟩,
    ⟨some ⟨.d0, .d1, .d0⟩, .move (.t ⟨.d0, .d6, .d2⟩), none⟩])
  (.ret))))
def r_custlaw_ProxyServers : List XR := [.tmp ⟨.d0, .d1, .d0⟩]
theorem ok_custlaw_ProxyServers : okC Try.prog Try.f3.ntmps (bodyOf Try.f3) x_custlaw_ProxyServers = true := by kernel_rfl
theorem okr_custlaw_ProxyServers : okRs Try.prog Try.f3.results.toList r_custlaw_ProxyServers = true := by kernel_rfl

/-- proxy.Server -/
def x_proxy_Server : XC :=
  .seq (.region [⟨some ⟨.d0, .d0, .d4⟩, .box 2 4 (.t ⟨.d0, .d0, .d0⟩), none⟩,
    ⟨some ⟨.d0, .d0, .d5⟩, .box 3 4 (.t ⟨.d0, .d0, .d1⟩), none⟩,
    ⟨some ⟨.d0, .d0, .d6⟩, .box 4 9 (.t ⟨.d0, .d0, .d2⟩), none⟩,
    ⟨some ⟨.d0, .d1, .d0⟩, .alloc 5 [.int .u64 0, .int .u64 0, .int .i64 0, .slice none 0 0], none⟩,
    ⟨some ⟨.d0, .d1, .d1⟩, .move (.c (.slice none 0 0)), none⟩,
    ⟨some ⟨.d0, .d1, .d2⟩, .move (.c (.slice none 0 0)), none⟩,
    ⟨some ⟨.d0, .d1, .d3⟩, .move (.c (.int .i64 0)), none⟩])
  (.seq (.region [⟨some ⟨.d0, .d1, .d7⟩, .fieldAddr 3 (.t ⟨.d0, .d0, .d4⟩), none⟩,
    ⟨some ⟨.d0, .d2, .d0⟩, .load false 1 (.t ⟨.d0, .d1, .d7⟩), none⟩,
    ⟨some ⟨.d0, .d2, .d1⟩, .call 13 [(.t ⟨.d0, .d2, .d0⟩)], none⟩,
    ⟨some ⟨.d0, .d2, .d2⟩, .fieldAddr 3 (.t ⟨.d0, .d0, .d4⟩), none⟩,
    ⟨none, .store 1 (.t ⟨.d0, .d2, .d2⟩) (.t ⟨.d0, .d2, .d1⟩), none⟩])
  (.seq (.seq (.region [⟨some ⟨.d0, .d2, .d3⟩, .load true 4 (.t ⟨.d0, .d0, .d4⟩), none⟩,
    ⟨some ⟨.d0, .d2, .d4⟩, .load true 4 (.t ⟨.d0, .d0, .d5⟩), none⟩,
    ⟨some ⟨.d0, .d2, .d5⟩, .load true 9 (.t ⟨.d0, .d0, .d6⟩), none⟩,
    ⟨some ⟨.d0, .d2, .d6⟩, .move (.t ⟨.d0, .d0, .d3⟩), none⟩,
    ⟨some ⟨.d0, .d2, .d7⟩, .call 14 [(.t ⟨.d0, .d2, .d3⟩), (.t ⟨.d0, .d2, .d4⟩), (.t ⟨.d0, .d2, .d5⟩), (.t ⟨.d0, .d2, .d6⟩)], none⟩,
    ⟨some ⟨.d0, .d1, .d4⟩, .move (.t ⟨.d0, .d2, .d7⟩), none⟩])
  (.seq (.region [⟨some ⟨.d0, .d3, .d0⟩, .move (.t ⟨.d0, .d1, .d4⟩), none⟩,
    ⟨some ⟨.d0, .d3, .d1⟩, .bin .neq (.t ⟨.d0, .d3, .d0⟩) (.c (.int .i64 0)), none⟩])
  (.cond (.t ⟨.d0, .d3, .d1⟩)
    (.seq (.region [⟨some ⟨.d0, .d3, .d2⟩, .load true 4 (.t ⟨.d0, .d0, .d4⟩), none⟩,
      ⟨some ⟨.d0, .d3, .d3⟩, .move (.t ⟨.d0, .d1, .d4⟩), none⟩,
      ⟨none, .store 4 (.t ⟨.d0, .d1, .d0⟩) (.t ⟨.d0, .d3, .d2⟩), none⟩,
      ⟨some ⟨.d0, .d1, .d1⟩, .move (.c (.slice none 0 0)), none⟩,
      ⟨some ⟨.d0, .d1, .d2⟩, .move (.c (.slice none 0 0)), none⟩,
      ⟨some ⟨.d0, .d1, .d3⟩, .move (.t ⟨.d0, .d3, .d3⟩), none⟩])
    (.ret))
    (.skip))))
  (.seq (.region [⟨some ⟨.d0, .d3, .d4⟩, .load true 4 (.t ⟨.d0, .d0, .d4⟩), none⟩,
    ⟨some ⟨.d0, .d3, .d5⟩, .move (.t ⟨.d0, .d0, .d3⟩), none⟩,
    ⟨some ⟨.d0, .d3, .d6⟩, .call 15 [(.t ⟨.d0, .d3, .d4⟩), (.t ⟨.d0, .d3, .d5⟩)], none⟩,
    ⟨some ⟨.d0, .d1, .d5⟩, .move (.t ⟨.d0, .d3, .d6⟩), none⟩])
  (.seq (.seq (.regionD [0, 1, 3, 7, 0, 16, 63, 127] [⟨some ⟨.d0, .d3, .d7⟩, .move (.t ⟨.d0, .d1, .d5⟩), none⟩,
    ⟨some ⟨.d0, .d4, .d0⟩, .nilCheck (.t ⟨.d0, .d3, .d7⟩), none⟩,
    ⟨some ⟨.d0, .d4, .d1⟩, .fieldAddr 0 (.t ⟨.d0, .d4, .d0⟩), none⟩,
    ⟨some ⟨.d0, .d4, .d2⟩, .load true 4 (.t ⟨.d0, .d4, .d1⟩), none⟩,
    ⟨some ⟨.d0, .d4, .d3⟩, .load true 4 (.t ⟨.d0, .d0, .d5⟩), none⟩,
    ⟨some ⟨.d0, .d4, .d4⟩, .call 17 [(.t ⟨.d0, .d4, .d3⟩)], none⟩,
    ⟨some ⟨.d0, .d4, .d5⟩, .call 16 [(.t ⟨.d0, .d4, .d2⟩), (.t ⟨.d0, .d4, .d4⟩)], none⟩,
    ⟨some ⟨.d0, .d1, .d6⟩, .move (.t ⟨.d0, .d4, .d5⟩), none⟩])
  (.seq (.region [⟨some ⟨.d0, .d4, .d6⟩, .move (.t ⟨.d0, .d1, .d6⟩), none⟩,
    ⟨some ⟨.d0, .d4, .d7⟩, .bin .geq (.t ⟨.d0, .d4, .d6⟩) (.c (.int .i64 0)), none⟩])
  (.cond (.t ⟨.d0, .d4, .d7⟩)
    (.region [⟨some ⟨.d0, .d5, .d0⟩, .move (.t ⟨.d0, .d1, .d5⟩), none⟩,
      ⟨some ⟨.d0, .d5, .d1⟩, .move (.t ⟨.d0, .d1, .d6⟩), none⟩,
      ⟨some ⟨.d0, .d5, .d2⟩, .load true 9 (.t ⟨.d0, .d0, .d6⟩), none⟩,
      ⟨some ⟨.d0, .d5, .d3⟩, .call 18 [(.t ⟨.d0, .d5, .d0⟩), (.t ⟨.d0, .d5, .d1⟩), (.t ⟨.d0, .d5, .d2⟩)], none⟩])
    (.skip))))
  (.seq (.regionD [0, 1, 3, 7, 0, 16, 48, 112, 0, 256, 768, 1792, 15, 4351, 16383, 32767] [⟨some ⟨.d0, .d5, .d4⟩, .move (.t ⟨.d0, .d1, .d5⟩), none⟩,
    ⟨some ⟨.d0, .d5, .d5⟩, .nilCheck (.t ⟨.d0, .d5, .d4⟩), none⟩,
    ⟨some ⟨.d0, .d5, .d6⟩, .fieldAddr 0 (.t ⟨.d0, .d5, .d5⟩), none⟩,
    ⟨some ⟨.d0, .d5, .d7⟩, .load true 4 (.t ⟨.d0, .d5, .d6⟩), none⟩,
    ⟨some ⟨.d0, .d6, .d0⟩, .move (.t ⟨.d0, .d1, .d5⟩), none⟩,
    ⟨some ⟨.d0, .d6, .d1⟩, .nilCheck (.t ⟨.d0, .d6, .d0⟩), none⟩,
    ⟨some ⟨.d0, .d6, .d2⟩, .fieldAddr 5 (.t ⟨.d0, .d6, .d1⟩), none⟩,
    ⟨some ⟨.d0, .d6, .d3⟩, .load false 1 (.t ⟨.d0, .d6, .d2⟩), none⟩,
    ⟨some ⟨.d0, .d6, .d4⟩, .move (.t ⟨.d0, .d1, .d5⟩), none⟩,
    ⟨some ⟨.d0, .d6, .d5⟩, .nilCheck (.t ⟨.d0, .d6, .d4⟩), none⟩,
    ⟨some ⟨.d0, .d6, .d6⟩, .fieldAddr 6 (.t ⟨.d0, .d6, .d5⟩), none⟩,
    ⟨some ⟨.d0, .d6, .d7⟩, .load false 1 (.t ⟨.d0, .d6, .d6⟩), none⟩,
    ⟨none, .store 4 (.t ⟨.d0, .d1, .d0⟩) (.t ⟨.d0, .d5, .d7⟩), none⟩,
    ⟨some ⟨.d0, .d1, .d1⟩, .move (.t ⟨.d0, .d6, .d3⟩), none⟩,
    ⟨some ⟨.d0, .d1, .d2⟩, .move (.t ⟨.d0, .d6, .d7⟩), none⟩,
    ⟨some ⟨.d0, .d1, .d3⟩, .move (.c (.int .i64 0)), none⟩])
  (.ret))))))
def r_proxy_Server : List XR := [.cell ⟨.d0, .d1, .d0⟩ true 4, .tmp ⟨.d0, .d1, .d1⟩, .tmp ⟨.d0, .d1, .d2⟩, .tmp ⟨.d0, .d1, .d3⟩]
theorem ok_proxy_Server : okC Try.prog Try.f5.ntmps (bodyOf Try.f5) x_proxy_Server = true := by kernel_rfl
theorem okr_proxy_Server : okRs Try.prog Try.f5.results.toList r_proxy_Server = true := by kernel_rfl

/-- custref.HeardServer -/
def x_custref_HeardServer : XC :=
  .seq (.region [⟨some ⟨.d0, .d0, .d4⟩, .box 0 4 (.t ⟨.d0, .d0, .d0⟩), none⟩,
    ⟨some ⟨.d0, .d0, .d5⟩, .box 1 4 (.t ⟨.d0, .d0, .d1⟩), none⟩,
    ⟨some ⟨.d0, .d0, .d6⟩, .box 2 9 (.t ⟨.d0, .d0, .d2⟩), none⟩,
    ⟨some ⟨.d0, .d1, .d0⟩, .alloc 3 [.int .u64 0, .int .u64 0, .int .i64 0, .slice none 0 0, .slice none 0 0, .slice none 0 0, .int .i64 0], none⟩])
  (.seq (.seq (.region [⟨some ⟨.d0, .d2, .d0⟩, .load true 4 (.t ⟨.d0, .d0, .d4⟩), none⟩,
    ⟨some ⟨.d0, .d2, .d1⟩, .load true 4 (.t ⟨.d0, .d0, .d5⟩), none⟩,
    ⟨some ⟨.d0, .d2, .d2⟩, .load true 9 (.t ⟨.d0, .d0, .d6⟩), none⟩,
    ⟨some ⟨.d0, .d2, .d3⟩, .move (.t ⟨.d0, .d0, .d3⟩), none⟩,
    ⟨some ⟨.d0, .d2, .d4⟩, .call 19 [(.t ⟨.d0, .d2, .d0⟩), (.t ⟨.d0, .d2, .d1⟩), (.t ⟨.d0, .d2, .d2⟩), (.t ⟨.d0, .d2, .d3⟩)], none⟩,
    ⟨some ⟨.d0, .d1, .d1⟩, .move (.t ⟨.d0, .d2, .d4⟩), none⟩])
  (.seq (.region [⟨some ⟨.d0, .d2, .d5⟩, .move (.t ⟨.d0, .d1, .d1⟩), none⟩,
    ⟨some ⟨.d0, .d2, .d6⟩, .bin .neq (.t ⟨.d0, .d2, .d5⟩) (.c (.int .i64 0)), none⟩])
  (.cond (.t ⟨.d0, .d2, .d6⟩)
    (.seq (.region [⟨some ⟨.d0, .d2, .d7⟩, .load true 4 (.t ⟨.d0, .d0, .d4⟩), none⟩,
      ⟨some ⟨.d0, .d3, .d0⟩, .move (.t ⟨.d0, .d1, .d1⟩), none⟩,
      ⟨some ⟨.d0, .d3, .d1⟩, .build [.int .u64 0, .int .u64 0, .int .i64 0, .slice none 0 0, .slice none 0 0, .slice none 0 0, .int .i64 0] [(0, 4, (.t ⟨.d0, .d2, .d7⟩)), (6, 1, (.t ⟨.d0, .d3, .d0⟩))], none⟩,
      ⟨none, .store 7 (.t ⟨.d0, .d1, .d0⟩) (.t ⟨.d0, .d3, .d1⟩), none⟩])
    (.ret))
    (.skip))))
  (.seq (.regionD [0, 0, 2, 0, 15, 31, 63, 63, 63, 0, 0, 1663, 3839, 8191] [⟨some ⟨.d0, .d3, .d3⟩, .load true 4 (.t ⟨.d0, .d0, .d4⟩), none⟩,
    ⟨some ⟨.d0, .d3, .d4⟩, .load true 4 (.t ⟨.d0, .d0, .d5⟩), none⟩,
    ⟨some ⟨.d0, .d3, .d5⟩, .call 21 [(.t ⟨.d0, .d3, .d4⟩)], none⟩,
    ⟨some ⟨.d0, .d3, .d6⟩, .move (.t ⟨.d0, .d0, .d3⟩), none⟩,
    ⟨some ⟨.d0, .d3, .d7⟩, .call 20 [(.t ⟨.d0, .d3, .d3⟩), (.t ⟨.d0, .d3, .d5⟩), (.t ⟨.d0, .d3, .d6⟩)], none⟩,
    ⟨some ⟨.d0, .d3, .d2⟩, .move (.t ⟨.d0, .d3, .d7⟩), none⟩,
    ⟨some ⟨.d0, .d4, .d0⟩, .extract 0 (.t ⟨.d0, .d3, .d2⟩), none⟩,
    ⟨some ⟨.d0, .d4, .d1⟩, .extract 1 (.t ⟨.d0, .d3, .d2⟩), none⟩,
    ⟨some ⟨.d0, .d4, .d2⟩, .extract 2 (.t ⟨.d0, .d3, .d2⟩), none⟩,
    ⟨some ⟨.d0, .d1, .d2⟩, .alloc 4 [.int .u64 0, .int .u64 0, .int .i64 0, .slice none 0 0], none⟩,
    ⟨some ⟨.d0, .d1, .d3⟩, .alloc 5 [.int .u32 0, .int .u32 0, .int .i64 0, .int .i64 0, .int .u32 0, .int .u32 0, .int .u32 0, .bool false, .int .i64 0], none⟩,
    ⟨none, .store 4 (.t ⟨.d0, .d1, .d2⟩) (.t ⟨.d0, .d4, .d0⟩), none⟩,
    ⟨none, .store 9 (.t ⟨.d0, .d1, .d3⟩) (.t ⟨.d0, .d4, .d1⟩), none⟩,
    ⟨some ⟨.d0, .d1, .d4⟩, .move (.t ⟨.d0, .d4, .d2⟩), none⟩])
  (.seq (.regionD [0, 1, 3, 7, 0, 16, 48, 112, 0, 256, 768, 1792, 15, 4351, 16383] [⟨some ⟨.d0, .d4, .d3⟩, .fieldAddr 4 (.t ⟨.d0, .d0, .d6⟩), none⟩,
    ⟨some ⟨.d0, .d4, .d4⟩, .load false 1 (.t ⟨.d0, .d4, .d3⟩), none⟩,
    ⟨some ⟨.d0, .d4, .d5⟩, .bin .and (.t ⟨.d0, .d4, .d4⟩) (.c (.int .i64 2)), none⟩,
    ⟨some ⟨.d0, .d4, .d6⟩, .bin .gtr (.t ⟨.d0, .d4, .d5⟩) (.c (.int .i64 0)), none⟩,
    ⟨some ⟨.d0, .d4, .d7⟩, .fieldAddr 4 (.t ⟨.d0, .d0, .d6⟩), none⟩,
    ⟨some ⟨.d0, .d5, .d0⟩, .load false 1 (.t ⟨.d0, .d4, .d7⟩), none⟩,
    ⟨some ⟨.d0, .d5, .d1⟩, .bin .and (.t ⟨.d0, .d5, .d0⟩) (.c (.int .i64 16)), none⟩,
    ⟨some ⟨.d0, .d5, .d2⟩, .bin .gtr (.t ⟨.d0, .d5, .d1⟩) (.c (.int .i64 0)), none⟩,
    ⟨some ⟨.d0, .d5, .d3⟩, .fieldAddr 4 (.t ⟨.d0, .d0, .d6⟩), none⟩,
    ⟨some ⟨.d0, .d5, .d4⟩, .load false 1 (.t ⟨.d0, .d5, .d3⟩), none⟩,
    ⟨some ⟨.d0, .d5, .d5⟩, .bin .and (.t ⟨.d0, .d5, .d4⟩) (.c (.int .i64 4)), none⟩,
    ⟨some ⟨.d0, .d5, .d6⟩, .bin .gtr (.t ⟨.d0, .d5, .d5⟩) (.c (.int .i64 0)), none⟩,
    ⟨some ⟨.d0, .d1, .d5⟩, .move (.t ⟨.d0, .d4, .d6⟩), none⟩,
    ⟨some ⟨.d0, .d1, .d6⟩, .move (.t ⟨.d0, .d5, .d2⟩), none⟩,
    ⟨some ⟨.d0, .d1, .d7⟩, .move (.t ⟨.d0, .d5, .d6⟩), none⟩])
  (.seq (.block 0
    (.seq (.region [⟨some ⟨.d0, .d6, .d0⟩, .move (.t ⟨.d0, .d1, .d4⟩), none⟩,
      ⟨some ⟨.d0, .d6, .d1⟩, .un .not (.t ⟨.d0, .d6, .d0⟩), none⟩,
      ⟨some ⟨.d0, .d5, .d7⟩, .move (.t ⟨.d0, .d6, .d1⟩), none⟩])
    (.cond (.t ⟨.d0, .d5, .d7⟩)
      (.skip)
      (.seq (.region [⟨some ⟨.d0, .d6, .d3⟩, .move (.t ⟨.d0, .d1, .d7⟩), none⟩,
        ⟨some ⟨.d0, .d6, .d4⟩, .move (.t ⟨.d0, .d6, .d3⟩), none⟩,
        ⟨some ⟨.d0, .d6, .d5⟩, .fieldAddr 7 (.t ⟨.d0, .d1, .d3⟩), some (⟨.d0, .d6, .d4⟩, true)⟩,
        ⟨some ⟨.d0, .d6, .d6⟩, .load false 1 (.t ⟨.d0, .d6, .d5⟩), some (⟨.d0, .d6, .d4⟩, true)⟩,
        ⟨some ⟨.d0, .d6, .d7⟩, .pick (.t ⟨.d0, .d6, .d4⟩) (.t ⟨.d0, .d6, .d6⟩) (.c (.bool false)), none⟩,
        ⟨some ⟨.d0, .d6, .d2⟩, .move (.t ⟨.d0, .d6, .d7⟩), none⟩])
      (.cond (.t ⟨.d0, .d6, .d2⟩)
        (.seq (.regionD [0, 0, 2, 7, 0, 0, 32, 127, 255, 511, 1023] [⟨some ⟨.d0, .d7, .d0⟩, .load true 4 (.t ⟨.d0, .d1, .d2⟩), none⟩,
          ⟨some ⟨.d0, .d7, .d1⟩, .fieldAddr 0 (.t ⟨.d0, .d1, .d3⟩), none⟩,
          ⟨some ⟨.d0, .d7, .d2⟩, .load true 4 (.t ⟨.d0, .d7, .d1⟩), none⟩,
          ⟨some ⟨.d0, .d7, .d3⟩, .call 22 [(.t ⟨.d0, .d7, .d0⟩), (.t ⟨.d0, .d7, .d2⟩), (.c (.slice none 0 0))], none⟩,
          ⟨some ⟨.d0, .d7, .d4⟩, .load true 9 (.t ⟨.d0, .d0, .d6⟩), none⟩,
          ⟨some ⟨.d0, .d7, .d5⟩, .fieldAddr 6 (.t ⟨.d0, .d1, .d3⟩), none⟩,
          ⟨some ⟨.d0, .d7, .d6⟩, .load false 1 (.t ⟨.d0, .d7, .d5⟩), none⟩,
          ⟨some ⟨.d0, .d7, .d7⟩, .call 23 [(.t ⟨.d0, .d7, .d4⟩), (.t ⟨.d0, .d7, .d6⟩), (.c (.int .u32 0))], none⟩,
          ⟨some ⟨.d1, .d0, .d0⟩, .buildSlice 6 1 [.int .i64 0, .int .i64 0, .int .u32 0, .int .u32 0, .int .i64 0, .int .i64 0, .int .i64 0, .slice none 0 0, .string { data := #[] }] [(0, (.t ⟨.d0, .d7, .d7⟩))], none⟩,
          ⟨some ⟨.d1, .d0, .d1⟩, .build [.int .u64 0, .int .u64 0, .int .i64 0, .slice none 0 0, .slice none 0 0, .slice none 0 0, .int .i64 0] [(0, 4, (.t ⟨.d0, .d7, .d3⟩)), (4, 1, (.t ⟨.d1, .d0, .d0⟩))], none⟩,
          ⟨none, .store 7 (.t ⟨.d0, .d1, .d0⟩) (.t ⟨.d1, .d0, .d1⟩), none⟩])
        (.ret))
        (.seq (.region [⟨some ⟨.d1, .d0, .d3⟩, .move (.t ⟨.d0, .d1, .d7⟩), none⟩,
          ⟨some ⟨.d1, .d0, .d2⟩, .move (.t ⟨.d1, .d0, .d3⟩), none⟩])
        (.cond (.t ⟨.d1, .d0, .d2⟩)
          (.seq (.regionD [0, 0, 2, 7, 0, 16, 0, 64, 0, 256, 783, 2047, 4095, 8191, 16383] [⟨some ⟨.d1, .d0, .d4⟩, .load true 4 (.t ⟨.d0, .d1, .d2⟩), none⟩,
            ⟨some ⟨.d1, .d0, .d5⟩, .fieldAddr 0 (.t ⟨.d0, .d1, .d3⟩), none⟩,
            ⟨some ⟨.d1, .d0, .d6⟩, .load true 4 (.t ⟨.d1, .d0, .d5⟩), none⟩,
            ⟨some ⟨.d1, .d0, .d7⟩, .call 22 [(.t ⟨.d1, .d0, .d4⟩), (.t ⟨.d1, .d0, .d6⟩), (.c (.slice none 0 0))], none⟩,
            ⟨some ⟨.d1, .d1, .d0⟩, .fieldAddr 0 (.t ⟨.d0, .d0, .d6⟩), none⟩,
            ⟨some ⟨.d1, .d1, .d1⟩, .load false 1 (.t ⟨.d1, .d1, .d0⟩), none⟩,
            ⟨some ⟨.d1, .d1, .d2⟩, .fieldAddr 1 (.t ⟨.d0, .d0, .d6⟩), none⟩,
            ⟨some ⟨.d1, .d1, .d3⟩, .load false 1 (.t ⟨.d1, .d1, .d2⟩), none⟩,
            ⟨some ⟨.d1, .d1, .d4⟩, .fieldAddr 5 (.t ⟨.d0, .d1, .d3⟩), none⟩,
            ⟨some ⟨.d1, .d1, .d5⟩, .load false 1 (.t ⟨.d1, .d1, .d4⟩), none⟩,
            ⟨some ⟨.d1, .d1, .d6⟩, .call 24 [(.t ⟨.d1, .d1, .d5⟩), (.c (.int .u32 1))], none⟩,
            ⟨some ⟨.d1, .d1, .d7⟩, .build [.int .i64 0, .int .i64 0, .int .u32 0, .int .u32 0, .int .i64 0, .int .i64 0, .int .i64 0, .slice none 0 0, .string { data := #[] }] [(0, 1, (.t ⟨.d1, .d1, .d1⟩)), (1, 1, (.t ⟨.d1, .d1, .d3⟩)), (2, 1, (.t ⟨.d1, .d1, .d6⟩)), (4, 1, (.c (.int .i64 4)))], none⟩,
            ⟨some ⟨.d1, .d2, .d0⟩, .buildSlice 7 1 [.int .i64 0, .int .i64 0, .int .u32 0, .int .u32 0, .int .i64 0, .int .i64 0, .int .i64 0, .slice none 0 0, .string { data := #[] }] [(0, (.t ⟨.d1, .d1, .d7⟩))], none⟩,
            ⟨some ⟨.d1, .d2, .d1⟩, .build [.int .u64 0, .int .u64 0, .int .i64 0, .slice none 0 0, .slice none 0 0, .slice none 0 0, .int .i64 0] [(0, 4, (.t ⟨.d1, .d0, .d7⟩)), (4, 1, (.t ⟨.d1, .d2, .d0⟩))], none⟩,
            ⟨none, .store 7 (.t ⟨.d0, .d1, .d0⟩) (.t ⟨.d1, .d2, .d1⟩), none⟩])
          (.ret))
          (.seq (.region [⟨some ⟨.d1, .d2, .d3⟩, .fieldAddr 7 (.t ⟨.d0, .d1, .d3⟩), none⟩,
            ⟨some ⟨.d1, .d2, .d4⟩, .load false 1 (.t ⟨.d1, .d2, .d3⟩), none⟩,
            ⟨some ⟨.d1, .d2, .d5⟩, .move (.t ⟨.d1, .d2, .d4⟩), none⟩,
            ⟨some ⟨.d1, .d2, .d6⟩, .move (.t ⟨.d0, .d1, .d5⟩), some (⟨.d1, .d2, .d5⟩, true)⟩,
            ⟨some ⟨.d1, .d2, .d7⟩, .un .not (.t ⟨.d1, .d2, .d6⟩), some (⟨.d1, .d2, .d5⟩, true)⟩,
            ⟨some ⟨.d1, .d3, .d0⟩, .pick (.t ⟨.d1, .d2, .d5⟩) (.t ⟨.d1, .d2, .d7⟩) (.c (.bool false)), none⟩,
            ⟨some ⟨.d1, .d2, .d2⟩, .move (.t ⟨.d1, .d3, .d0⟩), none⟩])
          (.cond (.t ⟨.d1, .d2, .d2⟩)
            (.seq (.region [⟨some ⟨.d1, .d3, .d1⟩, .move (.t ⟨.d0, .d0, .d3⟩), none⟩,
              ⟨some ⟨.d1, .d3, .d2⟩, .fieldAddr 8 (.t ⟨.d0, .d1, .d3⟩), none⟩,
              ⟨none, .store 1 (.t ⟨.d1, .d3, .d2⟩) (.t ⟨.d1, .d3, .d1⟩), none⟩])
            (.seq (.regionD [0, 0, 2, 0, 8, 31, 0, 0, 128, 511, 1023, 2047, 4095] [⟨some ⟨.d1, .d3, .d3⟩, .load true 4 (.t ⟨.d0, .d1, .d2⟩), none⟩,
              ⟨some ⟨.d1, .d3, .d4⟩, .fieldAddr 0 (.t ⟨.d0, .d1, .d3⟩), none⟩,
              ⟨some ⟨.d1, .d3, .d5⟩, .load true 4 (.t ⟨.d1, .d3, .d4⟩), none⟩,
              ⟨some ⟨.d1, .d3, .d6⟩, .load true 9 (.t ⟨.d0, .d1, .d3⟩), none⟩,
              ⟨some ⟨.d1, .d3, .d7⟩, .buildSlice 8 1 [.int .u32 0, .int .u32 0, .int .i64 0, .int .i64 0, .int .u32 0, .int .u32 0, .int .u32 0, .bool false, .int .i64 0] [(0, (.t ⟨.d1, .d3, .d6⟩))], none⟩,
              ⟨some ⟨.d1, .d4, .d0⟩, .call 22 [(.t ⟨.d1, .d3, .d3⟩), (.t ⟨.d1, .d3, .d5⟩), (.t ⟨.d1, .d3, .d7⟩)], none⟩,
              ⟨some ⟨.d1, .d4, .d1⟩, .load true 9 (.t ⟨.d0, .d0, .d6⟩), none⟩,
              ⟨some ⟨.d1, .d4, .d2⟩, .fieldAddr 6 (.t ⟨.d0, .d1, .d3⟩), none⟩,
              ⟨some ⟨.d1, .d4, .d3⟩, .load false 1 (.t ⟨.d1, .d4, .d2⟩), none⟩,
              ⟨some ⟨.d1, .d4, .d4⟩, .call 23 [(.t ⟨.d1, .d4, .d1⟩), (.t ⟨.d1, .d4, .d3⟩), (.c (.int .u32 0))], none⟩,
              ⟨some ⟨.d1, .d4, .d5⟩, .buildSlice 9 1 [.int .i64 0, .int .i64 0, .int .u32 0, .int .u32 0, .int .i64 0, .int .i64 0, .int .i64 0, .slice none 0 0, .string { data := #[] }] [(0, (.t ⟨.d1, .d4, .d4⟩))], none⟩,
              ⟨some ⟨.d1, .d4, .d6⟩, .build [.int .u64 0, .int .u64 0, .int .i64 0, .slice none 0 0, .slice none 0 0, .slice none 0 0, .int .i64 0] [(0, 4, (.t ⟨.d1, .d4, .d0⟩)), (4, 1, (.t ⟨.d1, .d4, .d5⟩))], none⟩,
              ⟨none, .store 7 (.t ⟨.d0, .d1, .d0⟩) (.t ⟨.d1, .d4, .d6⟩), none⟩])
            (.ret)))
            (.seq (.regionD [0, 1, 3, 7, 15, 31, 63, 127, 255, 511, 1023, 2047, 1023, 5119, 13311, 32767, 65535, 131071] [⟨some ⟨.d1, .d5, .d0⟩, .fieldAddr 7 (.t ⟨.d0, .d1, .d3⟩), none⟩,
              ⟨some ⟨.d1, .d5, .d1⟩, .load false 1 (.t ⟨.d1, .d5, .d0⟩), none⟩,
              ⟨some ⟨.d1, .d5, .d2⟩, .un .not (.t ⟨.d1, .d5, .d1⟩), none⟩,
              ⟨some ⟨.d1, .d5, .d3⟩, .move (.t ⟨.d1, .d5, .d2⟩), none⟩,
              ⟨some ⟨.d1, .d5, .d4⟩, .move (.t ⟨.d0, .d1, .d5⟩), some (⟨.d1, .d5, .d3⟩, true)⟩,
              ⟨some ⟨.d1, .d5, .d5⟩, .pick (.t ⟨.d1, .d5, .d3⟩) (.t ⟨.d1, .d5, .d4⟩) (.c (.bool false)), none⟩,
              ⟨some ⟨.d1, .d5, .d6⟩, .move (.t ⟨.d1, .d5, .d5⟩), none⟩,
              ⟨some ⟨.d1, .d5, .d7⟩, .move (.t ⟨.d0, .d1, .d6⟩), some (⟨.d1, .d5, .d6⟩, true)⟩,
              ⟨some ⟨.d1, .d6, .d0⟩, .pick (.t ⟨.d1, .d5, .d6⟩) (.t ⟨.d1, .d5, .d7⟩) (.c (.bool false)), none⟩,
              ⟨some ⟨.d1, .d6, .d1⟩, .move (.t ⟨.d1, .d6, .d0⟩), none⟩,
              ⟨some ⟨.d1, .d6, .d2⟩, .fieldAddr 3 (.t ⟨.d0, .d0, .d6⟩), some (⟨.d1, .d6, .d1⟩, true)⟩,
              ⟨some ⟨.d1, .d6, .d3⟩, .load false 1 (.t ⟨.d1, .d6, .d2⟩), some (⟨.d1, .d6, .d1⟩, true)⟩,
              ⟨some ⟨.d1, .d6, .d4⟩, .fieldAddr 4 (.t ⟨.d0, .d1, .d3⟩), some (⟨.d1, .d6, .d1⟩, true)⟩,
              ⟨some ⟨.d1, .d6, .d5⟩, .load false 1 (.t ⟨.d1, .d6, .d4⟩), some (⟨.d1, .d6, .d1⟩, true)⟩,
              ⟨some ⟨.d1, .d6, .d6⟩, .call 24 [(.t ⟨.d1, .d6, .d5⟩), (.c (.int .u32 1))], some (⟨.d1, .d6, .d1⟩, true)⟩,
              ⟨some ⟨.d1, .d6, .d7⟩, .bin .eql (.t ⟨.d1, .d6, .d3⟩) (.t ⟨.d1, .d6, .d6⟩), some (⟨.d1, .d6, .d1⟩, true)⟩,
              ⟨some ⟨.d1, .d7, .d0⟩, .pick (.t ⟨.d1, .d6, .d1⟩) (.t ⟨.d1, .d6, .d7⟩) (.c (.bool false)), none⟩,
              ⟨some ⟨.d1, .d4, .d7⟩, .move (.t ⟨.d1, .d7, .d0⟩), none⟩])
            (.cond (.t ⟨.d1, .d4, .d7⟩)
              (.seq (.region [⟨some ⟨.d1, .d7, .d1⟩, .move (.t ⟨.d0, .d0, .d3⟩), none⟩,
                ⟨some ⟨.d1, .d7, .d2⟩, .fieldAddr 5 (.t ⟨.d0, .d1, .d3⟩), none⟩,
                ⟨some ⟨.d1, .d7, .d3⟩, .load false 1 (.t ⟨.d1, .d7, .d2⟩), none⟩,
                ⟨some ⟨.d1, .d7, .d4⟩, .fieldAddr 2 (.t ⟨.d0, .d0, .d6⟩), none⟩,
                ⟨some ⟨.d1, .d7, .d5⟩, .load false 1 (.t ⟨.d1, .d7, .d4⟩), none⟩,
                ⟨some ⟨.d1, .d7, .d6⟩, .call 25 [(.t ⟨.d1, .d7, .d3⟩), (.t ⟨.d1, .d7, .d5⟩)], none⟩,
                ⟨some ⟨.d1, .d7, .d7⟩, .fieldAddr 8 (.t ⟨.d0, .d1, .d3⟩), none⟩,
                ⟨none, .store 1 (.t ⟨.d1, .d7, .d7⟩) (.t ⟨.d1, .d7, .d1⟩), none⟩,
                ⟨some ⟨.d2, .d0, .d0⟩, .fieldAddr 7 (.t ⟨.d0, .d1, .d3⟩), none⟩,
                ⟨none, .store 1 (.t ⟨.d2, .d0, .d0⟩) (.c (.bool true)), none⟩,
                ⟨some ⟨.d2, .d0, .d1⟩, .fieldAddr 6 (.t ⟨.d0, .d1, .d3⟩), none⟩,
                ⟨none, .store 1 (.t ⟨.d2, .d0, .d1⟩) (.t ⟨.d1, .d7, .d6⟩), none⟩])
              (.seq (.regionD [0, 0, 2, 0, 8, 31, 0, 64, 0, 256, 0, 1024, 0, 4096, 12351, 32767, 65535, 131071, 262143] [⟨some ⟨.d2, .d0, .d2⟩, .load true 4 (.t ⟨.d0, .d1, .d2⟩), none⟩,
                ⟨some ⟨.d2, .d0, .d3⟩, .fieldAddr 0 (.t ⟨.d0, .d1, .d3⟩), none⟩,
                ⟨some ⟨.d2, .d0, .d4⟩, .load true 4 (.t ⟨.d2, .d0, .d3⟩), none⟩,
                ⟨some ⟨.d2, .d0, .d5⟩, .load true 9 (.t ⟨.d0, .d1, .d3⟩), none⟩,
                ⟨some ⟨.d2, .d0, .d6⟩, .buildSlice 10 1 [.int .u32 0, .int .u32 0, .int .i64 0, .int .i64 0, .int .u32 0, .int .u32 0, .int .u32 0, .bool false, .int .i64 0] [(0, (.t ⟨.d2, .d0, .d5⟩))], none⟩,
                ⟨some ⟨.d2, .d0, .d7⟩, .call 22 [(.t ⟨.d2, .d0, .d2⟩), (.t ⟨.d2, .d0, .d4⟩), (.t ⟨.d2, .d0, .d6⟩)], none⟩,
                ⟨some ⟨.d2, .d1, .d0⟩, .fieldAddr 1 (.t ⟨.d0, .d0, .d6⟩), none⟩,
                ⟨some ⟨.d2, .d1, .d1⟩, .load false 1 (.t ⟨.d2, .d1, .d0⟩), none⟩,
                ⟨some ⟨.d2, .d1, .d2⟩, .fieldAddr 0 (.t ⟨.d0, .d0, .d6⟩), none⟩,
                ⟨some ⟨.d2, .d1, .d3⟩, .load false 1 (.t ⟨.d2, .d1, .d2⟩), none⟩,
                ⟨some ⟨.d2, .d1, .d4⟩, .fieldAddr 3 (.t ⟨.d0, .d0, .d6⟩), none⟩,
                ⟨some ⟨.d2, .d1, .d5⟩, .load false 1 (.t ⟨.d2, .d1, .d4⟩), none⟩,
                ⟨some ⟨.d2, .d1, .d6⟩, .fieldAddr 2 (.t ⟨.d0, .d0, .d6⟩), none⟩,
                ⟨some ⟨.d2, .d1, .d7⟩, .load false 1 (.t ⟨.d2, .d1, .d6⟩), none⟩,
                ⟨some ⟨.d2, .d2, .d0⟩, .call 24 [(.t ⟨.d2, .d1, .d7⟩), (.c (.int .u32 1))], none⟩,
                ⟨some ⟨.d2, .d2, .d1⟩, .build [.int .i64 0, .int .i64 0, .int .u32 0, .int .u32 0, .int .i64 0, .int .i64 0, .int .i64 0, .slice none 0 0, .string { data := #[] }] [(0, 1, (.t ⟨.d2, .d1, .d1⟩)), (1, 1, (.t ⟨.d2, .d1, .d3⟩)), (2, 1, (.t ⟨.d2, .d1, .d5⟩)), (3, 1, (.t ⟨.d2, .d2, .d0⟩)), (4, 1, (.c (.int .i64 16))), (5, 1, (.c (.int .i64 65535)))], none⟩,
                ⟨some ⟨.d2, .d2, .d2⟩, .buildSlice 11 1 [.int .i64 0, .int .i64 0, .int .u32 0, .int .u32 0, .int .i64 0, .int .i64 0, .int .i64 0, .slice none 0 0, .string { data := #[] }] [(0, (.t ⟨.d2, .d2, .d1⟩))], none⟩,
                ⟨some ⟨.d2, .d2, .d3⟩, .build [.int .u64 0, .int .u64 0, .int .i64 0, .slice none 0 0, .slice none 0 0, .slice none 0 0, .int .i64 0] [(0, 4, (.t ⟨.d2, .d0, .d7⟩)), (5, 1, (.t ⟨.d2, .d2, .d2⟩))], none⟩,
                ⟨none, .store 7 (.t ⟨.d0, .d1, .d0⟩) (.t ⟨.d2, .d2, .d3⟩), none⟩])
              (.ret)))
              (.skip))))))))))))
  (.seq (.region [⟨some ⟨.d2, .d2, .d4⟩, .load true 4 (.t ⟨.d0, .d1, .d2⟩), none⟩,
    ⟨some ⟨.d2, .d2, .d5⟩, .build [.int .u64 0, .int .u64 0, .int .i64 0, .slice none 0 0, .slice none 0 0, .slice none 0 0, .int .i64 0] [(0, 4, (.t ⟨.d2, .d2, .d4⟩))], none⟩,
    ⟨none, .store 7 (.t ⟨.d0, .d1, .d0⟩) (.t ⟨.d2, .d2, .d5⟩), none⟩])
  (.ret))))))
def r_custref_HeardServer : List XR := [.cell ⟨.d0, .d1, .d0⟩ true 7]
theorem ok_custref_HeardServer : okC Try.prog Try.f6.ntmps (bodyOf Try.f6) x_custref_HeardServer = true := by kernel_rfl
theorem okr_custref_HeardServer : okRs Try.prog Try.f6.results.toList r_custref_HeardServer = true := by kernel_rfl

/-- custref.SameProxy -/
def x_custref_SameProxy : XC :=
  .seq (.region [⟨some ⟨.d0, .d0, .d2⟩, .box 0 4 (.t ⟨.d0, .d0, .d0⟩), none⟩,
    ⟨some ⟨.d0, .d0, .d3⟩, .box 1 4 (.t ⟨.d0, .d0, .d1⟩), none⟩,
    ⟨some ⟨.d0, .d0, .d4⟩, .move (.c (.bool false)), none⟩])
  (.seq (.region [⟨some ⟨.d0, .d0, .d5⟩, .fieldAddr 0 (.t ⟨.d0, .d0, .d2⟩), none⟩,
    ⟨some ⟨.d0, .d0, .d6⟩, .load true 2 (.t ⟨.d0, .d0, .d5⟩), none⟩,
    ⟨some ⟨.d0, .d0, .d7⟩, .fieldAddr 0 (.t ⟨.d0, .d0, .d3⟩), none⟩,
    ⟨some ⟨.d0, .d1, .d0⟩, .load true 2 (.t ⟨.d0, .d0, .d7⟩), none⟩,
    ⟨some ⟨.d0, .d1, .d1⟩, .eqs false [0, 0] (.t ⟨.d0, .d0, .d6⟩) (.t ⟨.d0, .d1, .d0⟩), none⟩,
    ⟨some ⟨.d0, .d1, .d2⟩, .move (.t ⟨.d0, .d1, .d1⟩), none⟩,
    ⟨some ⟨.d0, .d1, .d3⟩, .fieldAddr 2 (.t ⟨.d0, .d0, .d2⟩), some (⟨.d0, .d1, .d2⟩, true)⟩,
    ⟨some ⟨.d0, .d1, .d4⟩, .load false 1 (.t ⟨.d0, .d1, .d3⟩), some (⟨.d0, .d1, .d2⟩, true)⟩,
    ⟨some ⟨.d0, .d1, .d5⟩, .fieldAddr 2 (.t ⟨.d0, .d0, .d3⟩), some (⟨.d0, .d1, .d2⟩, true)⟩,
    ⟨some ⟨.d0, .d1, .d6⟩, .load false 1 (.t ⟨.d0, .d1, .d5⟩), some (⟨.d0, .d1, .d2⟩, true)⟩,
    ⟨some ⟨.d0, .d1, .d7⟩, .bin .eql (.t ⟨.d0, .d1, .d4⟩) (.t ⟨.d0, .d1, .d6⟩), some (⟨.d0, .d1, .d2⟩, true)⟩,
    ⟨some ⟨.d0, .d2, .d0⟩, .pick (.t ⟨.d0, .d1, .d2⟩) (.t ⟨.d0, .d1, .d7⟩) (.c (.bool false)), none⟩,
    ⟨some ⟨.d0, .d2, .d1⟩, .move (.t ⟨.d0, .d2, .d0⟩), none⟩,
    ⟨some ⟨.d0, .d2, .d2⟩, .fieldAddr 3 (.t ⟨.d0, .d0, .d2⟩), some (⟨.d0, .d2, .d1⟩, true)⟩,
    ⟨some ⟨.d0, .d2, .d3⟩, .load false 1 (.t ⟨.d0, .d2, .d2⟩), some (⟨.d0, .d2, .d1⟩, true)⟩,
    ⟨some ⟨.d0, .d2, .d4⟩, .fieldAddr 3 (.t ⟨.d0, .d0, .d3⟩), some (⟨.d0, .d2, .d1⟩, true)⟩,
    ⟨some ⟨.d0, .d2, .d5⟩, .load false 1 (.t ⟨.d0, .d2, .d4⟩), some (⟨.d0, .d2, .d1⟩, true)⟩,
    ⟨some ⟨.d0, .d2, .d6⟩, .call 26 [(.t ⟨.d0, .d2, .d3⟩), (.t ⟨.d0, .d2, .d5⟩)], some (⟨.d0, .d2, .d1⟩, true)⟩,
    ⟨some ⟨.d0, .d2, .d7⟩, .pick (.t ⟨.d0, .d2, .d1⟩) (.t ⟨.d0, .d2, .d6⟩) (.c (.bool false)), none⟩,
    ⟨some ⟨.d0, .d0, .d4⟩, .move (.t ⟨.d0, .d2, .d7⟩), none⟩])
  (.ret))
def r_custref_SameProxy : List XR := [.tmp ⟨.d0, .d0, .d4⟩]
theorem ok_custref_SameProxy : okC Try.prog Try.f7.ntmps (bodyOf Try.f7) x_custref_SameProxy = true := by kernel_rfl
theorem okr_custref_SameProxy : okRs Try.prog Try.f7.results.toList r_custref_SameProxy = true := by kernel_rfl

/-- custref.SameSegments -/
def x_custref_SameSegments : XC :=
  .seq (.region [⟨some ⟨.d0, .d0, .d4⟩, .move (.c (.bool false)), none⟩])
  (.seq (.region [⟨some ⟨.d0, .d0, .d5⟩, .move (.t ⟨.d0, .d0, .d0⟩), none⟩,
    ⟨some ⟨.d0, .d0, .d6⟩, .move (.t ⟨.d0, .d0, .d1⟩), none⟩,
    ⟨some ⟨.d0, .d0, .d7⟩, .call 27 [(.t ⟨.d0, .d0, .d5⟩), (.t ⟨.d0, .d0, .d6⟩), (.f 28)], none⟩,
    ⟨some ⟨.d0, .d0, .d4⟩, .move (.t ⟨.d0, .d0, .d7⟩), none⟩])
  (.ret))
def r_custref_SameSegments : List XR := [.tmp ⟨.d0, .d0, .d4⟩]
theorem ok_custref_SameSegments : okC Try.prog Try.f8.ntmps (bodyOf Try.f8) x_custref_SameSegments = true := by kernel_rfl
theorem okr_custref_SameSegments : okRs Try.prog Try.f8.results.toList r_custref_SameSegments = true := by kernel_rfl

/-- proxy.Check -/
def x_proxy_Check : XC :=
  .seq (.region [⟨some ⟨.d0, .d0, .d1⟩, .box 0 4 (.t ⟨.d0, .d0, .d0⟩), none⟩,
    ⟨some ⟨.d0, .d0, .d2⟩, .move (.c (.int .i64 0)), none⟩])
  (.seq (.seq (.region [⟨some ⟨.d0, .d0, .d6⟩, .fieldAddr 2 (.t ⟨.d0, .d0, .d1⟩), none⟩,
    ⟨some ⟨.d0, .d0, .d7⟩, .load false 1 (.t ⟨.d0, .d0, .d6⟩), none⟩,
    ⟨some ⟨.d0, .d1, .d0⟩, .call 37 [(.t ⟨.d0, .d0, .d7⟩)], none⟩,
    ⟨some ⟨.d0, .d1, .d1⟩, .un .not (.t ⟨.d0, .d1, .d0⟩), none⟩])
  (.cond (.t ⟨.d0, .d1, .d1⟩)
    (.seq (.region [⟨some ⟨.d0, .d0, .d2⟩, .move (.c (.int .i64 1)), none⟩])
    (.ret))
    (.skip)))
  (.seq (.seq (.region [⟨some ⟨.d0, .d1, .d2⟩, .fieldAddr 3 (.t ⟨.d0, .d0, .d1⟩), none⟩,
    ⟨some ⟨.d0, .d1, .d3⟩, .load false 1 (.t ⟨.d0, .d1, .d2⟩), none⟩,
    ⟨some ⟨.d0, .d1, .d4⟩, .len (.t ⟨.d0, .d1, .d3⟩), none⟩,
    ⟨some ⟨.d0, .d1, .d5⟩, .bin .gtr (.t ⟨.d0, .d1, .d4⟩) (.c (.int .i64 64)), none⟩])
  (.cond (.t ⟨.d0, .d1, .d5⟩)
    (.seq (.region [⟨some ⟨.d0, .d0, .d2⟩, .move (.c (.int .i64 2)), none⟩])
    (.ret))
    (.skip)))
  (.seq (.region [⟨some ⟨.d0, .d0, .d3⟩, .move (.c (.int .i64 0)), none⟩])
  (.seq (.seq (.region [⟨some ⟨.d0, .d1, .d6⟩, .fieldAddr 3 (.t ⟨.d0, .d0, .d1⟩), none⟩,
    ⟨some ⟨.d0, .d1, .d7⟩, .load false 1 (.t ⟨.d0, .d1, .d6⟩), none⟩,
    ⟨some ⟨.d0, .d2, .d0⟩, .len (.t ⟨.d0, .d1, .d7⟩), none⟩,
    ⟨some ⟨.d0, .d2, .d1⟩, .move (.c (.int .i64 0)), none⟩])
  (.block 0
    (.loop
      (.seq (.region [⟨some ⟨.d0, .d2, .d2⟩, .bin .lss (.t ⟨.d0, .d2, .d1⟩) (.t ⟨.d0, .d2, .d0⟩), none⟩])
      (.seq (.cond (.t ⟨.d0, .d2, .d2⟩)
        (.skip)
        (.exit 0))
      (.seq (.block 1
        (.seq (.region [⟨some ⟨.d0, .d2, .d3⟩, .move (.t ⟨.d0, .d2, .d1⟩), none⟩,
          ⟨some ⟨.d0, .d2, .d4⟩, .indexSl 9 (.t ⟨.d0, .d1, .d7⟩) (.t ⟨.d0, .d2, .d1⟩), none⟩,
          ⟨some ⟨.d0, .d2, .d5⟩, .load true 9 (.t ⟨.d0, .d2, .d4⟩), none⟩,
          ⟨some ⟨.d0, .d0, .d5⟩, .alloc 1 [.int .u32 0, .int .u32 0, .int .i64 0, .int .i64 0, .int .u32 0, .int .u32 0, .int .u32 0, .bool false, .int .i64 0], none⟩,
          ⟨some ⟨.d0, .d0, .d4⟩, .move (.t ⟨.d0, .d2, .d3⟩), none⟩,
          ⟨none, .store 9 (.t ⟨.d0, .d0, .d5⟩) (.t ⟨.d0, .d2, .d5⟩), none⟩])
        (.seq (.seq (.region [⟨some ⟨.d0, .d2, .d6⟩, .fieldAddr 0 (.t ⟨.d0, .d0, .d5⟩), none⟩,
          ⟨some ⟨.d0, .d2, .d7⟩, .fieldAddr 2 (.t ⟨.d0, .d2, .d6⟩), none⟩,
          ⟨some ⟨.d0, .d3, .d0⟩, .load false 1 (.t ⟨.d0, .d2, .d7⟩), none⟩,
          ⟨some ⟨.d0, .d3, .d1⟩, .call 37 [(.t ⟨.d0, .d3, .d0⟩)], none⟩,
          ⟨some ⟨.d0, .d3, .d2⟩, .un .not (.t ⟨.d0, .d3, .d1⟩), none⟩,
          ⟨some ⟨.d0, .d3, .d3⟩, .move (.t ⟨.d0, .d3, .d2⟩), none⟩,
          ⟨some ⟨.d0, .d3, .d4⟩, .fieldAddr 0 (.t ⟨.d0, .d0, .d5⟩), some (⟨.d0, .d3, .d3⟩, false)⟩,
          ⟨some ⟨.d0, .d3, .d5⟩, .fieldAddr 3 (.t ⟨.d0, .d3, .d4⟩), some (⟨.d0, .d3, .d3⟩, false)⟩,
          ⟨some ⟨.d0, .d3, .d6⟩, .load false 1 (.t ⟨.d0, .d3, .d5⟩), some (⟨.d0, .d3, .d3⟩, false)⟩,
          ⟨some ⟨.d0, .d3, .d7⟩, .call 37 [(.t ⟨.d0, .d3, .d6⟩)], some (⟨.d0, .d3, .d3⟩, false)⟩,
          ⟨some ⟨.d0, .d4, .d0⟩, .un .not (.t ⟨.d0, .d3, .d7⟩), some (⟨.d0, .d3, .d3⟩, false)⟩,
          ⟨some ⟨.d0, .d4, .d1⟩, .pick (.t ⟨.d0, .d3, .d3⟩) (.c (.bool true)) (.t ⟨.d0, .d4, .d0⟩), none⟩,
          ⟨some ⟨.d0, .d4, .d2⟩, .move (.t ⟨.d0, .d4, .d1⟩), none⟩,
          ⟨some ⟨.d0, .d4, .d3⟩, .fieldAddr 8 (.t ⟨.d0, .d0, .d5⟩), some (⟨.d0, .d4, .d2⟩, false)⟩,
          ⟨some ⟨.d0, .d4, .d4⟩, .load false 1 (.t ⟨.d0, .d4, .d3⟩), some (⟨.d0, .d4, .d2⟩, false)⟩,
          ⟨some ⟨.d0, .d4, .d5⟩, .move (.t ⟨.d0, .d0, .d3⟩), some (⟨.d0, .d4, .d2⟩, false)⟩,
          ⟨some ⟨.d0, .d4, .d6⟩, .bin .lss (.t ⟨.d0, .d4, .d4⟩) (.t ⟨.d0, .d4, .d5⟩), some (⟨.d0, .d4, .d2⟩, false)⟩,
          ⟨some ⟨.d0, .d4, .d7⟩, .pick (.t ⟨.d0, .d4, .d2⟩) (.c (.bool true)) (.t ⟨.d0, .d4, .d6⟩), none⟩,
          ⟨some ⟨.d0, .d5, .d0⟩, .move (.t ⟨.d0, .d4, .d7⟩), none⟩,
          ⟨some ⟨.d0, .d5, .d1⟩, .fieldAddr 8 (.t ⟨.d0, .d0, .d5⟩), some (⟨.d0, .d5, .d0⟩, false)⟩,
          ⟨some ⟨.d0, .d5, .d2⟩, .load false 1 (.t ⟨.d0, .d5, .d1⟩), some (⟨.d0, .d5, .d0⟩, false)⟩,
          ⟨some ⟨.d0, .d5, .d3⟩, .bin .gtr (.t ⟨.d0, .d5, .d2⟩) (.c (.int .i64 1099511627776)), some (⟨.d0, .d5, .d0⟩, false)⟩,
          ⟨some ⟨.d0, .d5, .d4⟩, .pick (.t ⟨.d0, .d5, .d0⟩) (.c (.bool true)) (.t ⟨.d0, .d5, .d3⟩), none⟩,
          ⟨some ⟨.d0, .d5, .d5⟩, .move (.t ⟨.d0, .d5, .d4⟩), none⟩,
          ⟨some ⟨.d0, .d5, .d6⟩, .fieldAddr 7 (.t ⟨.d0, .d0, .d5⟩), some (⟨.d0, .d5, .d5⟩, false)⟩,
          ⟨some ⟨.d0, .d5, .d7⟩, .load false 1 (.t ⟨.d0, .d5, .d6⟩), some (⟨.d0, .d5, .d5⟩, false)⟩,
          ⟨some ⟨.d0, .d6, .d0⟩, .un .not (.t ⟨.d0, .d5, .d7⟩), some (⟨.d0, .d5, .d5⟩, false)⟩,
          ⟨some ⟨.d0, .d6, .d1⟩, .move (.t ⟨.d0, .d6, .d0⟩), some (⟨.d0, .d5, .d5⟩, false)⟩,
          ⟨some ⟨.d0, .d6, .d2⟩, .fieldAddr 6 (.t ⟨.d0, .d0, .d5⟩), some (⟨.d0, .d6, .d1⟩, true)⟩,
          ⟨some ⟨.d0, .d6, .d3⟩, .load false 1 (.t ⟨.d0, .d6, .d2⟩), some (⟨.d0, .d6, .d1⟩, true)⟩,
          ⟨some ⟨.d0, .d6, .d4⟩, .bin .neq (.t ⟨.d0, .d6, .d3⟩) (.c (.int .u32 0)), some (⟨.d0, .d6, .d1⟩, true)⟩,
          ⟨some ⟨.d0, .d6, .d5⟩, .pick (.t ⟨.d0, .d6, .d1⟩) (.t ⟨.d0, .d6, .d4⟩) (.c (.bool false)), some (⟨.d0, .d5, .d5⟩, false)⟩,
          ⟨some ⟨.d0, .d6, .d6⟩, .pick (.t ⟨.d0, .d5, .d5⟩) (.c (.bool true)) (.t ⟨.d0, .d6, .d5⟩), none⟩,
          ⟨some ⟨.d0, .d6, .d7⟩, .move (.t ⟨.d0, .d6, .d6⟩), none⟩,
          ⟨some ⟨.d0, .d7, .d0⟩, .load true 4 (.t ⟨.d0, .d0, .d1⟩), some (⟨.d0, .d6, .d7⟩, false)⟩,
          ⟨some ⟨.d0, .d7, .d1⟩, .fieldAddr 0 (.t ⟨.d0, .d0, .d5⟩), some (⟨.d0, .d6, .d7⟩, false)⟩,
          ⟨some ⟨.d0, .d7, .d2⟩, .load true 4 (.t ⟨.d0, .d7, .d1⟩), some (⟨.d0, .d6, .d7⟩, false)⟩,
          ⟨some ⟨.d0, .d7, .d3⟩, .call 16 [(.t ⟨.d0, .d7, .d0⟩), (.t ⟨.d0, .d7, .d2⟩)], some (⟨.d0, .d6, .d7⟩, false)⟩,
          ⟨some ⟨.d0, .d7, .d4⟩, .move (.t ⟨.d0, .d0, .d4⟩), some (⟨.d0, .d6, .d7⟩, false)⟩,
          ⟨some ⟨.d0, .d7, .d5⟩, .bin .neq (.t ⟨.d0, .d7, .d3⟩) (.t ⟨.d0, .d7, .d4⟩), some (⟨.d0, .d6, .d7⟩, false)⟩,
          ⟨some ⟨.d0, .d7, .d6⟩, .pick (.t ⟨.d0, .d6, .d7⟩) (.c (.bool true)) (.t ⟨.d0, .d7, .d5⟩), none⟩])
        (.cond (.t ⟨.d0, .d7, .d6⟩)
          (.seq (.region [⟨some ⟨.d0, .d0, .d2⟩, .move (.c (.int .i64 4)), none⟩])
          (.ret))
          (.skip)))
        (.region [⟨some ⟨.d0, .d7, .d7⟩, .fieldAddr 8 (.t ⟨.d0, .d0, .d5⟩), none⟩,
          ⟨some ⟨.d1, .d0, .d0⟩, .load false 1 (.t ⟨.d0, .d7, .d7⟩), none⟩,
          ⟨some ⟨.d0, .d0, .d3⟩, .move (.t ⟨.d1, .d0, .d0⟩), none⟩]))))
      (.region [⟨some ⟨.d1, .d0, .d1⟩, .bin .add (.t ⟨.d0, .d2, .d1⟩) (.c (.int .i64 1)), none⟩,
        ⟨some ⟨.d0, .d2, .d1⟩, .move (.t ⟨.d1, .d0, .d1⟩), none⟩])))))))
  (.seq (.region [⟨some ⟨.d0, .d0, .d2⟩, .move (.c (.int .i64 0)), none⟩])
  (.ret))))))
def r_proxy_Check : List XR := [.tmp ⟨.d0, .d0, .d2⟩]
theorem ok_proxy_Check : okC Try.prog Try.f11.ntmps (bodyOf Try.f11) x_proxy_Check = true := by kernel_rfl
theorem okr_proxy_Check : okRs Try.prog Try.f11.results.toList r_proxy_Check = true := by kernel_rfl

/-- custref.ProxyRight -/
def x_custref_ProxyRight : XC :=
  .seq (.region [⟨some ⟨.d0, .d0, .d1⟩, .box 0 4 (.t ⟨.d0, .d0, .d0⟩), none⟩,
    ⟨some ⟨.d0, .d0, .d2⟩, .move (.c (.int .i64 0)), none⟩])
  (.seq (.seq (.region [⟨some ⟨.d0, .d0, .d7⟩, .fieldAddr 2 (.t ⟨.d0, .d0, .d1⟩), none⟩,
    ⟨some ⟨.d0, .d1, .d0⟩, .load false 1 (.t ⟨.d0, .d0, .d7⟩), none⟩,
    ⟨some ⟨.d0, .d1, .d1⟩, .call 38 [(.t ⟨.d0, .d1, .d0⟩), (.c (.int .i64 0)), (.c (.int .i64 65535))], none⟩,
    ⟨some ⟨.d0, .d1, .d2⟩, .un .not (.t ⟨.d0, .d1, .d1⟩), none⟩])
  (.cond (.t ⟨.d0, .d1, .d2⟩)
    (.seq (.region [⟨some ⟨.d0, .d0, .d2⟩, .move (.c (.int .i64 1)), none⟩])
    (.ret))
    (.skip)))
  (.seq (.seq (.region [⟨some ⟨.d0, .d1, .d3⟩, .fieldAddr 3 (.t ⟨.d0, .d0, .d1⟩), none⟩,
    ⟨some ⟨.d0, .d1, .d4⟩, .load false 1 (.t ⟨.d0, .d1, .d3⟩), none⟩,
    ⟨some ⟨.d0, .d1, .d5⟩, .len (.t ⟨.d0, .d1, .d4⟩), none⟩,
    ⟨some ⟨.d0, .d1, .d6⟩, .bin .gtr (.t ⟨.d0, .d1, .d5⟩) (.c (.int .i64 64)), none⟩])
  (.cond (.t ⟨.d0, .d1, .d6⟩)
    (.seq (.region [⟨some ⟨.d0, .d0, .d2⟩, .move (.c (.int .i64 2)), none⟩])
    (.ret))
    (.skip)))
  (.seq (.seq (.region [⟨some ⟨.d0, .d1, .d7⟩, .fieldAddr 3 (.t ⟨.d0, .d0, .d1⟩), none⟩,
    ⟨some ⟨.d0, .d2, .d0⟩, .load false 1 (.t ⟨.d0, .d1, .d7⟩), none⟩,
    ⟨some ⟨.d0, .d2, .d1⟩, .len (.t ⟨.d0, .d2, .d0⟩), none⟩,
    ⟨some ⟨.d0, .d2, .d2⟩, .move (.c (.int .i64 0)), none⟩])
  (.block 0
    (.loop
      (.seq (.region [⟨some ⟨.d0, .d2, .d3⟩, .bin .lss (.t ⟨.d0, .d2, .d2⟩) (.t ⟨.d0, .d2, .d1⟩), none⟩])
      (.seq (.cond (.t ⟨.d0, .d2, .d3⟩)
        (.skip)
        (.exit 0))
      (.seq (.block 1
        (.seq (.region [⟨some ⟨.d0, .d2, .d4⟩, .move (.t ⟨.d0, .d2, .d2⟩), none⟩,
          ⟨some ⟨.d0, .d2, .d5⟩, .indexSl 9 (.t ⟨.d0, .d2, .d0⟩) (.t ⟨.d0, .d2, .d2⟩), none⟩,
          ⟨some ⟨.d0, .d2, .d6⟩, .load true 9 (.t ⟨.d0, .d2, .d5⟩), none⟩,
          ⟨some ⟨.d0, .d0, .d4⟩, .alloc 1 [.int .u32 0, .int .u32 0, .int .i64 0, .int .i64 0, .int .u32 0, .int .u32 0, .int .u32 0, .bool false, .int .i64 0], none⟩,
          ⟨some ⟨.d0, .d0, .d3⟩, .move (.t ⟨.d0, .d2, .d4⟩), none⟩,
          ⟨none, .store 9 (.t ⟨.d0, .d0, .d4⟩) (.t ⟨.d0, .d2, .d6⟩), none⟩])
        (.seq (.seq (.region [⟨some ⟨.d0, .d2, .d7⟩, .fieldAddr 0 (.t ⟨.d0, .d0, .d4⟩), none⟩,
          ⟨some ⟨.d0, .d3, .d0⟩, .load true 4 (.t ⟨.d0, .d2, .d7⟩), none⟩,
          ⟨some ⟨.d0, .d3, .d1⟩, .call 39 [(.t ⟨.d0, .d3, .d0⟩)], none⟩,
          ⟨some ⟨.d0, .d3, .d2⟩, .un .not (.t ⟨.d0, .d3, .d1⟩), none⟩,
          ⟨some ⟨.d0, .d3, .d3⟩, .move (.t ⟨.d0, .d3, .d2⟩), none⟩,
          ⟨some ⟨.d0, .d3, .d4⟩, .fieldAddr 8 (.t ⟨.d0, .d0, .d4⟩), some (⟨.d0, .d3, .d3⟩, false)⟩,
          ⟨some ⟨.d0, .d3, .d5⟩, .load false 1 (.t ⟨.d0, .d3, .d4⟩), some (⟨.d0, .d3, .d3⟩, false)⟩,
          ⟨some ⟨.d0, .d3, .d6⟩, .call 38 [(.t ⟨.d0, .d3, .d5⟩), (.c (.int .i64 0)), (.c (.int .i64 1099511627776))], some (⟨.d0, .d3, .d3⟩, false)⟩,
          ⟨some ⟨.d0, .d3, .d7⟩, .un .not (.t ⟨.d0, .d3, .d6⟩), some (⟨.d0, .d3, .d3⟩, false)⟩,
          ⟨some ⟨.d0, .d4, .d0⟩, .pick (.t ⟨.d0, .d3, .d3⟩) (.c (.bool true)) (.t ⟨.d0, .d3, .d7⟩), none⟩,
          ⟨some ⟨.d0, .d4, .d1⟩, .move (.t ⟨.d0, .d4, .d0⟩), none⟩,
          ⟨some ⟨.d0, .d4, .d2⟩, .fieldAddr 7 (.t ⟨.d0, .d0, .d4⟩), some (⟨.d0, .d4, .d1⟩, false)⟩,
          ⟨some ⟨.d0, .d4, .d3⟩, .load false 1 (.t ⟨.d0, .d4, .d2⟩), some (⟨.d0, .d4, .d1⟩, false)⟩,
          ⟨some ⟨.d0, .d4, .d4⟩, .un .not (.t ⟨.d0, .d4, .d3⟩), some (⟨.d0, .d4, .d1⟩, false)⟩,
          ⟨some ⟨.d0, .d4, .d5⟩, .move (.t ⟨.d0, .d4, .d4⟩), some (⟨.d0, .d4, .d1⟩, false)⟩,
          ⟨some ⟨.d0, .d4, .d6⟩, .fieldAddr 6 (.t ⟨.d0, .d0, .d4⟩), some (⟨.d0, .d4, .d5⟩, true)⟩,
          ⟨some ⟨.d0, .d4, .d7⟩, .load false 1 (.t ⟨.d0, .d4, .d6⟩), some (⟨.d0, .d4, .d5⟩, true)⟩,
          ⟨some ⟨.d0, .d5, .d0⟩, .bin .gtr (.t ⟨.d0, .d4, .d7⟩) (.c (.int .u32 0)), some (⟨.d0, .d4, .d5⟩, true)⟩,
          ⟨some ⟨.d0, .d5, .d1⟩, .pick (.t ⟨.d0, .d4, .d5⟩) (.t ⟨.d0, .d5, .d0⟩) (.c (.bool false)), some (⟨.d0, .d4, .d1⟩, false)⟩,
          ⟨some ⟨.d0, .d5, .d2⟩, .pick (.t ⟨.d0, .d4, .d1⟩) (.c (.bool true)) (.t ⟨.d0, .d5, .d1⟩), none⟩])
        (.cond (.t ⟨.d0, .d5, .d2⟩)
          (.seq (.region [⟨some ⟨.d0, .d0, .d2⟩, .move (.c (.int .i64 4)), none⟩])
          (.ret))
          (.skip)))
        (.seq (.region [⟨some ⟨.d0, .d5, .d3⟩, .fieldAddr 3 (.t ⟨.d0, .d0, .d1⟩), none⟩,
          ⟨some ⟨.d0, .d5, .d4⟩, .load false 1 (.t ⟨.d0, .d5, .d3⟩), none⟩,
          ⟨some ⟨.d0, .d5, .d5⟩, .move (.t ⟨.d0, .d0, .d3⟩), none⟩,
          ⟨some ⟨.d0, .d5, .d6⟩, .slice 9 (.t ⟨.d0, .d5, .d4⟩) none (some (.t ⟨.d0, .d5, .d5⟩)) none, none⟩,
          ⟨some ⟨.d0, .d5, .d7⟩, .len (.t ⟨.d0, .d5, .d6⟩), none⟩,
          ⟨some ⟨.d0, .d6, .d0⟩, .move (.c (.int .i64 0)), none⟩])
        (.block 2
          (.loop
            (.seq (.region [⟨some ⟨.d0, .d6, .d1⟩, .bin .lss (.t ⟨.d0, .d6, .d0⟩) (.t ⟨.d0, .d5, .d7⟩), none⟩])
            (.seq (.cond (.t ⟨.d0, .d6, .d1⟩)
              (.skip)
              (.exit 2))
            (.seq (.block 3
              (.seq (.region [⟨some ⟨.d0, .d6, .d2⟩, .indexSl 9 (.t ⟨.d0, .d5, .d6⟩) (.t ⟨.d0, .d6, .d0⟩), none⟩,
                ⟨some ⟨.d0, .d6, .d3⟩, .load true 9 (.t ⟨.d0, .d6, .d2⟩), none⟩,
                ⟨some ⟨.d0, .d0, .d6⟩, .alloc 2 [.int .u32 0, .int .u32 0, .int .i64 0, .int .i64 0, .int .u32 0, .int .u32 0, .int .u32 0, .bool false, .int .i64 0], none⟩,
                ⟨none, .store 9 (.t ⟨.d0, .d0, .d6⟩) (.t ⟨.d0, .d6, .d3⟩), none⟩])
              (.seq (.region [⟨some ⟨.d0, .d6, .d4⟩, .fieldAddr 0 (.t ⟨.d0, .d0, .d6⟩), none⟩,
                ⟨some ⟨.d0, .d6, .d5⟩, .load true 4 (.t ⟨.d0, .d6, .d4⟩), none⟩,
                ⟨some ⟨.d0, .d6, .d6⟩, .fieldAddr 0 (.t ⟨.d0, .d0, .d4⟩), none⟩,
                ⟨some ⟨.d0, .d6, .d7⟩, .load true 4 (.t ⟨.d0, .d6, .d6⟩), none⟩,
                ⟨some ⟨.d0, .d7, .d0⟩, .eqs false [0, 0, 0, 0] (.t ⟨.d0, .d6, .d5⟩) (.t ⟨.d0, .d6, .d7⟩), none⟩,
                ⟨some ⟨.d0, .d7, .d1⟩, .move (.t ⟨.d0, .d7, .d0⟩), none⟩,
                ⟨some ⟨.d0, .d7, .d2⟩, .fieldAddr 8 (.t ⟨.d0, .d0, .d6⟩), some (⟨.d0, .d7, .d1⟩, false)⟩,
                ⟨some ⟨.d0, .d7, .d3⟩, .load false 1 (.t ⟨.d0, .d7, .d2⟩), some (⟨.d0, .d7, .d1⟩, false)⟩,
                ⟨some ⟨.d0, .d7, .d4⟩, .fieldAddr 8 (.t ⟨.d0, .d0, .d4⟩), some (⟨.d0, .d7, .d1⟩, false)⟩,
                ⟨some ⟨.d0, .d7, .d5⟩, .load false 1 (.t ⟨.d0, .d7, .d4⟩), some (⟨.d0, .d7, .d1⟩, false)⟩,
                ⟨some ⟨.d0, .d7, .d6⟩, .bin .gtr (.t ⟨.d0, .d7, .d3⟩) (.t ⟨.d0, .d7, .d5⟩), some (⟨.d0, .d7, .d1⟩, false)⟩,
                ⟨some ⟨.d0, .d7, .d7⟩, .pick (.t ⟨.d0, .d7, .d1⟩) (.c (.bool true)) (.t ⟨.d0, .d7, .d6⟩), none⟩])
              (.cond (.t ⟨.d0, .d7, .d7⟩)
                (.seq (.region [⟨some ⟨.d0, .d0, .d2⟩, .move (.c (.int .i64 4)), none⟩])
                (.ret))
                (.skip)))))
            (.region [⟨some ⟨.d1, .d0, .d0⟩, .bin .add (.t ⟨.d0, .d6, .d0⟩) (.c (.int .i64 1)), none⟩,
              ⟨some ⟨.d0, .d6, .d0⟩, .move (.t ⟨.d1, .d0, .d0⟩), none⟩]))))))))))
      (.region [⟨some ⟨.d1, .d0, .d1⟩, .bin .add (.t ⟨.d0, .d2, .d2⟩) (.c (.int .i64 1)), none⟩,
        ⟨some ⟨.d0, .d2, .d2⟩, .move (.t ⟨.d1, .d0, .d1⟩), none⟩])))))))
  (.seq (.region [⟨some ⟨.d0, .d0, .d2⟩, .move (.c (.int .i64 0)), none⟩])
  (.ret)))))
def r_custref_ProxyRight : List XR := [.tmp ⟨.d0, .d0, .d2⟩]
theorem ok_custref_ProxyRight : okC Try.prog Try.f12.ntmps (bodyOf Try.f12) x_custref_ProxyRight = true := by kernel_rfl
theorem okr_custref_ProxyRight : okRs Try.prog Try.f12.results.toList r_custref_ProxyRight = true := by kernel_rfl

/-- slices.Clone -/
def x_slices_Clone_api_Guarded : XC :=
  .seq (.region [⟨some ⟨.d0, .d0, .d2⟩, .move (.c (.slice none 0 0)), none⟩])
  (.seq (.seq (.region [⟨some ⟨.d0, .d0, .d3⟩, .move (.t ⟨.d0, .d0, .d0⟩), none⟩,
    ⟨some ⟨.d0, .d0, .d4⟩, .isnil false (.t ⟨.d0, .d0, .d3⟩), none⟩])
  (.cond (.t ⟨.d0, .d0, .d4⟩)
    (.seq (.region [⟨some ⟨.d0, .d0, .d2⟩, .move (.c (.slice none 0 0)), none⟩])
    (.ret))
    (.skip)))
  (.seq (.region [⟨some ⟨.d0, .d0, .d5⟩, .buildSlice 0 0 [.int .u32 0, .int .u32 0, .int .i64 0, .int .i64 0, .int .u32 0, .int .u32 0, .int .u32 0, .bool false, .int .i64 0] [], none⟩,
    ⟨some ⟨.d0, .d0, .d6⟩, .move (.t ⟨.d0, .d0, .d0⟩), none⟩,
    ⟨some ⟨.d0, .d0, .d7⟩, .append 1 9 48 (.t ⟨.d0, .d0, .d5⟩) (.t ⟨.d0, .d0, .d6⟩), none⟩,
    ⟨some ⟨.d0, .d0, .d2⟩, .move (.t ⟨.d0, .d0, .d7⟩), none⟩])
  (.ret)))
def r_slices_Clone_api_Guarded : List XR := [.tmp ⟨.d0, .d0, .d2⟩]
theorem ok_slices_Clone_api_Guarded : okC Try.prog Try.f13.ntmps (bodyOf Try.f13) x_slices_Clone_api_Guarded = true := by kernel_rfl
theorem okr_slices_Clone_api_Guarded : okRs Try.prog Try.f13.results.toList r_slices_Clone_api_Guarded = true := by kernel_rfl

/-- proxy.refused -/
def x_proxy_refused : XC :=
  .seq (.region [⟨some ⟨.d0, .d0, .d4⟩, .box 0 4 (.t ⟨.d0, .d0, .d0⟩), none⟩,
    ⟨some ⟨.d0, .d0, .d5⟩, .box 1 4 (.t ⟨.d0, .d0, .d1⟩), none⟩,
    ⟨some ⟨.d0, .d0, .d6⟩, .box 2 9 (.t ⟨.d0, .d0, .d2⟩), none⟩,
    ⟨some ⟨.d0, .d1, .d0⟩, .move (.c (.int .i64 0)), none⟩])
  (.seq (.seq (.region [⟨some ⟨.d0, .d1, .d6⟩, .load true 4 (.t ⟨.d0, .d0, .d4⟩), none⟩,
    ⟨some ⟨.d0, .d1, .d7⟩, .call 11 [(.t ⟨.d0, .d1, .d6⟩)], none⟩,
    ⟨some ⟨.d0, .d1, .d1⟩, .move (.t ⟨.d0, .d1, .d7⟩), none⟩])
  (.seq (.region [⟨some ⟨.d0, .d2, .d0⟩, .move (.t ⟨.d0, .d1, .d1⟩), none⟩,
    ⟨some ⟨.d0, .d2, .d1⟩, .bin .neq (.t ⟨.d0, .d2, .d0⟩) (.c (.int .i64 0)), none⟩])
  (.cond (.t ⟨.d0, .d2, .d1⟩)
    (.seq (.region [⟨some ⟨.d0, .d2, .d2⟩, .move (.t ⟨.d0, .d1, .d1⟩), none⟩,
      ⟨some ⟨.d0, .d1, .d0⟩, .move (.t ⟨.d0, .d2, .d2⟩), none⟩])
    (.ret))
    (.skip))))
  (.seq (.region [⟨some ⟨.d0, .d1, .d2⟩, .move (.c (.int .i64 0)), none⟩])
  (.seq (.seq (.region [⟨some ⟨.d0, .d2, .d3⟩, .fieldAddr 3 (.t ⟨.d0, .d0, .d4⟩), none⟩,
    ⟨some ⟨.d0, .d2, .d4⟩, .load false 1 (.t ⟨.d0, .d2, .d3⟩), none⟩,
    ⟨some ⟨.d0, .d2, .d5⟩, .len (.t ⟨.d0, .d2, .d4⟩), none⟩,
    ⟨some ⟨.d0, .d1, .d3⟩, .move (.t ⟨.d0, .d2, .d5⟩), none⟩])
  (.seq (.region [⟨some ⟨.d0, .d2, .d6⟩, .move (.t ⟨.d0, .d1, .d3⟩), none⟩,
    ⟨some ⟨.d0, .d2, .d7⟩, .bin .gtr (.t ⟨.d0, .d2, .d6⟩) (.c (.int .i64 0)), none⟩])
  (.cond (.t ⟨.d0, .d2, .d7⟩)
    (.region [⟨some ⟨.d0, .d3, .d0⟩, .fieldAddr 3 (.t ⟨.d0, .d0, .d4⟩), none⟩,
      ⟨some ⟨.d0, .d3, .d1⟩, .load false 1 (.t ⟨.d0, .d3, .d0⟩), none⟩,
      ⟨some ⟨.d0, .d3, .d2⟩, .move (.t ⟨.d0, .d1, .d3⟩), none⟩,
      ⟨some ⟨.d0, .d3, .d3⟩, .bin .sub (.t ⟨.d0, .d3, .d2⟩) (.c (.int .i64 1)), none⟩,
      ⟨some ⟨.d0, .d3, .d4⟩, .indexSl 9 (.t ⟨.d0, .d3, .d1⟩) (.t ⟨.d0, .d3, .d3⟩), none⟩,
      ⟨some ⟨.d0, .d3, .d5⟩, .fieldAddr 8 (.t ⟨.d0, .d3, .d4⟩), none⟩,
      ⟨some ⟨.d0, .d3, .d6⟩, .load false 1 (.t ⟨.d0, .d3, .d5⟩), none⟩,
      ⟨some ⟨.d0, .d1, .d2⟩, .move (.t ⟨.d0, .d3, .d6⟩), none⟩])
    (.skip))))
  (.seq (.seq (.region [⟨some ⟨.d0, .d3, .d7⟩, .fieldAddr 2 (.t ⟨.d0, .d0, .d5⟩), none⟩,
    ⟨some ⟨.d0, .d4, .d0⟩, .load false 1 (.t ⟨.d0, .d3, .d7⟩), none⟩,
    ⟨some ⟨.d0, .d4, .d1⟩, .call 37 [(.t ⟨.d0, .d4, .d0⟩)], none⟩,
    ⟨some ⟨.d0, .d4, .d2⟩, .un .not (.t ⟨.d0, .d4, .d1⟩), none⟩,
    ⟨some ⟨.d0, .d4, .d3⟩, .move (.t ⟨.d0, .d4, .d2⟩), none⟩,
    ⟨some ⟨.d0, .d4, .d4⟩, .fieldAddr 3 (.t ⟨.d0, .d0, .d5⟩), some (⟨.d0, .d4, .d3⟩, false)⟩,
    ⟨some ⟨.d0, .d4, .d5⟩, .load false 1 (.t ⟨.d0, .d4, .d4⟩), some (⟨.d0, .d4, .d3⟩, false)⟩,
    ⟨some ⟨.d0, .d4, .d6⟩, .call 37 [(.t ⟨.d0, .d4, .d5⟩)], some (⟨.d0, .d4, .d3⟩, false)⟩,
    ⟨some ⟨.d0, .d4, .d7⟩, .un .not (.t ⟨.d0, .d4, .d6⟩), some (⟨.d0, .d4, .d3⟩, false)⟩,
    ⟨some ⟨.d0, .d5, .d0⟩, .pick (.t ⟨.d0, .d4, .d3⟩) (.c (.bool true)) (.t ⟨.d0, .d4, .d7⟩), none⟩,
    ⟨some ⟨.d0, .d5, .d1⟩, .move (.t ⟨.d0, .d5, .d0⟩), none⟩,
    ⟨some ⟨.d0, .d5, .d2⟩, .move (.t ⟨.d0, .d0, .d3⟩), some (⟨.d0, .d5, .d1⟩, false)⟩,
    ⟨some ⟨.d0, .d5, .d3⟩, .move (.t ⟨.d0, .d1, .d2⟩), some (⟨.d0, .d5, .d1⟩, false)⟩,
    ⟨some ⟨.d0, .d5, .d4⟩, .bin .lss (.t ⟨.d0, .d5, .d2⟩) (.t ⟨.d0, .d5, .d3⟩), some (⟨.d0, .d5, .d1⟩, false)⟩,
    ⟨some ⟨.d0, .d5, .d5⟩, .pick (.t ⟨.d0, .d5, .d1⟩) (.c (.bool true)) (.t ⟨.d0, .d5, .d4⟩), none⟩,
    ⟨some ⟨.d0, .d5, .d6⟩, .move (.t ⟨.d0, .d5, .d5⟩), none⟩,
    ⟨some ⟨.d0, .d5, .d7⟩, .move (.t ⟨.d0, .d0, .d3⟩), some (⟨.d0, .d5, .d6⟩, false)⟩,
    ⟨some ⟨.d0, .d6, .d0⟩, .bin .gtr (.t ⟨.d0, .d5, .d7⟩) (.c (.int .i64 1099511627776)), some (⟨.d0, .d5, .d6⟩, false)⟩,
    ⟨some ⟨.d0, .d6, .d1⟩, .pick (.t ⟨.d0, .d5, .d6⟩) (.c (.bool true)) (.t ⟨.d0, .d6, .d0⟩), none⟩,
    ⟨some ⟨.d0, .d6, .d2⟩, .move (.t ⟨.d0, .d6, .d1⟩), none⟩,
    ⟨some ⟨.d0, .d6, .d3⟩, .fieldAddr 0 (.t ⟨.d0, .d0, .d6⟩), some (⟨.d0, .d6, .d2⟩, false)⟩,
    ⟨some ⟨.d0, .d6, .d4⟩, .load false 1 (.t ⟨.d0, .d6, .d3⟩), some (⟨.d0, .d6, .d2⟩, false)⟩,
    ⟨some ⟨.d0, .d6, .d5⟩, .fieldAddr 2 (.t ⟨.d0, .d0, .d5⟩), some (⟨.d0, .d6, .d2⟩, false)⟩,
    ⟨some ⟨.d0, .d6, .d6⟩, .load false 1 (.t ⟨.d0, .d6, .d5⟩), some (⟨.d0, .d6, .d2⟩, false)⟩,
    ⟨some ⟨.d0, .d6, .d7⟩, .bin .neq (.t ⟨.d0, .d6, .d4⟩) (.t ⟨.d0, .d6, .d6⟩), some (⟨.d0, .d6, .d2⟩, false)⟩,
    ⟨some ⟨.d0, .d7, .d0⟩, .pick (.t ⟨.d0, .d6, .d2⟩) (.c (.bool true)) (.t ⟨.d0, .d6, .d7⟩), none⟩,
    ⟨some ⟨.d0, .d7, .d1⟩, .move (.t ⟨.d0, .d7, .d0⟩), none⟩,
    ⟨some ⟨.d0, .d7, .d2⟩, .fieldAddr 1 (.t ⟨.d0, .d0, .d6⟩), some (⟨.d0, .d7, .d1⟩, false)⟩,
    ⟨some ⟨.d0, .d7, .d3⟩, .load false 1 (.t ⟨.d0, .d7, .d2⟩), some (⟨.d0, .d7, .d1⟩, false)⟩,
    ⟨some ⟨.d0, .d7, .d4⟩, .fieldAddr 3 (.t ⟨.d0, .d0, .d5⟩), some (⟨.d0, .d7, .d1⟩, false)⟩,
    ⟨some ⟨.d0, .d7, .d5⟩, .load false 1 (.t ⟨.d0, .d7, .d4⟩), some (⟨.d0, .d7, .d1⟩, false)⟩,
    ⟨some ⟨.d0, .d7, .d6⟩, .bin .neq (.t ⟨.d0, .d7, .d3⟩) (.t ⟨.d0, .d7, .d5⟩), some (⟨.d0, .d7, .d1⟩, false)⟩,
    ⟨some ⟨.d0, .d7, .d7⟩, .pick (.t ⟨.d0, .d7, .d1⟩) (.c (.bool true)) (.t ⟨.d0, .d7, .d6⟩), none⟩])
  (.cond (.t ⟨.d0, .d7, .d7⟩)
    (.seq (.region [⟨some ⟨.d0, .d1, .d0⟩, .move (.c (.int .i64 1)), none⟩])
    (.ret))
    (.skip)))
  (.seq (.region [⟨some ⟨.d1, .d0, .d1⟩, .load true 9 (.t ⟨.d0, .d0, .d6⟩), none⟩,
    ⟨some ⟨.d1, .d0, .d2⟩, .fieldAddr 0 (.t ⟨.d0, .d0, .d5⟩), none⟩,
    ⟨some ⟨.d1, .d0, .d3⟩, .load false 1 (.t ⟨.d1, .d0, .d2⟩), none⟩,
    ⟨some ⟨.d1, .d0, .d4⟩, .fieldAddr 1 (.t ⟨.d0, .d0, .d5⟩), none⟩,
    ⟨some ⟨.d1, .d0, .d5⟩, .load false 1 (.t ⟨.d1, .d0, .d4⟩), none⟩,
    ⟨some ⟨.d1, .d0, .d6⟩, .call 40 [(.t ⟨.d1, .d0, .d1⟩), (.t ⟨.d1, .d0, .d3⟩), (.t ⟨.d1, .d0, .d5⟩)], none⟩,
    ⟨some ⟨.d1, .d0, .d0⟩, .move (.t ⟨.d1, .d0, .d6⟩), none⟩,
    ⟨some ⟨.d1, .d0, .d7⟩, .extract 0 (.t ⟨.d1, .d0, .d0⟩), none⟩,
    ⟨some ⟨.d1, .d1, .d0⟩, .extract 1 (.t ⟨.d1, .d0, .d0⟩), none⟩,
    ⟨some ⟨.d0, .d1, .d4⟩, .move (.t ⟨.d1, .d0, .d7⟩), none⟩,
    ⟨some ⟨.d0, .d1, .d5⟩, .move (.t ⟨.d1, .d1, .d0⟩), none⟩])
  (.seq (.region [⟨some ⟨.d1, .d1, .d1⟩, .move (.t ⟨.d0, .d1, .d5⟩), none⟩,
    ⟨some ⟨.d0, .d1, .d0⟩, .move (.t ⟨.d1, .d1, .d1⟩), none⟩])
  (.ret)))))))
def r_proxy_refused : List XR := [.tmp ⟨.d0, .d1, .d0⟩]
theorem ok_proxy_refused : okC Try.prog Try.f14.ntmps (bodyOf Try.f14) x_proxy_refused = true := by kernel_rfl
theorem okr_proxy_refused : okRs Try.prog Try.f14.results.toList r_proxy_refused = true := by kernel_rfl

/-- proxy.begun -/
def x_proxy_begun : XC :=
  .seq (.region [⟨some ⟨.d0, .d0, .d2⟩, .box 0 4 (.t ⟨.d0, .d0, .d0⟩), none⟩,
    ⟨some ⟨.d0, .d0, .d3⟩, .box 1 1 (.t ⟨.d0, .d0, .d1⟩), none⟩,
    ⟨some ⟨.d0, .d0, .d4⟩, .move (.c (.pointer none)), none⟩])
  (.seq (.region [⟨some ⟨.d0, .d0, .d5⟩, .fieldAddr 3 (.t ⟨.d0, .d0, .d2⟩), none⟩,
    ⟨some ⟨.d0, .d0, .d6⟩, .load false 1 (.t ⟨.d0, .d0, .d5⟩), none⟩,
    ⟨some ⟨.d0, .d0, .d7⟩, .call 13 [(.t ⟨.d0, .d0, .d6⟩)], none⟩,
    ⟨some ⟨.d0, .d1, .d0⟩, .mkfn 42 [] [(.t ⟨.d0, .d0, .d3⟩)], none⟩,
    ⟨some ⟨.d0, .d1, .d1⟩, .call 41 [(.t ⟨.d0, .d0, .d7⟩), (.t ⟨.d0, .d1, .d0⟩)], none⟩,
    ⟨some ⟨.d0, .d1, .d2⟩, .fieldAddr 3 (.t ⟨.d0, .d0, .d2⟩), none⟩,
    ⟨none, .store 1 (.t ⟨.d0, .d1, .d2⟩) (.t ⟨.d0, .d1, .d1⟩), none⟩])
  (.seq (.region [⟨some ⟨.d0, .d1, .d3⟩, .load true 4 (.t ⟨.d0, .d0, .d2⟩), none⟩,
    ⟨some ⟨.d0, .d1, .d4⟩, .load false 1 (.t ⟨.d0, .d0, .d3⟩), none⟩,
    ⟨some ⟨.d0, .d1, .d5⟩, .build [.int .u64 0, .int .u64 0, .int .i64 0, .slice none 0 0, .int .i64 0, .slice none 0 0, .slice none 0 0] [(0, 4, (.t ⟨.d0, .d1, .d3⟩)), (4, 1, (.t ⟨.d0, .d1, .d4⟩))], none⟩,
    ⟨some ⟨.d0, .d1, .d6⟩, .box 2 7 (.t ⟨.d0, .d1, .d5⟩), none⟩,
    ⟨some ⟨.d0, .d0, .d4⟩, .move (.t ⟨.d0, .d1, .d6⟩), none⟩])
  (.ret)))
def r_proxy_begun : List XR := [.tmp ⟨.d0, .d0, .d4⟩]
theorem ok_proxy_begun : okC Try.prog Try.f15.ntmps (bodyOf Try.f15) x_proxy_begun = true := by kernel_rfl
theorem okr_proxy_begun : okRs Try.prog Try.f15.results.toList r_proxy_begun = true := by kernel_rfl

/-- proxy.place -/
def x_proxy_place : XC :=
  .seq (.region [⟨some ⟨.d0, .d0, .d2⟩, .box 0 4 (.t ⟨.d0, .d0, .d0⟩), none⟩,
    ⟨some ⟨.d0, .d0, .d3⟩, .box 1 4 (.t ⟨.d0, .d0, .d1⟩), none⟩,
    ⟨some ⟨.d0, .d0, .d4⟩, .move (.c (.int .i64 0)), none⟩])
  (.seq (.region [⟨some ⟨.d0, .d0, .d5⟩, .fieldAddr 3 (.t ⟨.d0, .d0, .d2⟩), none⟩,
    ⟨some ⟨.d0, .d0, .d6⟩, .load false 1 (.t ⟨.d0, .d0, .d5⟩), none⟩,
    ⟨some ⟨.d0, .d0, .d7⟩, .mkfn 45 [] [(.t ⟨.d0, .d0, .d3⟩)], none⟩,
    ⟨some ⟨.d0, .d1, .d0⟩, .call 44 [(.t ⟨.d0, .d0, .d6⟩), (.t ⟨.d0, .d0, .d7⟩)], none⟩,
    ⟨some ⟨.d0, .d0, .d4⟩, .move (.t ⟨.d0, .d1, .d0⟩), none⟩])
  (.ret))
def r_proxy_place : List XR := [.tmp ⟨.d0, .d0, .d4⟩]
theorem ok_proxy_place : okC Try.prog Try.f16.ntmps (bodyOf Try.f16) x_proxy_place = true := by kernel_rfl
theorem okr_proxy_place : okRs Try.prog Try.f16.results.toList r_proxy_place = true := by kernel_rfl

/-- proxy.turned -/
def x_proxy_turned : XC :=
  .seq (.region [⟨some ⟨.d0, .d0, .d1⟩, .box 0 4 (.t ⟨.d0, .d0, .d0⟩), none⟩,
    ⟨some ⟨.d0, .d0, .d2⟩, .alloc 1 [.int .u32 0, .int .u32 0, .int .i64 0, .int .i64 0], none⟩])
  (.seq (.region [⟨some ⟨.d0, .d0, .d3⟩, .fieldAddr 1 (.t ⟨.d0, .d0, .d1⟩), none⟩,
    ⟨some ⟨.d0, .d0, .d4⟩, .load false 1 (.t ⟨.d0, .d0, .d3⟩), none⟩,
    ⟨some ⟨.d0, .d0, .d5⟩, .fieldAddr 0 (.t ⟨.d0, .d0, .d1⟩), none⟩,
    ⟨some ⟨.d0, .d0, .d6⟩, .load false 1 (.t ⟨.d0, .d0, .d5⟩), none⟩,
    ⟨some ⟨.d0, .d0, .d7⟩, .fieldAddr 3 (.t ⟨.d0, .d0, .d1⟩), none⟩,
    ⟨some ⟨.d0, .d1, .d0⟩, .load false 1 (.t ⟨.d0, .d0, .d7⟩), none⟩,
    ⟨some ⟨.d0, .d1, .d1⟩, .fieldAddr 2 (.t ⟨.d0, .d0, .d1⟩), none⟩,
    ⟨some ⟨.d0, .d1, .d2⟩, .load false 1 (.t ⟨.d0, .d1, .d1⟩), none⟩,
    ⟨some ⟨.d0, .d1, .d3⟩, .build [.int .u32 0, .int .u32 0, .int .i64 0, .int .i64 0] [(0, 1, (.t ⟨.d0, .d0, .d4⟩)), (1, 1, (.t ⟨.d0, .d0, .d6⟩)), (2, 1, (.t ⟨.d0, .d1, .d0⟩)), (3, 1, (.t ⟨.d0, .d1, .d2⟩))], none⟩,
    ⟨none, .store 4 (.t ⟨.d0, .d0, .d2⟩) (.t ⟨.d0, .d1, .d3⟩), none⟩])
  (.ret))
def r_proxy_turned : List XR := [.cell ⟨.d0, .d0, .d2⟩ true 4]
theorem ok_proxy_turned : okC Try.prog Try.f17.ntmps (bodyOf Try.f17) x_proxy_turned = true := by kernel_rfl
theorem okr_proxy_turned : okRs Try.prog Try.f17.results.toList r_proxy_turned = true := by kernel_rfl

/-- proxy.guard).fromServer -/
def x_proxy_guard_fromServer : XC :=
  .seq (.region [⟨some ⟨.d0, .d0, .d5⟩, .box 2 9 (.t ⟨.d0, .d0, .d2⟩), none⟩])
  (.seq (.region [⟨some ⟨.d0, .d1, .d0⟩, .move (.t ⟨.d0, .d0, .d0⟩), none⟩,
    ⟨some ⟨.d0, .d1, .d1⟩, .nilCheck (.t ⟨.d0, .d1, .d0⟩), none⟩,
    ⟨some ⟨.d0, .d1, .d2⟩, .fieldAddr 0 (.t ⟨.d0, .d1, .d1⟩), none⟩,
    ⟨some ⟨.d0, .d1, .d3⟩, .fieldAddr 3 (.t ⟨.d0, .d1, .d2⟩), none⟩,
    ⟨some ⟨.d0, .d1, .d4⟩, .load false 1 (.t ⟨.d0, .d1, .d3⟩), none⟩,
    ⟨some ⟨.d0, .d1, .d5⟩, .move (.t ⟨.d0, .d0, .d1⟩), none⟩,
    ⟨some ⟨.d0, .d1, .d6⟩, .indexSl 9 (.t ⟨.d0, .d1, .d4⟩) (.t ⟨.d0, .d1, .d5⟩), none⟩,
    ⟨some ⟨.d0, .d1, .d7⟩, .load true 9 (.t ⟨.d0, .d1, .d6⟩), none⟩,
    ⟨some ⟨.d0, .d0, .d6⟩, .alloc 3 [.int .u32 0, .int .u32 0, .int .i64 0, .int .i64 0, .int .u32 0, .int .u32 0, .int .u32 0, .bool false, .int .i64 0], none⟩,
    ⟨none, .store 9 (.t ⟨.d0, .d0, .d6⟩) (.t ⟨.d0, .d1, .d7⟩), none⟩])
  (.seq (.region [⟨some ⟨.d0, .d2, .d0⟩, .load true 9 (.t ⟨.d0, .d0, .d5⟩), none⟩,
    ⟨some ⟨.d0, .d2, .d1⟩, .fieldAddr 6 (.t ⟨.d0, .d0, .d6⟩), none⟩,
    ⟨some ⟨.d0, .d2, .d2⟩, .load false 1 (.t ⟨.d0, .d2, .d1⟩), none⟩,
    ⟨some ⟨.d0, .d2, .d3⟩, .call 46 [(.t ⟨.d0, .d2, .d0⟩), (.t ⟨.d0, .d2, .d2⟩), (.c (.int .u32 0))], none⟩,
    ⟨some ⟨.d0, .d0, .d7⟩, .alloc 4 [.int .i64 0, .int .i64 0, .int .u32 0, .int .u32 0, .int .i64 0, .int .i64 0, .int .i64 0, .slice none 0 0, .string { data := #[] }], none⟩,
    ⟨none, .store 9 (.t ⟨.d0, .d0, .d7⟩) (.t ⟨.d0, .d2, .d3⟩), none⟩])
  (.block 0
    (.seq (.region [⟨some ⟨.d0, .d2, .d5⟩, .move (.t ⟨.d0, .d0, .d0⟩), none⟩,
      ⟨some ⟨.d0, .d2, .d6⟩, .load true 9 (.t ⟨.d0, .d0, .d5⟩), none⟩,
      ⟨some ⟨.d0, .d2, .d7⟩, .call 47 [(.t ⟨.d0, .d2, .d5⟩), (.t ⟨.d0, .d2, .d6⟩), (.c (.int .i64 4))], none⟩,
      ⟨some ⟨.d0, .d2, .d4⟩, .move (.t ⟨.d0, .d2, .d7⟩), none⟩])
    (.cond (.t ⟨.d0, .d2, .d4⟩)
      (.seq (.region [⟨some ⟨.d0, .d3, .d0⟩, .move (.t ⟨.d0, .d0, .d0⟩), none⟩,
        ⟨some ⟨.d0, .d3, .d1⟩, .move (.t ⟨.d0, .d0, .d1⟩), none⟩,
        ⟨some ⟨.d0, .d3, .d2⟩, .call 48 [(.t ⟨.d0, .d3, .d0⟩), (.t ⟨.d0, .d3, .d1⟩)], none⟩])
      (.seq (.seq (.region [⟨some ⟨.d0, .d3, .d3⟩, .fieldAddr 7 (.t ⟨.d0, .d0, .d6⟩), none⟩,
        ⟨some ⟨.d0, .d3, .d4⟩, .load false 1 (.t ⟨.d0, .d3, .d3⟩), none⟩,
        ⟨some ⟨.d0, .d3, .d5⟩, .un .not (.t ⟨.d0, .d3, .d4⟩), none⟩])
      (.cond (.t ⟨.d0, .d3, .d5⟩)
        (.region [⟨some ⟨.d0, .d3, .d6⟩, .fieldAddr 0 (.t ⟨.d0, .d0, .d5⟩), none⟩,
          ⟨some ⟨.d0, .d3, .d7⟩, .load false 1 (.t ⟨.d0, .d3, .d6⟩), none⟩,
          ⟨some ⟨.d0, .d4, .d0⟩, .fieldAddr 1 (.t ⟨.d0, .d0, .d5⟩), none⟩,
          ⟨some ⟨.d0, .d4, .d1⟩, .load false 1 (.t ⟨.d0, .d4, .d0⟩), none⟩,
          ⟨some ⟨.d0, .d4, .d2⟩, .fieldAddr 5 (.t ⟨.d0, .d0, .d6⟩), none⟩,
          ⟨some ⟨.d0, .d4, .d3⟩, .load false 1 (.t ⟨.d0, .d4, .d2⟩), none⟩,
          ⟨some ⟨.d0, .d4, .d4⟩, .bin .add (.t ⟨.d0, .d4, .d3⟩) (.c (.int .u32 1)), none⟩,
          ⟨some ⟨.d0, .d4, .d5⟩, .build [.int .i64 0, .int .i64 0, .int .u32 0, .int .u32 0, .int .i64 0, .int .i64 0, .int .i64 0, .slice none 0 0, .string { data := #[] }] [(0, 1, (.t ⟨.d0, .d3, .d7⟩)), (1, 1, (.t ⟨.d0, .d4, .d1⟩)), (2, 1, (.t ⟨.d0, .d4, .d4⟩)), (4, 1, (.c (.int .i64 4)))], none⟩,
          ⟨none, .store 9 (.t ⟨.d0, .d0, .d7⟩) (.t ⟨.d0, .d4, .d5⟩), none⟩])
        (.skip)))
      (.regionD [0, 0, 2, 6, 14, 0, 32, 126, 255, 511, 1023] [⟨some ⟨.d0, .d4, .d6⟩, .move (.t ⟨.d0, .d0, .d0⟩), none⟩,
        ⟨some ⟨.d0, .d4, .d7⟩, .move (.t ⟨.d0, .d0, .d0⟩), none⟩,
        ⟨some ⟨.d0, .d5, .d0⟩, .nilCheck (.t ⟨.d0, .d4, .d7⟩), none⟩,
        ⟨some ⟨.d0, .d5, .d1⟩, .fieldAddr 5 (.t ⟨.d0, .d5, .d0⟩), none⟩,
        ⟨some ⟨.d0, .d5, .d2⟩, .load false 1 (.t ⟨.d0, .d5, .d1⟩), none⟩,
        ⟨some ⟨.d0, .d5, .d3⟩, .load true 9 (.t ⟨.d0, .d0, .d7⟩), none⟩,
        ⟨some ⟨.d0, .d5, .d4⟩, .buildSlice 5 1 [.int .i64 0, .int .i64 0, .int .u32 0, .int .u32 0, .int .i64 0, .int .i64 0, .int .i64 0, .slice none 0 0, .string { data := #[] }] [(0, (.t ⟨.d0, .d5, .d3⟩))], none⟩,
        ⟨some ⟨.d0, .d5, .d5⟩, .append 6 9 88 (.t ⟨.d0, .d5, .d2⟩) (.t ⟨.d0, .d5, .d4⟩), none⟩,
        ⟨some ⟨.d0, .d5, .d6⟩, .nilCheck (.t ⟨.d0, .d4, .d6⟩), none⟩,
        ⟨some ⟨.d0, .d5, .d7⟩, .fieldAddr 5 (.t ⟨.d0, .d5, .d6⟩), none⟩,
        ⟨none, .store 1 (.t ⟨.d0, .d5, .d7⟩) (.t ⟨.d0, .d5, .d5⟩), none⟩])))
      (.seq (.region [⟨some ⟨.d0, .d6, .d1⟩, .fieldAddr 7 (.t ⟨.d0, .d0, .d6⟩), none⟩,
        ⟨some ⟨.d0, .d6, .d2⟩, .load false 1 (.t ⟨.d0, .d6, .d1⟩), none⟩,
        ⟨some ⟨.d0, .d6, .d3⟩, .move (.t ⟨.d0, .d6, .d2⟩), none⟩,
        ⟨some ⟨.d0, .d6, .d4⟩, .move (.t ⟨.d0, .d0, .d0⟩), some (⟨.d0, .d6, .d3⟩, true)⟩,
        ⟨some ⟨.d0, .d6, .d5⟩, .load true 9 (.t ⟨.d0, .d0, .d5⟩), some (⟨.d0, .d6, .d3⟩, true)⟩,
        ⟨some ⟨.d0, .d6, .d6⟩, .call 47 [(.t ⟨.d0, .d6, .d4⟩), (.t ⟨.d0, .d6, .d5⟩), (.c (.int .i64 2))], some (⟨.d0, .d6, .d3⟩, true)⟩,
        ⟨some ⟨.d0, .d6, .d7⟩, .un .not (.t ⟨.d0, .d6, .d6⟩), some (⟨.d0, .d6, .d3⟩, true)⟩,
        ⟨some ⟨.d0, .d7, .d0⟩, .pick (.t ⟨.d0, .d6, .d3⟩) (.t ⟨.d0, .d6, .d7⟩) (.c (.bool false)), none⟩,
        ⟨some ⟨.d0, .d6, .d0⟩, .move (.t ⟨.d0, .d7, .d0⟩), none⟩])
      (.cond (.t ⟨.d0, .d6, .d0⟩)
        (.seq (.region [⟨some ⟨.d0, .d7, .d1⟩, .move (.t ⟨.d0, .d0, .d0⟩), none⟩,
          ⟨some ⟨.d0, .d7, .d2⟩, .move (.t ⟨.d0, .d0, .d1⟩), none⟩,
          ⟨some ⟨.d0, .d7, .d3⟩, .load true 9 (.t ⟨.d0, .d0, .d6⟩), none⟩,
          ⟨some ⟨.d0, .d7, .d4⟩, .call 49 [(.t ⟨.d0, .d7, .d1⟩), (.t ⟨.d0, .d7, .d2⟩), (.t ⟨.d0, .d7, .d3⟩)], none⟩])
        (.regionD [0, 0, 2, 6, 14, 0, 32, 126, 255, 511, 1023] [⟨some ⟨.d0, .d7, .d5⟩, .move (.t ⟨.d0, .d0, .d0⟩), none⟩,
          ⟨some ⟨.d0, .d7, .d6⟩, .move (.t ⟨.d0, .d0, .d0⟩), none⟩,
          ⟨some ⟨.d0, .d7, .d7⟩, .nilCheck (.t ⟨.d0, .d7, .d6⟩), none⟩,
          ⟨some ⟨.d1, .d0, .d0⟩, .fieldAddr 5 (.t ⟨.d0, .d7, .d7⟩), none⟩,
          ⟨some ⟨.d1, .d0, .d1⟩, .load false 1 (.t ⟨.d1, .d0, .d0⟩), none⟩,
          ⟨some ⟨.d1, .d0, .d2⟩, .load true 9 (.t ⟨.d0, .d0, .d7⟩), none⟩,
          ⟨some ⟨.d1, .d0, .d3⟩, .buildSlice 7 1 [.int .i64 0, .int .i64 0, .int .u32 0, .int .u32 0, .int .i64 0, .int .i64 0, .int .i64 0, .slice none 0 0, .string { data := #[] }] [(0, (.t ⟨.d1, .d0, .d2⟩))], none⟩,
          ⟨some ⟨.d1, .d0, .d4⟩, .append 8 9 88 (.t ⟨.d1, .d0, .d1⟩) (.t ⟨.d1, .d0, .d3⟩), none⟩,
          ⟨some ⟨.d1, .d0, .d5⟩, .nilCheck (.t ⟨.d0, .d7, .d5⟩), none⟩,
          ⟨some ⟨.d1, .d0, .d6⟩, .fieldAddr 5 (.t ⟨.d1, .d0, .d5⟩), none⟩,
          ⟨none, .store 1 (.t ⟨.d1, .d0, .d6⟩) (.t ⟨.d1, .d0, .d4⟩), none⟩]))
        (.seq (.region [⟨some ⟨.d1, .d1, .d0⟩, .fieldAddr 7 (.t ⟨.d0, .d0, .d6⟩), none⟩,
          ⟨some ⟨.d1, .d1, .d1⟩, .load false 1 (.t ⟨.d1, .d1, .d0⟩), none⟩,
          ⟨some ⟨.d1, .d1, .d2⟩, .un .not (.t ⟨.d1, .d1, .d1⟩), none⟩,
          ⟨some ⟨.d1, .d1, .d3⟩, .move (.t ⟨.d1, .d1, .d2⟩), none⟩,
          ⟨some ⟨.d1, .d1, .d4⟩, .move (.t ⟨.d0, .d0, .d0⟩), some (⟨.d1, .d1, .d3⟩, true)⟩,
          ⟨some ⟨.d1, .d1, .d5⟩, .load true 9 (.t ⟨.d0, .d0, .d5⟩), some (⟨.d1, .d1, .d3⟩, true)⟩,
          ⟨some ⟨.d1, .d1, .d6⟩, .call 47 [(.t ⟨.d1, .d1, .d4⟩), (.t ⟨.d1, .d1, .d5⟩), (.c (.int .i64 2))], some (⟨.d1, .d1, .d3⟩, true)⟩,
          ⟨some ⟨.d1, .d1, .d7⟩, .pick (.t ⟨.d1, .d1, .d3⟩) (.t ⟨.d1, .d1, .d6⟩) (.c (.bool false)), none⟩,
          ⟨some ⟨.d1, .d2, .d0⟩, .move (.t ⟨.d1, .d1, .d7⟩), none⟩,
          ⟨some ⟨.d1, .d2, .d1⟩, .move (.t ⟨.d0, .d0, .d0⟩), some (⟨.d1, .d2, .d0⟩, true)⟩,
          ⟨some ⟨.d1, .d2, .d2⟩, .load true 9 (.t ⟨.d0, .d0, .d5⟩), some (⟨.d1, .d2, .d0⟩, true)⟩,
          ⟨some ⟨.d1, .d2, .d3⟩, .call 47 [(.t ⟨.d1, .d2, .d1⟩), (.t ⟨.d1, .d2, .d2⟩), (.c (.int .i64 16))], some (⟨.d1, .d2, .d0⟩, true)⟩,
          ⟨some ⟨.d1, .d2, .d4⟩, .pick (.t ⟨.d1, .d2, .d0⟩) (.t ⟨.d1, .d2, .d3⟩) (.c (.bool false)), none⟩,
          ⟨some ⟨.d1, .d2, .d5⟩, .move (.t ⟨.d1, .d2, .d4⟩), none⟩,
          ⟨some ⟨.d1, .d2, .d6⟩, .fieldAddr 3 (.t ⟨.d0, .d0, .d5⟩), some (⟨.d1, .d2, .d5⟩, true)⟩,
          ⟨some ⟨.d1, .d2, .d7⟩, .load false 1 (.t ⟨.d1, .d2, .d6⟩), some (⟨.d1, .d2, .d5⟩, true)⟩,
          ⟨some ⟨.d1, .d3, .d0⟩, .fieldAddr 4 (.t ⟨.d0, .d0, .d6⟩), some (⟨.d1, .d2, .d5⟩, true)⟩,
          ⟨some ⟨.d1, .d3, .d1⟩, .load false 1 (.t ⟨.d1, .d3, .d0⟩), some (⟨.d1, .d2, .d5⟩, true)⟩,
          ⟨some ⟨.d1, .d3, .d2⟩, .bin .add (.t ⟨.d1, .d3, .d1⟩) (.c (.int .u32 1)), some (⟨.d1, .d2, .d5⟩, true)⟩,
          ⟨some ⟨.d1, .d3, .d3⟩, .bin .eql (.t ⟨.d1, .d2, .d7⟩) (.t ⟨.d1, .d3, .d2⟩), some (⟨.d1, .d2, .d5⟩, true)⟩,
          ⟨some ⟨.d1, .d3, .d4⟩, .pick (.t ⟨.d1, .d2, .d5⟩) (.t ⟨.d1, .d3, .d3⟩) (.c (.bool false)), none⟩,
          ⟨some ⟨.d1, .d0, .d7⟩, .move (.t ⟨.d1, .d3, .d4⟩), none⟩])
        (.cond (.t ⟨.d1, .d0, .d7⟩)
          (.seq (.regionD [0, 1, 0, 4, 15, 3, 35, 127, 255] [⟨some ⟨.d1, .d3, .d5⟩, .fieldAddr 5 (.t ⟨.d0, .d0, .d6⟩), none⟩,
            ⟨some ⟨.d1, .d3, .d6⟩, .load false 1 (.t ⟨.d1, .d3, .d5⟩), none⟩,
            ⟨some ⟨.d1, .d3, .d7⟩, .fieldAddr 2 (.t ⟨.d0, .d0, .d5⟩), none⟩,
            ⟨some ⟨.d1, .d4, .d0⟩, .load false 1 (.t ⟨.d1, .d3, .d7⟩), none⟩,
            ⟨some ⟨.d1, .d4, .d1⟩, .bin .sub (.t ⟨.d1, .d3, .d6⟩) (.t ⟨.d1, .d4, .d0⟩), none⟩,
            ⟨some ⟨.d1, .d4, .d2⟩, .fieldAddr 7 (.t ⟨.d0, .d0, .d6⟩), none⟩,
            ⟨none, .store 1 (.t ⟨.d1, .d4, .d2⟩) (.c (.bool true)), none⟩,
            ⟨some ⟨.d1, .d4, .d3⟩, .fieldAddr 6 (.t ⟨.d0, .d0, .d6⟩), none⟩,
            ⟨none, .store 1 (.t ⟨.d1, .d4, .d3⟩) (.t ⟨.d1, .d4, .d1⟩), none⟩])
          (.seq (.region [⟨some ⟨.d1, .d4, .d4⟩, .move (.t ⟨.d0, .d0, .d0⟩), none⟩,
            ⟨some ⟨.d1, .d4, .d5⟩, .move (.t ⟨.d0, .d0, .d1⟩), none⟩,
            ⟨some ⟨.d1, .d4, .d6⟩, .load true 9 (.t ⟨.d0, .d0, .d6⟩), none⟩,
            ⟨some ⟨.d1, .d4, .d7⟩, .call 49 [(.t ⟨.d1, .d4, .d4⟩), (.t ⟨.d1, .d4, .d5⟩), (.t ⟨.d1, .d4, .d6⟩)], none⟩])
          (.regionD [0, 0, 2, 6, 14, 0, 32, 0, 128, 0, 512, 0, 2048, 6144, 16352, 32736, 65534, 131071, 262143, 524287] [⟨some ⟨.d1, .d5, .d0⟩, .move (.t ⟨.d0, .d0, .d0⟩), none⟩,
            ⟨some ⟨.d1, .d5, .d1⟩, .move (.t ⟨.d0, .d0, .d0⟩), none⟩,
            ⟨some ⟨.d1, .d5, .d2⟩, .nilCheck (.t ⟨.d1, .d5, .d1⟩), none⟩,
            ⟨some ⟨.d1, .d5, .d3⟩, .fieldAddr 6 (.t ⟨.d1, .d5, .d2⟩), none⟩,
            ⟨some ⟨.d1, .d5, .d4⟩, .load false 1 (.t ⟨.d1, .d5, .d3⟩), none⟩,
            ⟨some ⟨.d1, .d5, .d5⟩, .fieldAddr 1 (.t ⟨.d0, .d0, .d5⟩), none⟩,
            ⟨some ⟨.d1, .d5, .d6⟩, .load false 1 (.t ⟨.d1, .d5, .d5⟩), none⟩,
            ⟨some ⟨.d1, .d5, .d7⟩, .fieldAddr 0 (.t ⟨.d0, .d0, .d5⟩), none⟩,
            ⟨some ⟨.d1, .d6, .d0⟩, .load false 1 (.t ⟨.d1, .d5, .d7⟩), none⟩,
            ⟨some ⟨.d1, .d6, .d1⟩, .fieldAddr 3 (.t ⟨.d0, .d0, .d5⟩), none⟩,
            ⟨some ⟨.d1, .d6, .d2⟩, .load false 1 (.t ⟨.d1, .d6, .d1⟩), none⟩,
            ⟨some ⟨.d1, .d6, .d3⟩, .fieldAddr 2 (.t ⟨.d0, .d0, .d5⟩), none⟩,
            ⟨some ⟨.d1, .d6, .d4⟩, .load false 1 (.t ⟨.d1, .d6, .d3⟩), none⟩,
            ⟨some ⟨.d1, .d6, .d5⟩, .bin .add (.t ⟨.d1, .d6, .d4⟩) (.c (.int .u32 1)), none⟩,
            ⟨some ⟨.d1, .d6, .d6⟩, .build [.int .i64 0, .int .i64 0, .int .u32 0, .int .u32 0, .int .i64 0, .int .i64 0, .int .i64 0, .slice none 0 0, .string { data := #[] }] [(0, 1, (.t ⟨.d1, .d5, .d6⟩)), (1, 1, (.t ⟨.d1, .d6, .d0⟩)), (2, 1, (.t ⟨.d1, .d6, .d2⟩)), (3, 1, (.t ⟨.d1, .d6, .d5⟩)), (4, 1, (.c (.int .i64 16))), (5, 1, (.c (.int .i64 65535)))], none⟩,
            ⟨some ⟨.d1, .d6, .d7⟩, .buildSlice 9 1 [.int .i64 0, .int .i64 0, .int .u32 0, .int .u32 0, .int .i64 0, .int .i64 0, .int .i64 0, .slice none 0 0, .string { data := #[] }] [(0, (.t ⟨.d1, .d6, .d6⟩))], none⟩,
            ⟨some ⟨.d1, .d7, .d0⟩, .append 10 9 88 (.t ⟨.d1, .d5, .d4⟩) (.t ⟨.d1, .d6, .d7⟩), none⟩,
            ⟨some ⟨.d1, .d7, .d1⟩, .nilCheck (.t ⟨.d1, .d5, .d0⟩), none⟩,
            ⟨some ⟨.d1, .d7, .d2⟩, .fieldAddr 6 (.t ⟨.d1, .d7, .d1⟩), none⟩,
            ⟨none, .store 1 (.t ⟨.d1, .d7, .d2⟩) (.t ⟨.d1, .d7, .d0⟩), none⟩])))
          (.skip))))))))))
def r_proxy_guard_fromServer : List XR := []
theorem ok_proxy_guard_fromServer : okC Try.prog Try.f18.ntmps (bodyOf Try.f18) x_proxy_guard_fromServer = true := by kernel_rfl
theorem okr_proxy_guard_fromServer : okRs Try.prog Try.f18.results.toList r_proxy_guard_fromServer = true := by kernel_rfl

/-- custref.ProxyRefused -/
def x_custref_ProxyRefused : XC :=
  .seq (.region [⟨some ⟨.d0, .d0, .d4⟩, .box 0 4 (.t ⟨.d0, .d0, .d0⟩), none⟩,
    ⟨some ⟨.d0, .d0, .d5⟩, .box 1 4 (.t ⟨.d0, .d0, .d1⟩), none⟩,
    ⟨some ⟨.d0, .d0, .d6⟩, .box 2 9 (.t ⟨.d0, .d0, .d2⟩), none⟩,
    ⟨some ⟨.d0, .d1, .d0⟩, .move (.c (.int .i64 0)), none⟩])
  (.seq (.seq (.region [⟨some ⟨.d0, .d1, .d7⟩, .load true 4 (.t ⟨.d0, .d0, .d4⟩), none⟩,
    ⟨some ⟨.d0, .d2, .d0⟩, .call 12 [(.t ⟨.d0, .d1, .d7⟩)], none⟩,
    ⟨some ⟨.d0, .d1, .d1⟩, .move (.t ⟨.d0, .d2, .d0⟩), none⟩])
  (.seq (.region [⟨some ⟨.d0, .d2, .d1⟩, .move (.t ⟨.d0, .d1, .d1⟩), none⟩,
    ⟨some ⟨.d0, .d2, .d2⟩, .bin .neq (.t ⟨.d0, .d2, .d1⟩) (.c (.int .i64 0)), none⟩])
  (.cond (.t ⟨.d0, .d2, .d2⟩)
    (.seq (.region [⟨some ⟨.d0, .d2, .d3⟩, .move (.t ⟨.d0, .d1, .d1⟩), none⟩,
      ⟨some ⟨.d0, .d1, .d0⟩, .move (.t ⟨.d0, .d2, .d3⟩), none⟩])
    (.ret))
    (.skip))))
  (.seq (.region [⟨some ⟨.d0, .d1, .d2⟩, .move (.c (.int .i64 0)), none⟩])
  (.seq (.seq (.region [⟨some ⟨.d0, .d2, .d4⟩, .fieldAddr 3 (.t ⟨.d0, .d0, .d4⟩), none⟩,
    ⟨some ⟨.d0, .d2, .d5⟩, .load false 1 (.t ⟨.d0, .d2, .d4⟩), none⟩,
    ⟨some ⟨.d0, .d2, .d6⟩, .len (.t ⟨.d0, .d2, .d5⟩), none⟩,
    ⟨some ⟨.d0, .d2, .d7⟩, .move (.c (.int .i64 0)), none⟩])
  (.block 0
    (.loop
      (.seq (.region [⟨some ⟨.d0, .d3, .d0⟩, .bin .lss (.t ⟨.d0, .d2, .d7⟩) (.t ⟨.d0, .d2, .d6⟩), none⟩])
      (.seq (.cond (.t ⟨.d0, .d3, .d0⟩)
        (.skip)
        (.exit 0))
      (.seq (.block 1
        (.seq (.region [⟨some ⟨.d0, .d3, .d1⟩, .indexSl 9 (.t ⟨.d0, .d2, .d5⟩) (.t ⟨.d0, .d2, .d7⟩), none⟩,
          ⟨some ⟨.d0, .d3, .d2⟩, .load true 9 (.t ⟨.d0, .d3, .d1⟩), none⟩,
          ⟨some ⟨.d0, .d1, .d4⟩, .alloc 3 [.int .u32 0, .int .u32 0, .int .i64 0, .int .i64 0, .int .u32 0, .int .u32 0, .int .u32 0, .bool false, .int .i64 0], none⟩,
          ⟨none, .store 9 (.t ⟨.d0, .d1, .d4⟩) (.t ⟨.d0, .d3, .d2⟩), none⟩])
        (.region [⟨some ⟨.d0, .d3, .d3⟩, .fieldAddr 8 (.t ⟨.d0, .d1, .d4⟩), none⟩,
          ⟨some ⟨.d0, .d3, .d4⟩, .load false 1 (.t ⟨.d0, .d3, .d3⟩), none⟩,
          ⟨some ⟨.d0, .d1, .d2⟩, .move (.t ⟨.d0, .d3, .d4⟩), none⟩])))
      (.region [⟨some ⟨.d0, .d3, .d5⟩, .bin .add (.t ⟨.d0, .d2, .d7⟩) (.c (.int .i64 1)), none⟩,
        ⟨some ⟨.d0, .d2, .d7⟩, .move (.t ⟨.d0, .d3, .d5⟩), none⟩])))))))
  (.seq (.seq (.region [⟨some ⟨.d0, .d3, .d6⟩, .load true 4 (.t ⟨.d0, .d0, .d5⟩), none⟩,
    ⟨some ⟨.d0, .d3, .d7⟩, .call 39 [(.t ⟨.d0, .d3, .d6⟩)], none⟩,
    ⟨some ⟨.d0, .d4, .d0⟩, .un .not (.t ⟨.d0, .d3, .d7⟩), none⟩,
    ⟨some ⟨.d0, .d4, .d1⟩, .move (.t ⟨.d0, .d4, .d0⟩), none⟩,
    ⟨some ⟨.d0, .d4, .d2⟩, .move (.t ⟨.d0, .d0, .d3⟩), some (⟨.d0, .d4, .d1⟩, false)⟩,
    ⟨some ⟨.d0, .d4, .d3⟩, .move (.t ⟨.d0, .d1, .d2⟩), some (⟨.d0, .d4, .d1⟩, false)⟩,
    ⟨some ⟨.d0, .d4, .d4⟩, .call 38 [(.t ⟨.d0, .d4, .d2⟩), (.t ⟨.d0, .d4, .d3⟩), (.c (.int .i64 1099511627776))], some (⟨.d0, .d4, .d1⟩, false)⟩,
    ⟨some ⟨.d0, .d4, .d5⟩, .un .not (.t ⟨.d0, .d4, .d4⟩), some (⟨.d0, .d4, .d1⟩, false)⟩,
    ⟨some ⟨.d0, .d4, .d6⟩, .pick (.t ⟨.d0, .d4, .d1⟩) (.c (.bool true)) (.t ⟨.d0, .d4, .d5⟩), none⟩,
    ⟨some ⟨.d0, .d4, .d7⟩, .move (.t ⟨.d0, .d4, .d6⟩), none⟩,
    ⟨some ⟨.d0, .d5, .d0⟩, .fieldAddr 0 (.t ⟨.d0, .d0, .d6⟩), some (⟨.d0, .d4, .d7⟩, false)⟩,
    ⟨some ⟨.d0, .d5, .d1⟩, .load false 1 (.t ⟨.d0, .d5, .d0⟩), some (⟨.d0, .d4, .d7⟩, false)⟩,
    ⟨some ⟨.d0, .d5, .d2⟩, .fieldAddr 2 (.t ⟨.d0, .d0, .d5⟩), some (⟨.d0, .d4, .d7⟩, false)⟩,
    ⟨some ⟨.d0, .d5, .d3⟩, .load false 1 (.t ⟨.d0, .d5, .d2⟩), some (⟨.d0, .d4, .d7⟩, false)⟩,
    ⟨some ⟨.d0, .d5, .d4⟩, .bin .neq (.t ⟨.d0, .d5, .d1⟩) (.t ⟨.d0, .d5, .d3⟩), some (⟨.d0, .d4, .d7⟩, false)⟩,
    ⟨some ⟨.d0, .d5, .d5⟩, .pick (.t ⟨.d0, .d4, .d7⟩) (.c (.bool true)) (.t ⟨.d0, .d5, .d4⟩), none⟩,
    ⟨some ⟨.d0, .d5, .d6⟩, .move (.t ⟨.d0, .d5, .d5⟩), none⟩,
    ⟨some ⟨.d0, .d5, .d7⟩, .fieldAddr 1 (.t ⟨.d0, .d0, .d6⟩), some (⟨.d0, .d5, .d6⟩, false)⟩,
    ⟨some ⟨.d0, .d6, .d0⟩, .load false 1 (.t ⟨.d0, .d5, .d7⟩), some (⟨.d0, .d5, .d6⟩, false)⟩,
    ⟨some ⟨.d0, .d6, .d1⟩, .fieldAddr 3 (.t ⟨.d0, .d0, .d5⟩), some (⟨.d0, .d5, .d6⟩, false)⟩,
    ⟨some ⟨.d0, .d6, .d2⟩, .load false 1 (.t ⟨.d0, .d6, .d1⟩), some (⟨.d0, .d5, .d6⟩, false)⟩,
    ⟨some ⟨.d0, .d6, .d3⟩, .bin .neq (.t ⟨.d0, .d6, .d0⟩) (.t ⟨.d0, .d6, .d2⟩), some (⟨.d0, .d5, .d6⟩, false)⟩,
    ⟨some ⟨.d0, .d6, .d4⟩, .pick (.t ⟨.d0, .d5, .d6⟩) (.c (.bool true)) (.t ⟨.d0, .d6, .d3⟩), none⟩])
  (.cond (.t ⟨.d0, .d6, .d4⟩)
    (.seq (.region [⟨some ⟨.d0, .d1, .d0⟩, .move (.c (.int .i64 1)), none⟩])
    (.ret))
    (.skip)))
  (.seq (.region [⟨some ⟨.d0, .d6, .d6⟩, .load true 9 (.t ⟨.d0, .d0, .d6⟩), none⟩,
    ⟨some ⟨.d0, .d6, .d7⟩, .fieldAddr 0 (.t ⟨.d0, .d0, .d5⟩), none⟩,
    ⟨some ⟨.d0, .d7, .d0⟩, .load false 1 (.t ⟨.d0, .d6, .d7⟩), none⟩,
    ⟨some ⟨.d0, .d7, .d1⟩, .fieldAddr 1 (.t ⟨.d0, .d0, .d5⟩), none⟩,
    ⟨some ⟨.d0, .d7, .d2⟩, .load false 1 (.t ⟨.d0, .d7, .d1⟩), none⟩,
    ⟨some ⟨.d0, .d7, .d3⟩, .call 50 [(.t ⟨.d0, .d6, .d6⟩), (.t ⟨.d0, .d7, .d0⟩), (.t ⟨.d0, .d7, .d2⟩)], none⟩,
    ⟨some ⟨.d0, .d6, .d5⟩, .move (.t ⟨.d0, .d7, .d3⟩), none⟩,
    ⟨some ⟨.d0, .d7, .d4⟩, .extract 0 (.t ⟨.d0, .d6, .d5⟩), none⟩,
    ⟨some ⟨.d0, .d7, .d5⟩, .extract 1 (.t ⟨.d0, .d6, .d5⟩), none⟩,
    ⟨some ⟨.d0, .d1, .d5⟩, .move (.t ⟨.d0, .d7, .d4⟩), none⟩,
    ⟨some ⟨.d0, .d1, .d6⟩, .move (.t ⟨.d0, .d7, .d5⟩), none⟩])
  (.seq (.region [⟨some ⟨.d0, .d7, .d6⟩, .move (.t ⟨.d0, .d1, .d6⟩), none⟩,
    ⟨some ⟨.d0, .d1, .d0⟩, .move (.t ⟨.d0, .d7, .d6⟩), none⟩])
  (.ret)))))))
def r_custref_ProxyRefused : List XR := [.tmp ⟨.d0, .d1, .d0⟩]
theorem ok_custref_ProxyRefused : okC Try.prog Try.f19.ntmps (bodyOf Try.f19) x_custref_ProxyRefused = true := by kernel_rfl
theorem okr_custref_ProxyRefused : okRs Try.prog Try.f19.results.toList r_custref_ProxyRefused = true := by kernel_rfl

/-- custref.youngTalks -/
def x_custref_youngTalks : XC :=
  .seq (.region [⟨some ⟨.d0, .d0, .d3⟩, .box 0 4 (.t ⟨.d0, .d0, .d0⟩), none⟩,
    ⟨some ⟨.d0, .d0, .d4⟩, .box 1 4 (.t ⟨.d0, .d0, .d1⟩), none⟩,
    ⟨some ⟨.d0, .d0, .d6⟩, .alloc 2 [.int .u64 0, .int .u64 0, .int .i64 0, .slice none 0 0], none⟩,
    ⟨some ⟨.d0, .d0, .d7⟩, .alloc 3 [.int .u32 0, .int .u32 0, .int .i64 0, .int .i64 0, .int .u32 0, .int .u32 0, .int .u32 0, .bool false, .int .i64 0], none⟩,
    ⟨some ⟨.d0, .d1, .d0⟩, .move (.c (.bool false)), none⟩])
  (.seq (.region [⟨some ⟨.d0, .d1, .d1⟩, .move (.c (.slice none 0 0)), none⟩])
  (.seq (.region [⟨some ⟨.d0, .d1, .d2⟩, .alloc 4 [.int .u32 0, .int .u32 0, .int .i64 0, .int .i64 0, .int .u32 0, .int .u32 0, .int .u32 0, .bool false, .int .i64 0], none⟩])
  (.seq (.region [⟨some ⟨.d0, .d1, .d3⟩, .move (.c (.bool false)), none⟩])
  (.seq (.seq (.region [⟨some ⟨.d0, .d1, .d7⟩, .fieldAddr 3 (.t ⟨.d0, .d0, .d3⟩), none⟩,
    ⟨some ⟨.d0, .d2, .d0⟩, .load false 1 (.t ⟨.d0, .d1, .d7⟩), none⟩,
    ⟨some ⟨.d0, .d2, .d1⟩, .len (.t ⟨.d0, .d2, .d0⟩), none⟩,
    ⟨some ⟨.d0, .d2, .d2⟩, .move (.c (.int .i64 0)), none⟩])
  (.block 0
    (.loop
      (.seq (.region [⟨some ⟨.d0, .d2, .d3⟩, .bin .lss (.t ⟨.d0, .d2, .d2⟩) (.t ⟨.d0, .d2, .d1⟩), none⟩])
      (.seq (.cond (.t ⟨.d0, .d2, .d3⟩)
        (.skip)
        (.exit 0))
      (.seq (.block 1
        (.seq (.region [⟨some ⟨.d0, .d2, .d4⟩, .indexSl 9 (.t ⟨.d0, .d2, .d0⟩) (.t ⟨.d0, .d2, .d2⟩), none⟩,
          ⟨some ⟨.d0, .d2, .d5⟩, .load true 9 (.t ⟨.d0, .d2, .d4⟩), none⟩,
          ⟨some ⟨.d0, .d1, .d5⟩, .alloc 5 [.int .u32 0, .int .u32 0, .int .i64 0, .int .i64 0, .int .u32 0, .int .u32 0, .int .u32 0, .bool false, .int .i64 0], none⟩,
          ⟨none, .store 9 (.t ⟨.d0, .d1, .d5⟩) (.t ⟨.d0, .d2, .d5⟩), none⟩])
        (.seq (.region [⟨some ⟨.d0, .d1, .d6⟩, .move (.c (.int .i64 30)), none⟩])
        (.seq (.seq (.region [⟨some ⟨.d0, .d2, .d6⟩, .fieldAddr 7 (.t ⟨.d0, .d1, .d5⟩), none⟩,
          ⟨some ⟨.d0, .d2, .d7⟩, .load false 1 (.t ⟨.d0, .d2, .d6⟩), none⟩])
        (.cond (.t ⟨.d0, .d2, .d7⟩)
          (.region [⟨some ⟨.d0, .d1, .d6⟩, .move (.c (.int .i64 3000)), none⟩])
          (.skip)))
        (.seq (.seq (.region [⟨some ⟨.d0, .d3, .d0⟩, .move (.t ⟨.d0, .d0, .d2⟩), none⟩,
          ⟨some ⟨.d0, .d3, .d1⟩, .fieldAddr 8 (.t ⟨.d0, .d1, .d5⟩), none⟩,
          ⟨some ⟨.d0, .d3, .d2⟩, .load false 1 (.t ⟨.d0, .d3, .d1⟩), none⟩,
          ⟨some ⟨.d0, .d3, .d3⟩, .move (.t ⟨.d0, .d1, .d6⟩), none⟩,
          ⟨some ⟨.d0, .d3, .d4⟩, .bin .add (.t ⟨.d0, .d3, .d2⟩) (.t ⟨.d0, .d3, .d3⟩), none⟩,
          ⟨some ⟨.d0, .d3, .d5⟩, .bin .gtr (.t ⟨.d0, .d3, .d0⟩) (.t ⟨.d0, .d3, .d4⟩), none⟩])
        (.cond (.t ⟨.d0, .d3, .d5⟩)
          (.exit 1)
          (.skip)))
        (.seq (.region [⟨some ⟨.d0, .d3, .d6⟩, .move (.t ⟨.d0, .d1, .d1⟩), none⟩,
          ⟨some ⟨.d0, .d3, .d7⟩, .load true 9 (.t ⟨.d0, .d1, .d5⟩), none⟩,
          ⟨some ⟨.d0, .d4, .d0⟩, .buildSlice 6 1 [.int .u32 0, .int .u32 0, .int .i64 0, .int .i64 0, .int .u32 0, .int .u32 0, .int .u32 0, .bool false, .int .i64 0] [(0, (.t ⟨.d0, .d3, .d7⟩))], none⟩,
          ⟨some ⟨.d0, .d4, .d1⟩, .append 7 9 48 (.t ⟨.d0, .d3, .d6⟩) (.t ⟨.d0, .d4, .d0⟩), none⟩,
          ⟨some ⟨.d0, .d1, .d1⟩, .move (.t ⟨.d0, .d4, .d1⟩), none⟩])
        (.seq (.region [⟨some ⟨.d0, .d4, .d2⟩, .fieldAddr 0 (.t ⟨.d0, .d1, .d5⟩), none⟩,
          ⟨some ⟨.d0, .d4, .d3⟩, .load true 4 (.t ⟨.d0, .d4, .d2⟩), none⟩,
          ⟨some ⟨.d0, .d4, .d4⟩, .load true 4 (.t ⟨.d0, .d0, .d4⟩), none⟩,
          ⟨some ⟨.d0, .d4, .d5⟩, .eqs false [0, 0, 0, 0] (.t ⟨.d0, .d4, .d3⟩) (.t ⟨.d0, .d4, .d4⟩), none⟩])
        (.cond (.t ⟨.d0, .d4, .d5⟩)
          (.region [⟨some ⟨.d0, .d4, .d6⟩, .load true 9 (.t ⟨.d0, .d1, .d5⟩), none⟩,
            ⟨none, .store 9 (.t ⟨.d0, .d1, .d2⟩) (.t ⟨.d0, .d4, .d6⟩), none⟩,
            ⟨some ⟨.d0, .d1, .d3⟩, .move (.c (.bool true)), none⟩])
          (.skip)))))))))
      (.region [⟨some ⟨.d0, .d4, .d7⟩, .bin .add (.t ⟨.d0, .d2, .d2⟩) (.c (.int .i64 1)), none⟩,
        ⟨some ⟨.d0, .d2, .d2⟩, .move (.t ⟨.d0, .d4, .d7⟩), none⟩])))))))
  (.seq (.region [⟨some ⟨.d0, .d5, .d0⟩, .move (.t ⟨.d0, .d1, .d1⟩), none⟩,
    ⟨some ⟨.d0, .d5, .d1⟩, .fieldAddr 3 (.t ⟨.d0, .d0, .d3⟩), none⟩,
    ⟨none, .store 1 (.t ⟨.d0, .d5, .d1⟩) (.t ⟨.d0, .d5, .d0⟩), none⟩])
  (.seq (.regionD [0, 0, 0, 1, 11, 31] [⟨some ⟨.d0, .d5, .d2⟩, .load true 4 (.t ⟨.d0, .d0, .d3⟩), none⟩,
    ⟨some ⟨.d0, .d5, .d3⟩, .load true 9 (.t ⟨.d0, .d1, .d2⟩), none⟩,
    ⟨some ⟨.d0, .d5, .d4⟩, .move (.t ⟨.d0, .d1, .d3⟩), none⟩,
    ⟨none, .store 4 (.t ⟨.d0, .d0, .d6⟩) (.t ⟨.d0, .d5, .d2⟩), none⟩,
    ⟨none, .store 9 (.t ⟨.d0, .d0, .d7⟩) (.t ⟨.d0, .d5, .d3⟩), none⟩,
    ⟨some ⟨.d0, .d1, .d0⟩, .move (.t ⟨.d0, .d5, .d4⟩), none⟩])
  (.ret)))))))
def r_custref_youngTalks : List XR := [.cell ⟨.d0, .d0, .d6⟩ true 4, .cell ⟨.d0, .d0, .d7⟩ true 9, .tmp ⟨.d0, .d1, .d0⟩]
theorem ok_custref_youngTalks : okC Try.prog Try.f20.ntmps (bodyOf Try.f20) x_custref_youngTalks = true := by kernel_rfl
theorem okr_custref_youngTalks : okRs Try.prog Try.f20.results.toList r_custref_youngTalks = true := by kernel_rfl

/-- custref.Turn -/
def x_custref_Turn : XC :=
  .seq (.region [⟨some ⟨.d0, .d0, .d1⟩, .box 0 4 (.t ⟨.d0, .d0, .d0⟩), none⟩,
    ⟨some ⟨.d0, .d0, .d2⟩, .alloc 1 [.int .u32 0, .int .u32 0, .int .i64 0, .int .i64 0], none⟩])
  (.seq (.region [⟨some ⟨.d0, .d0, .d3⟩, .fieldAddr 1 (.t ⟨.d0, .d0, .d1⟩), none⟩,
    ⟨some ⟨.d0, .d0, .d4⟩, .load false 1 (.t ⟨.d0, .d0, .d3⟩), none⟩,
    ⟨some ⟨.d0, .d0, .d5⟩, .fieldAddr 0 (.t ⟨.d0, .d0, .d1⟩), none⟩,
    ⟨some ⟨.d0, .d0, .d6⟩, .load false 1 (.t ⟨.d0, .d0, .d5⟩), none⟩,
    ⟨some ⟨.d0, .d0, .d7⟩, .fieldAddr 3 (.t ⟨.d0, .d0, .d1⟩), none⟩,
    ⟨some ⟨.d0, .d1, .d0⟩, .load false 1 (.t ⟨.d0, .d0, .d7⟩), none⟩,
    ⟨some ⟨.d0, .d1, .d1⟩, .fieldAddr 2 (.t ⟨.d0, .d0, .d1⟩), none⟩,
    ⟨some ⟨.d0, .d1, .d2⟩, .load false 1 (.t ⟨.d0, .d1, .d1⟩), none⟩,
    ⟨some ⟨.d0, .d1, .d3⟩, .build [.int .u32 0, .int .u32 0, .int .i64 0, .int .i64 0] [(0, 1, (.t ⟨.d0, .d0, .d4⟩)), (1, 1, (.t ⟨.d0, .d0, .d6⟩)), (2, 1, (.t ⟨.d0, .d1, .d0⟩)), (3, 1, (.t ⟨.d0, .d1, .d2⟩))], none⟩,
    ⟨none, .store 4 (.t ⟨.d0, .d0, .d2⟩) (.t ⟨.d0, .d1, .d3⟩), none⟩])
  (.ret))
def r_custref_Turn : List XR := [.cell ⟨.d0, .d0, .d2⟩ true 4]
theorem ok_custref_Turn : okC Try.prog Try.f21.ntmps (bodyOf Try.f21) x_custref_Turn = true := by kernel_rfl
theorem okr_custref_Turn : okRs Try.prog Try.f21.results.toList r_custref_Turn = true := by kernel_rfl

/-- custref.talksBut -/
def x_custref_talksBut : XC :=
  .seq (.region [⟨some ⟨.d0, .d0, .d3⟩, .box 1 4 (.t ⟨.d0, .d0, .d0⟩), none⟩,
    ⟨some ⟨.d0, .d0, .d4⟩, .box 2 4 (.t ⟨.d0, .d0, .d1⟩), none⟩,
    ⟨some ⟨.d0, .d0, .d6⟩, .alloc 3 [.int .u64 0, .int .u64 0, .int .i64 0, .slice none 0 0], none⟩])
  (.seq (.region [⟨some ⟨.d0, .d0, .d7⟩, .move (.c (.slice none 0 0)), none⟩])
  (.seq (.seq (.region [⟨some ⟨.d0, .d1, .d2⟩, .fieldAddr 3 (.t ⟨.d0, .d0, .d3⟩), none⟩,
    ⟨some ⟨.d0, .d1, .d3⟩, .load false 1 (.t ⟨.d0, .d1, .d2⟩), none⟩,
    ⟨some ⟨.d0, .d1, .d4⟩, .len (.t ⟨.d0, .d1, .d3⟩), none⟩,
    ⟨some ⟨.d0, .d1, .d5⟩, .move (.c (.int .i64 0)), none⟩])
  (.block 0
    (.loop
      (.seq (.region [⟨some ⟨.d0, .d1, .d6⟩, .bin .lss (.t ⟨.d0, .d1, .d5⟩) (.t ⟨.d0, .d1, .d4⟩), none⟩])
      (.seq (.cond (.t ⟨.d0, .d1, .d6⟩)
        (.skip)
        (.exit 0))
      (.seq (.block 1
        (.seq (.region [⟨some ⟨.d0, .d1, .d7⟩, .indexSl 9 (.t ⟨.d0, .d1, .d3⟩) (.t ⟨.d0, .d1, .d5⟩), none⟩,
          ⟨some ⟨.d0, .d2, .d0⟩, .load true 9 (.t ⟨.d0, .d1, .d7⟩), none⟩,
          ⟨some ⟨.d0, .d1, .d1⟩, .alloc 4 [.int .u32 0, .int .u32 0, .int .i64 0, .int .i64 0, .int .u32 0, .int .u32 0, .int .u32 0, .bool false, .int .i64 0], none⟩,
          ⟨none, .store 9 (.t ⟨.d0, .d1, .d1⟩) (.t ⟨.d0, .d2, .d0⟩), none⟩])
        (.seq (.region [⟨some ⟨.d0, .d2, .d1⟩, .fieldAddr 0 (.t ⟨.d0, .d1, .d1⟩), none⟩,
          ⟨some ⟨.d0, .d2, .d2⟩, .load true 4 (.t ⟨.d0, .d2, .d1⟩), none⟩,
          ⟨some ⟨.d0, .d2, .d3⟩, .load true 4 (.t ⟨.d0, .d0, .d4⟩), none⟩,
          ⟨some ⟨.d0, .d2, .d4⟩, .eqs true [0, 0, 0, 0] (.t ⟨.d0, .d2, .d2⟩) (.t ⟨.d0, .d2, .d3⟩), none⟩])
        (.cond (.t ⟨.d0, .d2, .d4⟩)
          (.region [⟨some ⟨.d0, .d2, .d5⟩, .move (.t ⟨.d0, .d0, .d7⟩), none⟩,
            ⟨some ⟨.d0, .d2, .d6⟩, .load true 9 (.t ⟨.d0, .d1, .d1⟩), none⟩,
            ⟨some ⟨.d0, .d2, .d7⟩, .buildSlice 5 1 [.int .u32 0, .int .u32 0, .int .i64 0, .int .i64 0, .int .u32 0, .int .u32 0, .int .u32 0, .bool false, .int .i64 0] [(0, (.t ⟨.d0, .d2, .d6⟩))], none⟩,
            ⟨some ⟨.d0, .d3, .d0⟩, .append 6 9 48 (.t ⟨.d0, .d2, .d5⟩) (.t ⟨.d0, .d2, .d7⟩), none⟩,
            ⟨some ⟨.d0, .d0, .d7⟩, .move (.t ⟨.d0, .d3, .d0⟩), none⟩])
          (.skip)))))
      (.region [⟨some ⟨.d0, .d3, .d1⟩, .bin .add (.t ⟨.d0, .d1, .d5⟩) (.c (.int .i64 1)), none⟩,
        ⟨some ⟨.d0, .d1, .d5⟩, .move (.t ⟨.d0, .d3, .d1⟩), none⟩])))))))
  (.seq (.region [⟨some ⟨.d0, .d3, .d2⟩, .move (.t ⟨.d0, .d0, .d7⟩), none⟩,
    ⟨some ⟨.d0, .d3, .d3⟩, .move (.t ⟨.d0, .d0, .d2⟩), none⟩,
    ⟨some ⟨.d0, .d3, .d4⟩, .append 7 9 48 (.t ⟨.d0, .d3, .d2⟩) (.t ⟨.d0, .d3, .d3⟩), none⟩,
    ⟨some ⟨.d0, .d3, .d5⟩, .fieldAddr 3 (.t ⟨.d0, .d0, .d3⟩), none⟩,
    ⟨none, .store 1 (.t ⟨.d0, .d3, .d5⟩) (.t ⟨.d0, .d3, .d4⟩), none⟩])
  (.seq (.region [⟨some ⟨.d0, .d3, .d6⟩, .load true 4 (.t ⟨.d0, .d0, .d3⟩), none⟩,
    ⟨none, .store 4 (.t ⟨.d0, .d0, .d6⟩) (.t ⟨.d0, .d3, .d6⟩), none⟩])
  (.ret)))))
def r_custref_talksBut : List XR := [.cell ⟨.d0, .d0, .d6⟩ true 4]
theorem ok_custref_talksBut : okC Try.prog Try.f22.ntmps (bodyOf Try.f22) x_custref_talksBut = true := by kernel_rfl
theorem okr_custref_talksBut : okRs Try.prog Try.f22.results.toList r_custref_talksBut = true := by kernel_rfl

/-- custref.Moved -/
def x_custref_Moved : XC :=
  .seq (.region [⟨some ⟨.d0, .d0, .d3⟩, .box 0 9 (.t ⟨.d0, .d0, .d0⟩), none⟩,
    ⟨some ⟨.d0, .d0, .d6⟩, .alloc 1 [.int .i64 0, .int .i64 0, .int .u32 0, .int .u32 0, .int .i64 0, .int .i64 0, .int .i64 0, .slice none 0 0, .string { data := #[] }], none⟩])
  (.seq (.region [⟨some ⟨.d0, .d1, .d4⟩, .fieldAddr 2 (.t ⟨.d0, .d0, .d3⟩), none⟩,
    ⟨some ⟨.d0, .d1, .d5⟩, .load false 1 (.t ⟨.d0, .d1, .d4⟩), none⟩,
    ⟨some ⟨.d0, .d1, .d6⟩, .move (.t ⟨.d0, .d0, .d1⟩), none⟩,
    ⟨some ⟨.d0, .d1, .d7⟩, .call 24 [(.t ⟨.d0, .d1, .d5⟩), (.t ⟨.d0, .d1, .d6⟩)], none⟩,
    ⟨some ⟨.d0, .d2, .d0⟩, .fieldAddr 2 (.t ⟨.d0, .d0, .d3⟩), none⟩,
    ⟨none, .store 1 (.t ⟨.d0, .d2, .d0⟩) (.t ⟨.d0, .d1, .d7⟩), none⟩])
  (.seq (.seq (.region [⟨some ⟨.d0, .d2, .d1⟩, .fieldAddr 4 (.t ⟨.d0, .d0, .d3⟩), none⟩,
    ⟨some ⟨.d0, .d2, .d2⟩, .load false 1 (.t ⟨.d0, .d2, .d1⟩), none⟩,
    ⟨some ⟨.d0, .d2, .d3⟩, .bin .and (.t ⟨.d0, .d2, .d2⟩) (.c (.int .i64 16)), none⟩,
    ⟨some ⟨.d0, .d2, .d4⟩, .bin .eql (.t ⟨.d0, .d2, .d3⟩) (.c (.int .i64 0)), none⟩])
  (.cond (.t ⟨.d0, .d2, .d4⟩)
    (.seq (.region [⟨some ⟨.d0, .d2, .d5⟩, .load true 9 (.t ⟨.d0, .d0, .d3⟩), none⟩,
      ⟨none, .store 9 (.t ⟨.d0, .d0, .d6⟩) (.t ⟨.d0, .d2, .d5⟩), none⟩])
    (.ret))
    (.skip)))
  (.seq (.region [⟨some ⟨.d0, .d2, .d6⟩, .fieldAddr 3 (.t ⟨.d0, .d0, .d3⟩), none⟩,
    ⟨some ⟨.d0, .d2, .d7⟩, .load false 1 (.t ⟨.d0, .d2, .d6⟩), none⟩,
    ⟨some ⟨.d0, .d3, .d0⟩, .move (.t ⟨.d0, .d0, .d2⟩), none⟩,
    ⟨some ⟨.d0, .d3, .d1⟩, .call 24 [(.t ⟨.d0, .d2, .d7⟩), (.t ⟨.d0, .d3, .d0⟩)], none⟩,
    ⟨some ⟨.d0, .d3, .d2⟩, .fieldAddr 3 (.t ⟨.d0, .d0, .d3⟩), none⟩,
    ⟨none, .store 1 (.t ⟨.d0, .d3, .d2⟩) (.t ⟨.d0, .d3, .d1⟩), none⟩])
  (.seq (.region [⟨some ⟨.d0, .d0, .d7⟩, .move (.c (.slice none 0 0)), none⟩])
  (.seq (.seq (.region [⟨some ⟨.d0, .d3, .d3⟩, .fieldAddr 7 (.t ⟨.d0, .d0, .d3⟩), none⟩,
    ⟨some ⟨.d0, .d3, .d4⟩, .load false 1 (.t ⟨.d0, .d3, .d3⟩), none⟩,
    ⟨some ⟨.d0, .d3, .d5⟩, .len (.t ⟨.d0, .d3, .d4⟩), none⟩,
    ⟨some ⟨.d0, .d3, .d6⟩, .move (.c (.int .i64 0)), none⟩])
  (.block 0
    (.loop
      (.seq (.region [⟨some ⟨.d0, .d3, .d7⟩, .bin .lss (.t ⟨.d0, .d3, .d6⟩) (.t ⟨.d0, .d3, .d5⟩), none⟩])
      (.seq (.cond (.t ⟨.d0, .d3, .d7⟩)
        (.skip)
        (.exit 0))
      (.seq (.block 1
        (.seq (.region [⟨some ⟨.d0, .d4, .d0⟩, .indexSl 2 (.t ⟨.d0, .d3, .d4⟩) (.t ⟨.d0, .d3, .d6⟩), none⟩,
          ⟨some ⟨.d0, .d4, .d1⟩, .load true 2 (.t ⟨.d0, .d4, .d0⟩), none⟩,
          ⟨some ⟨.d0, .d1, .d1⟩, .alloc 2 [.int .i64 0, .string { data := #[] }], none⟩,
          ⟨none, .store 2 (.t ⟨.d0, .d1, .d1⟩) (.t ⟨.d0, .d4, .d1⟩), none⟩])
        (.seq (.seq (.region [⟨some ⟨.d0, .d4, .d2⟩, .fieldAddr 0 (.t ⟨.d0, .d1, .d1⟩), none⟩,
          ⟨some ⟨.d0, .d4, .d3⟩, .load false 1 (.t ⟨.d0, .d4, .d2⟩), none⟩,
          ⟨some ⟨.d0, .d4, .d4⟩, .bin .eql (.t ⟨.d0, .d4, .d3⟩) (.c (.int .i64 5)), none⟩,
          ⟨some ⟨.d0, .d4, .d5⟩, .move (.t ⟨.d0, .d4, .d4⟩), none⟩,
          ⟨some ⟨.d0, .d4, .d6⟩, .fieldAddr 1 (.t ⟨.d0, .d1, .d1⟩), some (⟨.d0, .d4, .d5⟩, true)⟩,
          ⟨some ⟨.d0, .d4, .d7⟩, .load false 1 (.t ⟨.d0, .d4, .d6⟩), some (⟨.d0, .d4, .d5⟩, true)⟩,
          ⟨some ⟨.d0, .d5, .d0⟩, .slen (.t ⟨.d0, .d4, .d7⟩), some (⟨.d0, .d4, .d5⟩, true)⟩,
          ⟨some ⟨.d0, .d5, .d1⟩, .bin .rem (.t ⟨.d0, .d5, .d0⟩) (.c (.int .i64 8)), some (⟨.d0, .d4, .d5⟩, true)⟩,
          ⟨some ⟨.d0, .d5, .d2⟩, .bin .eql (.t ⟨.d0, .d5, .d1⟩) (.c (.int .i64 0)), some (⟨.d0, .d4, .d5⟩, true)⟩,
          ⟨some ⟨.d0, .d5, .d3⟩, .pick (.t ⟨.d0, .d4, .d5⟩) (.t ⟨.d0, .d5, .d2⟩) (.c (.bool false)), none⟩])
        (.cond (.t ⟨.d0, .d5, .d3⟩)
          (.seq (.region [⟨some ⟨.d0, .d1, .d2⟩, .move (.c (.string { data := #[] })), none⟩])
          (.seq (.seq (.region [⟨some ⟨.d0, .d5, .d4⟩, .fieldAddr 1 (.t ⟨.d0, .d1, .d1⟩), none⟩,
            ⟨some ⟨.d0, .d5, .d5⟩, .load false 1 (.t ⟨.d0, .d5, .d4⟩), none⟩,
            ⟨some ⟨.d0, .d1, .d3⟩, .move (.t ⟨.d0, .d5, .d5⟩), none⟩])
          (.block 2
            (.loop
              (.seq (.seq (.region [⟨some ⟨.d0, .d5, .d6⟩, .move (.t ⟨.d0, .d1, .d3⟩), none⟩,
                ⟨some ⟨.d0, .d5, .d7⟩, .sbin .neq (.t ⟨.d0, .d5, .d6⟩) (.c (.string { data := #[] })), none⟩])
              (.cond (.t ⟨.d0, .d5, .d7⟩)
                (.skip)
                (.exit 2)))
              (.seq (.block 3
                (.region [⟨some ⟨.d0, .d6, .d2⟩, .move (.t ⟨.d0, .d1, .d2⟩), none⟩,
                  ⟨some ⟨.d0, .d6, .d3⟩, .move (.t ⟨.d0, .d1, .d3⟩), none⟩,
                  ⟨some ⟨.d0, .d6, .d4⟩, .call 52 [(.t ⟨.d0, .d6, .d3⟩), (.c (.int .i64 0))], none⟩,
                  ⟨some ⟨.d0, .d6, .d5⟩, .move (.t ⟨.d0, .d0, .d2⟩), none⟩,
                  ⟨some ⟨.d0, .d6, .d6⟩, .call 24 [(.t ⟨.d0, .d6, .d4⟩), (.t ⟨.d0, .d6, .d5⟩)], none⟩,
                  ⟨some ⟨.d0, .d6, .d7⟩, .call 51 [(.t ⟨.d0, .d6, .d6⟩)], none⟩,
                  ⟨some ⟨.d0, .d7, .d0⟩, .sbin .add (.t ⟨.d0, .d6, .d2⟩) (.t ⟨.d0, .d6, .d7⟩), none⟩,
                  ⟨some ⟨.d0, .d1, .d2⟩, .move (.t ⟨.d0, .d7, .d0⟩), none⟩]))
              (.region [⟨some ⟨.d0, .d6, .d0⟩, .move (.t ⟨.d0, .d1, .d3⟩), none⟩,
                ⟨some ⟨.d0, .d6, .d1⟩, .substr (.t ⟨.d0, .d6, .d0⟩) (some (.c (.int .i64 4))) none, none⟩,
                ⟨some ⟨.d0, .d1, .d3⟩, .move (.t ⟨.d0, .d6, .d1⟩), none⟩]))))))
          (.region [⟨some ⟨.d0, .d7, .d1⟩, .move (.t ⟨.d0, .d1, .d2⟩), none⟩,
            ⟨some ⟨.d0, .d7, .d2⟩, .fieldAddr 1 (.t ⟨.d0, .d1, .d1⟩), none⟩,
            ⟨none, .store 1 (.t ⟨.d0, .d7, .d2⟩) (.t ⟨.d0, .d7, .d1⟩), none⟩])))
          (.skip)))
        (.region [⟨some ⟨.d0, .d7, .d3⟩, .move (.t ⟨.d0, .d0, .d7⟩), none⟩,
          ⟨some ⟨.d0, .d7, .d4⟩, .load true 2 (.t ⟨.d0, .d1, .d1⟩), none⟩,
          ⟨some ⟨.d0, .d7, .d5⟩, .buildSlice 3 1 [.int .i64 0, .string { data := #[] }] [(0, (.t ⟨.d0, .d7, .d4⟩))], none⟩,
          ⟨some ⟨.d0, .d7, .d6⟩, .append 4 2 24 (.t ⟨.d0, .d7, .d3⟩) (.t ⟨.d0, .d7, .d5⟩), none⟩,
          ⟨some ⟨.d0, .d0, .d7⟩, .move (.t ⟨.d0, .d7, .d6⟩), none⟩]))))
      (.region [⟨some ⟨.d0, .d7, .d7⟩, .bin .add (.t ⟨.d0, .d3, .d6⟩) (.c (.int .i64 1)), none⟩,
        ⟨some ⟨.d0, .d3, .d6⟩, .move (.t ⟨.d0, .d7, .d7⟩), none⟩])))))))
  (.seq (.region [⟨some ⟨.d1, .d0, .d0⟩, .move (.t ⟨.d0, .d0, .d7⟩), none⟩,
    ⟨some ⟨.d1, .d0, .d1⟩, .fieldAddr 7 (.t ⟨.d0, .d0, .d3⟩), none⟩,
    ⟨none, .store 1 (.t ⟨.d1, .d0, .d1⟩) (.t ⟨.d1, .d0, .d0⟩), none⟩])
  (.seq (.region [⟨some ⟨.d1, .d0, .d2⟩, .load true 9 (.t ⟨.d0, .d0, .d3⟩), none⟩,
    ⟨none, .store 9 (.t ⟨.d0, .d0, .d6⟩) (.t ⟨.d1, .d0, .d2⟩), none⟩])
  (.ret))))))))
def r_custref_Moved : List XR := [.cell ⟨.d0, .d0, .d6⟩ true 9]
theorem ok_custref_Moved : okC Try.prog Try.f23.ntmps (bodyOf Try.f23) x_custref_Moved = true := by kernel_rfl
theorem okr_custref_Moved : okRs Try.prog Try.f23.results.toList r_custref_Moved = true := by kernel_rfl

/-- custref.Plus -/
def x_custref_Plus : XC :=
  .seq (.region [⟨some ⟨.d0, .d0, .d4⟩, .move (.c (.int .u32 0)), none⟩])
  (.seq (.region [⟨some ⟨.d0, .d0, .d5⟩, .move (.t ⟨.d0, .d0, .d0⟩), none⟩,
    ⟨some ⟨.d0, .d0, .d6⟩, .convInt .i64 (.t ⟨.d0, .d0, .d5⟩), none⟩,
    ⟨some ⟨.d0, .d0, .d7⟩, .move (.t ⟨.d0, .d0, .d1⟩), none⟩,
    ⟨some ⟨.d0, .d1, .d0⟩, .convInt .i64 (.t ⟨.d0, .d0, .d7⟩), none⟩,
    ⟨some ⟨.d0, .d1, .d1⟩, .bin .add (.t ⟨.d0, .d0, .d6⟩) (.t ⟨.d0, .d1, .d0⟩), none⟩,
    ⟨some ⟨.d0, .d1, .d2⟩, .bin .rem (.t ⟨.d0, .d1, .d1⟩) (.c (.int .i64 4294967296)), none⟩,
    ⟨some ⟨.d0, .d1, .d3⟩, .convInt .u32 (.t ⟨.d0, .d1, .d2⟩), none⟩,
    ⟨some ⟨.d0, .d0, .d4⟩, .move (.t ⟨.d0, .d1, .d3⟩), none⟩])
  (.ret))
def r_custref_Plus : List XR := [.tmp ⟨.d0, .d0, .d4⟩]
theorem ok_custref_Plus : okC Try.prog Try.f24.ntmps (bodyOf Try.f24) x_custref_Plus = true := by kernel_rfl
theorem okr_custref_Plus : okRs Try.prog Try.f24.results.toList r_custref_Plus = true := by kernel_rfl

/-- custref.Minus -/
def x_custref_Minus : XC :=
  .seq (.region [⟨some ⟨.d0, .d0, .d4⟩, .move (.c (.int .u32 0)), none⟩])
  (.seq (.region [⟨some ⟨.d0, .d0, .d5⟩, .move (.t ⟨.d0, .d0, .d1⟩), none⟩,
    ⟨some ⟨.d0, .d0, .d6⟩, .move (.t ⟨.d0, .d0, .d0⟩), none⟩,
    ⟨some ⟨.d0, .d0, .d7⟩, .call 53 [(.t ⟨.d0, .d0, .d5⟩), (.t ⟨.d0, .d0, .d6⟩)], none⟩,
    ⟨some ⟨.d0, .d1, .d0⟩, .convInt .u32 (.t ⟨.d0, .d0, .d7⟩), none⟩,
    ⟨some ⟨.d0, .d0, .d4⟩, .move (.t ⟨.d0, .d1, .d0⟩), none⟩])
  (.ret))
def r_custref_Minus : List XR := [.tmp ⟨.d0, .d0, .d4⟩]
theorem ok_custref_Minus : okC Try.prog Try.f25.ntmps (bodyOf Try.f25) x_custref_Minus = true := by kernel_rfl
theorem okr_custref_Minus : okRs Try.prog Try.f25.results.toList r_custref_Minus = true := by kernel_rfl

/-- slices.Equal -/
def x_slices_Equal_api_Guarded : XC :=
  .seq (.region [⟨some ⟨.d0, .d0, .d4⟩, .move (.c (.bool false)), none⟩])
  (.seq (.seq (.region [⟨some ⟨.d0, .d0, .d6⟩, .move (.t ⟨.d0, .d0, .d0⟩), none⟩,
    ⟨some ⟨.d0, .d0, .d7⟩, .len (.t ⟨.d0, .d0, .d6⟩), none⟩,
    ⟨some ⟨.d0, .d1, .d0⟩, .move (.t ⟨.d0, .d0, .d1⟩), none⟩,
    ⟨some ⟨.d0, .d1, .d1⟩, .len (.t ⟨.d0, .d1, .d0⟩), none⟩,
    ⟨some ⟨.d0, .d1, .d2⟩, .bin .neq (.t ⟨.d0, .d0, .d7⟩) (.t ⟨.d0, .d1, .d1⟩), none⟩])
  (.cond (.t ⟨.d0, .d1, .d2⟩)
    (.seq (.region [⟨some ⟨.d0, .d0, .d4⟩, .move (.c (.bool false)), none⟩])
    (.ret))
    (.skip)))
  (.seq (.seq (.region [⟨some ⟨.d0, .d1, .d3⟩, .move (.t ⟨.d0, .d0, .d0⟩), none⟩,
    ⟨some ⟨.d0, .d1, .d4⟩, .len (.t ⟨.d0, .d1, .d3⟩), none⟩,
    ⟨some ⟨.d0, .d1, .d5⟩, .move (.c (.int .i64 0)), none⟩])
  (.block 0
    (.loop
      (.seq (.region [⟨some ⟨.d0, .d1, .d6⟩, .bin .lss (.t ⟨.d0, .d1, .d5⟩) (.t ⟨.d0, .d1, .d4⟩), none⟩])
      (.seq (.cond (.t ⟨.d0, .d1, .d6⟩)
        (.skip)
        (.exit 0))
      (.seq (.block 1
        (.seq (.region [⟨some ⟨.d0, .d1, .d7⟩, .move (.t ⟨.d0, .d1, .d5⟩), none⟩,
          ⟨some ⟨.d0, .d0, .d5⟩, .move (.t ⟨.d0, .d1, .d7⟩), none⟩])
        (.seq (.regionD [0, 0, 3, 7, 0, 0, 48, 112, 255] [⟨some ⟨.d0, .d2, .d0⟩, .move (.t ⟨.d0, .d0, .d0⟩), none⟩,
          ⟨some ⟨.d0, .d2, .d1⟩, .move (.t ⟨.d0, .d0, .d5⟩), none⟩,
          ⟨some ⟨.d0, .d2, .d2⟩, .indexSl 9 (.t ⟨.d0, .d2, .d0⟩) (.t ⟨.d0, .d2, .d1⟩), none⟩,
          ⟨some ⟨.d0, .d2, .d3⟩, .load true 9 (.t ⟨.d0, .d2, .d2⟩), none⟩,
          ⟨some ⟨.d0, .d2, .d4⟩, .move (.t ⟨.d0, .d0, .d1⟩), none⟩,
          ⟨some ⟨.d0, .d2, .d5⟩, .move (.t ⟨.d0, .d0, .d5⟩), none⟩,
          ⟨some ⟨.d0, .d2, .d6⟩, .indexSl 9 (.t ⟨.d0, .d2, .d4⟩) (.t ⟨.d0, .d2, .d5⟩), none⟩,
          ⟨some ⟨.d0, .d2, .d7⟩, .load true 9 (.t ⟨.d0, .d2, .d6⟩), none⟩,
          ⟨some ⟨.d0, .d3, .d0⟩, .eqs true [0, 0, 0, 0, 0, 0, 0, 1, 0] (.t ⟨.d0, .d2, .d3⟩) (.t ⟨.d0, .d2, .d7⟩), none⟩])
        (.cond (.t ⟨.d0, .d3, .d0⟩)
          (.seq (.region [⟨some ⟨.d0, .d0, .d4⟩, .move (.c (.bool false)), none⟩])
          (.ret))
          (.skip)))))
      (.region [⟨some ⟨.d0, .d3, .d1⟩, .bin .add (.t ⟨.d0, .d1, .d5⟩) (.c (.int .i64 1)), none⟩,
        ⟨some ⟨.d0, .d1, .d5⟩, .move (.t ⟨.d0, .d3, .d1⟩), none⟩])))))))
  (.seq (.region [⟨some ⟨.d0, .d0, .d4⟩, .move (.c (.bool true)), none⟩])
  (.ret))))
def r_slices_Equal_api_Guarded : List XR := [.tmp ⟨.d0, .d0, .d4⟩]
theorem ok_slices_Equal_api_Guarded : okC Try.prog Try.f26.ntmps (bodyOf Try.f26) x_slices_Equal_api_Guarded = true := by kernel_rfl
theorem okr_slices_Equal_api_Guarded : okRs Try.prog Try.f26.results.toList r_slices_Equal_api_Guarded = true := by kernel_rfl

/-- slices.EqualFunc -/
def x_slices_EqualFunc_api_Segment : XC :=
  .seq (.region [⟨some ⟨.d0, .d0, .d6⟩, .move (.c (.bool false)), none⟩])
  (.seq (.seq (.region [⟨some ⟨.d0, .d1, .d2⟩, .move (.t ⟨.d0, .d0, .d0⟩), none⟩,
    ⟨some ⟨.d0, .d1, .d3⟩, .len (.t ⟨.d0, .d1, .d2⟩), none⟩,
    ⟨some ⟨.d0, .d1, .d4⟩, .move (.t ⟨.d0, .d0, .d1⟩), none⟩,
    ⟨some ⟨.d0, .d1, .d5⟩, .len (.t ⟨.d0, .d1, .d4⟩), none⟩,
    ⟨some ⟨.d0, .d1, .d6⟩, .bin .neq (.t ⟨.d0, .d1, .d3⟩) (.t ⟨.d0, .d1, .d5⟩), none⟩])
  (.cond (.t ⟨.d0, .d1, .d6⟩)
    (.seq (.region [⟨some ⟨.d0, .d0, .d6⟩, .move (.c (.bool false)), none⟩])
    (.ret))
    (.skip)))
  (.seq (.seq (.region [⟨some ⟨.d0, .d1, .d7⟩, .move (.t ⟨.d0, .d0, .d0⟩), none⟩,
    ⟨some ⟨.d0, .d2, .d0⟩, .len (.t ⟨.d0, .d1, .d7⟩), none⟩,
    ⟨some ⟨.d0, .d2, .d1⟩, .move (.c (.int .i64 0)), none⟩])
  (.block 0
    (.loop
      (.seq (.region [⟨some ⟨.d0, .d2, .d2⟩, .bin .lss (.t ⟨.d0, .d2, .d1⟩) (.t ⟨.d0, .d2, .d0⟩), none⟩])
      (.seq (.cond (.t ⟨.d0, .d2, .d2⟩)
        (.skip)
        (.exit 0))
      (.seq (.block 1
        (.seq (.region [⟨some ⟨.d0, .d2, .d3⟩, .move (.t ⟨.d0, .d2, .d1⟩), none⟩,
          ⟨some ⟨.d0, .d2, .d4⟩, .indexSl 9 (.t ⟨.d0, .d1, .d7⟩) (.t ⟨.d0, .d2, .d1⟩), none⟩,
          ⟨some ⟨.d0, .d2, .d5⟩, .load true 9 (.t ⟨.d0, .d2, .d4⟩), none⟩,
          ⟨some ⟨.d0, .d1, .d0⟩, .alloc 0 [.int .i64 0, .int .i64 0, .int .u32 0, .int .u32 0, .int .i64 0, .int .i64 0, .int .i64 0, .slice none 0 0, .string { data := #[] }], none⟩,
          ⟨some ⟨.d0, .d0, .d7⟩, .move (.t ⟨.d0, .d2, .d3⟩), none⟩,
          ⟨none, .store 9 (.t ⟨.d0, .d1, .d0⟩) (.t ⟨.d0, .d2, .d5⟩), none⟩])
        (.seq (.region [⟨some ⟨.d0, .d2, .d6⟩, .move (.t ⟨.d0, .d0, .d1⟩), none⟩,
          ⟨some ⟨.d0, .d2, .d7⟩, .move (.t ⟨.d0, .d0, .d7⟩), none⟩,
          ⟨some ⟨.d0, .d3, .d0⟩, .indexSl 9 (.t ⟨.d0, .d2, .d6⟩) (.t ⟨.d0, .d2, .d7⟩), none⟩,
          ⟨some ⟨.d0, .d3, .d1⟩, .load true 9 (.t ⟨.d0, .d3, .d0⟩), none⟩,
          ⟨some ⟨.d0, .d1, .d1⟩, .alloc 1 [.int .i64 0, .int .i64 0, .int .u32 0, .int .u32 0, .int .i64 0, .int .i64 0, .int .i64 0, .slice none 0 0, .string { data := #[] }], none⟩,
          ⟨none, .store 9 (.t ⟨.d0, .d1, .d1⟩) (.t ⟨.d0, .d3, .d1⟩), none⟩])
        (.seq (.region [⟨some ⟨.d0, .d3, .d2⟩, .move (.t ⟨.d0, .d0, .d2⟩), none⟩,
          ⟨some ⟨.d0, .d3, .d3⟩, .load true 9 (.t ⟨.d0, .d1, .d0⟩), none⟩,
          ⟨some ⟨.d0, .d3, .d4⟩, .load true 9 (.t ⟨.d0, .d1, .d1⟩), none⟩,
          ⟨some ⟨.d0, .d3, .d5⟩, .callv (.t ⟨.d0, .d3, .d2⟩) [(.t ⟨.d0, .d3, .d3⟩), (.t ⟨.d0, .d3, .d4⟩)], none⟩,
          ⟨some ⟨.d0, .d3, .d6⟩, .un .not (.t ⟨.d0, .d3, .d5⟩), none⟩])
        (.cond (.t ⟨.d0, .d3, .d6⟩)
          (.seq (.region [⟨some ⟨.d0, .d0, .d6⟩, .move (.c (.bool false)), none⟩])
          (.ret))
          (.skip))))))
      (.region [⟨some ⟨.d0, .d3, .d7⟩, .bin .add (.t ⟨.d0, .d2, .d1⟩) (.c (.int .i64 1)), none⟩,
        ⟨some ⟨.d0, .d2, .d1⟩, .move (.t ⟨.d0, .d3, .d7⟩), none⟩])))))))
  (.seq (.region [⟨some ⟨.d0, .d0, .d6⟩, .move (.c (.bool true)), none⟩])
  (.ret))))
def r_slices_EqualFunc_api_Segment : List XR := [.tmp ⟨.d0, .d0, .d6⟩]
theorem ok_slices_EqualFunc_api_Segment : okC Try.prog Try.f27.ntmps (bodyOf Try.f27) x_slices_EqualFunc_api_Segment = true := by kernel_rfl
theorem okr_slices_EqualFunc_api_Segment : okRs Try.prog Try.f27.results.toList r_slices_EqualFunc_api_Segment = true := by kernel_rfl

/-- custref.SameSegment -/
def x_custref_SameSegment : XC :=
  .seq (.region [⟨some ⟨.d0, .d0, .d2⟩, .box 0 9 (.t ⟨.d0, .d0, .d0⟩), none⟩,
    ⟨some ⟨.d0, .d0, .d3⟩, .box 1 9 (.t ⟨.d0, .d0, .d1⟩), none⟩,
    ⟨some ⟨.d0, .d0, .d4⟩, .move (.c (.bool false)), none⟩])
  (.seq (.region [⟨some ⟨.d0, .d0, .d5⟩, .fieldAddr 0 (.t ⟨.d0, .d0, .d2⟩), none⟩,
    ⟨some ⟨.d0, .d0, .d6⟩, .load false 1 (.t ⟨.d0, .d0, .d5⟩), none⟩,
    ⟨some ⟨.d0, .d0, .d7⟩, .fieldAddr 0 (.t ⟨.d0, .d0, .d3⟩), none⟩,
    ⟨some ⟨.d0, .d1, .d0⟩, .load false 1 (.t ⟨.d0, .d0, .d7⟩), none⟩,
    ⟨some ⟨.d0, .d1, .d1⟩, .bin .eql (.t ⟨.d0, .d0, .d6⟩) (.t ⟨.d0, .d1, .d0⟩), none⟩,
    ⟨some ⟨.d0, .d1, .d2⟩, .move (.t ⟨.d0, .d1, .d1⟩), none⟩,
    ⟨some ⟨.d0, .d1, .d3⟩, .fieldAddr 1 (.t ⟨.d0, .d0, .d2⟩), some (⟨.d0, .d1, .d2⟩, true)⟩,
    ⟨some ⟨.d0, .d1, .d4⟩, .load false 1 (.t ⟨.d0, .d1, .d3⟩), some (⟨.d0, .d1, .d2⟩, true)⟩,
    ⟨some ⟨.d0, .d1, .d5⟩, .fieldAddr 1 (.t ⟨.d0, .d0, .d3⟩), some (⟨.d0, .d1, .d2⟩, true)⟩,
    ⟨some ⟨.d0, .d1, .d6⟩, .load false 1 (.t ⟨.d0, .d1, .d5⟩), some (⟨.d0, .d1, .d2⟩, true)⟩,
    ⟨some ⟨.d0, .d1, .d7⟩, .bin .eql (.t ⟨.d0, .d1, .d4⟩) (.t ⟨.d0, .d1, .d6⟩), some (⟨.d0, .d1, .d2⟩, true)⟩,
    ⟨some ⟨.d0, .d2, .d0⟩, .pick (.t ⟨.d0, .d1, .d2⟩) (.t ⟨.d0, .d1, .d7⟩) (.c (.bool false)), none⟩,
    ⟨some ⟨.d0, .d2, .d1⟩, .move (.t ⟨.d0, .d2, .d0⟩), none⟩,
    ⟨some ⟨.d0, .d2, .d2⟩, .fieldAddr 2 (.t ⟨.d0, .d0, .d2⟩), some (⟨.d0, .d2, .d1⟩, true)⟩,
    ⟨some ⟨.d0, .d2, .d3⟩, .load false 1 (.t ⟨.d0, .d2, .d2⟩), some (⟨.d0, .d2, .d1⟩, true)⟩,
    ⟨some ⟨.d0, .d2, .d4⟩, .fieldAddr 2 (.t ⟨.d0, .d0, .d3⟩), some (⟨.d0, .d2, .d1⟩, true)⟩,
    ⟨some ⟨.d0, .d2, .d5⟩, .load false 1 (.t ⟨.d0, .d2, .d4⟩), some (⟨.d0, .d2, .d1⟩, true)⟩,
    ⟨some ⟨.d0, .d2, .d6⟩, .bin .eql (.t ⟨.d0, .d2, .d3⟩) (.t ⟨.d0, .d2, .d5⟩), some (⟨.d0, .d2, .d1⟩, true)⟩,
    ⟨some ⟨.d0, .d2, .d7⟩, .pick (.t ⟨.d0, .d2, .d1⟩) (.t ⟨.d0, .d2, .d6⟩) (.c (.bool false)), none⟩,
    ⟨some ⟨.d0, .d3, .d0⟩, .move (.t ⟨.d0, .d2, .d7⟩), none⟩,
    ⟨some ⟨.d0, .d3, .d1⟩, .fieldAddr 3 (.t ⟨.d0, .d0, .d2⟩), some (⟨.d0, .d3, .d0⟩, true)⟩,
    ⟨some ⟨.d0, .d3, .d2⟩, .load false 1 (.t ⟨.d0, .d3, .d1⟩), some (⟨.d0, .d3, .d0⟩, true)⟩,
    ⟨some ⟨.d0, .d3, .d3⟩, .fieldAddr 3 (.t ⟨.d0, .d0, .d3⟩), some (⟨.d0, .d3, .d0⟩, true)⟩,
    ⟨some ⟨.d0, .d3, .d4⟩, .load false 1 (.t ⟨.d0, .d3, .d3⟩), some (⟨.d0, .d3, .d0⟩, true)⟩,
    ⟨some ⟨.d0, .d3, .d5⟩, .bin .eql (.t ⟨.d0, .d3, .d2⟩) (.t ⟨.d0, .d3, .d4⟩), some (⟨.d0, .d3, .d0⟩, true)⟩,
    ⟨some ⟨.d0, .d3, .d6⟩, .pick (.t ⟨.d0, .d3, .d0⟩) (.t ⟨.d0, .d3, .d5⟩) (.c (.bool false)), none⟩,
    ⟨some ⟨.d0, .d3, .d7⟩, .move (.t ⟨.d0, .d3, .d6⟩), none⟩,
    ⟨some ⟨.d0, .d4, .d0⟩, .fieldAddr 4 (.t ⟨.d0, .d0, .d2⟩), some (⟨.d0, .d3, .d7⟩, true)⟩,
    ⟨some ⟨.d0, .d4, .d1⟩, .load false 1 (.t ⟨.d0, .d4, .d0⟩), some (⟨.d0, .d3, .d7⟩, true)⟩,
    ⟨some ⟨.d0, .d4, .d2⟩, .fieldAddr 4 (.t ⟨.d0, .d0, .d3⟩), some (⟨.d0, .d3, .d7⟩, true)⟩,
    ⟨some ⟨.d0, .d4, .d3⟩, .load false 1 (.t ⟨.d0, .d4, .d2⟩), some (⟨.d0, .d3, .d7⟩, true)⟩,
    ⟨some ⟨.d0, .d4, .d4⟩, .bin .eql (.t ⟨.d0, .d4, .d1⟩) (.t ⟨.d0, .d4, .d3⟩), some (⟨.d0, .d3, .d7⟩, true)⟩,
    ⟨some ⟨.d0, .d4, .d5⟩, .pick (.t ⟨.d0, .d3, .d7⟩) (.t ⟨.d0, .d4, .d4⟩) (.c (.bool false)), none⟩,
    ⟨some ⟨.d0, .d4, .d6⟩, .move (.t ⟨.d0, .d4, .d5⟩), none⟩,
    ⟨some ⟨.d0, .d4, .d7⟩, .fieldAddr 5 (.t ⟨.d0, .d0, .d2⟩), some (⟨.d0, .d4, .d6⟩, true)⟩,
    ⟨some ⟨.d0, .d5, .d0⟩, .load false 1 (.t ⟨.d0, .d4, .d7⟩), some (⟨.d0, .d4, .d6⟩, true)⟩,
    ⟨some ⟨.d0, .d5, .d1⟩, .fieldAddr 5 (.t ⟨.d0, .d0, .d3⟩), some (⟨.d0, .d4, .d6⟩, true)⟩,
    ⟨some ⟨.d0, .d5, .d2⟩, .load false 1 (.t ⟨.d0, .d5, .d1⟩), some (⟨.d0, .d4, .d6⟩, true)⟩,
    ⟨some ⟨.d0, .d5, .d3⟩, .bin .eql (.t ⟨.d0, .d5, .d0⟩) (.t ⟨.d0, .d5, .d2⟩), some (⟨.d0, .d4, .d6⟩, true)⟩,
    ⟨some ⟨.d0, .d5, .d4⟩, .pick (.t ⟨.d0, .d4, .d6⟩) (.t ⟨.d0, .d5, .d3⟩) (.c (.bool false)), none⟩,
    ⟨some ⟨.d0, .d5, .d5⟩, .move (.t ⟨.d0, .d5, .d4⟩), none⟩,
    ⟨some ⟨.d0, .d5, .d6⟩, .fieldAddr 6 (.t ⟨.d0, .d0, .d2⟩), some (⟨.d0, .d5, .d5⟩, true)⟩,
    ⟨some ⟨.d0, .d5, .d7⟩, .load false 1 (.t ⟨.d0, .d5, .d6⟩), some (⟨.d0, .d5, .d5⟩, true)⟩,
    ⟨some ⟨.d0, .d6, .d0⟩, .fieldAddr 6 (.t ⟨.d0, .d0, .d3⟩), some (⟨.d0, .d5, .d5⟩, true)⟩,
    ⟨some ⟨.d0, .d6, .d1⟩, .load false 1 (.t ⟨.d0, .d6, .d0⟩), some (⟨.d0, .d5, .d5⟩, true)⟩,
    ⟨some ⟨.d0, .d6, .d2⟩, .bin .eql (.t ⟨.d0, .d5, .d7⟩) (.t ⟨.d0, .d6, .d1⟩), some (⟨.d0, .d5, .d5⟩, true)⟩,
    ⟨some ⟨.d0, .d6, .d3⟩, .pick (.t ⟨.d0, .d5, .d5⟩) (.t ⟨.d0, .d6, .d2⟩) (.c (.bool false)), none⟩,
    ⟨some ⟨.d0, .d6, .d4⟩, .move (.t ⟨.d0, .d6, .d3⟩), none⟩,
    ⟨some ⟨.d0, .d6, .d5⟩, .fieldAddr 8 (.t ⟨.d0, .d0, .d2⟩), some (⟨.d0, .d6, .d4⟩, true)⟩,
    ⟨some ⟨.d0, .d6, .d6⟩, .load false 1 (.t ⟨.d0, .d6, .d5⟩), some (⟨.d0, .d6, .d4⟩, true)⟩,
    ⟨some ⟨.d0, .d6, .d7⟩, .fieldAddr 8 (.t ⟨.d0, .d0, .d3⟩), some (⟨.d0, .d6, .d4⟩, true)⟩,
    ⟨some ⟨.d0, .d7, .d0⟩, .load false 1 (.t ⟨.d0, .d6, .d7⟩), some (⟨.d0, .d6, .d4⟩, true)⟩,
    ⟨some ⟨.d0, .d7, .d1⟩, .sbin .eql (.t ⟨.d0, .d6, .d6⟩) (.t ⟨.d0, .d7, .d0⟩), some (⟨.d0, .d6, .d4⟩, true)⟩,
    ⟨some ⟨.d0, .d7, .d2⟩, .pick (.t ⟨.d0, .d6, .d4⟩) (.t ⟨.d0, .d7, .d1⟩) (.c (.bool false)), none⟩,
    ⟨some ⟨.d0, .d7, .d3⟩, .move (.t ⟨.d0, .d7, .d2⟩), none⟩,
    ⟨some ⟨.d0, .d7, .d4⟩, .fieldAddr 7 (.t ⟨.d0, .d0, .d2⟩), some (⟨.d0, .d7, .d3⟩, true)⟩,
    ⟨some ⟨.d0, .d7, .d5⟩, .load false 1 (.t ⟨.d0, .d7, .d4⟩), some (⟨.d0, .d7, .d3⟩, true)⟩,
    ⟨some ⟨.d0, .d7, .d6⟩, .fieldAddr 7 (.t ⟨.d0, .d0, .d3⟩), some (⟨.d0, .d7, .d3⟩, true)⟩,
    ⟨some ⟨.d0, .d7, .d7⟩, .load false 1 (.t ⟨.d0, .d7, .d6⟩), some (⟨.d0, .d7, .d3⟩, true)⟩,
    ⟨some ⟨.d1, .d0, .d0⟩, .call 54 [(.t ⟨.d0, .d7, .d5⟩), (.t ⟨.d0, .d7, .d7⟩)], some (⟨.d0, .d7, .d3⟩, true)⟩,
    ⟨some ⟨.d1, .d0, .d1⟩, .pick (.t ⟨.d0, .d7, .d3⟩) (.t ⟨.d1, .d0, .d0⟩) (.c (.bool false)), none⟩,
    ⟨some ⟨.d0, .d0, .d4⟩, .move (.t ⟨.d1, .d0, .d1⟩), none⟩])
  (.ret))
def r_custref_SameSegment : List XR := [.tmp ⟨.d0, .d0, .d4⟩]
theorem ok_custref_SameSegment : okC Try.prog Try.f28.ntmps (bodyOf Try.f28) x_custref_SameSegment = true := by kernel_rfl
theorem okr_custref_SameSegment : okRs Try.prog Try.f28.results.toList r_custref_SameSegment = true := by kernel_rfl

/-- custref.Word -/
def x_custref_Word : XC :=
  .seq (.region [⟨some ⟨.d0, .d0, .d2⟩, .move (.c (.string { data := #[] })), none⟩])
  (.seq (.region [⟨some ⟨.d0, .d0, .d3⟩, .move (.t ⟨.d0, .d0, .d0⟩), none⟩,
    ⟨some ⟨.d0, .d0, .d4⟩, .bin .quo (.t ⟨.d0, .d0, .d3⟩) (.c (.int .i64 256)), none⟩,
    ⟨some ⟨.d0, .d0, .d5⟩, .move (.t ⟨.d0, .d0, .d0⟩), none⟩,
    ⟨some ⟨.d0, .d0, .d6⟩, .bin .rem (.t ⟨.d0, .d0, .d5⟩) (.c (.int .i64 256)), none⟩,
    ⟨some ⟨.d0, .d0, .d7⟩, .buildSlice 0 2 [.int .i64 0] [(0, (.t ⟨.d0, .d0, .d4⟩)), (1, (.t ⟨.d0, .d0, .d6⟩))], none⟩,
    ⟨some ⟨.d0, .d1, .d0⟩, .call 64 [(.t ⟨.d0, .d0, .d7⟩)], none⟩,
    ⟨some ⟨.d0, .d0, .d2⟩, .move (.t ⟨.d0, .d1, .d0⟩), none⟩])
  (.ret))
def r_custref_Word : List XR := [.tmp ⟨.d0, .d0, .d2⟩]
theorem ok_custref_Word : okC Try.prog Try.f35.ntmps (bodyOf Try.f35) x_custref_Word = true := by kernel_rfl
theorem okr_custref_Word : okRs Try.prog Try.f35.results.toList r_custref_Word = true := by kernel_rfl

/-- proxy.port -/
def x_proxy_port : XC :=
  .seq (.region [⟨some ⟨.d0, .d0, .d2⟩, .move (.c (.bool false)), none⟩])
  (.seq (.region [⟨some ⟨.d0, .d0, .d3⟩, .move (.t ⟨.d0, .d0, .d0⟩), none⟩,
    ⟨some ⟨.d0, .d0, .d4⟩, .bin .geq (.t ⟨.d0, .d0, .d3⟩) (.c (.int .i64 0)), none⟩,
    ⟨some ⟨.d0, .d0, .d5⟩, .move (.t ⟨.d0, .d0, .d4⟩), none⟩,
    ⟨some ⟨.d0, .d0, .d6⟩, .move (.t ⟨.d0, .d0, .d0⟩), some (⟨.d0, .d0, .d5⟩, true)⟩,
    ⟨some ⟨.d0, .d0, .d7⟩, .bin .leq (.t ⟨.d0, .d0, .d6⟩) (.c (.int .i64 65535)), some (⟨.d0, .d0, .d5⟩, true)⟩,
    ⟨some ⟨.d0, .d1, .d0⟩, .pick (.t ⟨.d0, .d0, .d5⟩) (.t ⟨.d0, .d0, .d7⟩) (.c (.bool false)), none⟩,
    ⟨some ⟨.d0, .d0, .d2⟩, .move (.t ⟨.d0, .d1, .d0⟩), none⟩])
  (.ret))
def r_proxy_port : List XR := [.tmp ⟨.d0, .d0, .d2⟩]
theorem ok_proxy_port : okC Try.prog Try.f37.ntmps (bodyOf Try.f37) x_proxy_port = true := by kernel_rfl
theorem okr_proxy_port : okRs Try.prog Try.f37.results.toList r_proxy_port = true := by kernel_rfl

/-- custref.Between -/
def x_custref_Between : XC :=
  .seq (.region [⟨some ⟨.d0, .d0, .d6⟩, .move (.c (.bool false)), none⟩])
  (.seq (.region [⟨some ⟨.d0, .d0, .d7⟩, .move (.t ⟨.d0, .d0, .d1⟩), none⟩,
    ⟨some ⟨.d0, .d1, .d0⟩, .move (.t ⟨.d0, .d0, .d0⟩), none⟩,
    ⟨some ⟨.d0, .d1, .d1⟩, .bin .leq (.t ⟨.d0, .d0, .d7⟩) (.t ⟨.d0, .d1, .d0⟩), none⟩,
    ⟨some ⟨.d0, .d1, .d2⟩, .move (.t ⟨.d0, .d1, .d1⟩), none⟩,
    ⟨some ⟨.d0, .d1, .d3⟩, .move (.t ⟨.d0, .d0, .d0⟩), some (⟨.d0, .d1, .d2⟩, true)⟩,
    ⟨some ⟨.d0, .d1, .d4⟩, .move (.t ⟨.d0, .d0, .d2⟩), some (⟨.d0, .d1, .d2⟩, true)⟩,
    ⟨some ⟨.d0, .d1, .d5⟩, .bin .leq (.t ⟨.d0, .d1, .d3⟩) (.t ⟨.d0, .d1, .d4⟩), some (⟨.d0, .d1, .d2⟩, true)⟩,
    ⟨some ⟨.d0, .d1, .d6⟩, .pick (.t ⟨.d0, .d1, .d2⟩) (.t ⟨.d0, .d1, .d5⟩) (.c (.bool false)), none⟩,
    ⟨some ⟨.d0, .d0, .d6⟩, .move (.t ⟨.d0, .d1, .d6⟩), none⟩])
  (.ret))
def r_custref_Between : List XR := [.tmp ⟨.d0, .d0, .d6⟩]
theorem ok_custref_Between : okC Try.prog Try.f38.ntmps (bodyOf Try.f38) x_custref_Between = true := by kernel_rfl
theorem okr_custref_Between : okRs Try.prog Try.f38.results.toList r_custref_Between = true := by kernel_rfl

/-- custref.RoadRight -/
def x_custref_RoadRight : XC :=
  .seq (.region [⟨some ⟨.d0, .d0, .d1⟩, .box 0 4 (.t ⟨.d0, .d0, .d0⟩), none⟩,
    ⟨some ⟨.d0, .d0, .d2⟩, .move (.c (.bool false)), none⟩])
  (.seq (.region [⟨some ⟨.d0, .d0, .d3⟩, .fieldAddr 2 (.t ⟨.d0, .d0, .d1⟩), none⟩,
    ⟨some ⟨.d0, .d0, .d4⟩, .load false 1 (.t ⟨.d0, .d0, .d3⟩), none⟩,
    ⟨some ⟨.d0, .d0, .d5⟩, .call 38 [(.t ⟨.d0, .d0, .d4⟩), (.c (.int .i64 0)), (.c (.int .i64 65535))], none⟩,
    ⟨some ⟨.d0, .d0, .d6⟩, .move (.t ⟨.d0, .d0, .d5⟩), none⟩,
    ⟨some ⟨.d0, .d0, .d7⟩, .fieldAddr 3 (.t ⟨.d0, .d0, .d1⟩), some (⟨.d0, .d0, .d6⟩, true)⟩,
    ⟨some ⟨.d0, .d1, .d0⟩, .load false 1 (.t ⟨.d0, .d0, .d7⟩), some (⟨.d0, .d0, .d6⟩, true)⟩,
    ⟨some ⟨.d0, .d1, .d1⟩, .call 38 [(.t ⟨.d0, .d1, .d0⟩), (.c (.int .i64 0)), (.c (.int .i64 65535))], some (⟨.d0, .d0, .d6⟩, true)⟩,
    ⟨some ⟨.d0, .d1, .d2⟩, .pick (.t ⟨.d0, .d0, .d6⟩) (.t ⟨.d0, .d1, .d1⟩) (.c (.bool false)), none⟩,
    ⟨some ⟨.d0, .d0, .d2⟩, .move (.t ⟨.d0, .d1, .d2⟩), none⟩])
  (.ret))
def r_custref_RoadRight : List XR := [.tmp ⟨.d0, .d0, .d2⟩]
theorem ok_custref_RoadRight : okC Try.prog Try.f39.ntmps (bodyOf Try.f39) x_custref_RoadRight = true := by kernel_rfl
theorem okr_custref_RoadRight : okRs Try.prog Try.f39.results.toList r_custref_RoadRight = true := by kernel_rfl

/-- tcp.Write -/
def x_tcp_Write : XC :=
  .seq (.region [⟨some ⟨.d0, .d0, .d3⟩, .box 0 9 (.t ⟨.d0, .d0, .d0⟩), none⟩,
    ⟨some ⟨.d0, .d0, .d6⟩, .move (.c (.string { data := #[] })), none⟩,
    ⟨some ⟨.d0, .d0, .d7⟩, .move (.c (.int .i64 0)), none⟩])
  (.seq (.seq (.region [⟨some ⟨.d0, .d1, .d6⟩, .fieldAddr 0 (.t ⟨.d0, .d0, .d3⟩), none⟩,
    ⟨some ⟨.d0, .d1, .d7⟩, .load false 1 (.t ⟨.d0, .d1, .d6⟩), none⟩,
    ⟨some ⟨.d0, .d2, .d0⟩, .fieldAddr 1 (.t ⟨.d0, .d0, .d3⟩), none⟩,
    ⟨some ⟨.d0, .d2, .d1⟩, .load false 1 (.t ⟨.d0, .d2, .d0⟩), none⟩,
    ⟨some ⟨.d0, .d2, .d2⟩, .fieldAddr 5 (.t ⟨.d0, .d0, .d3⟩), none⟩,
    ⟨some ⟨.d0, .d2, .d3⟩, .load false 1 (.t ⟨.d0, .d2, .d2⟩), none⟩,
    ⟨some ⟨.d0, .d2, .d4⟩, .fieldAddr 6 (.t ⟨.d0, .d0, .d3⟩), none⟩,
    ⟨some ⟨.d0, .d2, .d5⟩, .load false 1 (.t ⟨.d0, .d2, .d4⟩), none⟩,
    ⟨some ⟨.d0, .d2, .d6⟩, .buildSlice 1 4 [.int .i64 0] [(0, (.t ⟨.d0, .d1, .d7⟩)), (1, (.t ⟨.d0, .d2, .d1⟩)), (2, (.t ⟨.d0, .d2, .d3⟩)), (3, (.t ⟨.d0, .d2, .d5⟩))], none⟩,
    ⟨some ⟨.d0, .d2, .d7⟩, .call 66 [(.t ⟨.d0, .d2, .d6⟩)], none⟩,
    ⟨some ⟨.d0, .d3, .d0⟩, .un .not (.t ⟨.d0, .d2, .d7⟩), none⟩,
    ⟨some ⟨.d0, .d3, .d1⟩, .move (.t ⟨.d0, .d3, .d0⟩), none⟩,
    ⟨some ⟨.d0, .d3, .d2⟩, .fieldAddr 4 (.t ⟨.d0, .d0, .d3⟩), some (⟨.d0, .d3, .d1⟩, false)⟩,
    ⟨some ⟨.d0, .d3, .d3⟩, .load false 1 (.t ⟨.d0, .d3, .d2⟩), some (⟨.d0, .d3, .d1⟩, false)⟩,
    ⟨some ⟨.d0, .d3, .d4⟩, .bin .lss (.t ⟨.d0, .d3, .d3⟩) (.c (.int .i64 0)), some (⟨.d0, .d3, .d1⟩, false)⟩,
    ⟨some ⟨.d0, .d3, .d5⟩, .pick (.t ⟨.d0, .d3, .d1⟩) (.c (.bool true)) (.t ⟨.d0, .d3, .d4⟩), none⟩,
    ⟨some ⟨.d0, .d3, .d6⟩, .move (.t ⟨.d0, .d3, .d5⟩), none⟩,
    ⟨some ⟨.d0, .d3, .d7⟩, .fieldAddr 4 (.t ⟨.d0, .d0, .d3⟩), some (⟨.d0, .d3, .d6⟩, false)⟩,
    ⟨some ⟨.d0, .d4, .d0⟩, .load false 1 (.t ⟨.d0, .d3, .d7⟩), some (⟨.d0, .d3, .d6⟩, false)⟩,
    ⟨some ⟨.d0, .d4, .d1⟩, .bin .gtr (.t ⟨.d0, .d4, .d0⟩) (.c (.int .i64 255)), some (⟨.d0, .d3, .d6⟩, false)⟩,
    ⟨some ⟨.d0, .d4, .d2⟩, .pick (.t ⟨.d0, .d3, .d6⟩) (.c (.bool true)) (.t ⟨.d0, .d4, .d1⟩), none⟩])
  (.cond (.t ⟨.d0, .d4, .d2⟩)
    (.seq (.region [⟨some ⟨.d0, .d0, .d6⟩, .move (.c (.string { data := #[] })), none⟩,
      ⟨some ⟨.d0, .d0, .d7⟩, .move (.c (.int .i64 1)), none⟩])
    (.ret))
    (.skip)))
  (.seq (.region [⟨some ⟨.d0, .d4, .d4⟩, .fieldAddr 7 (.t ⟨.d0, .d0, .d3⟩), none⟩,
    ⟨some ⟨.d0, .d4, .d5⟩, .load false 1 (.t ⟨.d0, .d4, .d4⟩), none⟩,
    ⟨some ⟨.d0, .d4, .d6⟩, .call 67 [(.t ⟨.d0, .d4, .d5⟩)], none⟩,
    ⟨some ⟨.d0, .d4, .d3⟩, .move (.t ⟨.d0, .d4, .d6⟩), none⟩,
    ⟨some ⟨.d0, .d4, .d7⟩, .extract 0 (.t ⟨.d0, .d4, .d3⟩), none⟩,
    ⟨some ⟨.d0, .d5, .d0⟩, .extract 1 (.t ⟨.d0, .d4, .d3⟩), none⟩,
    ⟨some ⟨.d0, .d1, .d0⟩, .move (.t ⟨.d0, .d4, .d7⟩), none⟩,
    ⟨some ⟨.d0, .d1, .d1⟩, .move (.t ⟨.d0, .d5, .d0⟩), none⟩])
  (.seq (.seq (.region [⟨some ⟨.d0, .d5, .d1⟩, .move (.t ⟨.d0, .d1, .d1⟩), none⟩,
    ⟨some ⟨.d0, .d5, .d2⟩, .un .not (.t ⟨.d0, .d5, .d1⟩), none⟩])
  (.cond (.t ⟨.d0, .d5, .d2⟩)
    (.seq (.region [⟨some ⟨.d0, .d0, .d6⟩, .move (.c (.string { data := #[] })), none⟩,
      ⟨some ⟨.d0, .d0, .d7⟩, .move (.c (.int .i64 4)), none⟩])
    (.ret))
    (.skip)))
  (.seq (.seq (.region [⟨some ⟨.d0, .d5, .d3⟩, .move (.t ⟨.d0, .d1, .d0⟩), none⟩,
    ⟨some ⟨.d0, .d5, .d4⟩, .slen (.t ⟨.d0, .d5, .d3⟩), none⟩,
    ⟨some ⟨.d0, .d5, .d5⟩, .bin .gtr (.t ⟨.d0, .d5, .d4⟩) (.c (.int .i64 40)), none⟩,
    ⟨some ⟨.d0, .d5, .d6⟩, .move (.t ⟨.d0, .d5, .d5⟩), none⟩,
    ⟨some ⟨.d0, .d5, .d7⟩, .fieldAddr 8 (.t ⟨.d0, .d0, .d3⟩), some (⟨.d0, .d5, .d6⟩, false)⟩,
    ⟨some ⟨.d0, .d6, .d0⟩, .load false 1 (.t ⟨.d0, .d5, .d7⟩), some (⟨.d0, .d5, .d6⟩, false)⟩,
    ⟨some ⟨.d0, .d6, .d1⟩, .slen (.t ⟨.d0, .d6, .d0⟩), some (⟨.d0, .d5, .d6⟩, false)⟩,
    ⟨some ⟨.d0, .d6, .d2⟩, .bin .gtr (.t ⟨.d0, .d6, .d1⟩) (.c (.int .i64 65455)), some (⟨.d0, .d5, .d6⟩, false)⟩,
    ⟨some ⟨.d0, .d6, .d3⟩, .pick (.t ⟨.d0, .d5, .d6⟩) (.c (.bool true)) (.t ⟨.d0, .d6, .d2⟩), none⟩])
  (.cond (.t ⟨.d0, .d6, .d3⟩)
    (.seq (.region [⟨some ⟨.d0, .d0, .d6⟩, .move (.c (.string { data := #[] })), none⟩,
      ⟨some ⟨.d0, .d0, .d7⟩, .move (.c (.int .i64 2)), none⟩])
    (.ret))
    (.skip)))
  (.seq (.block 0
    (.loop
      (.seq (.seq (.region [⟨some ⟨.d0, .d6, .d4⟩, .move (.t ⟨.d0, .d1, .d0⟩), none⟩,
        ⟨some ⟨.d0, .d6, .d5⟩, .slen (.t ⟨.d0, .d6, .d4⟩), none⟩,
        ⟨some ⟨.d0, .d6, .d6⟩, .bin .rem (.t ⟨.d0, .d6, .d5⟩) (.c (.int .i64 4)), none⟩,
        ⟨some ⟨.d0, .d6, .d7⟩, .bin .neq (.t ⟨.d0, .d6, .d6⟩) (.c (.int .i64 0)), none⟩])
      (.cond (.t ⟨.d0, .d6, .d7⟩)
        (.skip)
        (.exit 0)))
      (.block 1
        (.region [⟨some ⟨.d0, .d7, .d0⟩, .move (.t ⟨.d0, .d1, .d0⟩), none⟩,
          ⟨some ⟨.d0, .d7, .d1⟩, .sbin .add (.t ⟨.d0, .d7, .d0⟩) (.c (.string { data := #[0] })), none⟩,
          ⟨some ⟨.d0, .d1, .d0⟩, .move (.t ⟨.d0, .d7, .d1⟩), none⟩])))))
  (.seq (.region [⟨some ⟨.d0, .d7, .d2⟩, .move (.t ⟨.d0, .d1, .d0⟩), none⟩,
    ⟨some ⟨.d0, .d7, .d3⟩, .slen (.t ⟨.d0, .d7, .d2⟩), none⟩,
    ⟨some ⟨.d0, .d7, .d4⟩, .bin .add (.c (.int .i64 20)) (.t ⟨.d0, .d7, .d3⟩), none⟩,
    ⟨some ⟨.d0, .d1, .d2⟩, .move (.t ⟨.d0, .d7, .d4⟩), none⟩])
  (.seq (.regionD [0, 1, 3, 0, 8, 31, 63, 0, 128, 447, 1023, 0, 2048, 7103, 16383, 0, 32768, 98304, 0, 262144, 786432, 2064384, 4161536, 8388607, 0, 16777216, 50346943, 134217727, 268435455] [⟨some ⟨.d0, .d7, .d5⟩, .fieldAddr 0 (.t ⟨.d0, .d0, .d3⟩), none⟩,
    ⟨some ⟨.d0, .d7, .d6⟩, .load false 1 (.t ⟨.d0, .d7, .d5⟩), none⟩,
    ⟨some ⟨.d0, .d7, .d7⟩, .call 68 [(.t ⟨.d0, .d7, .d6⟩)], none⟩,
    ⟨some ⟨.d1, .d0, .d0⟩, .fieldAddr 1 (.t ⟨.d0, .d0, .d3⟩), none⟩,
    ⟨some ⟨.d1, .d0, .d1⟩, .load false 1 (.t ⟨.d1, .d0, .d0⟩), none⟩,
    ⟨some ⟨.d1, .d0, .d2⟩, .call 68 [(.t ⟨.d1, .d0, .d1⟩)], none⟩,
    ⟨some ⟨.d1, .d0, .d3⟩, .sbin .add (.t ⟨.d0, .d7, .d7⟩) (.t ⟨.d1, .d0, .d2⟩), none⟩,
    ⟨some ⟨.d1, .d0, .d4⟩, .fieldAddr 2 (.t ⟨.d0, .d0, .d3⟩), none⟩,
    ⟨some ⟨.d1, .d0, .d5⟩, .load false 1 (.t ⟨.d1, .d0, .d4⟩), none⟩,
    ⟨some ⟨.d1, .d0, .d6⟩, .call 69 [(.t ⟨.d1, .d0, .d5⟩)], none⟩,
    ⟨some ⟨.d1, .d0, .d7⟩, .sbin .add (.t ⟨.d1, .d0, .d3⟩) (.t ⟨.d1, .d0, .d6⟩), none⟩,
    ⟨some ⟨.d1, .d1, .d0⟩, .fieldAddr 3 (.t ⟨.d0, .d0, .d3⟩), none⟩,
    ⟨some ⟨.d1, .d1, .d1⟩, .load false 1 (.t ⟨.d1, .d1, .d0⟩), none⟩,
    ⟨some ⟨.d1, .d1, .d2⟩, .call 69 [(.t ⟨.d1, .d1, .d1⟩)], none⟩,
    ⟨some ⟨.d1, .d1, .d3⟩, .sbin .add (.t ⟨.d1, .d0, .d7⟩) (.t ⟨.d1, .d1, .d2⟩), none⟩,
    ⟨some ⟨.d1, .d1, .d4⟩, .move (.t ⟨.d0, .d1, .d2⟩), none⟩,
    ⟨some ⟨.d1, .d1, .d5⟩, .bin .mul (.t ⟨.d1, .d1, .d4⟩) (.c (.int .i64 4)), none⟩,
    ⟨some ⟨.d1, .d1, .d6⟩, .convInt .u8 (.t ⟨.d1, .d1, .d5⟩), none⟩,
    ⟨some ⟨.d1, .d1, .d7⟩, .fieldAddr 4 (.t ⟨.d0, .d0, .d3⟩), none⟩,
    ⟨some ⟨.d1, .d2, .d0⟩, .load false 1 (.t ⟨.d1, .d1, .d7⟩), none⟩,
    ⟨some ⟨.d1, .d2, .d1⟩, .convInt .u8 (.t ⟨.d1, .d2, .d0⟩), none⟩,
    ⟨some ⟨.d1, .d2, .d2⟩, .buildSlice 2 2 [.int .u8 0] [(0, (.t ⟨.d1, .d1, .d6⟩)), (1, (.t ⟨.d1, .d2, .d1⟩))], none⟩,
    ⟨some ⟨.d1, .d2, .d3⟩, .b2s (.t ⟨.d1, .d2, .d2⟩), none⟩,
    ⟨some ⟨.d1, .d2, .d4⟩, .sbin .add (.t ⟨.d1, .d1, .d3⟩) (.t ⟨.d1, .d2, .d3⟩), none⟩,
    ⟨some ⟨.d1, .d2, .d5⟩, .fieldAddr 5 (.t ⟨.d0, .d0, .d3⟩), none⟩,
    ⟨some ⟨.d1, .d2, .d6⟩, .load false 1 (.t ⟨.d1, .d2, .d5⟩), none⟩,
    ⟨some ⟨.d1, .d2, .d7⟩, .call 68 [(.t ⟨.d1, .d2, .d6⟩)], none⟩,
    ⟨some ⟨.d1, .d3, .d0⟩, .sbin .add (.t ⟨.d1, .d2, .d4⟩) (.t ⟨.d1, .d2, .d7⟩), none⟩,
    ⟨some ⟨.d0, .d1, .d3⟩, .move (.t ⟨.d1, .d3, .d0⟩), none⟩])
  (.seq (.regionD [0, 1, 3, 0, 15, 0, 32, 127, 255] [⟨some ⟨.d1, .d3, .d1⟩, .fieldAddr 6 (.t ⟨.d0, .d0, .d3⟩), none⟩,
    ⟨some ⟨.d1, .d3, .d2⟩, .load false 1 (.t ⟨.d1, .d3, .d1⟩), none⟩,
    ⟨some ⟨.d1, .d3, .d3⟩, .call 68 [(.t ⟨.d1, .d3, .d2⟩)], none⟩,
    ⟨some ⟨.d1, .d3, .d4⟩, .move (.t ⟨.d0, .d1, .d0⟩), none⟩,
    ⟨some ⟨.d1, .d3, .d5⟩, .sbin .add (.t ⟨.d1, .d3, .d3⟩) (.t ⟨.d1, .d3, .d4⟩), none⟩,
    ⟨some ⟨.d1, .d3, .d6⟩, .fieldAddr 8 (.t ⟨.d0, .d0, .d3⟩), none⟩,
    ⟨some ⟨.d1, .d3, .d7⟩, .load false 1 (.t ⟨.d1, .d3, .d6⟩), none⟩,
    ⟨some ⟨.d1, .d4, .d0⟩, .sbin .add (.t ⟨.d1, .d3, .d5⟩) (.t ⟨.d1, .d3, .d7⟩), none⟩,
    ⟨some ⟨.d0, .d1, .d4⟩, .move (.t ⟨.d1, .d4, .d0⟩), none⟩])
  (.seq (.region [⟨some ⟨.d1, .d4, .d1⟩, .move (.t ⟨.d0, .d0, .d1⟩), none⟩,
    ⟨some ⟨.d1, .d4, .d2⟩, .move (.t ⟨.d0, .d0, .d2⟩), none⟩,
    ⟨some ⟨.d1, .d4, .d3⟩, .move (.t ⟨.d0, .d1, .d2⟩), none⟩,
    ⟨some ⟨.d1, .d4, .d4⟩, .fieldAddr 8 (.t ⟨.d0, .d0, .d3⟩), none⟩,
    ⟨some ⟨.d1, .d4, .d5⟩, .load false 1 (.t ⟨.d1, .d4, .d4⟩), none⟩,
    ⟨some ⟨.d1, .d4, .d6⟩, .slen (.t ⟨.d1, .d4, .d5⟩), none⟩,
    ⟨some ⟨.d1, .d4, .d7⟩, .bin .add (.t ⟨.d1, .d4, .d3⟩) (.t ⟨.d1, .d4, .d6⟩), none⟩,
    ⟨some ⟨.d1, .d5, .d0⟩, .call 71 [(.t ⟨.d1, .d4, .d1⟩), (.t ⟨.d1, .d4, .d2⟩), (.c (.int .i64 6)), (.t ⟨.d1, .d4, .d7⟩)], none⟩,
    ⟨some ⟨.d1, .d5, .d1⟩, .move (.t ⟨.d0, .d1, .d3⟩), none⟩,
    ⟨some ⟨.d1, .d5, .d2⟩, .sbin .add (.t ⟨.d1, .d5, .d0⟩) (.t ⟨.d1, .d5, .d1⟩), none⟩,
    ⟨some ⟨.d1, .d5, .d3⟩, .move (.t ⟨.d0, .d1, .d4⟩), none⟩,
    ⟨some ⟨.d1, .d5, .d4⟩, .sbin .add (.t ⟨.d1, .d5, .d2⟩) (.t ⟨.d1, .d5, .d3⟩), none⟩,
    ⟨some ⟨.d1, .d5, .d5⟩, .call 70 [(.t ⟨.d1, .d5, .d4⟩)], none⟩,
    ⟨some ⟨.d0, .d1, .d5⟩, .move (.t ⟨.d1, .d5, .d5⟩), none⟩])
  (.seq (.region [⟨some ⟨.d1, .d5, .d6⟩, .move (.t ⟨.d0, .d1, .d3⟩), none⟩,
    ⟨some ⟨.d1, .d5, .d7⟩, .move (.t ⟨.d0, .d1, .d5⟩), none⟩,
    ⟨some ⟨.d1, .d6, .d0⟩, .convInt .i64 (.t ⟨.d1, .d5, .d7⟩), none⟩,
    ⟨some ⟨.d1, .d6, .d1⟩, .call 68 [(.t ⟨.d1, .d6, .d0⟩)], none⟩,
    ⟨some ⟨.d1, .d6, .d2⟩, .sbin .add (.t ⟨.d1, .d5, .d6⟩) (.t ⟨.d1, .d6, .d1⟩), none⟩,
    ⟨some ⟨.d1, .d6, .d3⟩, .move (.t ⟨.d0, .d1, .d4⟩), none⟩,
    ⟨some ⟨.d1, .d6, .d4⟩, .sbin .add (.t ⟨.d1, .d6, .d2⟩) (.t ⟨.d1, .d6, .d3⟩), none⟩,
    ⟨some ⟨.d0, .d0, .d6⟩, .move (.t ⟨.d1, .d6, .d4⟩), none⟩,
    ⟨some ⟨.d0, .d0, .d7⟩, .move (.c (.int .i64 0)), none⟩])
  (.ret)))))))))))
def r_tcp_Write : List XR := [.tmp ⟨.d0, .d0, .d6⟩, .tmp ⟨.d0, .d0, .d7⟩]
theorem ok_tcp_Write : okC Try.prog Try.f40.ntmps (bodyOf Try.f40) x_tcp_Write = true := by kernel_rfl
theorem okr_tcp_Write : okRs Try.prog Try.f40.results.toList r_tcp_Write = true := by kernel_rfl

/-- slices.DeleteFunc -/
def x_slices_DeleteFunc_api_Guarded : XC :=
  .seq (.region [⟨some ⟨.d0, .d0, .d4⟩, .move (.c (.slice none 0 0)), none⟩])
  (.seq (.region [⟨some ⟨.d0, .d1, .d0⟩, .move (.t ⟨.d0, .d0, .d0⟩), none⟩,
    ⟨some ⟨.d0, .d1, .d1⟩, .move (.t ⟨.d0, .d0, .d1⟩), none⟩,
    ⟨some ⟨.d0, .d1, .d2⟩, .call 44 [(.t ⟨.d0, .d1, .d0⟩), (.t ⟨.d0, .d1, .d1⟩)], none⟩,
    ⟨some ⟨.d0, .d0, .d5⟩, .move (.t ⟨.d0, .d1, .d2⟩), none⟩])
  (.seq (.seq (.region [⟨some ⟨.d0, .d1, .d3⟩, .move (.t ⟨.d0, .d0, .d5⟩), none⟩,
    ⟨some ⟨.d0, .d1, .d4⟩, .bin .eql (.t ⟨.d0, .d1, .d3⟩) (.c (.int .i64 (-1))), none⟩])
  (.cond (.t ⟨.d0, .d1, .d4⟩)
    (.seq (.region [⟨some ⟨.d0, .d1, .d5⟩, .move (.t ⟨.d0, .d0, .d0⟩), none⟩,
      ⟨some ⟨.d0, .d0, .d4⟩, .move (.t ⟨.d0, .d1, .d5⟩), none⟩])
    (.ret))
    (.skip)))
  (.seq (.seq (.region [⟨some ⟨.d0, .d1, .d6⟩, .move (.t ⟨.d0, .d0, .d5⟩), none⟩,
    ⟨some ⟨.d0, .d1, .d7⟩, .bin .add (.t ⟨.d0, .d1, .d6⟩) (.c (.int .i64 1)), none⟩,
    ⟨some ⟨.d0, .d0, .d6⟩, .move (.t ⟨.d0, .d1, .d7⟩), none⟩])
  (.block 0
    (.loop
      (.seq (.seq (.region [⟨some ⟨.d0, .d2, .d0⟩, .move (.t ⟨.d0, .d0, .d6⟩), none⟩,
        ⟨some ⟨.d0, .d2, .d1⟩, .move (.t ⟨.d0, .d0, .d0⟩), none⟩,
        ⟨some ⟨.d0, .d2, .d2⟩, .len (.t ⟨.d0, .d2, .d1⟩), none⟩,
        ⟨some ⟨.d0, .d2, .d3⟩, .bin .lss (.t ⟨.d0, .d2, .d0⟩) (.t ⟨.d0, .d2, .d2⟩), none⟩])
      (.cond (.t ⟨.d0, .d2, .d3⟩)
        (.skip)
        (.exit 0)))
      (.seq (.block 1
        (.seq (.region [⟨some ⟨.d0, .d2, .d6⟩, .move (.t ⟨.d0, .d0, .d0⟩), none⟩,
          ⟨some ⟨.d0, .d2, .d7⟩, .move (.t ⟨.d0, .d0, .d6⟩), none⟩,
          ⟨some ⟨.d0, .d3, .d0⟩, .indexSl 9 (.t ⟨.d0, .d2, .d6⟩) (.t ⟨.d0, .d2, .d7⟩), none⟩,
          ⟨some ⟨.d0, .d3, .d1⟩, .load true 9 (.t ⟨.d0, .d3, .d0⟩), none⟩,
          ⟨some ⟨.d0, .d0, .d7⟩, .alloc 1 [.int .u32 0, .int .u32 0, .int .i64 0, .int .i64 0, .int .u32 0, .int .u32 0, .int .u32 0, .bool false, .int .i64 0], none⟩,
          ⟨none, .store 9 (.t ⟨.d0, .d0, .d7⟩) (.t ⟨.d0, .d3, .d1⟩), none⟩])
        (.seq (.region [⟨some ⟨.d0, .d3, .d2⟩, .move (.t ⟨.d0, .d0, .d1⟩), none⟩,
          ⟨some ⟨.d0, .d3, .d3⟩, .load true 9 (.t ⟨.d0, .d0, .d7⟩), none⟩,
          ⟨some ⟨.d0, .d3, .d4⟩, .callv (.t ⟨.d0, .d3, .d2⟩) [(.t ⟨.d0, .d3, .d3⟩)], none⟩,
          ⟨some ⟨.d0, .d3, .d5⟩, .un .not (.t ⟨.d0, .d3, .d4⟩), none⟩])
        (.cond (.t ⟨.d0, .d3, .d5⟩)
          (.seq (.region [⟨some ⟨.d0, .d3, .d6⟩, .move (.t ⟨.d0, .d0, .d0⟩), none⟩,
            ⟨some ⟨.d0, .d3, .d7⟩, .move (.t ⟨.d0, .d0, .d5⟩), none⟩,
            ⟨some ⟨.d0, .d4, .d0⟩, .load true 9 (.t ⟨.d0, .d0, .d7⟩), none⟩,
            ⟨some ⟨.d0, .d4, .d1⟩, .indexSl 9 (.t ⟨.d0, .d3, .d6⟩) (.t ⟨.d0, .d3, .d7⟩), none⟩,
            ⟨none, .store 9 (.t ⟨.d0, .d4, .d1⟩) (.t ⟨.d0, .d4, .d0⟩), none⟩])
          (.region [⟨some ⟨.d0, .d4, .d2⟩, .move (.t ⟨.d0, .d0, .d5⟩), none⟩,
            ⟨some ⟨.d0, .d4, .d3⟩, .bin .add (.t ⟨.d0, .d4, .d2⟩) (.c (.int .i64 1)), none⟩,
            ⟨some ⟨.d0, .d0, .d5⟩, .move (.t ⟨.d0, .d4, .d3⟩), none⟩]))
          (.skip)))))
      (.region [⟨some ⟨.d0, .d2, .d4⟩, .move (.t ⟨.d0, .d0, .d6⟩), none⟩,
        ⟨some ⟨.d0, .d2, .d5⟩, .bin .add (.t ⟨.d0, .d2, .d4⟩) (.c (.int .i64 1)), none⟩,
        ⟨some ⟨.d0, .d0, .d6⟩, .move (.t ⟨.d0, .d2, .d5⟩), none⟩]))))))
  (.seq (.region [⟨some ⟨.d0, .d4, .d4⟩, .move (.t ⟨.d0, .d0, .d0⟩), none⟩,
    ⟨some ⟨.d0, .d4, .d5⟩, .move (.t ⟨.d0, .d0, .d5⟩), none⟩,
    ⟨some ⟨.d0, .d4, .d6⟩, .slice 9 (.t ⟨.d0, .d4, .d4⟩) (some (.t ⟨.d0, .d4, .d5⟩)) none none, none⟩,
    ⟨none, .clear [.int .u32 0, .int .u32 0, .int .i64 0, .int .i64 0, .int .u32 0, .int .u32 0, .int .u32 0, .bool false, .int .i64 0] (.t ⟨.d0, .d4, .d6⟩), none⟩])
  (.seq (.region [⟨some ⟨.d0, .d4, .d7⟩, .move (.t ⟨.d0, .d0, .d0⟩), none⟩,
    ⟨some ⟨.d0, .d5, .d0⟩, .move (.t ⟨.d0, .d0, .d5⟩), none⟩,
    ⟨some ⟨.d0, .d5, .d1⟩, .slice 9 (.t ⟨.d0, .d4, .d7⟩) none (some (.t ⟨.d0, .d5, .d0⟩)) none, none⟩,
    ⟨some ⟨.d0, .d0, .d4⟩, .move (.t ⟨.d0, .d5, .d1⟩), none⟩])
  (.ret))))))
def r_slices_DeleteFunc_api_Guarded : List XR := [.tmp ⟨.d0, .d0, .d4⟩]
theorem ok_slices_DeleteFunc_api_Guarded : okC Try.prog Try.f41.ntmps (bodyOf Try.f41) x_slices_DeleteFunc_api_Guarded = true := by kernel_rfl
theorem okr_slices_DeleteFunc_api_Guarded : okRs Try.prog Try.f41.results.toList r_slices_DeleteFunc_api_Guarded = true := by kernel_rfl

/-- proxy.begun-1 -/
def x_proxy_begun_1 : XC :=
  .seq (.region [⟨some ⟨.d0, .d0, .d2⟩, .box 0 9 (.t ⟨.d0, .d0, .d0⟩), none⟩,
    ⟨some ⟨.d0, .d0, .d3⟩, .move (.c (.bool false)), none⟩])
  (.seq (.region [⟨some ⟨.d0, .d0, .d4⟩, .load true 9 (.t ⟨.d0, .d0, .d2⟩), none⟩,
    ⟨some ⟨.d0, .d0, .d5⟩, .load false 1 (.t ⟨.d0, .d0, .d1⟩), none⟩,
    ⟨some ⟨.d0, .d0, .d6⟩, .call 43 [(.t ⟨.d0, .d0, .d4⟩), (.t ⟨.d0, .d0, .d5⟩)], none⟩,
    ⟨some ⟨.d0, .d0, .d3⟩, .move (.t ⟨.d0, .d0, .d6⟩), none⟩])
  (.ret))
def r_proxy_begun_1 : List XR := [.tmp ⟨.d0, .d0, .d3⟩]
theorem ok_proxy_begun_1 : okC Try.prog Try.f42.ntmps (bodyOf Try.f42) x_proxy_begun_1 = true := by kernel_rfl
theorem okr_proxy_begun_1 : okRs Try.prog Try.f42.results.toList r_proxy_begun_1 = true := by kernel_rfl

/-- proxy.old -/
def x_proxy_old : XC :=
  .seq (.region [⟨some ⟨.d0, .d0, .d2⟩, .box 0 9 (.t ⟨.d0, .d0, .d0⟩), none⟩,
    ⟨some ⟨.d0, .d0, .d4⟩, .move (.c (.bool false)), none⟩])
  (.seq (.seq (.region [⟨some ⟨.d0, .d0, .d5⟩, .fieldAddr 7 (.t ⟨.d0, .d0, .d2⟩), none⟩,
    ⟨some ⟨.d0, .d0, .d6⟩, .load false 1 (.t ⟨.d0, .d0, .d5⟩), none⟩])
  (.cond (.t ⟨.d0, .d0, .d6⟩)
    (.seq (.region [⟨some ⟨.d0, .d0, .d7⟩, .move (.t ⟨.d0, .d0, .d1⟩), none⟩,
      ⟨some ⟨.d0, .d1, .d0⟩, .fieldAddr 8 (.t ⟨.d0, .d0, .d2⟩), none⟩,
      ⟨some ⟨.d0, .d1, .d1⟩, .load false 1 (.t ⟨.d0, .d1, .d0⟩), none⟩,
      ⟨some ⟨.d0, .d1, .d2⟩, .bin .sub (.t ⟨.d0, .d0, .d7⟩) (.t ⟨.d0, .d1, .d1⟩), none⟩,
      ⟨some ⟨.d0, .d1, .d3⟩, .bin .gtr (.t ⟨.d0, .d1, .d2⟩) (.c (.int .i64 3000)), none⟩,
      ⟨some ⟨.d0, .d0, .d4⟩, .move (.t ⟨.d0, .d1, .d3⟩), none⟩])
    (.ret))
    (.skip)))
  (.seq (.region [⟨some ⟨.d0, .d1, .d4⟩, .move (.t ⟨.d0, .d0, .d1⟩), none⟩,
    ⟨some ⟨.d0, .d1, .d5⟩, .fieldAddr 8 (.t ⟨.d0, .d0, .d2⟩), none⟩,
    ⟨some ⟨.d0, .d1, .d6⟩, .load false 1 (.t ⟨.d0, .d1, .d5⟩), none⟩,
    ⟨some ⟨.d0, .d1, .d7⟩, .bin .sub (.t ⟨.d0, .d1, .d4⟩) (.t ⟨.d0, .d1, .d6⟩), none⟩,
    ⟨some ⟨.d0, .d2, .d0⟩, .bin .gtr (.t ⟨.d0, .d1, .d7⟩) (.c (.int .i64 30)), none⟩,
    ⟨some ⟨.d0, .d0, .d4⟩, .move (.t ⟨.d0, .d2, .d0⟩), none⟩])
  (.ret)))
def r_proxy_old : List XR := [.tmp ⟨.d0, .d0, .d4⟩]
theorem ok_proxy_old : okC Try.prog Try.f43.ntmps (bodyOf Try.f43) x_proxy_old = true := by kernel_rfl
theorem okr_proxy_old : okRs Try.prog Try.f43.results.toList r_proxy_old = true := by kernel_rfl

/-- slices.IndexFunc -/
def x_slices_IndexFunc_api_Guarded : XC :=
  .seq (.region [⟨some ⟨.d0, .d0, .d4⟩, .move (.c (.int .i64 0)), none⟩])
  (.seq (.seq (.region [⟨some ⟨.d0, .d0, .d6⟩, .move (.t ⟨.d0, .d0, .d0⟩), none⟩,
    ⟨some ⟨.d0, .d0, .d7⟩, .len (.t ⟨.d0, .d0, .d6⟩), none⟩,
    ⟨some ⟨.d0, .d1, .d0⟩, .move (.c (.int .i64 0)), none⟩])
  (.block 0
    (.loop
      (.seq (.region [⟨some ⟨.d0, .d1, .d1⟩, .bin .lss (.t ⟨.d0, .d1, .d0⟩) (.t ⟨.d0, .d0, .d7⟩), none⟩])
      (.seq (.cond (.t ⟨.d0, .d1, .d1⟩)
        (.skip)
        (.exit 0))
      (.seq (.block 1
        (.seq (.region [⟨some ⟨.d0, .d1, .d2⟩, .move (.t ⟨.d0, .d1, .d0⟩), none⟩,
          ⟨some ⟨.d0, .d0, .d5⟩, .move (.t ⟨.d0, .d1, .d2⟩), none⟩])
        (.seq (.region [⟨some ⟨.d0, .d1, .d3⟩, .move (.t ⟨.d0, .d0, .d1⟩), none⟩,
          ⟨some ⟨.d0, .d1, .d4⟩, .move (.t ⟨.d0, .d0, .d0⟩), none⟩,
          ⟨some ⟨.d0, .d1, .d5⟩, .move (.t ⟨.d0, .d0, .d5⟩), none⟩,
          ⟨some ⟨.d0, .d1, .d6⟩, .indexSl 9 (.t ⟨.d0, .d1, .d4⟩) (.t ⟨.d0, .d1, .d5⟩), none⟩,
          ⟨some ⟨.d0, .d1, .d7⟩, .load true 9 (.t ⟨.d0, .d1, .d6⟩), none⟩,
          ⟨some ⟨.d0, .d2, .d0⟩, .callv (.t ⟨.d0, .d1, .d3⟩) [(.t ⟨.d0, .d1, .d7⟩)], none⟩])
        (.cond (.t ⟨.d0, .d2, .d0⟩)
          (.seq (.region [⟨some ⟨.d0, .d2, .d1⟩, .move (.t ⟨.d0, .d0, .d5⟩), none⟩,
            ⟨some ⟨.d0, .d0, .d4⟩, .move (.t ⟨.d0, .d2, .d1⟩), none⟩])
          (.ret))
          (.skip)))))
      (.region [⟨some ⟨.d0, .d2, .d2⟩, .bin .add (.t ⟨.d0, .d1, .d0⟩) (.c (.int .i64 1)), none⟩,
        ⟨some ⟨.d0, .d1, .d0⟩, .move (.t ⟨.d0, .d2, .d2⟩), none⟩])))))))
  (.seq (.region [⟨some ⟨.d0, .d0, .d4⟩, .move (.c (.int .i64 (-1))), none⟩])
  (.ret)))
def r_slices_IndexFunc_api_Guarded : List XR := [.tmp ⟨.d0, .d0, .d4⟩]
theorem ok_slices_IndexFunc_api_Guarded : okC Try.prog Try.f44.ntmps (bodyOf Try.f44) x_slices_IndexFunc_api_Guarded = true := by kernel_rfl
theorem okr_slices_IndexFunc_api_Guarded : okRs Try.prog Try.f44.results.toList r_slices_IndexFunc_api_Guarded = true := by kernel_rfl

/-- proxy.place-1 -/
def x_proxy_place_1 : XC :=
  .seq (.region [⟨some ⟨.d0, .d0, .d2⟩, .box 0 9 (.t ⟨.d0, .d0, .d0⟩), none⟩,
    ⟨some ⟨.d0, .d0, .d3⟩, .move (.c (.bool false)), none⟩])
  (.seq (.region [⟨some ⟨.d0, .d0, .d4⟩, .fieldAddr 0 (.t ⟨.d0, .d0, .d2⟩), none⟩,
    ⟨some ⟨.d0, .d0, .d5⟩, .load true 4 (.t ⟨.d0, .d0, .d4⟩), none⟩,
    ⟨some ⟨.d0, .d0, .d6⟩, .load true 4 (.t ⟨.d0, .d0, .d1⟩), none⟩,
    ⟨some ⟨.d0, .d0, .d7⟩, .eqs false [0, 0, 0, 0] (.t ⟨.d0, .d0, .d5⟩) (.t ⟨.d0, .d0, .d6⟩), none⟩,
    ⟨some ⟨.d0, .d0, .d3⟩, .move (.t ⟨.d0, .d0, .d7⟩), none⟩])
  (.ret))
def r_proxy_place_1 : List XR := [.tmp ⟨.d0, .d0, .d3⟩]
theorem ok_proxy_place_1 : okC Try.prog Try.f45.ntmps (bodyOf Try.f45) x_proxy_place_1 = true := by kernel_rfl
theorem okr_proxy_place_1 : okRs Try.prog Try.f45.results.toList r_proxy_place_1 = true := by kernel_rfl

/-- tcp.Move -/
def x_tcp_Move : XC :=
  .seq (.region [⟨some ⟨.d0, .d0, .d3⟩, .box 0 9 (.t ⟨.d0, .d0, .d0⟩), none⟩,
    ⟨some ⟨.d0, .d0, .d6⟩, .alloc 1 [.int .i64 0, .int .i64 0, .int .u32 0, .int .u32 0, .int .i64 0, .int .i64 0, .int .i64 0, .slice none 0 0, .string { data := #[] }], none⟩])
  (.seq (.region [⟨some ⟨.d0, .d1, .d3⟩, .fieldAddr 7 (.t ⟨.d0, .d0, .d3⟩), none⟩,
    ⟨some ⟨.d0, .d1, .d4⟩, .load false 1 (.t ⟨.d0, .d1, .d3⟩), none⟩,
    ⟨some ⟨.d0, .d1, .d5⟩, .call 72 [(.t ⟨.d0, .d1, .d4⟩)], none⟩,
    ⟨some ⟨.d0, .d1, .d6⟩, .fieldAddr 7 (.t ⟨.d0, .d0, .d3⟩), none⟩,
    ⟨none, .store 1 (.t ⟨.d0, .d1, .d6⟩) (.t ⟨.d0, .d1, .d5⟩), none⟩])
  (.seq (.region [⟨some ⟨.d0, .d1, .d7⟩, .fieldAddr 2 (.t ⟨.d0, .d0, .d3⟩), none⟩,
    ⟨some ⟨.d0, .d2, .d0⟩, .load false 1 (.t ⟨.d0, .d1, .d7⟩), none⟩,
    ⟨some ⟨.d0, .d2, .d1⟩, .move (.t ⟨.d0, .d0, .d1⟩), none⟩,
    ⟨some ⟨.d0, .d2, .d2⟩, .bin .add (.t ⟨.d0, .d2, .d0⟩) (.t ⟨.d0, .d2, .d1⟩), none⟩,
    ⟨some ⟨.d0, .d2, .d3⟩, .fieldAddr 2 (.t ⟨.d0, .d0, .d3⟩), none⟩,
    ⟨none, .store 1 (.t ⟨.d0, .d2, .d3⟩) (.t ⟨.d0, .d2, .d2⟩), none⟩])
  (.seq (.seq (.region [⟨some ⟨.d0, .d2, .d4⟩, .fieldAddr 4 (.t ⟨.d0, .d0, .d3⟩), none⟩,
    ⟨some ⟨.d0, .d2, .d5⟩, .load false 1 (.t ⟨.d0, .d2, .d4⟩), none⟩,
    ⟨some ⟨.d0, .d2, .d6⟩, .bin .and (.t ⟨.d0, .d2, .d5⟩) (.c (.int .i64 16)), none⟩,
    ⟨some ⟨.d0, .d2, .d7⟩, .bin .eql (.t ⟨.d0, .d2, .d6⟩) (.c (.int .i64 0)), none⟩])
  (.cond (.t ⟨.d0, .d2, .d7⟩)
    (.seq (.region [⟨some ⟨.d0, .d3, .d0⟩, .load true 9 (.t ⟨.d0, .d0, .d3⟩), none⟩,
      ⟨none, .store 9 (.t ⟨.d0, .d0, .d6⟩) (.t ⟨.d0, .d3, .d0⟩), none⟩])
    (.ret))
    (.skip)))
  (.seq (.region [⟨some ⟨.d0, .d3, .d1⟩, .fieldAddr 3 (.t ⟨.d0, .d0, .d3⟩), none⟩,
    ⟨some ⟨.d0, .d3, .d2⟩, .load false 1 (.t ⟨.d0, .d3, .d1⟩), none⟩,
    ⟨some ⟨.d0, .d3, .d3⟩, .move (.t ⟨.d0, .d0, .d2⟩), none⟩,
    ⟨some ⟨.d0, .d3, .d4⟩, .bin .add (.t ⟨.d0, .d3, .d2⟩) (.t ⟨.d0, .d3, .d3⟩), none⟩,
    ⟨some ⟨.d0, .d3, .d5⟩, .fieldAddr 3 (.t ⟨.d0, .d0, .d3⟩), none⟩,
    ⟨none, .store 1 (.t ⟨.d0, .d3, .d5⟩) (.t ⟨.d0, .d3, .d4⟩), none⟩])
  (.seq (.seq (.region [⟨some ⟨.d0, .d3, .d6⟩, .fieldAddr 7 (.t ⟨.d0, .d0, .d3⟩), none⟩,
    ⟨some ⟨.d0, .d3, .d7⟩, .load false 1 (.t ⟨.d0, .d3, .d6⟩), none⟩,
    ⟨some ⟨.d0, .d4, .d0⟩, .len (.t ⟨.d0, .d3, .d7⟩), none⟩,
    ⟨some ⟨.d0, .d4, .d1⟩, .move (.c (.int .i64 0)), none⟩])
  (.block 0
    (.loop
      (.seq (.region [⟨some ⟨.d0, .d4, .d2⟩, .bin .lss (.t ⟨.d0, .d4, .d1⟩) (.t ⟨.d0, .d4, .d0⟩), none⟩])
      (.seq (.cond (.t ⟨.d0, .d4, .d2⟩)
        (.skip)
        (.exit 0))
      (.seq (.block 1
        (.seq (.region [⟨some ⟨.d0, .d4, .d3⟩, .move (.t ⟨.d0, .d4, .d1⟩), none⟩,
          ⟨some ⟨.d0, .d4, .d4⟩, .indexSl 2 (.t ⟨.d0, .d3, .d7⟩) (.t ⟨.d0, .d4, .d1⟩), none⟩,
          ⟨some ⟨.d0, .d4, .d5⟩, .load true 2 (.t ⟨.d0, .d4, .d4⟩), none⟩,
          ⟨some ⟨.d0, .d1, .d0⟩, .alloc 2 [.int .i64 0, .string { data := #[] }], none⟩,
          ⟨some ⟨.d0, .d0, .d7⟩, .move (.t ⟨.d0, .d4, .d3⟩), none⟩,
          ⟨none, .store 2 (.t ⟨.d0, .d1, .d0⟩) (.t ⟨.d0, .d4, .d5⟩), none⟩])
        (.seq (.seq (.region [⟨some ⟨.d0, .d4, .d6⟩, .fieldAddr 0 (.t ⟨.d0, .d1, .d0⟩), none⟩,
          ⟨some ⟨.d0, .d4, .d7⟩, .load false 1 (.t ⟨.d0, .d4, .d6⟩), none⟩,
          ⟨some ⟨.d0, .d5, .d0⟩, .bin .neq (.t ⟨.d0, .d4, .d7⟩) (.c (.int .i64 5)), none⟩,
          ⟨some ⟨.d0, .d5, .d1⟩, .move (.t ⟨.d0, .d5, .d0⟩), none⟩,
          ⟨some ⟨.d0, .d5, .d2⟩, .fieldAddr 1 (.t ⟨.d0, .d1, .d0⟩), some (⟨.d0, .d5, .d1⟩, false)⟩,
          ⟨some ⟨.d0, .d5, .d3⟩, .load false 1 (.t ⟨.d0, .d5, .d2⟩), some (⟨.d0, .d5, .d1⟩, false)⟩,
          ⟨some ⟨.d0, .d5, .d4⟩, .slen (.t ⟨.d0, .d5, .d3⟩), some (⟨.d0, .d5, .d1⟩, false)⟩,
          ⟨some ⟨.d0, .d5, .d5⟩, .bin .rem (.t ⟨.d0, .d5, .d4⟩) (.c (.int .i64 8)), some (⟨.d0, .d5, .d1⟩, false)⟩,
          ⟨some ⟨.d0, .d5, .d6⟩, .bin .neq (.t ⟨.d0, .d5, .d5⟩) (.c (.int .i64 0)), some (⟨.d0, .d5, .d1⟩, false)⟩,
          ⟨some ⟨.d0, .d5, .d7⟩, .pick (.t ⟨.d0, .d5, .d1⟩) (.c (.bool true)) (.t ⟨.d0, .d5, .d6⟩), none⟩])
        (.cond (.t ⟨.d0, .d5, .d7⟩)
          (.exit 1)
          (.skip)))
        (.seq (.region [⟨some ⟨.d0, .d1, .d1⟩, .move (.c (.string { data := #[] })), none⟩])
        (.seq (.seq (.region [⟨some ⟨.d0, .d1, .d2⟩, .move (.c (.int .i64 0)), none⟩])
        (.block 2
          (.loop
            (.seq (.seq (.region [⟨some ⟨.d0, .d6, .d0⟩, .move (.t ⟨.d0, .d1, .d2⟩), none⟩,
              ⟨some ⟨.d0, .d6, .d1⟩, .fieldAddr 1 (.t ⟨.d0, .d1, .d0⟩), none⟩,
              ⟨some ⟨.d0, .d6, .d2⟩, .load false 1 (.t ⟨.d0, .d6, .d1⟩), none⟩,
              ⟨some ⟨.d0, .d6, .d3⟩, .slen (.t ⟨.d0, .d6, .d2⟩), none⟩,
              ⟨some ⟨.d0, .d6, .d4⟩, .bin .lss (.t ⟨.d0, .d6, .d0⟩) (.t ⟨.d0, .d6, .d3⟩), none⟩])
            (.cond (.t ⟨.d0, .d6, .d4⟩)
              (.skip)
              (.exit 2)))
            (.seq (.block 3
              (.region [⟨some ⟨.d0, .d6, .d7⟩, .move (.t ⟨.d0, .d1, .d1⟩), none⟩,
                ⟨some ⟨.d0, .d7, .d0⟩, .fieldAddr 1 (.t ⟨.d0, .d1, .d0⟩), none⟩,
                ⟨some ⟨.d0, .d7, .d1⟩, .load false 1 (.t ⟨.d0, .d7, .d0⟩), none⟩,
                ⟨some ⟨.d0, .d7, .d2⟩, .move (.t ⟨.d0, .d1, .d2⟩), none⟩,
                ⟨some ⟨.d0, .d7, .d3⟩, .call 73 [(.t ⟨.d0, .d7, .d1⟩), (.t ⟨.d0, .d7, .d2⟩)], none⟩,
                ⟨some ⟨.d0, .d7, .d4⟩, .move (.t ⟨.d0, .d0, .d2⟩), none⟩,
                ⟨some ⟨.d0, .d7, .d5⟩, .bin .add (.t ⟨.d0, .d7, .d3⟩) (.t ⟨.d0, .d7, .d4⟩), none⟩,
                ⟨some ⟨.d0, .d7, .d6⟩, .call 69 [(.t ⟨.d0, .d7, .d5⟩)], none⟩,
                ⟨some ⟨.d0, .d7, .d7⟩, .sbin .add (.t ⟨.d0, .d6, .d7⟩) (.t ⟨.d0, .d7, .d6⟩), none⟩,
                ⟨some ⟨.d0, .d1, .d1⟩, .move (.t ⟨.d0, .d7, .d7⟩), none⟩]))
            (.region [⟨some ⟨.d0, .d6, .d5⟩, .move (.t ⟨.d0, .d1, .d2⟩), none⟩,
              ⟨some ⟨.d0, .d6, .d6⟩, .bin .add (.t ⟨.d0, .d6, .d5⟩) (.c (.int .i64 4)), none⟩,
              ⟨some ⟨.d0, .d1, .d2⟩, .move (.t ⟨.d0, .d6, .d6⟩), none⟩]))))))
        (.region [⟨some ⟨.d1, .d0, .d0⟩, .fieldAddr 7 (.t ⟨.d0, .d0, .d3⟩), none⟩,
          ⟨some ⟨.d1, .d0, .d1⟩, .load false 1 (.t ⟨.d1, .d0, .d0⟩), none⟩,
          ⟨some ⟨.d1, .d0, .d2⟩, .move (.t ⟨.d0, .d0, .d7⟩), none⟩,
          ⟨some ⟨.d1, .d0, .d3⟩, .move (.t ⟨.d0, .d1, .d1⟩), none⟩,
          ⟨some ⟨.d1, .d0, .d4⟩, .indexSl 2 (.t ⟨.d1, .d0, .d1⟩) (.t ⟨.d1, .d0, .d2⟩), none⟩,
          ⟨some ⟨.d1, .d0, .d5⟩, .fieldAddr 1 (.t ⟨.d1, .d0, .d4⟩), none⟩,
          ⟨none, .store 1 (.t ⟨.d1, .d0, .d5⟩) (.t ⟨.d1, .d0, .d3⟩), none⟩]))))))
      (.region [⟨some ⟨.d1, .d0, .d6⟩, .bin .add (.t ⟨.d0, .d4, .d1⟩) (.c (.int .i64 1)), none⟩,
        ⟨some ⟨.d0, .d4, .d1⟩, .move (.t ⟨.d1, .d0, .d6⟩), none⟩])))))))
  (.seq (.region [⟨some ⟨.d1, .d0, .d7⟩, .load true 9 (.t ⟨.d0, .d0, .d3⟩), none⟩,
    ⟨none, .store 9 (.t ⟨.d0, .d0, .d6⟩) (.t ⟨.d1, .d0, .d7⟩), none⟩])
  (.ret)))))))
def r_tcp_Move : List XR := [.cell ⟨.d0, .d0, .d6⟩ true 9]
theorem ok_tcp_Move : okC Try.prog Try.f46.ntmps (bodyOf Try.f46) x_tcp_Move = true := by kernel_rfl
theorem okr_tcp_Move : okRs Try.prog Try.f46.results.toList r_tcp_Move = true := by kernel_rfl

/-- proxy.guard).has -/
def x_proxy_guard_has : XC :=
  .seq (.region [⟨some ⟨.d0, .d0, .d4⟩, .box 0 9 (.t ⟨.d0, .d0, .d1⟩), none⟩,
    ⟨some ⟨.d0, .d0, .d6⟩, .move (.c (.bool false)), none⟩])
  (.seq (.region [⟨some ⟨.d0, .d0, .d7⟩, .fieldAddr 4 (.t ⟨.d0, .d0, .d4⟩), none⟩,
    ⟨some ⟨.d0, .d1, .d0⟩, .load false 1 (.t ⟨.d0, .d0, .d7⟩), none⟩,
    ⟨some ⟨.d0, .d1, .d1⟩, .move (.t ⟨.d0, .d0, .d2⟩), none⟩,
    ⟨some ⟨.d0, .d1, .d2⟩, .bin .and (.t ⟨.d0, .d1, .d0⟩) (.t ⟨.d0, .d1, .d1⟩), none⟩,
    ⟨some ⟨.d0, .d1, .d3⟩, .bin .neq (.t ⟨.d0, .d1, .d2⟩) (.c (.int .i64 0)), none⟩,
    ⟨some ⟨.d0, .d0, .d6⟩, .move (.t ⟨.d0, .d1, .d3⟩), none⟩])
  (.ret))
def r_proxy_guard_has : List XR := [.tmp ⟨.d0, .d0, .d6⟩]
theorem ok_proxy_guard_has : okC Try.prog Try.f47.ntmps (bodyOf Try.f47) x_proxy_guard_has = true := by kernel_rfl
theorem okr_proxy_guard_has : okRs Try.prog Try.f47.results.toList r_proxy_guard_has = true := by kernel_rfl

/-- proxy.guard).leaves -/
def x_proxy_guard_leaves : XC :=
  .region [⟨some ⟨.d0, .d0, .d4⟩, .move (.t ⟨.d0, .d0, .d0⟩), none⟩,
    ⟨some ⟨.d0, .d0, .d5⟩, .move (.t ⟨.d0, .d0, .d0⟩), none⟩,
    ⟨some ⟨.d0, .d0, .d6⟩, .nilCheck (.t ⟨.d0, .d0, .d5⟩), none⟩,
    ⟨some ⟨.d0, .d0, .d7⟩, .fieldAddr 0 (.t ⟨.d0, .d0, .d6⟩), none⟩,
    ⟨some ⟨.d0, .d1, .d0⟩, .fieldAddr 3 (.t ⟨.d0, .d0, .d7⟩), none⟩,
    ⟨some ⟨.d0, .d1, .d1⟩, .load false 1 (.t ⟨.d0, .d1, .d0⟩), none⟩,
    ⟨some ⟨.d0, .d1, .d2⟩, .move (.t ⟨.d0, .d0, .d1⟩), none⟩,
    ⟨some ⟨.d0, .d1, .d3⟩, .move (.t ⟨.d0, .d0, .d1⟩), none⟩,
    ⟨some ⟨.d0, .d1, .d4⟩, .bin .add (.t ⟨.d0, .d1, .d3⟩) (.c (.int .i64 1)), none⟩,
    ⟨some ⟨.d0, .d1, .d5⟩, .call 74 [(.t ⟨.d0, .d1, .d1⟩), (.t ⟨.d0, .d1, .d2⟩), (.t ⟨.d0, .d1, .d4⟩)], none⟩,
    ⟨some ⟨.d0, .d1, .d6⟩, .nilCheck (.t ⟨.d0, .d0, .d4⟩), none⟩,
    ⟨some ⟨.d0, .d1, .d7⟩, .fieldAddr 0 (.t ⟨.d0, .d1, .d6⟩), none⟩,
    ⟨some ⟨.d0, .d2, .d0⟩, .fieldAddr 3 (.t ⟨.d0, .d1, .d7⟩), none⟩,
    ⟨none, .store 1 (.t ⟨.d0, .d2, .d0⟩) (.t ⟨.d0, .d1, .d5⟩), none⟩]
def r_proxy_guard_leaves : List XR := []
theorem ok_proxy_guard_leaves : okC Try.prog Try.f48.ntmps (bodyOf Try.f48) x_proxy_guard_leaves = true := by kernel_rfl
theorem okr_proxy_guard_leaves : okRs Try.prog Try.f48.results.toList r_proxy_guard_leaves = true := by kernel_rfl

/-- proxy.guard).heard -/
def x_proxy_guard_heard : XC :=
  .seq (.region [⟨some ⟨.d0, .d0, .d5⟩, .box 2 9 (.t ⟨.d0, .d0, .d2⟩), none⟩])
  (.seq (.region [⟨some ⟨.d0, .d0, .d6⟩, .move (.t ⟨.d0, .d0, .d0⟩), none⟩,
    ⟨some ⟨.d0, .d0, .d7⟩, .nilCheck (.t ⟨.d0, .d0, .d6⟩), none⟩,
    ⟨some ⟨.d0, .d1, .d0⟩, .fieldAddr 4 (.t ⟨.d0, .d0, .d7⟩), none⟩,
    ⟨some ⟨.d0, .d1, .d1⟩, .load false 1 (.t ⟨.d0, .d1, .d0⟩), none⟩,
    ⟨some ⟨.d0, .d1, .d2⟩, .fieldAddr 8 (.t ⟨.d0, .d0, .d5⟩), none⟩,
    ⟨none, .store 1 (.t ⟨.d0, .d1, .d2⟩) (.t ⟨.d0, .d1, .d1⟩), none⟩])
  (.regionD [0, 0, 2, 6, 14, 30, 0, 0, 128, 510, 0, 1024, 4094, 8191, 16383, 32767, 65535] [⟨some ⟨.d0, .d1, .d3⟩, .move (.t ⟨.d0, .d0, .d0⟩), none⟩,
    ⟨some ⟨.d0, .d1, .d4⟩, .move (.t ⟨.d0, .d0, .d0⟩), none⟩,
    ⟨some ⟨.d0, .d1, .d5⟩, .nilCheck (.t ⟨.d0, .d1, .d4⟩), none⟩,
    ⟨some ⟨.d0, .d1, .d6⟩, .fieldAddr 0 (.t ⟨.d0, .d1, .d5⟩), none⟩,
    ⟨some ⟨.d0, .d1, .d7⟩, .fieldAddr 3 (.t ⟨.d0, .d1, .d6⟩), none⟩,
    ⟨some ⟨.d0, .d2, .d0⟩, .load false 1 (.t ⟨.d0, .d1, .d7⟩), none⟩,
    ⟨some ⟨.d0, .d2, .d1⟩, .move (.t ⟨.d0, .d0, .d1⟩), none⟩,
    ⟨some ⟨.d0, .d2, .d2⟩, .move (.t ⟨.d0, .d0, .d1⟩), none⟩,
    ⟨some ⟨.d0, .d2, .d3⟩, .bin .add (.t ⟨.d0, .d2, .d2⟩) (.c (.int .i64 1)), none⟩,
    ⟨some ⟨.d0, .d2, .d4⟩, .call 74 [(.t ⟨.d0, .d2, .d0⟩), (.t ⟨.d0, .d2, .d1⟩), (.t ⟨.d0, .d2, .d3⟩)], none⟩,
    ⟨some ⟨.d0, .d2, .d5⟩, .load true 9 (.t ⟨.d0, .d0, .d5⟩), none⟩,
    ⟨some ⟨.d0, .d2, .d6⟩, .buildSlice 3 1 [.int .u32 0, .int .u32 0, .int .i64 0, .int .i64 0, .int .u32 0, .int .u32 0, .int .u32 0, .bool false, .int .i64 0] [(0, (.t ⟨.d0, .d2, .d5⟩))], none⟩,
    ⟨some ⟨.d0, .d2, .d7⟩, .append 4 9 48 (.t ⟨.d0, .d2, .d4⟩) (.t ⟨.d0, .d2, .d6⟩), none⟩,
    ⟨some ⟨.d0, .d3, .d0⟩, .nilCheck (.t ⟨.d0, .d1, .d3⟩), none⟩,
    ⟨some ⟨.d0, .d3, .d1⟩, .fieldAddr 0 (.t ⟨.d0, .d3, .d0⟩), none⟩,
    ⟨some ⟨.d0, .d3, .d2⟩, .fieldAddr 3 (.t ⟨.d0, .d3, .d1⟩), none⟩,
    ⟨none, .store 1 (.t ⟨.d0, .d3, .d2⟩) (.t ⟨.d0, .d2, .d7⟩), none⟩]))
def r_proxy_guard_heard : List XR := []
theorem ok_proxy_guard_heard : okC Try.prog Try.f49.ntmps (bodyOf Try.f49) x_proxy_guard_heard = true := by kernel_rfl
theorem okr_proxy_guard_heard : okRs Try.prog Try.f49.results.toList r_proxy_guard_heard = true := by kernel_rfl

/-- custref.SegmentText -/
def x_custref_SegmentText : XC :=
  .seq (.region [⟨some ⟨.d0, .d0, .d3⟩, .box 0 9 (.t ⟨.d0, .d0, .d0⟩), none⟩,
    ⟨some ⟨.d0, .d0, .d6⟩, .move (.c (.string { data := #[] })), none⟩,
    ⟨some ⟨.d0, .d0, .d7⟩, .move (.c (.int .i64 0)), none⟩])
  (.seq (.seq (.region [⟨some ⟨.d0, .d1, .d7⟩, .fieldAddr 0 (.t ⟨.d0, .d0, .d3⟩), none⟩,
    ⟨some ⟨.d0, .d2, .d0⟩, .load false 1 (.t ⟨.d0, .d1, .d7⟩), none⟩,
    ⟨some ⟨.d0, .d2, .d1⟩, .call 38 [(.t ⟨.d0, .d2, .d0⟩), (.c (.int .i64 0)), (.c (.int .i64 65535))], none⟩,
    ⟨some ⟨.d0, .d2, .d2⟩, .un .not (.t ⟨.d0, .d2, .d1⟩), none⟩,
    ⟨some ⟨.d0, .d2, .d3⟩, .move (.t ⟨.d0, .d2, .d2⟩), none⟩,
    ⟨some ⟨.d0, .d2, .d4⟩, .fieldAddr 1 (.t ⟨.d0, .d0, .d3⟩), some (⟨.d0, .d2, .d3⟩, false)⟩,
    ⟨some ⟨.d0, .d2, .d5⟩, .load false 1 (.t ⟨.d0, .d2, .d4⟩), some (⟨.d0, .d2, .d3⟩, false)⟩,
    ⟨some ⟨.d0, .d2, .d6⟩, .call 38 [(.t ⟨.d0, .d2, .d5⟩), (.c (.int .i64 0)), (.c (.int .i64 65535))], some (⟨.d0, .d2, .d3⟩, false)⟩,
    ⟨some ⟨.d0, .d2, .d7⟩, .un .not (.t ⟨.d0, .d2, .d6⟩), some (⟨.d0, .d2, .d3⟩, false)⟩,
    ⟨some ⟨.d0, .d3, .d0⟩, .pick (.t ⟨.d0, .d2, .d3⟩) (.c (.bool true)) (.t ⟨.d0, .d2, .d7⟩), none⟩,
    ⟨some ⟨.d0, .d3, .d1⟩, .move (.t ⟨.d0, .d3, .d0⟩), none⟩,
    ⟨some ⟨.d0, .d3, .d2⟩, .fieldAddr 5 (.t ⟨.d0, .d0, .d3⟩), some (⟨.d0, .d3, .d1⟩, false)⟩,
    ⟨some ⟨.d0, .d3, .d3⟩, .load false 1 (.t ⟨.d0, .d3, .d2⟩), some (⟨.d0, .d3, .d1⟩, false)⟩,
    ⟨some ⟨.d0, .d3, .d4⟩, .call 38 [(.t ⟨.d0, .d3, .d3⟩), (.c (.int .i64 0)), (.c (.int .i64 65535))], some (⟨.d0, .d3, .d1⟩, false)⟩,
    ⟨some ⟨.d0, .d3, .d5⟩, .un .not (.t ⟨.d0, .d3, .d4⟩), some (⟨.d0, .d3, .d1⟩, false)⟩,
    ⟨some ⟨.d0, .d3, .d6⟩, .pick (.t ⟨.d0, .d3, .d1⟩) (.c (.bool true)) (.t ⟨.d0, .d3, .d5⟩), none⟩,
    ⟨some ⟨.d0, .d3, .d7⟩, .move (.t ⟨.d0, .d3, .d6⟩), none⟩,
    ⟨some ⟨.d0, .d4, .d0⟩, .fieldAddr 6 (.t ⟨.d0, .d0, .d3⟩), some (⟨.d0, .d3, .d7⟩, false)⟩,
    ⟨some ⟨.d0, .d4, .d1⟩, .load false 1 (.t ⟨.d0, .d4, .d0⟩), some (⟨.d0, .d3, .d7⟩, false)⟩,
    ⟨some ⟨.d0, .d4, .d2⟩, .call 38 [(.t ⟨.d0, .d4, .d1⟩), (.c (.int .i64 0)), (.c (.int .i64 65535))], some (⟨.d0, .d3, .d7⟩, false)⟩,
    ⟨some ⟨.d0, .d4, .d3⟩, .un .not (.t ⟨.d0, .d4, .d2⟩), some (⟨.d0, .d3, .d7⟩, false)⟩,
    ⟨some ⟨.d0, .d4, .d4⟩, .pick (.t ⟨.d0, .d3, .d7⟩) (.c (.bool true)) (.t ⟨.d0, .d4, .d3⟩), none⟩,
    ⟨some ⟨.d0, .d4, .d5⟩, .move (.t ⟨.d0, .d4, .d4⟩), none⟩,
    ⟨some ⟨.d0, .d4, .d6⟩, .fieldAddr 4 (.t ⟨.d0, .d0, .d3⟩), some (⟨.d0, .d4, .d5⟩, false)⟩,
    ⟨some ⟨.d0, .d4, .d7⟩, .load false 1 (.t ⟨.d0, .d4, .d6⟩), some (⟨.d0, .d4, .d5⟩, false)⟩,
    ⟨some ⟨.d0, .d5, .d0⟩, .call 38 [(.t ⟨.d0, .d4, .d7⟩), (.c (.int .i64 0)), (.c (.int .i64 255))], some (⟨.d0, .d4, .d5⟩, false)⟩,
    ⟨some ⟨.d0, .d5, .d1⟩, .un .not (.t ⟨.d0, .d5, .d0⟩), some (⟨.d0, .d4, .d5⟩, false)⟩,
    ⟨some ⟨.d0, .d5, .d2⟩, .pick (.t ⟨.d0, .d4, .d5⟩) (.c (.bool true)) (.t ⟨.d0, .d5, .d1⟩), none⟩])
  (.cond (.t ⟨.d0, .d5, .d2⟩)
    (.seq (.region [⟨some ⟨.d0, .d0, .d6⟩, .move (.c (.string { data := #[] })), none⟩,
      ⟨some ⟨.d0, .d0, .d7⟩, .move (.c (.int .i64 1)), none⟩])
    (.ret))
    (.skip)))
  (.seq (.region [⟨some ⟨.d0, .d1, .d0⟩, .move (.c (.string { data := #[] })), none⟩])
  (.seq (.seq (.region [⟨some ⟨.d0, .d5, .d3⟩, .fieldAddr 7 (.t ⟨.d0, .d0, .d3⟩), none⟩,
    ⟨some ⟨.d0, .d5, .d4⟩, .load false 1 (.t ⟨.d0, .d5, .d3⟩), none⟩,
    ⟨some ⟨.d0, .d5, .d5⟩, .len (.t ⟨.d0, .d5, .d4⟩), none⟩,
    ⟨some ⟨.d0, .d5, .d6⟩, .move (.c (.int .i64 0)), none⟩])
  (.block 0
    (.loop
      (.seq (.region [⟨some ⟨.d0, .d5, .d7⟩, .bin .lss (.t ⟨.d0, .d5, .d6⟩) (.t ⟨.d0, .d5, .d5⟩), none⟩])
      (.seq (.cond (.t ⟨.d0, .d5, .d7⟩)
        (.skip)
        (.exit 0))
      (.seq (.block 1
        (.seq (.region [⟨some ⟨.d0, .d6, .d0⟩, .indexSl 2 (.t ⟨.d0, .d5, .d4⟩) (.t ⟨.d0, .d5, .d6⟩), none⟩,
          ⟨some ⟨.d0, .d6, .d1⟩, .load true 2 (.t ⟨.d0, .d6, .d0⟩), none⟩,
          ⟨some ⟨.d0, .d1, .d2⟩, .alloc 1 [.int .i64 0, .string { data := #[] }], none⟩,
          ⟨none, .store 2 (.t ⟨.d0, .d1, .d2⟩) (.t ⟨.d0, .d6, .d1⟩), none⟩])
        (.seq (.region [⟨some ⟨.d0, .d6, .d3⟩, .load true 2 (.t ⟨.d0, .d1, .d2⟩), none⟩,
          ⟨some ⟨.d0, .d6, .d4⟩, .call 75 [(.t ⟨.d0, .d6, .d3⟩)], none⟩,
          ⟨some ⟨.d0, .d6, .d2⟩, .move (.t ⟨.d0, .d6, .d4⟩), none⟩,
          ⟨some ⟨.d0, .d6, .d5⟩, .extract 0 (.t ⟨.d0, .d6, .d2⟩), none⟩,
          ⟨some ⟨.d0, .d6, .d6⟩, .extract 1 (.t ⟨.d0, .d6, .d2⟩), none⟩,
          ⟨some ⟨.d0, .d1, .d3⟩, .move (.t ⟨.d0, .d6, .d5⟩), none⟩,
          ⟨some ⟨.d0, .d1, .d4⟩, .move (.t ⟨.d0, .d6, .d6⟩), none⟩])
        (.seq (.seq (.region [⟨some ⟨.d0, .d6, .d7⟩, .move (.t ⟨.d0, .d1, .d4⟩), none⟩,
          ⟨some ⟨.d0, .d7, .d0⟩, .un .not (.t ⟨.d0, .d6, .d7⟩), none⟩])
        (.cond (.t ⟨.d0, .d7, .d0⟩)
          (.seq (.region [⟨some ⟨.d0, .d0, .d6⟩, .move (.c (.string { data := #[] })), none⟩,
            ⟨some ⟨.d0, .d0, .d7⟩, .move (.c (.int .i64 4)), none⟩])
          (.ret))
          (.skip)))
        (.seq (.region [⟨some ⟨.d0, .d7, .d1⟩, .move (.t ⟨.d0, .d1, .d0⟩), none⟩,
          ⟨some ⟨.d0, .d7, .d2⟩, .slen (.t ⟨.d0, .d7, .d1⟩), none⟩,
          ⟨some ⟨.d0, .d7, .d3⟩, .bin .leq (.t ⟨.d0, .d7, .d2⟩) (.c (.int .i64 40)), none⟩])
        (.cond (.t ⟨.d0, .d7, .d3⟩)
          (.region [⟨some ⟨.d0, .d7, .d4⟩, .move (.t ⟨.d0, .d1, .d0⟩), none⟩,
            ⟨some ⟨.d0, .d7, .d5⟩, .move (.t ⟨.d0, .d1, .d3⟩), none⟩,
            ⟨some ⟨.d0, .d7, .d6⟩, .sbin .add (.t ⟨.d0, .d7, .d4⟩) (.t ⟨.d0, .d7, .d5⟩), none⟩,
            ⟨some ⟨.d0, .d1, .d0⟩, .move (.t ⟨.d0, .d7, .d6⟩), none⟩])
          (.skip)))))))
      (.region [⟨some ⟨.d0, .d7, .d7⟩, .bin .add (.t ⟨.d0, .d5, .d6⟩) (.c (.int .i64 1)), none⟩,
        ⟨some ⟨.d0, .d5, .d6⟩, .move (.t ⟨.d0, .d7, .d7⟩), none⟩])))))))
  (.seq (.seq (.region [⟨some ⟨.d1, .d0, .d0⟩, .fieldAddr 7 (.t ⟨.d0, .d0, .d3⟩), none⟩,
    ⟨some ⟨.d1, .d0, .d1⟩, .load false 1 (.t ⟨.d1, .d0, .d0⟩), none⟩,
    ⟨some ⟨.d1, .d0, .d2⟩, .call 76 [(.t ⟨.d1, .d0, .d1⟩), (.f 77)], none⟩])
  (.cond (.t ⟨.d1, .d0, .d2⟩)
    (.seq (.region [⟨some ⟨.d0, .d0, .d6⟩, .move (.c (.string { data := #[] })), none⟩,
      ⟨some ⟨.d0, .d0, .d7⟩, .move (.c (.int .i64 4)), none⟩])
    (.ret))
    (.skip)))
  (.seq (.seq (.region [⟨some ⟨.d1, .d0, .d3⟩, .move (.t ⟨.d0, .d1, .d0⟩), none⟩,
    ⟨some ⟨.d1, .d0, .d4⟩, .slen (.t ⟨.d1, .d0, .d3⟩), none⟩,
    ⟨some ⟨.d1, .d0, .d5⟩, .bin .gtr (.t ⟨.d1, .d0, .d4⟩) (.c (.int .i64 40)), none⟩,
    ⟨some ⟨.d1, .d0, .d6⟩, .move (.t ⟨.d1, .d0, .d5⟩), none⟩,
    ⟨some ⟨.d1, .d0, .d7⟩, .fieldAddr 8 (.t ⟨.d0, .d0, .d3⟩), some (⟨.d1, .d0, .d6⟩, false)⟩,
    ⟨some ⟨.d1, .d1, .d0⟩, .load false 1 (.t ⟨.d1, .d0, .d7⟩), some (⟨.d1, .d0, .d6⟩, false)⟩,
    ⟨some ⟨.d1, .d1, .d1⟩, .slen (.t ⟨.d1, .d1, .d0⟩), some (⟨.d1, .d0, .d6⟩, false)⟩,
    ⟨some ⟨.d1, .d1, .d2⟩, .bin .gtr (.t ⟨.d1, .d1, .d1⟩) (.c (.int .i64 65455)), some (⟨.d1, .d0, .d6⟩, false)⟩,
    ⟨some ⟨.d1, .d1, .d3⟩, .pick (.t ⟨.d1, .d0, .d6⟩) (.c (.bool true)) (.t ⟨.d1, .d1, .d2⟩), none⟩])
  (.cond (.t ⟨.d1, .d1, .d3⟩)
    (.seq (.region [⟨some ⟨.d0, .d0, .d6⟩, .move (.c (.string { data := #[] })), none⟩,
      ⟨some ⟨.d0, .d0, .d7⟩, .move (.c (.int .i64 2)), none⟩])
    (.ret))
    (.skip)))
  (.seq (.region [⟨some ⟨.d1, .d1, .d4⟩, .move (.t ⟨.d0, .d1, .d0⟩), none⟩,
    ⟨some ⟨.d1, .d1, .d5⟩, .sbin .add (.t ⟨.d1, .d1, .d4⟩) (.c (.string { data := #[0, 0, 0] })), none⟩,
    ⟨some ⟨.d1, .d1, .d6⟩, .move (.t ⟨.d0, .d1, .d0⟩), none⟩,
    ⟨some ⟨.d1, .d1, .d7⟩, .slen (.t ⟨.d1, .d1, .d6⟩), none⟩,
    ⟨some ⟨.d1, .d2, .d0⟩, .bin .add (.t ⟨.d1, .d1, .d7⟩) (.c (.int .i64 3)), none⟩,
    ⟨some ⟨.d1, .d2, .d1⟩, .bin .quo (.t ⟨.d1, .d2, .d0⟩) (.c (.int .i64 4)), none⟩,
    ⟨some ⟨.d1, .d2, .d2⟩, .bin .mul (.t ⟨.d1, .d2, .d1⟩) (.c (.int .i64 4)), none⟩,
    ⟨some ⟨.d1, .d2, .d3⟩, .substr (.t ⟨.d1, .d1, .d5⟩) none (some (.t ⟨.d1, .d2, .d2⟩)), none⟩,
    ⟨some ⟨.d0, .d1, .d0⟩, .move (.t ⟨.d1, .d2, .d3⟩), none⟩])
  (.seq (.region [⟨some ⟨.d1, .d2, .d4⟩, .move (.t ⟨.d0, .d1, .d0⟩), none⟩,
    ⟨some ⟨.d1, .d2, .d5⟩, .slen (.t ⟨.d1, .d2, .d4⟩), none⟩,
    ⟨some ⟨.d1, .d2, .d6⟩, .bin .add (.t ⟨.d1, .d2, .d5⟩) (.c (.int .i64 20)), none⟩,
    ⟨some ⟨.d0, .d1, .d5⟩, .move (.t ⟨.d1, .d2, .d6⟩), none⟩])
  (.seq (.regionD [0, 1, 3, 0, 8, 31, 63, 0, 128, 447, 1023, 0, 2048, 7103, 16383, 0, 32768, 0, 131072, 491520, 1031103, 2097151, 0, 4194304, 14662591, 33554431, 31439807, 134217727, 0, 268435456, 903855039, 2147483647, 0, 8589934591, 0, 17179869184, 68719476735, 137438953471] [⟨some ⟨.d1, .d2, .d7⟩, .fieldAddr 0 (.t ⟨.d0, .d0, .d3⟩), none⟩,
    ⟨some ⟨.d1, .d3, .d0⟩, .load false 1 (.t ⟨.d1, .d2, .d7⟩), none⟩,
    ⟨some ⟨.d1, .d3, .d1⟩, .call 35 [(.t ⟨.d1, .d3, .d0⟩)], none⟩,
    ⟨some ⟨.d1, .d3, .d2⟩, .fieldAddr 1 (.t ⟨.d0, .d0, .d3⟩), none⟩,
    ⟨some ⟨.d1, .d3, .d3⟩, .load false 1 (.t ⟨.d1, .d3, .d2⟩), none⟩,
    ⟨some ⟨.d1, .d3, .d4⟩, .call 35 [(.t ⟨.d1, .d3, .d3⟩)], none⟩,
    ⟨some ⟨.d1, .d3, .d5⟩, .sbin .add (.t ⟨.d1, .d3, .d1⟩) (.t ⟨.d1, .d3, .d4⟩), none⟩,
    ⟨some ⟨.d1, .d3, .d6⟩, .fieldAddr 2 (.t ⟨.d0, .d0, .d3⟩), none⟩,
    ⟨some ⟨.d1, .d3, .d7⟩, .load false 1 (.t ⟨.d1, .d3, .d6⟩), none⟩,
    ⟨some ⟨.d1, .d4, .d0⟩, .call 51 [(.t ⟨.d1, .d3, .d7⟩)], none⟩,
    ⟨some ⟨.d1, .d4, .d1⟩, .sbin .add (.t ⟨.d1, .d3, .d5⟩) (.t ⟨.d1, .d4, .d0⟩), none⟩,
    ⟨some ⟨.d1, .d4, .d2⟩, .fieldAddr 3 (.t ⟨.d0, .d0, .d3⟩), none⟩,
    ⟨some ⟨.d1, .d4, .d3⟩, .load false 1 (.t ⟨.d1, .d4, .d2⟩), none⟩,
    ⟨some ⟨.d1, .d4, .d4⟩, .call 51 [(.t ⟨.d1, .d4, .d3⟩)], none⟩,
    ⟨some ⟨.d1, .d4, .d5⟩, .sbin .add (.t ⟨.d1, .d4, .d1⟩) (.t ⟨.d1, .d4, .d4⟩), none⟩,
    ⟨some ⟨.d1, .d4, .d6⟩, .move (.t ⟨.d0, .d1, .d5⟩), none⟩,
    ⟨some ⟨.d1, .d4, .d7⟩, .bin .mul (.c (.int .i64 4)) (.t ⟨.d1, .d4, .d6⟩), none⟩,
    ⟨some ⟨.d1, .d5, .d0⟩, .fieldAddr 4 (.t ⟨.d0, .d0, .d3⟩), none⟩,
    ⟨some ⟨.d1, .d5, .d1⟩, .load false 1 (.t ⟨.d1, .d5, .d0⟩), none⟩,
    ⟨some ⟨.d1, .d5, .d2⟩, .buildSlice 2 2 [.int .i64 0] [(0, (.t ⟨.d1, .d4, .d7⟩)), (1, (.t ⟨.d1, .d5, .d1⟩))], none⟩,
    ⟨some ⟨.d1, .d5, .d3⟩, .call 64 [(.t ⟨.d1, .d5, .d2⟩)], none⟩,
    ⟨some ⟨.d1, .d5, .d4⟩, .sbin .add (.t ⟨.d1, .d4, .d5⟩) (.t ⟨.d1, .d5, .d3⟩), none⟩,
    ⟨some ⟨.d1, .d5, .d5⟩, .fieldAddr 5 (.t ⟨.d0, .d0, .d3⟩), none⟩,
    ⟨some ⟨.d1, .d5, .d6⟩, .load false 1 (.t ⟨.d1, .d5, .d5⟩), none⟩,
    ⟨some ⟨.d1, .d5, .d7⟩, .call 35 [(.t ⟨.d1, .d5, .d6⟩)], none⟩,
    ⟨some ⟨.d1, .d6, .d0⟩, .sbin .add (.t ⟨.d1, .d5, .d4⟩) (.t ⟨.d1, .d5, .d7⟩), none⟩,
    ⟨some ⟨.d1, .d6, .d1⟩, .call 35 [(.c (.int .i64 0))], none⟩,
    ⟨some ⟨.d1, .d6, .d2⟩, .sbin .add (.t ⟨.d1, .d6, .d0⟩) (.t ⟨.d1, .d6, .d1⟩), none⟩,
    ⟨some ⟨.d1, .d6, .d3⟩, .fieldAddr 6 (.t ⟨.d0, .d0, .d3⟩), none⟩,
    ⟨some ⟨.d1, .d6, .d4⟩, .load false 1 (.t ⟨.d1, .d6, .d3⟩), none⟩,
    ⟨some ⟨.d1, .d6, .d5⟩, .call 35 [(.t ⟨.d1, .d6, .d4⟩)], none⟩,
    ⟨some ⟨.d1, .d6, .d6⟩, .sbin .add (.t ⟨.d1, .d6, .d2⟩) (.t ⟨.d1, .d6, .d5⟩), none⟩,
    ⟨some ⟨.d1, .d6, .d7⟩, .move (.t ⟨.d0, .d1, .d0⟩), none⟩,
    ⟨some ⟨.d1, .d7, .d0⟩, .sbin .add (.t ⟨.d1, .d6, .d6⟩) (.t ⟨.d1, .d6, .d7⟩), none⟩,
    ⟨some ⟨.d1, .d7, .d1⟩, .fieldAddr 8 (.t ⟨.d0, .d0, .d3⟩), none⟩,
    ⟨some ⟨.d1, .d7, .d2⟩, .load false 1 (.t ⟨.d1, .d7, .d1⟩), none⟩,
    ⟨some ⟨.d1, .d7, .d3⟩, .sbin .add (.t ⟨.d1, .d7, .d0⟩) (.t ⟨.d1, .d7, .d2⟩), none⟩,
    ⟨some ⟨.d0, .d1, .d6⟩, .move (.t ⟨.d1, .d7, .d3⟩), none⟩])
  (.seq (.regionD [0, 1, 0, 0, 0, 16, 60, 0, 252, 508, 1020, 2047, 0, 4096, 16383, 32767, 65535] [⟨some ⟨.d1, .d7, .d4⟩, .move (.t ⟨.d0, .d1, .d6⟩), none⟩,
    ⟨some ⟨.d1, .d7, .d5⟩, .substr (.t ⟨.d1, .d7, .d4⟩) none (some (.c (.int .i64 16))), none⟩,
    ⟨some ⟨.d1, .d7, .d6⟩, .move (.t ⟨.d0, .d0, .d1⟩), none⟩,
    ⟨some ⟨.d1, .d7, .d7⟩, .move (.t ⟨.d0, .d0, .d2⟩), none⟩,
    ⟨some ⟨.d2, .d0, .d0⟩, .move (.t ⟨.d0, .d1, .d6⟩), none⟩,
    ⟨some ⟨.d2, .d0, .d1⟩, .slen (.t ⟨.d2, .d0, .d0⟩), none⟩,
    ⟨some ⟨.d2, .d0, .d2⟩, .call 79 [(.t ⟨.d1, .d7, .d6⟩), (.t ⟨.d1, .d7, .d7⟩), (.c (.int .i64 6)), (.t ⟨.d2, .d0, .d1⟩)], none⟩,
    ⟨some ⟨.d2, .d0, .d3⟩, .move (.t ⟨.d0, .d1, .d6⟩), none⟩,
    ⟨some ⟨.d2, .d0, .d4⟩, .sbin .add (.t ⟨.d2, .d0, .d2⟩) (.t ⟨.d2, .d0, .d3⟩), none⟩,
    ⟨some ⟨.d2, .d0, .d5⟩, .call 78 [(.t ⟨.d2, .d0, .d4⟩)], none⟩,
    ⟨some ⟨.d2, .d0, .d6⟩, .call 35 [(.t ⟨.d2, .d0, .d5⟩)], none⟩,
    ⟨some ⟨.d2, .d0, .d7⟩, .sbin .add (.t ⟨.d1, .d7, .d5⟩) (.t ⟨.d2, .d0, .d6⟩), none⟩,
    ⟨some ⟨.d2, .d1, .d0⟩, .move (.t ⟨.d0, .d1, .d6⟩), none⟩,
    ⟨some ⟨.d2, .d1, .d1⟩, .substr (.t ⟨.d2, .d1, .d0⟩) (some (.c (.int .i64 18))) none, none⟩,
    ⟨some ⟨.d2, .d1, .d2⟩, .sbin .add (.t ⟨.d2, .d0, .d7⟩) (.t ⟨.d2, .d1, .d1⟩), none⟩,
    ⟨some ⟨.d0, .d0, .d6⟩, .move (.t ⟨.d2, .d1, .d2⟩), none⟩,
    ⟨some ⟨.d0, .d0, .d7⟩, .move (.c (.int .i64 0)), none⟩])
  (.ret))))))))))
def r_custref_SegmentText : List XR := [.tmp ⟨.d0, .d0, .d6⟩, .tmp ⟨.d0, .d0, .d7⟩]
theorem ok_custref_SegmentText : okC Try.prog Try.f50.ntmps (bodyOf Try.f50) x_custref_SegmentText = true := by kernel_rfl
theorem okr_custref_SegmentText : okRs Try.prog Try.f50.results.toList r_custref_SegmentText = true := by kernel_rfl

/-- custref.Long -/
def x_custref_Long : XC :=
  .seq (.region [⟨some ⟨.d0, .d0, .d2⟩, .move (.c (.string { data := #[] })), none⟩])
  (.seq (.region [⟨some ⟨.d0, .d0, .d3⟩, .move (.t ⟨.d0, .d0, .d0⟩), none⟩,
    ⟨some ⟨.d0, .d0, .d4⟩, .bin .quo (.t ⟨.d0, .d0, .d3⟩) (.c (.int .u32 65536)), none⟩,
    ⟨some ⟨.d0, .d0, .d5⟩, .convInt .i64 (.t ⟨.d0, .d0, .d4⟩), none⟩,
    ⟨some ⟨.d0, .d0, .d6⟩, .call 35 [(.t ⟨.d0, .d0, .d5⟩)], none⟩,
    ⟨some ⟨.d0, .d0, .d7⟩, .move (.t ⟨.d0, .d0, .d0⟩), none⟩,
    ⟨some ⟨.d0, .d1, .d0⟩, .bin .rem (.t ⟨.d0, .d0, .d7⟩) (.c (.int .u32 65536)), none⟩,
    ⟨some ⟨.d0, .d1, .d1⟩, .convInt .i64 (.t ⟨.d0, .d1, .d0⟩), none⟩,
    ⟨some ⟨.d0, .d1, .d2⟩, .call 35 [(.t ⟨.d0, .d1, .d1⟩)], none⟩,
    ⟨some ⟨.d0, .d1, .d3⟩, .sbin .add (.t ⟨.d0, .d0, .d6⟩) (.t ⟨.d0, .d1, .d2⟩), none⟩,
    ⟨some ⟨.d0, .d0, .d2⟩, .move (.t ⟨.d0, .d1, .d3⟩), none⟩])
  (.ret))
def r_custref_Long : List XR := [.tmp ⟨.d0, .d0, .d2⟩]
theorem ok_custref_Long : okC Try.prog Try.f51.ntmps (bodyOf Try.f51) x_custref_Long = true := by kernel_rfl
theorem okr_custref_Long : okRs Try.prog Try.f51.results.toList r_custref_Long = true := by kernel_rfl

/-- custref.LongAt -/
def x_custref_LongAt : XC :=
  .seq (.region [⟨some ⟨.d0, .d0, .d4⟩, .move (.c (.int .u32 0)), none⟩])
  (.seq (.region [⟨some ⟨.d0, .d0, .d5⟩, .move (.t ⟨.d0, .d0, .d0⟩), none⟩,
    ⟨some ⟨.d0, .d0, .d6⟩, .move (.t ⟨.d0, .d0, .d1⟩), none⟩,
    ⟨some ⟨.d0, .d0, .d7⟩, .call 63 [(.t ⟨.d0, .d0, .d5⟩), (.t ⟨.d0, .d0, .d6⟩)], none⟩,
    ⟨some ⟨.d0, .d1, .d0⟩, .bin .mul (.c (.int .i64 65536)) (.t ⟨.d0, .d0, .d7⟩), none⟩,
    ⟨some ⟨.d0, .d1, .d1⟩, .move (.t ⟨.d0, .d0, .d0⟩), none⟩,
    ⟨some ⟨.d0, .d1, .d2⟩, .move (.t ⟨.d0, .d0, .d1⟩), none⟩,
    ⟨some ⟨.d0, .d1, .d3⟩, .bin .add (.t ⟨.d0, .d1, .d2⟩) (.c (.int .i64 2)), none⟩,
    ⟨some ⟨.d0, .d1, .d4⟩, .call 63 [(.t ⟨.d0, .d1, .d1⟩), (.t ⟨.d0, .d1, .d3⟩)], none⟩,
    ⟨some ⟨.d0, .d1, .d5⟩, .bin .add (.t ⟨.d0, .d1, .d0⟩) (.t ⟨.d0, .d1, .d4⟩), none⟩,
    ⟨some ⟨.d0, .d1, .d6⟩, .convInt .u32 (.t ⟨.d0, .d1, .d5⟩), none⟩,
    ⟨some ⟨.d0, .d0, .d4⟩, .move (.t ⟨.d0, .d1, .d6⟩), none⟩])
  (.ret))
def r_custref_LongAt : List XR := [.tmp ⟨.d0, .d0, .d4⟩]
theorem ok_custref_LongAt : okC Try.prog Try.f52.ntmps (bodyOf Try.f52) x_custref_LongAt = true := by kernel_rfl
theorem okr_custref_LongAt : okRs Try.prog Try.f52.results.toList r_custref_LongAt = true := by kernel_rfl

/-- custref.Way -/
def x_custref_Way : XC :=
  .seq (.region [⟨some ⟨.d0, .d0, .d4⟩, .move (.c (.int .i64 0)), none⟩])
  (.seq (.region [⟨some ⟨.d0, .d0, .d6⟩, .move (.t ⟨.d0, .d0, .d1⟩), none⟩,
    ⟨some ⟨.d0, .d0, .d7⟩, .convInt .i64 (.t ⟨.d0, .d0, .d6⟩), none⟩,
    ⟨some ⟨.d0, .d1, .d0⟩, .move (.t ⟨.d0, .d0, .d0⟩), none⟩,
    ⟨some ⟨.d0, .d1, .d1⟩, .convInt .i64 (.t ⟨.d0, .d1, .d0⟩), none⟩,
    ⟨some ⟨.d0, .d1, .d2⟩, .bin .sub (.t ⟨.d0, .d0, .d7⟩) (.t ⟨.d0, .d1, .d1⟩), none⟩,
    ⟨some ⟨.d0, .d0, .d5⟩, .move (.t ⟨.d0, .d1, .d2⟩), none⟩])
  (.seq (.seq (.region [⟨some ⟨.d0, .d1, .d3⟩, .move (.t ⟨.d0, .d0, .d5⟩), none⟩,
    ⟨some ⟨.d0, .d1, .d4⟩, .bin .lss (.t ⟨.d0, .d1, .d3⟩) (.c (.int .i64 0)), none⟩])
  (.cond (.t ⟨.d0, .d1, .d4⟩)
    (.region [⟨some ⟨.d0, .d1, .d5⟩, .move (.t ⟨.d0, .d0, .d5⟩), none⟩,
      ⟨some ⟨.d0, .d1, .d6⟩, .bin .add (.t ⟨.d0, .d1, .d5⟩) (.c (.int .i64 4294967296)), none⟩,
      ⟨some ⟨.d0, .d0, .d5⟩, .move (.t ⟨.d0, .d1, .d6⟩), none⟩])
    (.skip)))
  (.seq (.region [⟨some ⟨.d0, .d1, .d7⟩, .move (.t ⟨.d0, .d0, .d5⟩), none⟩,
    ⟨some ⟨.d0, .d0, .d4⟩, .move (.t ⟨.d0, .d1, .d7⟩), none⟩])
  (.ret))))
def r_custref_Way : List XR := [.tmp ⟨.d0, .d0, .d4⟩]
theorem ok_custref_Way : okC Try.prog Try.f53.ntmps (bodyOf Try.f53) x_custref_Way = true := by kernel_rfl
theorem okr_custref_Way : okRs Try.prog Try.f53.results.toList r_custref_Way = true := by kernel_rfl

/-- slices.Equal -/
def x_slices_Equal_api_Option : XC :=
  .seq (.region [⟨some ⟨.d0, .d0, .d4⟩, .move (.c (.bool false)), none⟩])
  (.seq (.seq (.region [⟨some ⟨.d0, .d0, .d6⟩, .move (.t ⟨.d0, .d0, .d0⟩), none⟩,
    ⟨some ⟨.d0, .d0, .d7⟩, .len (.t ⟨.d0, .d0, .d6⟩), none⟩,
    ⟨some ⟨.d0, .d1, .d0⟩, .move (.t ⟨.d0, .d0, .d1⟩), none⟩,
    ⟨some ⟨.d0, .d1, .d1⟩, .len (.t ⟨.d0, .d1, .d0⟩), none⟩,
    ⟨some ⟨.d0, .d1, .d2⟩, .bin .neq (.t ⟨.d0, .d0, .d7⟩) (.t ⟨.d0, .d1, .d1⟩), none⟩])
  (.cond (.t ⟨.d0, .d1, .d2⟩)
    (.seq (.region [⟨some ⟨.d0, .d0, .d4⟩, .move (.c (.bool false)), none⟩])
    (.ret))
    (.skip)))
  (.seq (.seq (.region [⟨some ⟨.d0, .d1, .d3⟩, .move (.t ⟨.d0, .d0, .d0⟩), none⟩,
    ⟨some ⟨.d0, .d1, .d4⟩, .len (.t ⟨.d0, .d1, .d3⟩), none⟩,
    ⟨some ⟨.d0, .d1, .d5⟩, .move (.c (.int .i64 0)), none⟩])
  (.block 0
    (.loop
      (.seq (.region [⟨some ⟨.d0, .d1, .d6⟩, .bin .lss (.t ⟨.d0, .d1, .d5⟩) (.t ⟨.d0, .d1, .d4⟩), none⟩])
      (.seq (.cond (.t ⟨.d0, .d1, .d6⟩)
        (.skip)
        (.exit 0))
      (.seq (.block 1
        (.seq (.region [⟨some ⟨.d0, .d1, .d7⟩, .move (.t ⟨.d0, .d1, .d5⟩), none⟩,
          ⟨some ⟨.d0, .d0, .d5⟩, .move (.t ⟨.d0, .d1, .d7⟩), none⟩])
        (.seq (.regionD [0, 0, 3, 7, 0, 0, 48, 112, 255] [⟨some ⟨.d0, .d2, .d0⟩, .move (.t ⟨.d0, .d0, .d0⟩), none⟩,
          ⟨some ⟨.d0, .d2, .d1⟩, .move (.t ⟨.d0, .d0, .d5⟩), none⟩,
          ⟨some ⟨.d0, .d2, .d2⟩, .indexSl 2 (.t ⟨.d0, .d2, .d0⟩) (.t ⟨.d0, .d2, .d1⟩), none⟩,
          ⟨some ⟨.d0, .d2, .d3⟩, .load true 2 (.t ⟨.d0, .d2, .d2⟩), none⟩,
          ⟨some ⟨.d0, .d2, .d4⟩, .move (.t ⟨.d0, .d0, .d1⟩), none⟩,
          ⟨some ⟨.d0, .d2, .d5⟩, .move (.t ⟨.d0, .d0, .d5⟩), none⟩,
          ⟨some ⟨.d0, .d2, .d6⟩, .indexSl 2 (.t ⟨.d0, .d2, .d4⟩) (.t ⟨.d0, .d2, .d5⟩), none⟩,
          ⟨some ⟨.d0, .d2, .d7⟩, .load true 2 (.t ⟨.d0, .d2, .d6⟩), none⟩,
          ⟨some ⟨.d0, .d3, .d0⟩, .eqs true [0, 2] (.t ⟨.d0, .d2, .d3⟩) (.t ⟨.d0, .d2, .d7⟩), none⟩])
        (.cond (.t ⟨.d0, .d3, .d0⟩)
          (.seq (.region [⟨some ⟨.d0, .d0, .d4⟩, .move (.c (.bool false)), none⟩])
          (.ret))
          (.skip)))))
      (.region [⟨some ⟨.d0, .d3, .d1⟩, .bin .add (.t ⟨.d0, .d1, .d5⟩) (.c (.int .i64 1)), none⟩,
        ⟨some ⟨.d0, .d1, .d5⟩, .move (.t ⟨.d0, .d3, .d1⟩), none⟩])))))))
  (.seq (.region [⟨some ⟨.d0, .d0, .d4⟩, .move (.c (.bool true)), none⟩])
  (.ret))))
def r_slices_Equal_api_Option : List XR := [.tmp ⟨.d0, .d0, .d4⟩]
theorem ok_slices_Equal_api_Option : okC Try.prog Try.f54.ntmps (bodyOf Try.f54) x_slices_Equal_api_Option = true := by kernel_rfl
theorem okr_slices_Equal_api_Option : okRs Try.prog Try.f54.results.toList r_slices_Equal_api_Option = true := by kernel_rfl

/-- slices.IndexFunc -/
def x_slices_IndexFunc_api_Option : XC :=
  .seq (.region [⟨some ⟨.d0, .d0, .d4⟩, .move (.c (.int .i64 0)), none⟩])
  (.seq (.seq (.region [⟨some ⟨.d0, .d0, .d6⟩, .move (.t ⟨.d0, .d0, .d0⟩), none⟩,
    ⟨some ⟨.d0, .d0, .d7⟩, .len (.t ⟨.d0, .d0, .d6⟩), none⟩,
    ⟨some ⟨.d0, .d1, .d0⟩, .move (.c (.int .i64 0)), none⟩])
  (.block 0
    (.loop
      (.seq (.region [⟨some ⟨.d0, .d1, .d1⟩, .bin .lss (.t ⟨.d0, .d1, .d0⟩) (.t ⟨.d0, .d0, .d7⟩), none⟩])
      (.seq (.cond (.t ⟨.d0, .d1, .d1⟩)
        (.skip)
        (.exit 0))
      (.seq (.block 1
        (.seq (.region [⟨some ⟨.d0, .d1, .d2⟩, .move (.t ⟨.d0, .d1, .d0⟩), none⟩,
          ⟨some ⟨.d0, .d0, .d5⟩, .move (.t ⟨.d0, .d1, .d2⟩), none⟩])
        (.seq (.region [⟨some ⟨.d0, .d1, .d3⟩, .move (.t ⟨.d0, .d0, .d1⟩), none⟩,
          ⟨some ⟨.d0, .d1, .d4⟩, .move (.t ⟨.d0, .d0, .d0⟩), none⟩,
          ⟨some ⟨.d0, .d1, .d5⟩, .move (.t ⟨.d0, .d0, .d5⟩), none⟩,
          ⟨some ⟨.d0, .d1, .d6⟩, .indexSl 2 (.t ⟨.d0, .d1, .d4⟩) (.t ⟨.d0, .d1, .d5⟩), none⟩,
          ⟨some ⟨.d0, .d1, .d7⟩, .load true 2 (.t ⟨.d0, .d1, .d6⟩), none⟩,
          ⟨some ⟨.d0, .d2, .d0⟩, .callv (.t ⟨.d0, .d1, .d3⟩) [(.t ⟨.d0, .d1, .d7⟩)], none⟩])
        (.cond (.t ⟨.d0, .d2, .d0⟩)
          (.seq (.region [⟨some ⟨.d0, .d2, .d1⟩, .move (.t ⟨.d0, .d0, .d5⟩), none⟩,
            ⟨some ⟨.d0, .d0, .d4⟩, .move (.t ⟨.d0, .d2, .d1⟩), none⟩])
          (.ret))
          (.skip)))))
      (.region [⟨some ⟨.d0, .d2, .d2⟩, .bin .add (.t ⟨.d0, .d1, .d0⟩) (.c (.int .i64 1)), none⟩,
        ⟨some ⟨.d0, .d1, .d0⟩, .move (.t ⟨.d0, .d2, .d2⟩), none⟩])))))))
  (.seq (.region [⟨some ⟨.d0, .d0, .d4⟩, .move (.c (.int .i64 (-1))), none⟩])
  (.ret)))
def r_slices_IndexFunc_api_Option : List XR := [.tmp ⟨.d0, .d0, .d4⟩]
theorem ok_slices_IndexFunc_api_Option : okC Try.prog Try.f61.ntmps (bodyOf Try.f61) x_slices_IndexFunc_api_Option = true := by kernel_rfl
theorem okr_slices_IndexFunc_api_Option : okRs Try.prog Try.f61.results.toList r_slices_IndexFunc_api_Option = true := by kernel_rfl

/-- custref.WordAt -/
def x_custref_WordAt : XC :=
  .seq (.region [⟨some ⟨.d0, .d0, .d4⟩, .move (.c (.int .i64 0)), none⟩])
  (.seq (.region [⟨some ⟨.d0, .d0, .d6⟩, .move (.t ⟨.d0, .d0, .d0⟩), none⟩,
    ⟨some ⟨.d0, .d0, .d7⟩, .move (.t ⟨.d0, .d0, .d1⟩), none⟩,
    ⟨some ⟨.d0, .d1, .d0⟩, .strAt (.t ⟨.d0, .d0, .d6⟩) (.t ⟨.d0, .d0, .d7⟩), none⟩,
    ⟨some ⟨.d0, .d1, .d1⟩, .convInt .i64 (.t ⟨.d0, .d1, .d0⟩), none⟩,
    ⟨some ⟨.d0, .d1, .d2⟩, .bin .mul (.c (.int .i64 256)) (.t ⟨.d0, .d1, .d1⟩), none⟩,
    ⟨some ⟨.d0, .d0, .d5⟩, .move (.t ⟨.d0, .d1, .d2⟩), none⟩])
  (.seq (.seq (.region [⟨some ⟨.d0, .d1, .d3⟩, .move (.t ⟨.d0, .d0, .d1⟩), none⟩,
    ⟨some ⟨.d0, .d1, .d4⟩, .bin .add (.t ⟨.d0, .d1, .d3⟩) (.c (.int .i64 1)), none⟩,
    ⟨some ⟨.d0, .d1, .d5⟩, .move (.t ⟨.d0, .d0, .d0⟩), none⟩,
    ⟨some ⟨.d0, .d1, .d6⟩, .slen (.t ⟨.d0, .d1, .d5⟩), none⟩,
    ⟨some ⟨.d0, .d1, .d7⟩, .bin .lss (.t ⟨.d0, .d1, .d4⟩) (.t ⟨.d0, .d1, .d6⟩), none⟩])
  (.cond (.t ⟨.d0, .d1, .d7⟩)
    (.region [⟨some ⟨.d0, .d2, .d0⟩, .move (.t ⟨.d0, .d0, .d5⟩), none⟩,
      ⟨some ⟨.d0, .d2, .d1⟩, .move (.t ⟨.d0, .d0, .d0⟩), none⟩,
      ⟨some ⟨.d0, .d2, .d2⟩, .move (.t ⟨.d0, .d0, .d1⟩), none⟩,
      ⟨some ⟨.d0, .d2, .d3⟩, .bin .add (.t ⟨.d0, .d2, .d2⟩) (.c (.int .i64 1)), none⟩,
      ⟨some ⟨.d0, .d2, .d4⟩, .strAt (.t ⟨.d0, .d2, .d1⟩) (.t ⟨.d0, .d2, .d3⟩), none⟩,
      ⟨some ⟨.d0, .d2, .d5⟩, .convInt .i64 (.t ⟨.d0, .d2, .d4⟩), none⟩,
      ⟨some ⟨.d0, .d2, .d6⟩, .bin .add (.t ⟨.d0, .d2, .d0⟩) (.t ⟨.d0, .d2, .d5⟩), none⟩,
      ⟨some ⟨.d0, .d0, .d5⟩, .move (.t ⟨.d0, .d2, .d6⟩), none⟩])
    (.skip)))
  (.seq (.region [⟨some ⟨.d0, .d2, .d7⟩, .move (.t ⟨.d0, .d0, .d5⟩), none⟩,
    ⟨some ⟨.d0, .d0, .d4⟩, .move (.t ⟨.d0, .d2, .d7⟩), none⟩])
  (.ret))))
def r_custref_WordAt : List XR := [.tmp ⟨.d0, .d0, .d4⟩]
theorem ok_custref_WordAt : okC Try.prog Try.f63.ntmps (bodyOf Try.f63) x_custref_WordAt = true := by kernel_rfl
theorem okr_custref_WordAt : okRs Try.prog Try.f63.results.toList r_custref_WordAt = true := by kernel_rfl

/-- custref.Bytes -/
def x_custref_Bytes : XC :=
  .seq (.region [⟨some ⟨.d0, .d0, .d2⟩, .move (.c (.string { data := #[] })), none⟩])
  (.seq (.region [⟨some ⟨.d0, .d0, .d6⟩, .move (.t ⟨.d0, .d0, .d0⟩), none⟩,
    ⟨some ⟨.d0, .d0, .d7⟩, .len (.t ⟨.d0, .d0, .d6⟩), none⟩,
    ⟨some ⟨.d0, .d1, .d0⟩, .makeSlice 1 1 [.int .u8 0] (.t ⟨.d0, .d0, .d7⟩) (.t ⟨.d0, .d0, .d7⟩), none⟩,
    ⟨some ⟨.d0, .d0, .d3⟩, .move (.t ⟨.d0, .d1, .d0⟩), none⟩])
  (.seq (.seq (.region [⟨some ⟨.d0, .d1, .d1⟩, .move (.t ⟨.d0, .d0, .d0⟩), none⟩,
    ⟨some ⟨.d0, .d1, .d2⟩, .len (.t ⟨.d0, .d1, .d1⟩), none⟩,
    ⟨some ⟨.d0, .d1, .d3⟩, .move (.c (.int .i64 0)), none⟩])
  (.block 0
    (.loop
      (.seq (.region [⟨some ⟨.d0, .d1, .d4⟩, .bin .lss (.t ⟨.d0, .d1, .d3⟩) (.t ⟨.d0, .d1, .d2⟩), none⟩])
      (.seq (.cond (.t ⟨.d0, .d1, .d4⟩)
        (.skip)
        (.exit 0))
      (.seq (.block 1
        (.seq (.region [⟨some ⟨.d0, .d1, .d5⟩, .move (.t ⟨.d0, .d1, .d3⟩), none⟩,
          ⟨some ⟨.d0, .d1, .d6⟩, .indexSl 1 (.t ⟨.d0, .d1, .d1⟩) (.t ⟨.d0, .d1, .d3⟩), none⟩,
          ⟨some ⟨.d0, .d1, .d7⟩, .load false 1 (.t ⟨.d0, .d1, .d6⟩), none⟩,
          ⟨some ⟨.d0, .d0, .d4⟩, .move (.t ⟨.d0, .d1, .d5⟩), none⟩,
          ⟨some ⟨.d0, .d0, .d5⟩, .move (.t ⟨.d0, .d1, .d7⟩), none⟩])
        (.region [⟨some ⟨.d0, .d2, .d0⟩, .move (.t ⟨.d0, .d0, .d3⟩), none⟩,
          ⟨some ⟨.d0, .d2, .d1⟩, .move (.t ⟨.d0, .d0, .d4⟩), none⟩,
          ⟨some ⟨.d0, .d2, .d2⟩, .move (.t ⟨.d0, .d0, .d5⟩), none⟩,
          ⟨some ⟨.d0, .d2, .d3⟩, .convInt .u8 (.t ⟨.d0, .d2, .d2⟩), none⟩,
          ⟨some ⟨.d0, .d2, .d4⟩, .indexSl 1 (.t ⟨.d0, .d2, .d0⟩) (.t ⟨.d0, .d2, .d1⟩), none⟩,
          ⟨none, .store 1 (.t ⟨.d0, .d2, .d4⟩) (.t ⟨.d0, .d2, .d3⟩), none⟩])))
      (.region [⟨some ⟨.d0, .d2, .d5⟩, .bin .add (.t ⟨.d0, .d1, .d3⟩) (.c (.int .i64 1)), none⟩,
        ⟨some ⟨.d0, .d1, .d3⟩, .move (.t ⟨.d0, .d2, .d5⟩), none⟩])))))))
  (.seq (.region [⟨some ⟨.d0, .d2, .d6⟩, .move (.t ⟨.d0, .d0, .d3⟩), none⟩,
    ⟨some ⟨.d0, .d2, .d7⟩, .b2s (.t ⟨.d0, .d2, .d6⟩), none⟩,
    ⟨some ⟨.d0, .d0, .d2⟩, .move (.t ⟨.d0, .d2, .d7⟩), none⟩])
  (.ret))))
def r_custref_Bytes : List XR := [.tmp ⟨.d0, .d0, .d2⟩]
theorem ok_custref_Bytes : okC Try.prog Try.f64.ntmps (bodyOf Try.f64) x_custref_Bytes = true := by kernel_rfl
theorem okr_custref_Bytes : okRs Try.prog Try.f64.results.toList r_custref_Bytes = true := by kernel_rfl

/-- tcp.words -/
def x_tcp_words : XC :=
  .seq (.region [⟨some ⟨.d0, .d0, .d2⟩, .move (.c (.bool false)), none⟩])
  (.seq (.region [⟨some ⟨.d0, .d0, .d3⟩, .move (.t ⟨.d0, .d0, .d0⟩), none⟩,
    ⟨some ⟨.d0, .d0, .d4⟩, .call 88 [(.t ⟨.d0, .d0, .d3⟩), (.f 89)], none⟩,
    ⟨some ⟨.d0, .d0, .d5⟩, .un .not (.t ⟨.d0, .d0, .d4⟩), none⟩,
    ⟨some ⟨.d0, .d0, .d2⟩, .move (.t ⟨.d0, .d0, .d5⟩), none⟩])
  (.ret))
def r_tcp_words : List XR := [.tmp ⟨.d0, .d0, .d2⟩]
theorem ok_tcp_words : okC Try.prog Try.f66.ntmps (bodyOf Try.f66) x_tcp_words = true := by kernel_rfl
theorem okr_tcp_words : okRs Try.prog Try.f66.results.toList r_tcp_words = true := by kernel_rfl

/-- tcp.options -/
def x_tcp_options : XC :=
  .seq (.region [⟨some ⟨.d0, .d0, .d2⟩, .move (.c (.string { data := #[] })), none⟩,
    ⟨some ⟨.d0, .d0, .d3⟩, .move (.c (.bool false)), none⟩])
  (.seq (.region [⟨some ⟨.d0, .d0, .d4⟩, .move (.c (.slice none 0 0)), none⟩])
  (.seq (.seq (.region [⟨some ⟨.d0, .d0, .d7⟩, .move (.t ⟨.d0, .d0, .d0⟩), none⟩,
    ⟨some ⟨.d0, .d1, .d0⟩, .len (.t ⟨.d0, .d0, .d7⟩), none⟩,
    ⟨some ⟨.d0, .d1, .d1⟩, .move (.c (.int .i64 0)), none⟩])
  (.block 0
    (.loop
      (.seq (.region [⟨some ⟨.d0, .d1, .d2⟩, .bin .lss (.t ⟨.d0, .d1, .d1⟩) (.t ⟨.d0, .d1, .d0⟩), none⟩])
      (.seq (.cond (.t ⟨.d0, .d1, .d2⟩)
        (.skip)
        (.exit 0))
      (.seq (.block 1
        (.seq (.region [⟨some ⟨.d0, .d1, .d3⟩, .indexSl 2 (.t ⟨.d0, .d0, .d7⟩) (.t ⟨.d0, .d1, .d1⟩), none⟩,
          ⟨some ⟨.d0, .d1, .d4⟩, .load true 2 (.t ⟨.d0, .d1, .d3⟩), none⟩,
          ⟨some ⟨.d0, .d0, .d6⟩, .alloc 0 [.int .i64 0, .string { data := #[] }], none⟩,
          ⟨none, .store 2 (.t ⟨.d0, .d0, .d6⟩) (.t ⟨.d0, .d1, .d4⟩), none⟩])
        (.seq (.seq (.region [⟨some ⟨.d0, .d1, .d5⟩, .fieldAddr 0 (.t ⟨.d0, .d0, .d6⟩), none⟩,
          ⟨some ⟨.d0, .d1, .d6⟩, .load false 1 (.t ⟨.d0, .d1, .d5⟩), none⟩,
          ⟨some ⟨.d0, .d1, .d7⟩, .bin .lss (.t ⟨.d0, .d1, .d6⟩) (.c (.int .i64 1)), none⟩,
          ⟨some ⟨.d0, .d2, .d0⟩, .move (.t ⟨.d0, .d1, .d7⟩), none⟩,
          ⟨some ⟨.d0, .d2, .d1⟩, .fieldAddr 0 (.t ⟨.d0, .d0, .d6⟩), some (⟨.d0, .d2, .d0⟩, false)⟩,
          ⟨some ⟨.d0, .d2, .d2⟩, .load false 1 (.t ⟨.d0, .d2, .d1⟩), some (⟨.d0, .d2, .d0⟩, false)⟩,
          ⟨some ⟨.d0, .d2, .d3⟩, .bin .gtr (.t ⟨.d0, .d2, .d2⟩) (.c (.int .i64 255)), some (⟨.d0, .d2, .d0⟩, false)⟩,
          ⟨some ⟨.d0, .d2, .d4⟩, .pick (.t ⟨.d0, .d2, .d0⟩) (.c (.bool true)) (.t ⟨.d0, .d2, .d3⟩), none⟩,
          ⟨some ⟨.d0, .d2, .d5⟩, .move (.t ⟨.d0, .d2, .d4⟩), none⟩,
          ⟨some ⟨.d0, .d2, .d6⟩, .fieldAddr 1 (.t ⟨.d0, .d0, .d6⟩), some (⟨.d0, .d2, .d5⟩, false)⟩,
          ⟨some ⟨.d0, .d2, .d7⟩, .load false 1 (.t ⟨.d0, .d2, .d6⟩), some (⟨.d0, .d2, .d5⟩, false)⟩,
          ⟨some ⟨.d0, .d3, .d0⟩, .slen (.t ⟨.d0, .d2, .d7⟩), some (⟨.d0, .d2, .d5⟩, false)⟩,
          ⟨some ⟨.d0, .d3, .d1⟩, .bin .gtr (.t ⟨.d0, .d3, .d0⟩) (.c (.int .i64 38)), some (⟨.d0, .d2, .d5⟩, false)⟩,
          ⟨some ⟨.d0, .d3, .d2⟩, .pick (.t ⟨.d0, .d2, .d5⟩) (.c (.bool true)) (.t ⟨.d0, .d3, .d1⟩), none⟩,
          ⟨some ⟨.d0, .d3, .d3⟩, .move (.t ⟨.d0, .d3, .d2⟩), none⟩,
          ⟨some ⟨.d0, .d3, .d4⟩, .fieldAddr 0 (.t ⟨.d0, .d0, .d6⟩), some (⟨.d0, .d3, .d3⟩, false)⟩,
          ⟨some ⟨.d0, .d3, .d5⟩, .load false 1 (.t ⟨.d0, .d3, .d4⟩), some (⟨.d0, .d3, .d3⟩, false)⟩,
          ⟨some ⟨.d0, .d3, .d6⟩, .bin .eql (.t ⟨.d0, .d3, .d5⟩) (.c (.int .i64 1)), some (⟨.d0, .d3, .d3⟩, false)⟩,
          ⟨some ⟨.d0, .d3, .d7⟩, .move (.t ⟨.d0, .d3, .d6⟩), some (⟨.d0, .d3, .d3⟩, false)⟩,
          ⟨some ⟨.d0, .d4, .d0⟩, .fieldAddr 1 (.t ⟨.d0, .d0, .d6⟩), some (⟨.d0, .d3, .d7⟩, true)⟩,
          ⟨some ⟨.d0, .d4, .d1⟩, .load false 1 (.t ⟨.d0, .d4, .d0⟩), some (⟨.d0, .d3, .d7⟩, true)⟩,
          ⟨some ⟨.d0, .d4, .d2⟩, .sbin .neq (.t ⟨.d0, .d4, .d1⟩) (.c (.string { data := #[] })), some (⟨.d0, .d3, .d7⟩, true)⟩,
          ⟨some ⟨.d0, .d4, .d3⟩, .pick (.t ⟨.d0, .d3, .d7⟩) (.t ⟨.d0, .d4, .d2⟩) (.c (.bool false)), some (⟨.d0, .d3, .d3⟩, false)⟩,
          ⟨some ⟨.d0, .d4, .d4⟩, .pick (.t ⟨.d0, .d3, .d3⟩) (.c (.bool true)) (.t ⟨.d0, .d4, .d3⟩), none⟩])
        (.cond (.t ⟨.d0, .d4, .d4⟩)
          (.seq (.region [⟨some ⟨.d0, .d0, .d2⟩, .move (.c (.string { data := #[] })), none⟩,
            ⟨some ⟨.d0, .d0, .d3⟩, .move (.c (.bool false)), none⟩])
          (.ret))
          (.skip)))
        (.seq (.region [⟨some ⟨.d0, .d4, .d5⟩, .move (.t ⟨.d0, .d0, .d4⟩), none⟩,
          ⟨some ⟨.d0, .d4, .d6⟩, .fieldAddr 0 (.t ⟨.d0, .d0, .d6⟩), none⟩,
          ⟨some ⟨.d0, .d4, .d7⟩, .load false 1 (.t ⟨.d0, .d4, .d6⟩), none⟩,
          ⟨some ⟨.d0, .d5, .d0⟩, .convInt .u8 (.t ⟨.d0, .d4, .d7⟩), none⟩,
          ⟨some ⟨.d0, .d5, .d1⟩, .buildSlice 1 1 [.int .u8 0] [(0, (.t ⟨.d0, .d5, .d0⟩))], none⟩,
          ⟨some ⟨.d0, .d5, .d2⟩, .append 2 1 1 (.t ⟨.d0, .d4, .d5⟩) (.t ⟨.d0, .d5, .d1⟩), none⟩,
          ⟨some ⟨.d0, .d0, .d4⟩, .move (.t ⟨.d0, .d5, .d2⟩), none⟩])
        (.seq (.region [⟨some ⟨.d0, .d5, .d3⟩, .fieldAddr 0 (.t ⟨.d0, .d0, .d6⟩), none⟩,
          ⟨some ⟨.d0, .d5, .d4⟩, .load false 1 (.t ⟨.d0, .d5, .d3⟩), none⟩,
          ⟨some ⟨.d0, .d5, .d5⟩, .bin .gtr (.t ⟨.d0, .d5, .d4⟩) (.c (.int .i64 1)), none⟩])
        (.cond (.t ⟨.d0, .d5, .d5⟩)
          (.regionD [0, 0, 2, 6, 14, 30, 62, 127, 0, 256, 1023, 2047] [⟨some ⟨.d0, .d5, .d6⟩, .move (.t ⟨.d0, .d0, .d4⟩), none⟩,
            ⟨some ⟨.d0, .d5, .d7⟩, .fieldAddr 1 (.t ⟨.d0, .d0, .d6⟩), none⟩,
            ⟨some ⟨.d0, .d6, .d0⟩, .load false 1 (.t ⟨.d0, .d5, .d7⟩), none⟩,
            ⟨some ⟨.d0, .d6, .d1⟩, .slen (.t ⟨.d0, .d6, .d0⟩), none⟩,
            ⟨some ⟨.d0, .d6, .d2⟩, .bin .add (.t ⟨.d0, .d6, .d1⟩) (.c (.int .i64 2)), none⟩,
            ⟨some ⟨.d0, .d6, .d3⟩, .convInt .u8 (.t ⟨.d0, .d6, .d2⟩), none⟩,
            ⟨some ⟨.d0, .d6, .d4⟩, .buildSlice 3 1 [.int .u8 0] [(0, (.t ⟨.d0, .d6, .d3⟩))], none⟩,
            ⟨some ⟨.d0, .d6, .d5⟩, .append 2 1 1 (.t ⟨.d0, .d5, .d6⟩) (.t ⟨.d0, .d6, .d4⟩), none⟩,
            ⟨some ⟨.d0, .d6, .d6⟩, .fieldAddr 1 (.t ⟨.d0, .d0, .d6⟩), none⟩,
            ⟨some ⟨.d0, .d6, .d7⟩, .load false 1 (.t ⟨.d0, .d6, .d6⟩), none⟩,
            ⟨some ⟨.d0, .d7, .d0⟩, .append 2 1 1 (.t ⟨.d0, .d6, .d5⟩) (.t ⟨.d0, .d6, .d7⟩), none⟩,
            ⟨some ⟨.d0, .d0, .d4⟩, .move (.t ⟨.d0, .d7, .d0⟩), none⟩])
          (.skip)))))))
      (.region [⟨some ⟨.d0, .d7, .d1⟩, .bin .add (.t ⟨.d0, .d1, .d1⟩) (.c (.int .i64 1)), none⟩,
        ⟨some ⟨.d0, .d1, .d1⟩, .move (.t ⟨.d0, .d7, .d1⟩), none⟩])))))))
  (.seq (.region [⟨some ⟨.d0, .d7, .d2⟩, .move (.t ⟨.d0, .d0, .d4⟩), none⟩,
    ⟨some ⟨.d0, .d7, .d3⟩, .b2s (.t ⟨.d0, .d7, .d2⟩), none⟩,
    ⟨some ⟨.d0, .d0, .d2⟩, .move (.t ⟨.d0, .d7, .d3⟩), none⟩,
    ⟨some ⟨.d0, .d0, .d3⟩, .move (.c (.bool true)), none⟩])
  (.ret))))
def r_tcp_options : List XR := [.tmp ⟨.d0, .d0, .d2⟩, .tmp ⟨.d0, .d0, .d3⟩]
theorem ok_tcp_options : okC Try.prog Try.f67.ntmps (bodyOf Try.f67) x_tcp_options = true := by kernel_rfl
theorem okr_tcp_options : okRs Try.prog Try.f67.results.toList r_tcp_options = true := by kernel_rfl

/-- tcp.word -/
def x_tcp_word : XC :=
  .seq (.region [⟨some ⟨.d0, .d0, .d2⟩, .move (.c (.string { data := #[] })), none⟩])
  (.seq (.region [⟨some ⟨.d0, .d0, .d3⟩, .move (.t ⟨.d0, .d0, .d0⟩), none⟩,
    ⟨some ⟨.d0, .d0, .d4⟩, .bin .shr (.t ⟨.d0, .d0, .d3⟩) (.c (.int .u64 8)), none⟩,
    ⟨some ⟨.d0, .d0, .d5⟩, .convInt .u8 (.t ⟨.d0, .d0, .d4⟩), none⟩,
    ⟨some ⟨.d0, .d0, .d6⟩, .move (.t ⟨.d0, .d0, .d0⟩), none⟩,
    ⟨some ⟨.d0, .d0, .d7⟩, .convInt .u8 (.t ⟨.d0, .d0, .d6⟩), none⟩,
    ⟨some ⟨.d0, .d1, .d0⟩, .buildSlice 0 2 [.int .u8 0] [(0, (.t ⟨.d0, .d0, .d5⟩)), (1, (.t ⟨.d0, .d0, .d7⟩))], none⟩,
    ⟨some ⟨.d0, .d1, .d1⟩, .b2s (.t ⟨.d0, .d1, .d0⟩), none⟩,
    ⟨some ⟨.d0, .d0, .d2⟩, .move (.t ⟨.d0, .d1, .d1⟩), none⟩])
  (.ret))
def r_tcp_word : List XR := [.tmp ⟨.d0, .d0, .d2⟩]
theorem ok_tcp_word : okC Try.prog Try.f68.ntmps (bodyOf Try.f68) x_tcp_word = true := by kernel_rfl
theorem okr_tcp_word : okRs Try.prog Try.f68.results.toList r_tcp_word = true := by kernel_rfl

/-- tcp.long -/
def x_tcp_long : XC :=
  .seq (.region [⟨some ⟨.d0, .d0, .d2⟩, .move (.c (.string { data := #[] })), none⟩])
  (.seq (.region [⟨some ⟨.d0, .d0, .d3⟩, .move (.t ⟨.d0, .d0, .d0⟩), none⟩,
    ⟨some ⟨.d0, .d0, .d4⟩, .bin .shr (.t ⟨.d0, .d0, .d3⟩) (.c (.int .u64 16)), none⟩,
    ⟨some ⟨.d0, .d0, .d5⟩, .convInt .i64 (.t ⟨.d0, .d0, .d4⟩), none⟩,
    ⟨some ⟨.d0, .d0, .d6⟩, .call 68 [(.t ⟨.d0, .d0, .d5⟩)], none⟩,
    ⟨some ⟨.d0, .d0, .d7⟩, .move (.t ⟨.d0, .d0, .d0⟩), none⟩,
    ⟨some ⟨.d0, .d1, .d0⟩, .convInt .i64 (.t ⟨.d0, .d0, .d7⟩), none⟩,
    ⟨some ⟨.d0, .d1, .d1⟩, .call 68 [(.t ⟨.d0, .d1, .d0⟩)], none⟩,
    ⟨some ⟨.d0, .d1, .d2⟩, .sbin .add (.t ⟨.d0, .d0, .d6⟩) (.t ⟨.d0, .d1, .d1⟩), none⟩,
    ⟨some ⟨.d0, .d0, .d2⟩, .move (.t ⟨.d0, .d1, .d2⟩), none⟩])
  (.ret))
def r_tcp_long : List XR := [.tmp ⟨.d0, .d0, .d2⟩]
theorem ok_tcp_long : okC Try.prog Try.f69.ntmps (bodyOf Try.f69) x_tcp_long = true := by kernel_rfl
theorem okr_tcp_long : okRs Try.prog Try.f69.results.toList r_tcp_long = true := by kernel_rfl

/-- sum.Of -/
def x_sum_Of : XC :=
  .seq (.region [⟨some ⟨.d0, .d0, .d2⟩, .move (.c (.int .u16 0)), none⟩])
  (.seq (.region [⟨some ⟨.d0, .d0, .d3⟩, .move (.t ⟨.d0, .d0, .d0⟩), none⟩,
    ⟨some ⟨.d0, .d0, .d4⟩, .call 90 [(.c (.int .u16 0)), (.t ⟨.d0, .d0, .d3⟩)], none⟩,
    ⟨some ⟨.d0, .d0, .d5⟩, .un .xor (.t ⟨.d0, .d0, .d4⟩), none⟩,
    ⟨some ⟨.d0, .d0, .d2⟩, .move (.t ⟨.d0, .d0, .d5⟩), none⟩])
  (.ret))
def r_sum_Of : List XR := [.tmp ⟨.d0, .d0, .d2⟩]
theorem ok_sum_Of : okC Try.prog Try.f70.ntmps (bodyOf Try.f70) x_sum_Of = true := by kernel_rfl
theorem okr_sum_Of : okRs Try.prog Try.f70.results.toList r_sum_Of = true := by kernel_rfl

/-- dgram.Under -/
def x_dgram_Under : XC :=
  .seq (.region [⟨some ⟨.d0, .d1, .d0⟩, .move (.c (.string { data := #[] })), none⟩])
  (.seq (.region [⟨some ⟨.d0, .d1, .d1⟩, .move (.t ⟨.d0, .d0, .d0⟩), none⟩,
    ⟨some ⟨.d0, .d1, .d2⟩, .call 91 [(.t ⟨.d0, .d1, .d1⟩)], none⟩,
    ⟨some ⟨.d0, .d1, .d3⟩, .move (.t ⟨.d0, .d0, .d1⟩), none⟩,
    ⟨some ⟨.d0, .d1, .d4⟩, .call 91 [(.t ⟨.d0, .d1, .d3⟩)], none⟩,
    ⟨some ⟨.d0, .d1, .d5⟩, .sbin .add (.t ⟨.d0, .d1, .d2⟩) (.t ⟨.d0, .d1, .d4⟩), none⟩,
    ⟨some ⟨.d0, .d1, .d6⟩, .move (.t ⟨.d0, .d0, .d2⟩), none⟩,
    ⟨some ⟨.d0, .d1, .d7⟩, .bin .and (.t ⟨.d0, .d1, .d6⟩) (.c (.int .i64 255)), none⟩,
    ⟨some ⟨.d0, .d2, .d0⟩, .call 92 [(.t ⟨.d0, .d1, .d7⟩)], none⟩,
    ⟨some ⟨.d0, .d2, .d1⟩, .sbin .add (.t ⟨.d0, .d1, .d5⟩) (.t ⟨.d0, .d2, .d0⟩), none⟩,
    ⟨some ⟨.d0, .d2, .d2⟩, .move (.t ⟨.d0, .d0, .d3⟩), none⟩,
    ⟨some ⟨.d0, .d2, .d3⟩, .call 92 [(.t ⟨.d0, .d2, .d2⟩)], none⟩,
    ⟨some ⟨.d0, .d2, .d4⟩, .sbin .add (.t ⟨.d0, .d2, .d1⟩) (.t ⟨.d0, .d2, .d3⟩), none⟩,
    ⟨some ⟨.d0, .d1, .d0⟩, .move (.t ⟨.d0, .d2, .d4⟩), none⟩])
  (.ret))
def r_dgram_Under : List XR := [.tmp ⟨.d0, .d1, .d0⟩]
theorem ok_dgram_Under : okC Try.prog Try.f71.ntmps (bodyOf Try.f71) x_dgram_Under = true := by kernel_rfl
theorem okr_dgram_Under : okRs Try.prog Try.f71.results.toList r_dgram_Under = true := by kernel_rfl

/-- slices.Clone -/
def x_slices_Clone_api_Option : XC :=
  .seq (.region [⟨some ⟨.d0, .d0, .d2⟩, .move (.c (.slice none 0 0)), none⟩])
  (.seq (.seq (.region [⟨some ⟨.d0, .d0, .d3⟩, .move (.t ⟨.d0, .d0, .d0⟩), none⟩,
    ⟨some ⟨.d0, .d0, .d4⟩, .isnil false (.t ⟨.d0, .d0, .d3⟩), none⟩])
  (.cond (.t ⟨.d0, .d0, .d4⟩)
    (.seq (.region [⟨some ⟨.d0, .d0, .d2⟩, .move (.c (.slice none 0 0)), none⟩])
    (.ret))
    (.skip)))
  (.seq (.region [⟨some ⟨.d0, .d0, .d5⟩, .buildSlice 0 0 [.int .i64 0, .string { data := #[] }] [], none⟩,
    ⟨some ⟨.d0, .d0, .d6⟩, .move (.t ⟨.d0, .d0, .d0⟩), none⟩,
    ⟨some ⟨.d0, .d0, .d7⟩, .append 1 2 24 (.t ⟨.d0, .d0, .d5⟩) (.t ⟨.d0, .d0, .d6⟩), none⟩,
    ⟨some ⟨.d0, .d0, .d2⟩, .move (.t ⟨.d0, .d0, .d7⟩), none⟩])
  (.ret)))
def r_slices_Clone_api_Option : List XR := [.tmp ⟨.d0, .d0, .d2⟩]
theorem ok_slices_Clone_api_Option : okC Try.prog Try.f72.ntmps (bodyOf Try.f72) x_slices_Clone_api_Option = true := by kernel_rfl
theorem okr_slices_Clone_api_Option : okRs Try.prog Try.f72.results.toList r_slices_Clone_api_Option = true := by kernel_rfl

/-- tcp.longAt -/
def x_tcp_longAt : XC :=
  .seq (.region [⟨some ⟨.d0, .d0, .d4⟩, .move (.c (.int .u32 0)), none⟩])
  (.seq (.region [⟨some ⟨.d0, .d0, .d5⟩, .move (.t ⟨.d0, .d0, .d0⟩), none⟩,
    ⟨some ⟨.d0, .d0, .d6⟩, .move (.t ⟨.d0, .d0, .d1⟩), none⟩,
    ⟨some ⟨.d0, .d0, .d7⟩, .call 80 [(.t ⟨.d0, .d0, .d5⟩), (.t ⟨.d0, .d0, .d6⟩)], none⟩,
    ⟨some ⟨.d0, .d1, .d0⟩, .convInt .u32 (.t ⟨.d0, .d0, .d7⟩), none⟩,
    ⟨some ⟨.d0, .d1, .d1⟩, .bin .shl (.t ⟨.d0, .d1, .d0⟩) (.c (.int .u64 16)), none⟩,
    ⟨some ⟨.d0, .d1, .d2⟩, .move (.t ⟨.d0, .d0, .d0⟩), none⟩,
    ⟨some ⟨.d0, .d1, .d3⟩, .move (.t ⟨.d0, .d0, .d1⟩), none⟩,
    ⟨some ⟨.d0, .d1, .d4⟩, .bin .add (.t ⟨.d0, .d1, .d3⟩) (.c (.int .i64 2)), none⟩,
    ⟨some ⟨.d0, .d1, .d5⟩, .call 80 [(.t ⟨.d0, .d1, .d2⟩), (.t ⟨.d0, .d1, .d4⟩)], none⟩,
    ⟨some ⟨.d0, .d1, .d6⟩, .convInt .u32 (.t ⟨.d0, .d1, .d5⟩), none⟩,
    ⟨some ⟨.d0, .d1, .d7⟩, .bin .or (.t ⟨.d0, .d1, .d1⟩) (.t ⟨.d0, .d1, .d6⟩), none⟩,
    ⟨some ⟨.d0, .d0, .d4⟩, .move (.t ⟨.d0, .d1, .d7⟩), none⟩])
  (.ret))
def r_tcp_longAt : List XR := [.tmp ⟨.d0, .d0, .d4⟩]
theorem ok_tcp_longAt : okC Try.prog Try.f73.ntmps (bodyOf Try.f73) x_tcp_longAt = true := by kernel_rfl
theorem okr_tcp_longAt : okRs Try.prog Try.f73.results.toList r_tcp_longAt = true := by kernel_rfl

/-- slices.Delete -/
def x_slices_Delete_api_Guarded : XC :=
  .seq (.region [⟨some ⟨.d0, .d0, .d6⟩, .move (.c (.slice none 0 0)), none⟩])
  (.seq (.region [⟨some ⟨.d0, .d1, .d0⟩, .move (.t ⟨.d0, .d0, .d0⟩), none⟩,
    ⟨some ⟨.d0, .d1, .d1⟩, .move (.t ⟨.d0, .d0, .d1⟩), none⟩,
    ⟨some ⟨.d0, .d1, .d2⟩, .move (.t ⟨.d0, .d0, .d2⟩), none⟩,
    ⟨some ⟨.d0, .d1, .d3⟩, .move (.t ⟨.d0, .d0, .d0⟩), none⟩,
    ⟨some ⟨.d0, .d1, .d4⟩, .len (.t ⟨.d0, .d1, .d3⟩), none⟩,
    ⟨some ⟨.d0, .d1, .d5⟩, .sliceW 9 (.t ⟨.d0, .d1, .d0⟩) (some (.t ⟨.d0, .d1, .d1⟩)) (some (.t ⟨.d0, .d1, .d2⟩)) (some (.t ⟨.d0, .d1, .d4⟩)), none⟩])
  (.seq (.seq (.region [⟨some ⟨.d0, .d1, .d6⟩, .move (.t ⟨.d0, .d0, .d1⟩), none⟩,
    ⟨some ⟨.d0, .d1, .d7⟩, .move (.t ⟨.d0, .d0, .d2⟩), none⟩,
    ⟨some ⟨.d0, .d2, .d0⟩, .bin .eql (.t ⟨.d0, .d1, .d6⟩) (.t ⟨.d0, .d1, .d7⟩), none⟩])
  (.cond (.t ⟨.d0, .d2, .d0⟩)
    (.seq (.region [⟨some ⟨.d0, .d2, .d1⟩, .move (.t ⟨.d0, .d0, .d0⟩), none⟩,
      ⟨some ⟨.d0, .d0, .d6⟩, .move (.t ⟨.d0, .d2, .d1⟩), none⟩])
    (.ret))
    (.skip)))
  (.seq (.region [⟨some ⟨.d0, .d2, .d2⟩, .move (.t ⟨.d0, .d0, .d0⟩), none⟩,
    ⟨some ⟨.d0, .d2, .d3⟩, .len (.t ⟨.d0, .d2, .d2⟩), none⟩,
    ⟨some ⟨.d0, .d0, .d7⟩, .move (.t ⟨.d0, .d2, .d3⟩), none⟩])
  (.seq (.regionD [0, 0, 3, 0, 0, 24, 63, 127] [⟨some ⟨.d0, .d2, .d4⟩, .move (.t ⟨.d0, .d0, .d0⟩), none⟩,
    ⟨some ⟨.d0, .d2, .d5⟩, .move (.t ⟨.d0, .d0, .d1⟩), none⟩,
    ⟨some ⟨.d0, .d2, .d6⟩, .sliceW 9 (.t ⟨.d0, .d2, .d4⟩) none (some (.t ⟨.d0, .d2, .d5⟩)) none, none⟩,
    ⟨some ⟨.d0, .d2, .d7⟩, .move (.t ⟨.d0, .d0, .d0⟩), none⟩,
    ⟨some ⟨.d0, .d3, .d0⟩, .move (.t ⟨.d0, .d0, .d2⟩), none⟩,
    ⟨some ⟨.d0, .d3, .d1⟩, .slice 9 (.t ⟨.d0, .d2, .d7⟩) (some (.t ⟨.d0, .d3, .d0⟩)) none none, none⟩,
    ⟨some ⟨.d0, .d3, .d2⟩, .appendW 9 48 (.t ⟨.d0, .d2, .d6⟩) (.t ⟨.d0, .d3, .d1⟩), none⟩,
    ⟨some ⟨.d0, .d0, .d0⟩, .move (.t ⟨.d0, .d3, .d2⟩), none⟩])
  (.seq (.region [⟨some ⟨.d0, .d3, .d3⟩, .move (.t ⟨.d0, .d0, .d0⟩), none⟩,
    ⟨some ⟨.d0, .d3, .d4⟩, .move (.t ⟨.d0, .d0, .d0⟩), none⟩,
    ⟨some ⟨.d0, .d3, .d5⟩, .len (.t ⟨.d0, .d3, .d4⟩), none⟩,
    ⟨some ⟨.d0, .d3, .d6⟩, .move (.t ⟨.d0, .d0, .d7⟩), none⟩,
    ⟨some ⟨.d0, .d3, .d7⟩, .sliceW 9 (.t ⟨.d0, .d3, .d3⟩) (some (.t ⟨.d0, .d3, .d5⟩)) (some (.t ⟨.d0, .d3, .d6⟩)) none, none⟩,
    ⟨none, .clear [.int .u32 0, .int .u32 0, .int .i64 0, .int .i64 0, .int .u32 0, .int .u32 0, .int .u32 0, .bool false, .int .i64 0] (.t ⟨.d0, .d3, .d7⟩), none⟩])
  (.seq (.region [⟨some ⟨.d0, .d4, .d0⟩, .move (.t ⟨.d0, .d0, .d0⟩), none⟩,
    ⟨some ⟨.d0, .d0, .d6⟩, .move (.t ⟨.d0, .d4, .d0⟩), none⟩])
  (.ret)))))))
def r_slices_Delete_api_Guarded : List XR := [.tmp ⟨.d0, .d0, .d6⟩]
theorem ok_slices_Delete_api_Guarded : okC Try.prog Try.f74.ntmps (bodyOf Try.f74) x_slices_Delete_api_Guarded = true := by kernel_rfl
theorem okr_slices_Delete_api_Guarded : okRs Try.prog Try.f74.results.toList r_slices_Delete_api_Guarded = true := by kernel_rfl

/-- custref.OptionText -/
def x_custref_OptionText : XC :=
  .seq (.region [⟨some ⟨.d0, .d0, .d1⟩, .box 0 2 (.t ⟨.d0, .d0, .d0⟩), none⟩,
    ⟨some ⟨.d0, .d0, .d2⟩, .move (.c (.string { data := #[] })), none⟩,
    ⟨some ⟨.d0, .d0, .d3⟩, .move (.c (.bool false)), none⟩])
  (.seq (.block 0
    (.seq (.region [⟨some ⟨.d0, .d0, .d5⟩, .fieldAddr 0 (.t ⟨.d0, .d0, .d1⟩), none⟩,
      ⟨some ⟨.d0, .d0, .d6⟩, .load false 1 (.t ⟨.d0, .d0, .d5⟩), none⟩,
      ⟨some ⟨.d0, .d0, .d7⟩, .bin .eql (.t ⟨.d0, .d0, .d6⟩) (.c (.int .i64 1)), none⟩,
      ⟨some ⟨.d0, .d1, .d0⟩, .move (.t ⟨.d0, .d0, .d7⟩), none⟩,
      ⟨some ⟨.d0, .d1, .d1⟩, .fieldAddr 1 (.t ⟨.d0, .d0, .d1⟩), some (⟨.d0, .d1, .d0⟩, true)⟩,
      ⟨some ⟨.d0, .d1, .d2⟩, .load false 1 (.t ⟨.d0, .d1, .d1⟩), some (⟨.d0, .d1, .d0⟩, true)⟩,
      ⟨some ⟨.d0, .d1, .d3⟩, .sbin .eql (.t ⟨.d0, .d1, .d2⟩) (.c (.string { data := #[] })), some (⟨.d0, .d1, .d0⟩, true)⟩,
      ⟨some ⟨.d0, .d1, .d4⟩, .pick (.t ⟨.d0, .d1, .d0⟩) (.t ⟨.d0, .d1, .d3⟩) (.c (.bool false)), none⟩,
      ⟨some ⟨.d0, .d0, .d4⟩, .move (.t ⟨.d0, .d1, .d4⟩), none⟩])
    (.cond (.t ⟨.d0, .d0, .d4⟩)
      (.seq (.region [⟨some ⟨.d0, .d1, .d5⟩, .buildSlice 1 1 [.int .i64 0] [(0, (.c (.int .i64 1)))], none⟩,
        ⟨some ⟨.d0, .d1, .d6⟩, .call 64 [(.t ⟨.d0, .d1, .d5⟩)], none⟩,
        ⟨some ⟨.d0, .d0, .d2⟩, .move (.t ⟨.d0, .d1, .d6⟩), none⟩,
        ⟨some ⟨.d0, .d0, .d3⟩, .move (.c (.bool true)), none⟩])
      (.ret))
      (.seq (.region [⟨some ⟨.d0, .d2, .d0⟩, .fieldAddr 0 (.t ⟨.d0, .d0, .d1⟩), none⟩,
        ⟨some ⟨.d0, .d2, .d1⟩, .load false 1 (.t ⟨.d0, .d2, .d0⟩), none⟩,
        ⟨some ⟨.d0, .d2, .d2⟩, .call 38 [(.t ⟨.d0, .d2, .d1⟩), (.c (.int .i64 2)), (.c (.int .i64 255))], none⟩,
        ⟨some ⟨.d0, .d2, .d3⟩, .move (.t ⟨.d0, .d2, .d2⟩), none⟩,
        ⟨some ⟨.d0, .d2, .d4⟩, .fieldAddr 1 (.t ⟨.d0, .d0, .d1⟩), some (⟨.d0, .d2, .d3⟩, true)⟩,
        ⟨some ⟨.d0, .d2, .d5⟩, .load false 1 (.t ⟨.d0, .d2, .d4⟩), some (⟨.d0, .d2, .d3⟩, true)⟩,
        ⟨some ⟨.d0, .d2, .d6⟩, .slen (.t ⟨.d0, .d2, .d5⟩), some (⟨.d0, .d2, .d3⟩, true)⟩,
        ⟨some ⟨.d0, .d2, .d7⟩, .bin .leq (.t ⟨.d0, .d2, .d6⟩) (.c (.int .i64 38)), some (⟨.d0, .d2, .d3⟩, true)⟩,
        ⟨some ⟨.d0, .d3, .d0⟩, .pick (.t ⟨.d0, .d2, .d3⟩) (.t ⟨.d0, .d2, .d7⟩) (.c (.bool false)), none⟩,
        ⟨some ⟨.d0, .d1, .d7⟩, .move (.t ⟨.d0, .d3, .d0⟩), none⟩])
      (.cond (.t ⟨.d0, .d1, .d7⟩)
        (.seq (.regionD [0, 1, 0, 4, 12, 28, 63, 127, 0, 256, 1023, 2047, 4095] [⟨some ⟨.d0, .d3, .d1⟩, .fieldAddr 0 (.t ⟨.d0, .d0, .d1⟩), none⟩,
          ⟨some ⟨.d0, .d3, .d2⟩, .load false 1 (.t ⟨.d0, .d3, .d1⟩), none⟩,
          ⟨some ⟨.d0, .d3, .d3⟩, .fieldAddr 1 (.t ⟨.d0, .d0, .d1⟩), none⟩,
          ⟨some ⟨.d0, .d3, .d4⟩, .load false 1 (.t ⟨.d0, .d3, .d3⟩), none⟩,
          ⟨some ⟨.d0, .d3, .d5⟩, .slen (.t ⟨.d0, .d3, .d4⟩), none⟩,
          ⟨some ⟨.d0, .d3, .d6⟩, .bin .add (.t ⟨.d0, .d3, .d5⟩) (.c (.int .i64 2)), none⟩,
          ⟨some ⟨.d0, .d3, .d7⟩, .buildSlice 2 2 [.int .i64 0] [(0, (.t ⟨.d0, .d3, .d2⟩)), (1, (.t ⟨.d0, .d3, .d6⟩))], none⟩,
          ⟨some ⟨.d0, .d4, .d0⟩, .call 64 [(.t ⟨.d0, .d3, .d7⟩)], none⟩,
          ⟨some ⟨.d0, .d4, .d1⟩, .fieldAddr 1 (.t ⟨.d0, .d0, .d1⟩), none⟩,
          ⟨some ⟨.d0, .d4, .d2⟩, .load false 1 (.t ⟨.d0, .d4, .d1⟩), none⟩,
          ⟨some ⟨.d0, .d4, .d3⟩, .sbin .add (.t ⟨.d0, .d4, .d0⟩) (.t ⟨.d0, .d4, .d2⟩), none⟩,
          ⟨some ⟨.d0, .d0, .d2⟩, .move (.t ⟨.d0, .d4, .d3⟩), none⟩,
          ⟨some ⟨.d0, .d0, .d3⟩, .move (.c (.bool true)), none⟩])
        (.ret))
        (.skip))))))
  (.seq (.region [⟨some ⟨.d0, .d0, .d2⟩, .move (.c (.string { data := #[] })), none⟩,
    ⟨some ⟨.d0, .d0, .d3⟩, .move (.c (.bool false)), none⟩])
  (.ret)))
def r_custref_OptionText : List XR := [.tmp ⟨.d0, .d0, .d2⟩, .tmp ⟨.d0, .d0, .d3⟩]
theorem ok_custref_OptionText : okC Try.prog Try.f75.ntmps (bodyOf Try.f75) x_custref_OptionText = true := by kernel_rfl
theorem okr_custref_OptionText : okRs Try.prog Try.f75.results.toList r_custref_OptionText = true := by kernel_rfl

/-- slices.ContainsFunc -/
def x_slices_ContainsFunc_api_Option : XC :=
  .seq (.region [⟨some ⟨.d0, .d0, .d4⟩, .move (.c (.bool false)), none⟩])
  (.seq (.region [⟨some ⟨.d0, .d0, .d5⟩, .move (.t ⟨.d0, .d0, .d0⟩), none⟩,
    ⟨some ⟨.d0, .d0, .d6⟩, .move (.t ⟨.d0, .d0, .d1⟩), none⟩,
    ⟨some ⟨.d0, .d0, .d7⟩, .call 61 [(.t ⟨.d0, .d0, .d5⟩), (.t ⟨.d0, .d0, .d6⟩)], none⟩,
    ⟨some ⟨.d0, .d1, .d0⟩, .bin .geq (.t ⟨.d0, .d0, .d7⟩) (.c (.int .i64 0)), none⟩,
    ⟨some ⟨.d0, .d0, .d4⟩, .move (.t ⟨.d0, .d1, .d0⟩), none⟩])
  (.ret))
def r_slices_ContainsFunc_api_Option : List XR := [.tmp ⟨.d0, .d0, .d4⟩]
theorem ok_slices_ContainsFunc_api_Option : okC Try.prog Try.f76.ntmps (bodyOf Try.f76) x_slices_ContainsFunc_api_Option = true := by kernel_rfl
theorem okr_slices_ContainsFunc_api_Option : okRs Try.prog Try.f76.results.toList r_slices_ContainsFunc_api_Option = true := by kernel_rfl

/-- custref.SegmentText-1 -/
def x_custref_SegmentText_1 : XC :=
  .seq (.region [⟨some ⟨.d0, .d0, .d1⟩, .box 0 2 (.t ⟨.d0, .d0, .d0⟩), none⟩,
    ⟨some ⟨.d0, .d0, .d2⟩, .move (.c (.bool false)), none⟩])
  (.seq (.region [⟨some ⟨.d0, .d0, .d6⟩, .load true 2 (.t ⟨.d0, .d0, .d1⟩), none⟩,
    ⟨some ⟨.d0, .d0, .d7⟩, .call 75 [(.t ⟨.d0, .d0, .d6⟩)], none⟩,
    ⟨some ⟨.d0, .d0, .d5⟩, .move (.t ⟨.d0, .d0, .d7⟩), none⟩,
    ⟨some ⟨.d0, .d1, .d0⟩, .extract 0 (.t ⟨.d0, .d0, .d5⟩), none⟩,
    ⟨some ⟨.d0, .d1, .d1⟩, .extract 1 (.t ⟨.d0, .d0, .d5⟩), none⟩,
    ⟨some ⟨.d0, .d0, .d3⟩, .move (.t ⟨.d0, .d1, .d0⟩), none⟩,
    ⟨some ⟨.d0, .d0, .d4⟩, .move (.t ⟨.d0, .d1, .d1⟩), none⟩])
  (.seq (.region [⟨some ⟨.d0, .d1, .d2⟩, .move (.t ⟨.d0, .d0, .d4⟩), none⟩,
    ⟨some ⟨.d0, .d1, .d3⟩, .un .not (.t ⟨.d0, .d1, .d2⟩), none⟩,
    ⟨some ⟨.d0, .d0, .d2⟩, .move (.t ⟨.d0, .d1, .d3⟩), none⟩])
  (.ret)))
def r_custref_SegmentText_1 : List XR := [.tmp ⟨.d0, .d0, .d2⟩]
theorem ok_custref_SegmentText_1 : okC Try.prog Try.f77.ntmps (bodyOf Try.f77) x_custref_SegmentText_1 = true := by kernel_rfl
theorem okr_custref_SegmentText_1 : okRs Try.prog Try.f77.results.toList r_custref_SegmentText_1 = true := by kernel_rfl

/-- custref.Check -/
def x_custref_Check : XC :=
  .seq (.region [⟨some ⟨.d0, .d0, .d2⟩, .move (.c (.int .i64 0)), none⟩])
  (.seq (.region [⟨some ⟨.d0, .d0, .d3⟩, .move (.t ⟨.d0, .d0, .d0⟩), none⟩,
    ⟨some ⟨.d0, .d0, .d4⟩, .call 93 [(.c (.int .i64 0)), (.t ⟨.d0, .d0, .d3⟩)], none⟩,
    ⟨some ⟨.d0, .d0, .d5⟩, .bin .sub (.c (.int .i64 65535)) (.t ⟨.d0, .d0, .d4⟩), none⟩,
    ⟨some ⟨.d0, .d0, .d2⟩, .move (.t ⟨.d0, .d0, .d5⟩), none⟩])
  (.ret))
def r_custref_Check : List XR := [.tmp ⟨.d0, .d0, .d2⟩]
theorem ok_custref_Check : okC Try.prog Try.f78.ntmps (bodyOf Try.f78) x_custref_Check = true := by kernel_rfl
theorem okr_custref_Check : okRs Try.prog Try.f78.results.toList r_custref_Check = true := by kernel_rfl

/-- custref.UnderText -/
def x_custref_UnderText : XC :=
  .seq (.region [⟨some ⟨.d0, .d1, .d0⟩, .move (.c (.string { data := #[] })), none⟩])
  (.seq (.region [⟨some ⟨.d0, .d1, .d1⟩, .move (.t ⟨.d0, .d0, .d0⟩), none⟩,
    ⟨some ⟨.d0, .d1, .d2⟩, .call 51 [(.t ⟨.d0, .d1, .d1⟩)], none⟩,
    ⟨some ⟨.d0, .d1, .d3⟩, .move (.t ⟨.d0, .d0, .d1⟩), none⟩,
    ⟨some ⟨.d0, .d1, .d4⟩, .call 51 [(.t ⟨.d0, .d1, .d3⟩)], none⟩,
    ⟨some ⟨.d0, .d1, .d5⟩, .sbin .add (.t ⟨.d0, .d1, .d2⟩) (.t ⟨.d0, .d1, .d4⟩), none⟩,
    ⟨some ⟨.d0, .d1, .d6⟩, .move (.t ⟨.d0, .d0, .d2⟩), none⟩,
    ⟨some ⟨.d0, .d1, .d7⟩, .bin .rem (.t ⟨.d0, .d1, .d6⟩) (.c (.int .i64 256)), none⟩,
    ⟨some ⟨.d0, .d2, .d0⟩, .bin .add (.t ⟨.d0, .d1, .d7⟩) (.c (.int .i64 256)), none⟩,
    ⟨some ⟨.d0, .d2, .d1⟩, .bin .rem (.t ⟨.d0, .d2, .d0⟩) (.c (.int .i64 256)), none⟩,
    ⟨some ⟨.d0, .d2, .d2⟩, .call 35 [(.t ⟨.d0, .d2, .d1⟩)], none⟩,
    ⟨some ⟨.d0, .d2, .d3⟩, .sbin .add (.t ⟨.d0, .d1, .d5⟩) (.t ⟨.d0, .d2, .d2⟩), none⟩,
    ⟨some ⟨.d0, .d2, .d4⟩, .move (.t ⟨.d0, .d0, .d3⟩), none⟩,
    ⟨some ⟨.d0, .d2, .d5⟩, .bin .rem (.t ⟨.d0, .d2, .d4⟩) (.c (.int .i64 65536)), none⟩,
    ⟨some ⟨.d0, .d2, .d6⟩, .bin .add (.t ⟨.d0, .d2, .d5⟩) (.c (.int .i64 65536)), none⟩,
    ⟨some ⟨.d0, .d2, .d7⟩, .bin .rem (.t ⟨.d0, .d2, .d6⟩) (.c (.int .i64 65536)), none⟩,
    ⟨some ⟨.d0, .d3, .d0⟩, .call 35 [(.t ⟨.d0, .d2, .d7⟩)], none⟩,
    ⟨some ⟨.d0, .d3, .d1⟩, .sbin .add (.t ⟨.d0, .d2, .d3⟩) (.t ⟨.d0, .d3, .d0⟩), none⟩,
    ⟨some ⟨.d0, .d1, .d0⟩, .move (.t ⟨.d0, .d3, .d1⟩), none⟩])
  (.ret))
def r_custref_UnderText : List XR := [.tmp ⟨.d0, .d1, .d0⟩]
theorem ok_custref_UnderText : okC Try.prog Try.f79.ntmps (bodyOf Try.f79) x_custref_UnderText = true := by kernel_rfl
theorem okr_custref_UnderText : okRs Try.prog Try.f79.results.toList r_custref_UnderText = true := by kernel_rfl

/-- tcp.wordAt -/
def x_tcp_wordAt : XC :=
  .seq (.region [⟨some ⟨.d0, .d0, .d4⟩, .move (.c (.int .i64 0)), none⟩])
  (.seq (.regionD [0, 0, 3, 7, 15, 0, 0, 64, 224, 480, 1023, 2047] [⟨some ⟨.d0, .d0, .d5⟩, .move (.t ⟨.d0, .d0, .d0⟩), none⟩,
    ⟨some ⟨.d0, .d0, .d6⟩, .move (.t ⟨.d0, .d0, .d1⟩), none⟩,
    ⟨some ⟨.d0, .d0, .d7⟩, .strAt (.t ⟨.d0, .d0, .d5⟩) (.t ⟨.d0, .d0, .d6⟩), none⟩,
    ⟨some ⟨.d0, .d1, .d0⟩, .convInt .i64 (.t ⟨.d0, .d0, .d7⟩), none⟩,
    ⟨some ⟨.d0, .d1, .d1⟩, .bin .shl (.t ⟨.d0, .d1, .d0⟩) (.c (.int .u64 8)), none⟩,
    ⟨some ⟨.d0, .d1, .d2⟩, .move (.t ⟨.d0, .d0, .d0⟩), none⟩,
    ⟨some ⟨.d0, .d1, .d3⟩, .move (.t ⟨.d0, .d0, .d1⟩), none⟩,
    ⟨some ⟨.d0, .d1, .d4⟩, .bin .add (.t ⟨.d0, .d1, .d3⟩) (.c (.int .i64 1)), none⟩,
    ⟨some ⟨.d0, .d1, .d5⟩, .strAt (.t ⟨.d0, .d1, .d2⟩) (.t ⟨.d0, .d1, .d4⟩), none⟩,
    ⟨some ⟨.d0, .d1, .d6⟩, .convInt .i64 (.t ⟨.d0, .d1, .d5⟩), none⟩,
    ⟨some ⟨.d0, .d1, .d7⟩, .bin .or (.t ⟨.d0, .d1, .d1⟩) (.t ⟨.d0, .d1, .d6⟩), none⟩,
    ⟨some ⟨.d0, .d0, .d4⟩, .move (.t ⟨.d0, .d1, .d7⟩), none⟩])
  (.ret))
def r_tcp_wordAt : List XR := [.tmp ⟨.d0, .d0, .d4⟩]
theorem ok_tcp_wordAt : okC Try.prog Try.f80.ntmps (bodyOf Try.f80) x_tcp_wordAt = true := by kernel_rfl
theorem okr_tcp_wordAt : okRs Try.prog Try.f80.results.toList r_tcp_wordAt = true := by kernel_rfl

/-- slices.ContainsFunc -/
def x_slices_ContainsFunc_int : XC :=
  .seq (.region [⟨some ⟨.d0, .d0, .d4⟩, .move (.c (.bool false)), none⟩])
  (.seq (.region [⟨some ⟨.d0, .d0, .d5⟩, .move (.t ⟨.d0, .d0, .d0⟩), none⟩,
    ⟨some ⟨.d0, .d0, .d6⟩, .move (.t ⟨.d0, .d0, .d1⟩), none⟩,
    ⟨some ⟨.d0, .d0, .d7⟩, .call 101 [(.t ⟨.d0, .d0, .d5⟩), (.t ⟨.d0, .d0, .d6⟩)], none⟩,
    ⟨some ⟨.d0, .d1, .d0⟩, .bin .geq (.t ⟨.d0, .d0, .d7⟩) (.c (.int .i64 0)), none⟩,
    ⟨some ⟨.d0, .d0, .d4⟩, .move (.t ⟨.d0, .d1, .d0⟩), none⟩])
  (.ret))
def r_slices_ContainsFunc_int : List XR := [.tmp ⟨.d0, .d0, .d4⟩]
theorem ok_slices_ContainsFunc_int : okC Try.prog Try.f88.ntmps (bodyOf Try.f88) x_slices_ContainsFunc_int = true := by kernel_rfl
theorem okr_slices_ContainsFunc_int : okRs Try.prog Try.f88.results.toList r_slices_ContainsFunc_int = true := by kernel_rfl

/-- tcp.words-1 -/
def x_tcp_words_1 : XC :=
  .seq (.region [⟨some ⟨.d0, .d0, .d2⟩, .move (.c (.bool false)), none⟩])
  (.seq (.region [⟨some ⟨.d0, .d0, .d3⟩, .move (.t ⟨.d0, .d0, .d0⟩), none⟩,
    ⟨some ⟨.d0, .d0, .d4⟩, .bin .lss (.t ⟨.d0, .d0, .d3⟩) (.c (.int .i64 0)), none⟩,
    ⟨some ⟨.d0, .d0, .d5⟩, .move (.t ⟨.d0, .d0, .d4⟩), none⟩,
    ⟨some ⟨.d0, .d0, .d6⟩, .move (.t ⟨.d0, .d0, .d0⟩), some (⟨.d0, .d0, .d5⟩, false)⟩,
    ⟨some ⟨.d0, .d0, .d7⟩, .bin .gtr (.t ⟨.d0, .d0, .d6⟩) (.c (.int .i64 65535)), some (⟨.d0, .d0, .d5⟩, false)⟩,
    ⟨some ⟨.d0, .d1, .d0⟩, .pick (.t ⟨.d0, .d0, .d5⟩) (.c (.bool true)) (.t ⟨.d0, .d0, .d7⟩), none⟩,
    ⟨some ⟨.d0, .d0, .d2⟩, .move (.t ⟨.d0, .d1, .d0⟩), none⟩])
  (.ret))
def r_tcp_words_1 : List XR := [.tmp ⟨.d0, .d0, .d2⟩]
theorem ok_tcp_words_1 : okC Try.prog Try.f89.ntmps (bodyOf Try.f89) x_tcp_words_1 = true := by kernel_rfl
theorem okr_tcp_words_1 : okRs Try.prog Try.f89.results.toList r_tcp_words_1 = true := by kernel_rfl

/-- sum.Add -/
def x_sum_Add : XC :=
  .seq (.region [⟨some ⟨.d0, .d0, .d4⟩, .move (.c (.int .u16 0)), none⟩])
  (.seq (.region [⟨some ⟨.d0, .d0, .d6⟩, .move (.t ⟨.d0, .d0, .d0⟩), none⟩,
    ⟨some ⟨.d0, .d0, .d7⟩, .convInt .u64 (.t ⟨.d0, .d0, .d6⟩), none⟩,
    ⟨some ⟨.d0, .d0, .d5⟩, .move (.t ⟨.d0, .d0, .d7⟩), none⟩])
  (.seq (.block 0
    (.loop
      (.seq (.seq (.region [⟨some ⟨.d0, .d1, .d0⟩, .move (.t ⟨.d0, .d0, .d1⟩), none⟩,
        ⟨some ⟨.d0, .d1, .d1⟩, .slen (.t ⟨.d0, .d1, .d0⟩), none⟩,
        ⟨some ⟨.d0, .d1, .d2⟩, .bin .gtr (.t ⟨.d0, .d1, .d1⟩) (.c (.int .i64 1)), none⟩])
      (.cond (.t ⟨.d0, .d1, .d2⟩)
        (.skip)
        (.exit 0)))
      (.seq (.block 1
        (.regionD [0, 0, 2, 6, 14, 0, 32, 96, 254, 511, 1023] [⟨some ⟨.d0, .d1, .d5⟩, .move (.t ⟨.d0, .d0, .d5⟩), none⟩,
          ⟨some ⟨.d0, .d1, .d6⟩, .move (.t ⟨.d0, .d0, .d1⟩), none⟩,
          ⟨some ⟨.d0, .d1, .d7⟩, .strAt (.t ⟨.d0, .d1, .d6⟩) (.c (.int .i64 0)), none⟩,
          ⟨some ⟨.d0, .d2, .d0⟩, .convInt .u64 (.t ⟨.d0, .d1, .d7⟩), none⟩,
          ⟨some ⟨.d0, .d2, .d1⟩, .bin .shl (.t ⟨.d0, .d2, .d0⟩) (.c (.int .u64 8)), none⟩,
          ⟨some ⟨.d0, .d2, .d2⟩, .move (.t ⟨.d0, .d0, .d1⟩), none⟩,
          ⟨some ⟨.d0, .d2, .d3⟩, .strAt (.t ⟨.d0, .d2, .d2⟩) (.c (.int .i64 1)), none⟩,
          ⟨some ⟨.d0, .d2, .d4⟩, .convInt .u64 (.t ⟨.d0, .d2, .d3⟩), none⟩,
          ⟨some ⟨.d0, .d2, .d5⟩, .bin .or (.t ⟨.d0, .d2, .d1⟩) (.t ⟨.d0, .d2, .d4⟩), none⟩,
          ⟨some ⟨.d0, .d2, .d6⟩, .bin .add (.t ⟨.d0, .d1, .d5⟩) (.t ⟨.d0, .d2, .d5⟩), none⟩,
          ⟨some ⟨.d0, .d0, .d5⟩, .move (.t ⟨.d0, .d2, .d6⟩), none⟩]))
      (.region [⟨some ⟨.d0, .d1, .d3⟩, .move (.t ⟨.d0, .d0, .d1⟩), none⟩,
        ⟨some ⟨.d0, .d1, .d4⟩, .substr (.t ⟨.d0, .d1, .d3⟩) (some (.c (.int .i64 2))) none, none⟩,
        ⟨some ⟨.d0, .d0, .d1⟩, .move (.t ⟨.d0, .d1, .d4⟩), none⟩])))))
  (.seq (.seq (.region [⟨some ⟨.d0, .d2, .d7⟩, .move (.t ⟨.d0, .d0, .d1⟩), none⟩,
    ⟨some ⟨.d0, .d3, .d0⟩, .sbin .neq (.t ⟨.d0, .d2, .d7⟩) (.c (.string { data := #[] })), none⟩])
  (.cond (.t ⟨.d0, .d3, .d0⟩)
    (.region [⟨some ⟨.d0, .d3, .d1⟩, .move (.t ⟨.d0, .d0, .d5⟩), none⟩,
      ⟨some ⟨.d0, .d3, .d2⟩, .move (.t ⟨.d0, .d0, .d1⟩), none⟩,
      ⟨some ⟨.d0, .d3, .d3⟩, .strAt (.t ⟨.d0, .d3, .d2⟩) (.c (.int .i64 0)), none⟩,
      ⟨some ⟨.d0, .d3, .d4⟩, .convInt .u64 (.t ⟨.d0, .d3, .d3⟩), none⟩,
      ⟨some ⟨.d0, .d3, .d5⟩, .bin .shl (.t ⟨.d0, .d3, .d4⟩) (.c (.int .u64 8)), none⟩,
      ⟨some ⟨.d0, .d3, .d6⟩, .bin .add (.t ⟨.d0, .d3, .d1⟩) (.t ⟨.d0, .d3, .d5⟩), none⟩,
      ⟨some ⟨.d0, .d0, .d5⟩, .move (.t ⟨.d0, .d3, .d6⟩), none⟩])
    (.skip)))
  (.seq (.region [⟨some ⟨.d0, .d3, .d7⟩, .move (.t ⟨.d0, .d0, .d5⟩), none⟩,
    ⟨some ⟨.d0, .d4, .d0⟩, .call 102 [(.t ⟨.d0, .d3, .d7⟩)], none⟩,
    ⟨some ⟨.d0, .d0, .d4⟩, .move (.t ⟨.d0, .d4, .d0⟩), none⟩])
  (.ret)))))
def r_sum_Add : List XR := [.tmp ⟨.d0, .d0, .d4⟩]
theorem ok_sum_Add : okC Try.prog Try.f90.ntmps (bodyOf Try.f90) x_sum_Add = true := by kernel_rfl
theorem okr_sum_Add : okRs Try.prog Try.f90.results.toList r_sum_Add = true := by kernel_rfl

/-- dgram.long -/
def x_dgram_long : XC :=
  .seq (.region [⟨some ⟨.d0, .d0, .d2⟩, .move (.c (.string { data := #[] })), none⟩])
  (.seq (.region [⟨some ⟨.d0, .d0, .d3⟩, .move (.t ⟨.d0, .d0, .d0⟩), none⟩,
    ⟨some ⟨.d0, .d0, .d4⟩, .bin .shr (.t ⟨.d0, .d0, .d3⟩) (.c (.int .u64 16)), none⟩,
    ⟨some ⟨.d0, .d0, .d5⟩, .convInt .i64 (.t ⟨.d0, .d0, .d4⟩), none⟩,
    ⟨some ⟨.d0, .d0, .d6⟩, .call 92 [(.t ⟨.d0, .d0, .d5⟩)], none⟩,
    ⟨some ⟨.d0, .d0, .d7⟩, .move (.t ⟨.d0, .d0, .d0⟩), none⟩,
    ⟨some ⟨.d0, .d1, .d0⟩, .convInt .i64 (.t ⟨.d0, .d0, .d7⟩), none⟩,
    ⟨some ⟨.d0, .d1, .d1⟩, .call 92 [(.t ⟨.d0, .d1, .d0⟩)], none⟩,
    ⟨some ⟨.d0, .d1, .d2⟩, .sbin .add (.t ⟨.d0, .d0, .d6⟩) (.t ⟨.d0, .d1, .d1⟩), none⟩,
    ⟨some ⟨.d0, .d0, .d2⟩, .move (.t ⟨.d0, .d1, .d2⟩), none⟩])
  (.ret))
def r_dgram_long : List XR := [.tmp ⟨.d0, .d0, .d2⟩]
theorem ok_dgram_long : okC Try.prog Try.f91.ntmps (bodyOf Try.f91) x_dgram_long = true := by kernel_rfl
theorem okr_dgram_long : okRs Try.prog Try.f91.results.toList r_dgram_long = true := by kernel_rfl

/-- dgram.word -/
def x_dgram_word : XC :=
  .seq (.region [⟨some ⟨.d0, .d0, .d2⟩, .move (.c (.string { data := #[] })), none⟩])
  (.seq (.region [⟨some ⟨.d0, .d0, .d3⟩, .move (.t ⟨.d0, .d0, .d0⟩), none⟩,
    ⟨some ⟨.d0, .d0, .d4⟩, .bin .shr (.t ⟨.d0, .d0, .d3⟩) (.c (.int .u64 8)), none⟩,
    ⟨some ⟨.d0, .d0, .d5⟩, .convInt .u8 (.t ⟨.d0, .d0, .d4⟩), none⟩,
    ⟨some ⟨.d0, .d0, .d6⟩, .move (.t ⟨.d0, .d0, .d0⟩), none⟩,
    ⟨some ⟨.d0, .d0, .d7⟩, .convInt .u8 (.t ⟨.d0, .d0, .d6⟩), none⟩,
    ⟨some ⟨.d0, .d1, .d0⟩, .buildSlice 0 2 [.int .u8 0] [(0, (.t ⟨.d0, .d0, .d5⟩)), (1, (.t ⟨.d0, .d0, .d7⟩))], none⟩,
    ⟨some ⟨.d0, .d1, .d1⟩, .b2s (.t ⟨.d0, .d1, .d0⟩), none⟩,
    ⟨some ⟨.d0, .d0, .d2⟩, .move (.t ⟨.d0, .d1, .d1⟩), none⟩])
  (.ret))
def r_dgram_word : List XR := [.tmp ⟨.d0, .d0, .d2⟩]
theorem ok_dgram_word : okC Try.prog Try.f92.ntmps (bodyOf Try.f92) x_dgram_word = true := by kernel_rfl
theorem okr_dgram_word : okRs Try.prog Try.f92.results.toList r_dgram_word = true := by kernel_rfl

/-- custref.SumOf -/
def x_custref_SumOf : XC :=
  .seq (.region [⟨some ⟨.d0, .d0, .d4⟩, .move (.c (.int .i64 0)), none⟩])
  (.seq (.seq (.region [⟨some ⟨.d0, .d0, .d5⟩, .move (.c (.int .i64 0)), none⟩])
  (.block 0
    (.loop
      (.seq (.seq (.region [⟨some ⟨.d0, .d0, .d6⟩, .move (.t ⟨.d0, .d0, .d5⟩), none⟩,
        ⟨some ⟨.d0, .d0, .d7⟩, .move (.t ⟨.d0, .d0, .d1⟩), none⟩,
        ⟨some ⟨.d0, .d1, .d0⟩, .slen (.t ⟨.d0, .d0, .d7⟩), none⟩,
        ⟨some ⟨.d0, .d1, .d1⟩, .bin .lss (.t ⟨.d0, .d0, .d6⟩) (.t ⟨.d0, .d1, .d0⟩), none⟩])
      (.cond (.t ⟨.d0, .d1, .d1⟩)
        (.skip)
        (.exit 0)))
      (.seq (.block 1
        (.region [⟨some ⟨.d0, .d1, .d4⟩, .move (.t ⟨.d0, .d0, .d0⟩), none⟩,
          ⟨some ⟨.d0, .d1, .d5⟩, .move (.t ⟨.d0, .d0, .d1⟩), none⟩,
          ⟨some ⟨.d0, .d1, .d6⟩, .move (.t ⟨.d0, .d0, .d5⟩), none⟩,
          ⟨some ⟨.d0, .d1, .d7⟩, .call 63 [(.t ⟨.d0, .d1, .d5⟩), (.t ⟨.d0, .d1, .d6⟩)], none⟩,
          ⟨some ⟨.d0, .d2, .d0⟩, .call 103 [(.t ⟨.d0, .d1, .d4⟩), (.t ⟨.d0, .d1, .d7⟩)], none⟩,
          ⟨some ⟨.d0, .d0, .d0⟩, .move (.t ⟨.d0, .d2, .d0⟩), none⟩]))
      (.region [⟨some ⟨.d0, .d1, .d2⟩, .move (.t ⟨.d0, .d0, .d5⟩), none⟩,
        ⟨some ⟨.d0, .d1, .d3⟩, .bin .add (.t ⟨.d0, .d1, .d2⟩) (.c (.int .i64 2)), none⟩,
        ⟨some ⟨.d0, .d0, .d5⟩, .move (.t ⟨.d0, .d1, .d3⟩), none⟩]))))))
  (.seq (.region [⟨some ⟨.d0, .d2, .d1⟩, .move (.t ⟨.d0, .d0, .d0⟩), none⟩,
    ⟨some ⟨.d0, .d0, .d4⟩, .move (.t ⟨.d0, .d2, .d1⟩), none⟩])
  (.ret)))
def r_custref_SumOf : List XR := [.tmp ⟨.d0, .d0, .d4⟩]
theorem ok_custref_SumOf : okC Try.prog Try.f93.ntmps (bodyOf Try.f93) x_custref_SumOf = true := by kernel_rfl
theorem okr_custref_SumOf : okRs Try.prog Try.f93.results.toList r_custref_SumOf = true := by kernel_rfl

/-- slices.IndexFunc -/
def x_slices_IndexFunc_int : XC :=
  .seq (.region [⟨some ⟨.d0, .d0, .d4⟩, .move (.c (.int .i64 0)), none⟩])
  (.seq (.seq (.region [⟨some ⟨.d0, .d0, .d6⟩, .move (.t ⟨.d0, .d0, .d0⟩), none⟩,
    ⟨some ⟨.d0, .d0, .d7⟩, .len (.t ⟨.d0, .d0, .d6⟩), none⟩,
    ⟨some ⟨.d0, .d1, .d0⟩, .move (.c (.int .i64 0)), none⟩])
  (.block 0
    (.loop
      (.seq (.region [⟨some ⟨.d0, .d1, .d1⟩, .bin .lss (.t ⟨.d0, .d1, .d0⟩) (.t ⟨.d0, .d0, .d7⟩), none⟩])
      (.seq (.cond (.t ⟨.d0, .d1, .d1⟩)
        (.skip)
        (.exit 0))
      (.seq (.block 1
        (.seq (.region [⟨some ⟨.d0, .d1, .d2⟩, .move (.t ⟨.d0, .d1, .d0⟩), none⟩,
          ⟨some ⟨.d0, .d0, .d5⟩, .move (.t ⟨.d0, .d1, .d2⟩), none⟩])
        (.seq (.region [⟨some ⟨.d0, .d1, .d3⟩, .move (.t ⟨.d0, .d0, .d1⟩), none⟩,
          ⟨some ⟨.d0, .d1, .d4⟩, .move (.t ⟨.d0, .d0, .d0⟩), none⟩,
          ⟨some ⟨.d0, .d1, .d5⟩, .move (.t ⟨.d0, .d0, .d5⟩), none⟩,
          ⟨some ⟨.d0, .d1, .d6⟩, .indexSl 1 (.t ⟨.d0, .d1, .d4⟩) (.t ⟨.d0, .d1, .d5⟩), none⟩,
          ⟨some ⟨.d0, .d1, .d7⟩, .load false 1 (.t ⟨.d0, .d1, .d6⟩), none⟩,
          ⟨some ⟨.d0, .d2, .d0⟩, .callv (.t ⟨.d0, .d1, .d3⟩) [(.t ⟨.d0, .d1, .d7⟩)], none⟩])
        (.cond (.t ⟨.d0, .d2, .d0⟩)
          (.seq (.region [⟨some ⟨.d0, .d2, .d1⟩, .move (.t ⟨.d0, .d0, .d5⟩), none⟩,
            ⟨some ⟨.d0, .d0, .d4⟩, .move (.t ⟨.d0, .d2, .d1⟩), none⟩])
          (.ret))
          (.skip)))))
      (.region [⟨some ⟨.d0, .d2, .d2⟩, .bin .add (.t ⟨.d0, .d1, .d0⟩) (.c (.int .i64 1)), none⟩,
        ⟨some ⟨.d0, .d1, .d0⟩, .move (.t ⟨.d0, .d2, .d2⟩), none⟩])))))))
  (.seq (.region [⟨some ⟨.d0, .d0, .d4⟩, .move (.c (.int .i64 (-1))), none⟩])
  (.ret)))
def r_slices_IndexFunc_int : List XR := [.tmp ⟨.d0, .d0, .d4⟩]
theorem ok_slices_IndexFunc_int : okC Try.prog Try.f101.ntmps (bodyOf Try.f101) x_slices_IndexFunc_int = true := by kernel_rfl
theorem okr_slices_IndexFunc_int : okRs Try.prog Try.f101.results.toList r_slices_IndexFunc_int = true := by kernel_rfl

/-- sum.fold -/
def x_sum_fold : XC :=
  .seq (.region [⟨some ⟨.d0, .d0, .d2⟩, .move (.c (.int .u16 0)), none⟩])
  (.seq (.block 0
    (.loop
      (.seq (.seq (.region [⟨some ⟨.d0, .d0, .d3⟩, .move (.t ⟨.d0, .d0, .d0⟩), none⟩,
        ⟨some ⟨.d0, .d0, .d4⟩, .bin .gtr (.t ⟨.d0, .d0, .d3⟩) (.c (.int .u64 65535)), none⟩])
      (.cond (.t ⟨.d0, .d0, .d4⟩)
        (.skip)
        (.exit 0)))
      (.block 1
        (.region [⟨some ⟨.d0, .d0, .d5⟩, .move (.t ⟨.d0, .d0, .d0⟩), none⟩,
          ⟨some ⟨.d0, .d0, .d6⟩, .bin .shr (.t ⟨.d0, .d0, .d5⟩) (.c (.int .u64 16)), none⟩,
          ⟨some ⟨.d0, .d0, .d7⟩, .move (.t ⟨.d0, .d0, .d0⟩), none⟩,
          ⟨some ⟨.d0, .d1, .d0⟩, .bin .and (.t ⟨.d0, .d0, .d7⟩) (.c (.int .u64 65535)), none⟩,
          ⟨some ⟨.d0, .d1, .d1⟩, .bin .add (.t ⟨.d0, .d0, .d6⟩) (.t ⟨.d0, .d1, .d0⟩), none⟩,
          ⟨some ⟨.d0, .d0, .d0⟩, .move (.t ⟨.d0, .d1, .d1⟩), none⟩])))))
  (.seq (.region [⟨some ⟨.d0, .d1, .d2⟩, .move (.t ⟨.d0, .d0, .d0⟩), none⟩,
    ⟨some ⟨.d0, .d1, .d3⟩, .convInt .u16 (.t ⟨.d0, .d1, .d2⟩), none⟩,
    ⟨some ⟨.d0, .d0, .d2⟩, .move (.t ⟨.d0, .d1, .d3⟩), none⟩])
  (.ret)))
def r_sum_fold : List XR := [.tmp ⟨.d0, .d0, .d2⟩]
theorem ok_sum_fold : okC Try.prog Try.f102.ntmps (bodyOf Try.f102) x_sum_fold = true := by kernel_rfl
theorem okr_sum_fold : okRs Try.prog Try.f102.results.toList r_sum_fold = true := by kernel_rfl

/-- custref.EndAround -/
def x_custref_EndAround : XC :=
  .seq (.region [⟨some ⟨.d0, .d0, .d4⟩, .move (.c (.int .i64 0)), none⟩])
  (.seq (.seq (.region [⟨some ⟨.d0, .d0, .d5⟩, .move (.t ⟨.d0, .d0, .d0⟩), none⟩,
    ⟨some ⟨.d0, .d0, .d6⟩, .move (.t ⟨.d0, .d0, .d1⟩), none⟩,
    ⟨some ⟨.d0, .d0, .d7⟩, .bin .add (.t ⟨.d0, .d0, .d5⟩) (.t ⟨.d0, .d0, .d6⟩), none⟩,
    ⟨some ⟨.d0, .d1, .d0⟩, .bin .gtr (.t ⟨.d0, .d0, .d7⟩) (.c (.int .i64 65535)), none⟩])
  (.cond (.t ⟨.d0, .d1, .d0⟩)
    (.seq (.region [⟨some ⟨.d0, .d1, .d1⟩, .move (.t ⟨.d0, .d0, .d0⟩), none⟩,
      ⟨some ⟨.d0, .d1, .d2⟩, .move (.t ⟨.d0, .d0, .d1⟩), none⟩,
      ⟨some ⟨.d0, .d1, .d3⟩, .bin .add (.t ⟨.d0, .d1, .d1⟩) (.t ⟨.d0, .d1, .d2⟩), none⟩,
      ⟨some ⟨.d0, .d1, .d4⟩, .bin .sub (.t ⟨.d0, .d1, .d3⟩) (.c (.int .i64 65535)), none⟩,
      ⟨some ⟨.d0, .d0, .d4⟩, .move (.t ⟨.d0, .d1, .d4⟩), none⟩])
    (.ret))
    (.skip)))
  (.seq (.region [⟨some ⟨.d0, .d1, .d5⟩, .move (.t ⟨.d0, .d0, .d0⟩), none⟩,
    ⟨some ⟨.d0, .d1, .d6⟩, .move (.t ⟨.d0, .d0, .d1⟩), none⟩,
    ⟨some ⟨.d0, .d1, .d7⟩, .bin .add (.t ⟨.d0, .d1, .d5⟩) (.t ⟨.d0, .d1, .d6⟩), none⟩,
    ⟨some ⟨.d0, .d0, .d4⟩, .move (.t ⟨.d0, .d1, .d7⟩), none⟩])
  (.ret)))
def r_custref_EndAround : List XR := [.tmp ⟨.d0, .d0, .d4⟩]
theorem ok_custref_EndAround : okC Try.prog Try.f103.ntmps (bodyOf Try.f103) x_custref_EndAround = true := by kernel_rfl
theorem okr_custref_EndAround : okRs Try.prog Try.f103.results.toList r_custref_EndAround = true := by kernel_rfl
end Go.Proofs.Ytegejpieedckiaa
