/-
  The functions of the program in short form, and that the model's code is what they stand for. Printed by xgen.py.
-/
import Derived.Test.YtlfbjdafnappdaaFw
import Derived.Test.YtlfbjdafnappdaaProg
import Derived.KernelRfl
namespace Go.Proofs.Ytlfbjdafnappdaa
set_option linter.unusedVariables false
set_option maxRecDepth 100000

abbrev xm (a b : Sl) : XOp := ⟨some a, .move (.t b), none⟩
abbrev xl (a b : Sl) : XOp := ⟨some a, .load false 1 (.t b), none⟩
abbrev xf (n : Nat) (a b : Sl) : XOp := ⟨some a, .fieldAddr n (.t b), none⟩
/-! The slots by name. -/
abbrev s000 : Sl := ⟨.d0, .d0, .d0⟩
abbrev s001 : Sl := ⟨.d0, .d0, .d1⟩
abbrev s002 : Sl := ⟨.d0, .d0, .d2⟩
abbrev s003 : Sl := ⟨.d0, .d0, .d3⟩
abbrev s004 : Sl := ⟨.d0, .d0, .d4⟩
abbrev s005 : Sl := ⟨.d0, .d0, .d5⟩
abbrev s006 : Sl := ⟨.d0, .d0, .d6⟩
abbrev s007 : Sl := ⟨.d0, .d0, .d7⟩
abbrev s010 : Sl := ⟨.d0, .d1, .d0⟩
abbrev s011 : Sl := ⟨.d0, .d1, .d1⟩
abbrev s012 : Sl := ⟨.d0, .d1, .d2⟩
abbrev s013 : Sl := ⟨.d0, .d1, .d3⟩
abbrev s014 : Sl := ⟨.d0, .d1, .d4⟩
abbrev s015 : Sl := ⟨.d0, .d1, .d5⟩
abbrev s016 : Sl := ⟨.d0, .d1, .d6⟩
abbrev s017 : Sl := ⟨.d0, .d1, .d7⟩
abbrev s020 : Sl := ⟨.d0, .d2, .d0⟩
abbrev s021 : Sl := ⟨.d0, .d2, .d1⟩
abbrev s022 : Sl := ⟨.d0, .d2, .d2⟩
abbrev s023 : Sl := ⟨.d0, .d2, .d3⟩
abbrev s024 : Sl := ⟨.d0, .d2, .d4⟩
abbrev s025 : Sl := ⟨.d0, .d2, .d5⟩
abbrev s026 : Sl := ⟨.d0, .d2, .d6⟩
abbrev s027 : Sl := ⟨.d0, .d2, .d7⟩
abbrev s030 : Sl := ⟨.d0, .d3, .d0⟩
abbrev s031 : Sl := ⟨.d0, .d3, .d1⟩
abbrev s032 : Sl := ⟨.d0, .d3, .d2⟩
abbrev s033 : Sl := ⟨.d0, .d3, .d3⟩
abbrev s034 : Sl := ⟨.d0, .d3, .d4⟩
abbrev s035 : Sl := ⟨.d0, .d3, .d5⟩
abbrev s036 : Sl := ⟨.d0, .d3, .d6⟩
abbrev s037 : Sl := ⟨.d0, .d3, .d7⟩
abbrev s040 : Sl := ⟨.d0, .d4, .d0⟩
abbrev s041 : Sl := ⟨.d0, .d4, .d1⟩
abbrev s042 : Sl := ⟨.d0, .d4, .d2⟩
abbrev s043 : Sl := ⟨.d0, .d4, .d3⟩
abbrev s044 : Sl := ⟨.d0, .d4, .d4⟩
abbrev s045 : Sl := ⟨.d0, .d4, .d5⟩
abbrev s046 : Sl := ⟨.d0, .d4, .d6⟩
abbrev s047 : Sl := ⟨.d0, .d4, .d7⟩
abbrev s050 : Sl := ⟨.d0, .d5, .d0⟩
abbrev s051 : Sl := ⟨.d0, .d5, .d1⟩
abbrev s052 : Sl := ⟨.d0, .d5, .d2⟩
abbrev s053 : Sl := ⟨.d0, .d5, .d3⟩
abbrev s054 : Sl := ⟨.d0, .d5, .d4⟩
abbrev s055 : Sl := ⟨.d0, .d5, .d5⟩
abbrev s056 : Sl := ⟨.d0, .d5, .d6⟩
abbrev s057 : Sl := ⟨.d0, .d5, .d7⟩
abbrev s060 : Sl := ⟨.d0, .d6, .d0⟩
abbrev s061 : Sl := ⟨.d0, .d6, .d1⟩
abbrev s062 : Sl := ⟨.d0, .d6, .d2⟩
abbrev s063 : Sl := ⟨.d0, .d6, .d3⟩
abbrev s064 : Sl := ⟨.d0, .d6, .d4⟩
abbrev s065 : Sl := ⟨.d0, .d6, .d5⟩
abbrev s066 : Sl := ⟨.d0, .d6, .d6⟩
abbrev s067 : Sl := ⟨.d0, .d6, .d7⟩
abbrev s070 : Sl := ⟨.d0, .d7, .d0⟩
abbrev s071 : Sl := ⟨.d0, .d7, .d1⟩
abbrev s072 : Sl := ⟨.d0, .d7, .d2⟩
abbrev s073 : Sl := ⟨.d0, .d7, .d3⟩
abbrev s074 : Sl := ⟨.d0, .d7, .d4⟩
abbrev s075 : Sl := ⟨.d0, .d7, .d5⟩
abbrev s076 : Sl := ⟨.d0, .d7, .d6⟩
abbrev s077 : Sl := ⟨.d0, .d7, .d7⟩
abbrev s100 : Sl := ⟨.d1, .d0, .d0⟩
abbrev s101 : Sl := ⟨.d1, .d0, .d1⟩
abbrev s102 : Sl := ⟨.d1, .d0, .d2⟩
abbrev s103 : Sl := ⟨.d1, .d0, .d3⟩
abbrev s104 : Sl := ⟨.d1, .d0, .d4⟩
abbrev s105 : Sl := ⟨.d1, .d0, .d5⟩
abbrev s106 : Sl := ⟨.d1, .d0, .d6⟩
abbrev s107 : Sl := ⟨.d1, .d0, .d7⟩
abbrev s110 : Sl := ⟨.d1, .d1, .d0⟩
abbrev s111 : Sl := ⟨.d1, .d1, .d1⟩
abbrev s112 : Sl := ⟨.d1, .d1, .d2⟩
abbrev s113 : Sl := ⟨.d1, .d1, .d3⟩
abbrev s114 : Sl := ⟨.d1, .d1, .d4⟩
abbrev s115 : Sl := ⟨.d1, .d1, .d5⟩
abbrev s116 : Sl := ⟨.d1, .d1, .d6⟩
abbrev s117 : Sl := ⟨.d1, .d1, .d7⟩
abbrev s120 : Sl := ⟨.d1, .d2, .d0⟩
abbrev s121 : Sl := ⟨.d1, .d2, .d1⟩
abbrev s122 : Sl := ⟨.d1, .d2, .d2⟩
abbrev s123 : Sl := ⟨.d1, .d2, .d3⟩
abbrev s124 : Sl := ⟨.d1, .d2, .d4⟩
abbrev s125 : Sl := ⟨.d1, .d2, .d5⟩
abbrev s126 : Sl := ⟨.d1, .d2, .d6⟩
abbrev s127 : Sl := ⟨.d1, .d2, .d7⟩
abbrev s130 : Sl := ⟨.d1, .d3, .d0⟩
abbrev s131 : Sl := ⟨.d1, .d3, .d1⟩
abbrev s132 : Sl := ⟨.d1, .d3, .d2⟩
abbrev s133 : Sl := ⟨.d1, .d3, .d3⟩
abbrev s134 : Sl := ⟨.d1, .d3, .d4⟩
abbrev s135 : Sl := ⟨.d1, .d3, .d5⟩
abbrev s136 : Sl := ⟨.d1, .d3, .d6⟩
abbrev s137 : Sl := ⟨.d1, .d3, .d7⟩
abbrev s140 : Sl := ⟨.d1, .d4, .d0⟩
abbrev s141 : Sl := ⟨.d1, .d4, .d1⟩
abbrev s142 : Sl := ⟨.d1, .d4, .d2⟩
abbrev s143 : Sl := ⟨.d1, .d4, .d3⟩
abbrev s144 : Sl := ⟨.d1, .d4, .d4⟩
abbrev s145 : Sl := ⟨.d1, .d4, .d5⟩
abbrev s146 : Sl := ⟨.d1, .d4, .d6⟩
abbrev s147 : Sl := ⟨.d1, .d4, .d7⟩
abbrev s150 : Sl := ⟨.d1, .d5, .d0⟩
abbrev s151 : Sl := ⟨.d1, .d5, .d1⟩
abbrev s152 : Sl := ⟨.d1, .d5, .d2⟩
abbrev s153 : Sl := ⟨.d1, .d5, .d3⟩
abbrev s154 : Sl := ⟨.d1, .d5, .d4⟩
abbrev s155 : Sl := ⟨.d1, .d5, .d5⟩
abbrev s156 : Sl := ⟨.d1, .d5, .d6⟩
abbrev s157 : Sl := ⟨.d1, .d5, .d7⟩
abbrev s160 : Sl := ⟨.d1, .d6, .d0⟩
abbrev s161 : Sl := ⟨.d1, .d6, .d1⟩
abbrev s162 : Sl := ⟨.d1, .d6, .d2⟩
abbrev s163 : Sl := ⟨.d1, .d6, .d3⟩
abbrev s164 : Sl := ⟨.d1, .d6, .d4⟩
abbrev s165 : Sl := ⟨.d1, .d6, .d5⟩
abbrev s166 : Sl := ⟨.d1, .d6, .d6⟩
abbrev s167 : Sl := ⟨.d1, .d6, .d7⟩
abbrev s170 : Sl := ⟨.d1, .d7, .d0⟩
abbrev s171 : Sl := ⟨.d1, .d7, .d1⟩
abbrev s172 : Sl := ⟨.d1, .d7, .d2⟩
abbrev s173 : Sl := ⟨.d1, .d7, .d3⟩
abbrev s174 : Sl := ⟨.d1, .d7, .d4⟩
abbrev s175 : Sl := ⟨.d1, .d7, .d5⟩
abbrev s176 : Sl := ⟨.d1, .d7, .d6⟩
abbrev s177 : Sl := ⟨.d1, .d7, .d7⟩
abbrev s200 : Sl := ⟨.d2, .d0, .d0⟩
abbrev s201 : Sl := ⟨.d2, .d0, .d1⟩
abbrev s202 : Sl := ⟨.d2, .d0, .d2⟩
abbrev s203 : Sl := ⟨.d2, .d0, .d3⟩
abbrev s204 : Sl := ⟨.d2, .d0, .d4⟩
abbrev s205 : Sl := ⟨.d2, .d0, .d5⟩
abbrev s206 : Sl := ⟨.d2, .d0, .d6⟩
abbrev s207 : Sl := ⟨.d2, .d0, .d7⟩
abbrev s210 : Sl := ⟨.d2, .d1, .d0⟩
abbrev s211 : Sl := ⟨.d2, .d1, .d1⟩
abbrev s212 : Sl := ⟨.d2, .d1, .d2⟩
abbrev s213 : Sl := ⟨.d2, .d1, .d3⟩
abbrev s214 : Sl := ⟨.d2, .d1, .d4⟩
abbrev s215 : Sl := ⟨.d2, .d1, .d5⟩
abbrev s216 : Sl := ⟨.d2, .d1, .d6⟩
abbrev s217 : Sl := ⟨.d2, .d1, .d7⟩
abbrev s220 : Sl := ⟨.d2, .d2, .d0⟩
abbrev s221 : Sl := ⟨.d2, .d2, .d1⟩
abbrev s222 : Sl := ⟨.d2, .d2, .d2⟩
abbrev s223 : Sl := ⟨.d2, .d2, .d3⟩
abbrev s224 : Sl := ⟨.d2, .d2, .d4⟩
abbrev s225 : Sl := ⟨.d2, .d2, .d5⟩
abbrev s226 : Sl := ⟨.d2, .d2, .d6⟩
abbrev s227 : Sl := ⟨.d2, .d2, .d7⟩
abbrev s230 : Sl := ⟨.d2, .d3, .d0⟩
abbrev s231 : Sl := ⟨.d2, .d3, .d1⟩
abbrev s232 : Sl := ⟨.d2, .d3, .d2⟩
abbrev s233 : Sl := ⟨.d2, .d3, .d3⟩
abbrev s234 : Sl := ⟨.d2, .d3, .d4⟩
abbrev s235 : Sl := ⟨.d2, .d3, .d5⟩
abbrev s236 : Sl := ⟨.d2, .d3, .d6⟩
abbrev s237 : Sl := ⟨.d2, .d3, .d7⟩
abbrev s240 : Sl := ⟨.d2, .d4, .d0⟩
abbrev s241 : Sl := ⟨.d2, .d4, .d1⟩
abbrev s242 : Sl := ⟨.d2, .d4, .d2⟩
abbrev s243 : Sl := ⟨.d2, .d4, .d3⟩
abbrev s244 : Sl := ⟨.d2, .d4, .d4⟩
abbrev s245 : Sl := ⟨.d2, .d4, .d5⟩
abbrev s246 : Sl := ⟨.d2, .d4, .d6⟩
abbrev s247 : Sl := ⟨.d2, .d4, .d7⟩
/-- The slots worked out. -/
theorem auC {p q : Prop} (h : q) (e : q → p := by intro hq; dsimp only [xm, xl, xf, s000, s001, s002, s003, s004, s005, s006, s007, s010, s011, s012, s013, s014, s015, s016, s017, s020, s021, s022, s023, s024, s025, s026, s027, s030, s031, s032, s033, s034, s035, s036, s037, s040, s041, s042, s043, s044, s045, s046, s047, s050, s051, s052, s053, s054, s055, s056, s057, s060, s061, s062, s063, s064, s065, s066, s067, s070, s071, s072, s073, s074, s075, s076, s077, s100, s101, s102, s103, s104, s105, s106, s107, s110, s111, s112, s113, s114, s115, s116, s117, s120, s121, s122, s123, s124, s125, s126, s127, s130, s131, s132, s133, s134, s135, s136, s137, s140, s141, s142, s143, s144, s145, s146, s147, s150, s151, s152, s153, s154, s155, s156, s157, s160, s161, s162, s163, s164, s165, s166, s167, s170, s171, s172, s173, s174, s175, s176, s177, s200, s201, s202, s203, s204, s205, s206, s207, s210, s211, s212, s213, s214, s215, s216, s217, s220, s221, s222, s223, s224, s225, s226, s227, s230, s231, s232, s233, s234, s235, s236, s237, s240, s241, s242, s243, s244, s245, s246, s247]; exact hq) : p := e h
/-- custlaw.PrefixPuts -/
def x_custlaw_PrefixPuts : XC :=
 .seq (.region [⟨some s003, .box 0 1 (.t s000), none⟩,
 ⟨some s004, .box 1 2 (.t s001), none⟩,
 ⟨some s006, .move (.c (.bool false)), none⟩])
 (.seq (.region [⟨some s020, .load true 1 (.t s003), none⟩,
 ⟨some s021, .load true 2 (.t s004), none⟩,
 xm s022 s002,
 ⟨some s023, .call 13 [(.t s020), (.t s021), (.t s022)], none⟩,
 xm s017 s023,
 ⟨some s024, .extract 0 (.t s017), none⟩,
 ⟨some s025, .extract 1 (.t s017), none⟩,
 ⟨some s007, .alloc 2 [.slice none 0 0], none⟩,
 ⟨none, .store 1 (.t s007) (.t s024), none⟩,
 xm s010 s025])
 (.seq (.region [⟨some s027, .load true 1 (.t s003), none⟩,
 ⟨some s030, .load true 2 (.t s004), none⟩,
 xm s031 s002,
 ⟨some s032, .call 14 [(.t s027), (.t s030), (.t s031)], none⟩,
 xm s026 s032,
 ⟨some s033, .extract 0 (.t s026), none⟩,
 ⟨some s034, .extract 1 (.t s026), none⟩,
 ⟨some s011, .alloc 3 [.slice none 0 0], none⟩,
 ⟨none, .store 1 (.t s011) (.t s033), none⟩,
 xm s012 s034])
 (.seq (.region [⟨some s036, .load true 1 (.t s003), none⟩,
 ⟨some s037, .load true 2 (.t s004), none⟩,
 ⟨some s040, .call 15 [(.t s036), (.t s037)], none⟩,
 xm s035 s040,
 ⟨some s041, .extract 0 (.t s035), none⟩,
 ⟨some s042, .extract 1 (.t s035), none⟩,
 ⟨some s013, .alloc 4 [.slice none 0 0], none⟩,
 ⟨none, .store 1 (.t s013) (.t s041), none⟩,
 xm s014 s042])
 (.seq (.region [⟨some s044, .load true 1 (.t s003), none⟩,
 ⟨some s045, .load true 2 (.t s004), none⟩,
 ⟨some s046, .call 16 [(.t s044), (.t s045)], none⟩,
 xm s043 s046,
 ⟨some s047, .extract 0 (.t s043), none⟩,
 ⟨some s050, .extract 1 (.t s043), none⟩,
 ⟨some s015, .alloc 5 [.slice none 0 0], none⟩,
 ⟨none, .store 1 (.t s015) (.t s047), none⟩,
 xm s016 s050])
 (.seq (.regionD [0, 1, 0, 7, 15, 31, 63, 63, 255, 511, 1023, 2047, 2047, 8191, 16383, 32767, 65535, 65535, 262143, 524287, 1048575, 2097151, 2097151, 8388607, 16777215, 33554431] [⟨some s051, .load true 1 (.t s003), none⟩,
 ⟨some s052, .call 17 [(.t s051)], none⟩,
 ⟨some s053, .load true 1 (.t s003), none⟩,
 ⟨some s054, .call 8 [(.t s053)], none⟩,
 ⟨some s055, .bin .eql (.t s052) (.t s054), none⟩,
 xm s056 s055,
 ⟨some s057, .load true 1 (.t s007), some (s056, true)⟩,
 ⟨some s060, .load true 1 (.t s011), some (s056, true)⟩,
 ⟨some s061, .call 18 [(.t s057), (.t s060)], some (s056, true)⟩,
 ⟨some s062, .pick (.t s056) (.t s061) (.c (.bool false)), none⟩,
 xm s063 s062,
 ⟨some s064, .move (.t s010), some (s063, true)⟩,
 ⟨some s065, .move (.t s012), some (s063, true)⟩,
 ⟨some s066, .bin .eql (.t s064) (.t s065), some (s063, true)⟩,
 ⟨some s067, .pick (.t s063) (.t s066) (.c (.bool false)), none⟩,
 xm s070 s067,
 ⟨some s071, .load true 1 (.t s013), some (s070, true)⟩,
 ⟨some s072, .load true 1 (.t s015), some (s070, true)⟩,
 ⟨some s073, .call 18 [(.t s071), (.t s072)], some (s070, true)⟩,
 ⟨some s074, .pick (.t s070) (.t s073) (.c (.bool false)), none⟩,
 xm s075 s074,
 ⟨some s076, .move (.t s014), some (s075, true)⟩,
 ⟨some s077, .move (.t s016), some (s075, true)⟩,
 ⟨some s100, .bin .eql (.t s076) (.t s077), some (s075, true)⟩,
 ⟨some s101, .pick (.t s075) (.t s100) (.c (.bool false)), none⟩,
 xm s006 s101])
 (.ret))))))
def r_custlaw_PrefixPuts : List XR := [.tmp s006]
theorem ok_custlaw_PrefixPuts : okC Try.prog Try.f4.ntmps (bodyOf Try.f4) x_custlaw_PrefixPuts = true := by kernel_rfl
theorem okr_custlaw_PrefixPuts : okRs Try.prog Try.f4.results.toList r_custlaw_PrefixPuts = true := by kernel_rfl

/-- custref.TrieRight -/
def x_custref_TrieRight : XC :=
 .seq (.region [⟨some s001, .box 0 1 (.t s000), none⟩,
 ⟨some s002, .move (.c (.int .i64 0)), none⟩])
 (.seq (.seq (.region [xf 0 s005 s001,
 xl s006 s005,
 ⟨some s007, .len (.t s006), none⟩,
 ⟨some s010, .bin .gtr (.t s007) (.c (.int .i64 500)), none⟩])
 (.cond (.t s010)
 (.seq (.region [⟨some s002, .move (.c (.int .i64 2)), none⟩])
 (.ret))
 (.skip)))
 (.seq (.region [⟨some s012, .load true 1 (.t s001), none⟩,
 ⟨some s013, .call 9 [(.t s012)], none⟩,
 xm s011 s013,
 ⟨some s014, .extract 0 (.t s011), none⟩,
 ⟨some s015, .extract 1 (.t s011), none⟩,
 xm s003 s014,
 xm s004 s015])
 (.seq (.seq (.regionD [0, 1, 3, 7, 7, 23, 63, 127, 255] [xm s016 s004,
 ⟨some s017, .un .not (.t s016), none⟩,
 xm s020 s017,
 ⟨some s021, .load true 1 (.t s001), some (s020, false)⟩,
 ⟨some s022, .move (.t s003), some (s020, false)⟩,
 ⟨some s023, .call 25 [(.t s022)], some (s020, false)⟩,
 ⟨some s024, .call 18 [(.t s021), (.t s023)], some (s020, false)⟩,
 ⟨some s025, .un .not (.t s024), some (s020, false)⟩,
 ⟨some s026, .pick (.t s020) (.c (.bool true)) (.t s025), none⟩])
 (.cond (.t s026)
 (.seq (.region [⟨some s002, .move (.c (.int .i64 4)), none⟩])
 (.ret))
 (.skip)))
 (.seq (.region [⟨some s002, .move (.c (.int .i64 0)), none⟩])
 (.ret)))))
def r_custref_TrieRight : List XR := [.tmp s002]
theorem ok_custref_TrieRight : okC Try.prog Try.f8.ntmps (bodyOf Try.f8) x_custref_TrieRight = true := by kernel_rfl
theorem okr_custref_TrieRight : okRs Try.prog Try.f8.results.toList r_custref_TrieRight = true := by kernel_rfl

/-- custref.TrieRows -/
def x_custref_TrieRows : XC :=
 .seq (.region [⟨some s001, .box 0 1 (.t s000), none⟩,
 ⟨some s002, .move (.c (.slice none 0 0)), none⟩,
 ⟨some s003, .move (.c (.bool false)), none⟩])
 (.seq (.seq (.region [xf 0 s013 s001,
 xl s014 s013,
 ⟨some s015, .len (.t s014), none⟩,
 ⟨some s016, .bin .eql (.t s015) (.c (.int .i64 0)), none⟩])
 (.cond (.t s016)
 (.seq (.region [⟨some s002, .move (.c (.slice none 0 0)), none⟩,
 ⟨some s003, .move (.c (.bool true)), none⟩])
 (.ret))
 (.skip)))
 (.seq (.region [⟨some s004, .move (.c (.slice none 0 0)), none⟩])
 (.seq (.region [⟨some s017, .build [.int .i64 0, .string { data := #[] }] [], none⟩,
 ⟨some s020, .buildSlice 1 1 [.int .i64 0, .string { data := #[] }] [(0, (.t s017))] false, none⟩,
 xm s005 s020])
 (.seq (.seq (.region [⟨some s006, .move (.c (.int .i64 0)), none⟩])
 (.block 0
 (.loop
 (.seq (.seq (.region [xm s021 s005,
 ⟨some s022, .len (.t s021), none⟩,
 ⟨some s023, .bin .gtr (.t s022) (.c (.int .i64 0)), none⟩])
 (.cond (.t s023)
 (.skip)
 (.exit 0)))
 (.seq (.block 1
 (.seq (.region [xm s026 s005,
 xm s027 s005,
 ⟨some s030, .len (.t s027), none⟩,
 ⟨some s031, .bin .sub (.t s030) (.c (.int .i64 1)), none⟩,
 ⟨some s032, .indexSl 2 (.t s026) (.t s031), none⟩,
 ⟨some s033, .load true 2 (.t s032), none⟩,
 ⟨some s007, .alloc 2 [.int .i64 0, .string { data := #[] }], none⟩,
 ⟨none, .store 2 (.t s007) (.t s033), none⟩])
 (.seq (.region [xm s034 s005,
 xm s035 s005,
 ⟨some s036, .len (.t s035), none⟩,
 ⟨some s037, .bin .sub (.t s036) (.c (.int .i64 1)), none⟩,
 ⟨some s040, .slice 2 (.t s034) none (some (.t s037)) none, none⟩,
 xm s005 s040])
 (.seq (.seq (.region [xm s041 s006,
 xf 0 s042 s001,
 xl s043 s042,
 ⟨some s044, .len (.t s043), none⟩,
 ⟨some s045, .bin .gtr (.t s041) (.t s044), none⟩,
 xm s046 s045,
 ⟨some s047, .fieldAddr 1 (.t s007), some (s046, false)⟩,
 ⟨some s050, .load false 1 (.t s047), some (s046, false)⟩,
 ⟨some s051, .slen (.t s050), some (s046, false)⟩,
 ⟨some s052, .bin .gtr (.t s051) (.c (.int .i64 32)), some (s046, false)⟩,
 ⟨some s053, .pick (.t s046) (.c (.bool true)) (.t s052), none⟩])
 (.cond (.t s053)
 (.seq (.region [⟨some s002, .move (.c (.slice none 0 0)), none⟩,
 ⟨some s003, .move (.c (.bool false)), none⟩])
 (.ret))
 (.skip)))
 (.seq (.region [xf 0 s054 s001,
 xl s055 s054,
 xf 0 s056 s007,
 xl s057 s056,
 ⟨some s060, .indexSl 4 (.t s055) (.t s057), none⟩,
 ⟨some s061, .load true 4 (.t s060), none⟩,
 ⟨some s010, .alloc 3 [.int .i64 0, .int .i64 0, .bool false, .int .i64 0], none⟩,
 ⟨none, .store 4 (.t s010) (.t s061), none⟩])
 (.seq (.seq (.region [xf 2 s062 s010,
 xl s063 s062])
 (.cond (.t s063)
 (.region [xm s064 s004,
 xf 1 s065 s007,
 xl s066 s065,
 xf 3 s067 s010,
 xl s070 s067,
 ⟨some s071, .build [.string { data := #[] }, .int .i64 0] [(0, 1, (.t s066)), (1, 1, (.t s070))], none⟩,
 ⟨some s072, .buildSlice 4 1 [.string { data := #[] }, .int .i64 0] [(0, (.t s071))] false, none⟩,
 ⟨some s073, .append 5 2 24 (.t s064) (.t s072), none⟩,
 xm s004 s073])
 (.skip)))
 (.seq (.region [⟨some s011, .move (.c (.int .i64 1)), none⟩])
 (.block 2
 (.loop
 (.seq (.seq (.region [xm s074 s011,
 ⟨some s075, .bin .geq (.t s074) (.c (.int .i64 0)), none⟩])
 (.cond (.t s075)
 (.skip)
 (.exit 2)))
 (.seq (.block 3
 (.seq (.region [xm s100 s011,
 xf 0 s101 s010,
 ⟨some s102, .indexArr 1 2 (.t s101) (.t s100), none⟩,
 xl s103 s102,
 xm s012 s103])
 (.seq (.seq (.region [xm s104 s012,
 xf 0 s105 s001,
 xl s106 s105,
 ⟨some s107, .len (.t s106), none⟩,
 ⟨some s110, .bin .sub (.t s107) (.c (.int .i64 1)), none⟩,
 ⟨some s111, .call 26 [(.t s104), (.c (.int .i64 0)), (.t s110)], none⟩,
 ⟨some s112, .un .not (.t s111), none⟩])
 (.cond (.t s112)
 (.seq (.region [⟨some s002, .move (.c (.slice none 0 0)), none⟩,
 ⟨some s003, .move (.c (.bool false)), none⟩])
 (.ret))
 (.skip)))
 (.seq (.region [xm s113 s012,
 ⟨some s114, .bin .gtr (.t s113) (.c (.int .i64 0)), none⟩])
 (.cond (.t s114)
 (.regionD [0, 0, 0, 4, 0, 16, 60, 126, 254, 511, 1023] [xm s115 s005,
 xm s116 s012,
 xf 1 s117 s007,
 xl s120 s117,
 xm s121 s011,
 ⟨some s122, .call 27 [(.t s121)], none⟩,
 ⟨some s123, .sbin .add (.t s120) (.t s122), none⟩,
 ⟨some s124, .build [.int .i64 0, .string { data := #[] }] [(0, 1, (.t s116)), (1, 1, (.t s123))], none⟩,
 ⟨some s125, .buildSlice 6 1 [.int .i64 0, .string { data := #[] }] [(0, (.t s124))] false, none⟩,
 ⟨some s126, .append 7 2 24 (.t s115) (.t s125), none⟩,
 xm s005 s126])
 (.skip))))))
 (.region [xm s076 s011,
 ⟨some s077, .bin .sub (.t s076) (.c (.int .i64 1)), none⟩,
 xm s011 s077]))))))))))))
 (.region [xm s024 s006,
 ⟨some s025, .bin .add (.t s024) (.c (.int .i64 1)), none⟩,
 xm s006 s025]))))))
 (.seq (.region [xm s127 s004,
 xm s002 s127,
 ⟨some s003, .move (.c (.bool true)), none⟩])
 (.ret))))))
def r_custref_TrieRows : List XR := [.tmp s002, .tmp s003]
theorem ok_custref_TrieRows : okC Try.prog Try.f9.ntmps (bodyOf Try.f9) x_custref_TrieRows = true := by kernel_rfl
theorem okr_custref_TrieRows : okRs Try.prog Try.f9.results.toList r_custref_TrieRows = true := by kernel_rfl

/-- pfx.Put -/
def x_prefix_Put : XC :=
 .seq (.region [⟨some s003, .box 0 1 (.t s000), none⟩,
 ⟨some s004, .box 1 2 (.t s001), none⟩,
 ⟨some s006, .alloc 2 [.slice none 0 0], none⟩,
 ⟨some s007, .move (.c (.int .i64 0)), none⟩])
 (.seq (.region [⟨some s014, .load true 1 (.t s003), none⟩,
 ⟨some s015, .call 19 [(.t s014)], none⟩,
 xm s013 s015,
 ⟨some s016, .extract 0 (.t s013), none⟩,
 ⟨some s017, .extract 1 (.t s013), none⟩,
 xm s010 s016,
 xm s011 s017])
 (.seq (.seq (.region [xm s020 s011,
 ⟨some s021, .bin .neq (.t s020) (.c (.int .i64 0)), none⟩])
 (.cond (.t s021)
 (.seq (.region [⟨some s022, .build [.slice none 0 0] [], none⟩,
 xm s023 s011,
 ⟨none, .store 1 (.t s006) (.t s022), none⟩,
 xm s007 s023])
 (.ret))
 (.skip)))
 (.seq (.seq (.region [⟨some s024, .load true 2 (.t s004), none⟩,
 ⟨some s025, .call 28 [(.t s024)], none⟩,
 ⟨some s026, .un .not (.t s025), none⟩])
 (.cond (.t s026)
 (.seq (.region [⟨some s027, .build [.slice none 0 0] [], none⟩,
 ⟨none, .store 1 (.t s006) (.t s027), none⟩,
 ⟨some s007, .move (.c (.int .i64 1)), none⟩])
 (.ret))
 (.skip)))
 (.seq (.region [xm s030 s010,
 ⟨some s031, .load true 2 (.t s004), none⟩,
 xm s032 s002,
 ⟨some s033, .call 30 [(.t s030), (.t s031), (.t s032), (.c (.int .i64 0))], none⟩,
 ⟨some s034, .call 29 [(.t s033)], none⟩,
 ⟨some s012, .alloc 3 [.slice none 0 0], none⟩,
 ⟨none, .store 1 (.t s012) (.t s034), none⟩])
 (.seq (.seq (.region [xf 0 s035 s012,
 xl s036 s035,
 ⟨some s037, .len (.t s036), none⟩,
 ⟨some s040, .bin .gtr (.t s037) (.c (.int .i64 500)), none⟩])
 (.cond (.t s040)
 (.seq (.region [⟨some s041, .build [.slice none 0 0] [], none⟩,
 ⟨none, .store 1 (.t s006) (.t s041), none⟩,
 ⟨some s007, .move (.c (.int .i64 2)), none⟩])
 (.ret))
 (.skip)))
 (.seq (.region [⟨some s042, .load true 1 (.t s012), none⟩,
 ⟨none, .store 1 (.t s006) (.t s042), none⟩,
 ⟨some s007, .move (.c (.int .i64 0)), none⟩])
 (.ret)))))))
def r_prefix_Put : List XR := [.cell s006 true 1, .tmp s007]
theorem ok_prefix_Put : okC Try.prog Try.f13.ntmps (bodyOf Try.f13) x_prefix_Put = true := by kernel_rfl
theorem okr_prefix_Put : okRs Try.prog Try.f13.results.toList r_prefix_Put = true := by kernel_rfl

/-- custref.TriePut -/
def x_custref_TriePut : XC :=
 .seq (.region [⟨some s003, .box 0 1 (.t s000), none⟩,
 ⟨some s004, .box 1 2 (.t s001), none⟩,
 ⟨some s006, .alloc 2 [.slice none 0 0], none⟩,
 ⟨some s007, .move (.c (.int .i64 0)), none⟩])
 (.seq (.seq (.region [⟨some s015, .load true 1 (.t s003), none⟩,
 ⟨some s016, .call 8 [(.t s015)], none⟩,
 xm s010 s016])
 (.seq (.region [xm s017 s010,
 ⟨some s020, .bin .neq (.t s017) (.c (.int .i64 0)), none⟩])
 (.cond (.t s020)
 (.seq (.region [⟨some s021, .build [.slice none 0 0] [], none⟩,
 xm s022 s010,
 ⟨none, .store 1 (.t s006) (.t s021), none⟩,
 xm s007 s022])
 (.ret))
 (.skip))))
 (.seq (.seq (.region [⟨some s023, .load true 2 (.t s004), none⟩,
 ⟨some s024, .call 31 [(.t s023)], none⟩,
 ⟨some s025, .un .not (.t s024), none⟩])
 (.cond (.t s025)
 (.seq (.region [⟨some s026, .build [.slice none 0 0] [], none⟩,
 ⟨none, .store 1 (.t s006) (.t s026), none⟩,
 ⟨some s007, .move (.c (.int .i64 1)), none⟩])
 (.ret))
 (.skip)))
 (.seq (.region [⟨some s030, .load true 1 (.t s003), none⟩,
 ⟨some s031, .call 9 [(.t s030)], none⟩,
 xm s027 s031,
 ⟨some s032, .extract 0 (.t s027), none⟩,
 ⟨some s033, .extract 1 (.t s027), none⟩,
 xm s011 s032,
 xm s012 s033])
 (.seq (.region [xf 0 s034 s004,
 xl s035 s034,
 xf 1 s036 s004,
 xl s037 s036,
 ⟨some s040, .call 23 [(.t s035), (.t s037)], none⟩,
 ⟨some s013, .alloc 3 [.string { data := #[] }], none⟩,
 ⟨none, .store 1 (.t s013) (.t s040), none⟩])
 (.seq (.region [xm s041 s011,
 ⟨some s042, .mkfn 33 [] [(.t s013)], none⟩,
 ⟨some s043, .call 32 [(.t s041), (.t s042)], none⟩,
 xm s011 s043])
 (.seq (.region [xm s044 s011,
 xl s045 s013,
 xm s046 s002,
 ⟨some s047, .build [.string { data := #[] }, .int .i64 0] [(0, 1, (.t s045)), (1, 1, (.t s046))], none⟩,
 ⟨some s050, .buildSlice 4 1 [.string { data := #[] }, .int .i64 0] [(0, (.t s047))] true, none⟩,
 ⟨some s051, .append 5 2 24 (.t s044) (.t s050), none⟩,
 ⟨some s052, .call 25 [(.t s051)], none⟩,
 ⟨some s014, .alloc 6 [.slice none 0 0], none⟩,
 ⟨none, .store 1 (.t s014) (.t s052), none⟩])
 (.seq (.seq (.region [xf 0 s053 s014,
 xl s054 s053,
 ⟨some s055, .len (.t s054), none⟩,
 ⟨some s056, .bin .gtr (.t s055) (.c (.int .i64 500)), none⟩])
 (.cond (.t s056)
 (.seq (.region [⟨some s057, .build [.slice none 0 0] [], none⟩,
 ⟨none, .store 1 (.t s006) (.t s057), none⟩,
 ⟨some s007, .move (.c (.int .i64 2)), none⟩])
 (.ret))
 (.skip)))
 (.seq (.region [⟨some s060, .load true 1 (.t s014), none⟩,
 ⟨none, .store 1 (.t s006) (.t s060), none⟩,
 ⟨some s007, .move (.c (.int .i64 0)), none⟩])
 (.ret)))))))))
def r_custref_TriePut : List XR := [.cell s006 true 1, .tmp s007]
theorem ok_custref_TriePut : okC Try.prog Try.f14.ntmps (bodyOf Try.f14) x_custref_TriePut = true := by kernel_rfl
theorem okr_custref_TriePut : okRs Try.prog Try.f14.results.toList r_custref_TriePut = true := by kernel_rfl

/-- pfx.Remove -/
def x_prefix_Remove : XC :=
 .seq (.region [⟨some s002, .box 0 1 (.t s000), none⟩,
 ⟨some s003, .box 1 2 (.t s001), none⟩,
 ⟨some s004, .alloc 2 [.slice none 0 0], none⟩,
 ⟨some s005, .move (.c (.int .i64 0)), none⟩])
 (.seq (.region [⟨some s012, .load true 1 (.t s002), none⟩,
 ⟨some s013, .call 19 [(.t s012)], none⟩,
 xm s011 s013,
 ⟨some s014, .extract 0 (.t s011), none⟩,
 ⟨some s015, .extract 1 (.t s011), none⟩,
 xm s006 s014,
 xm s007 s015])
 (.seq (.seq (.region [xm s016 s007,
 ⟨some s017, .bin .neq (.t s016) (.c (.int .i64 0)), none⟩])
 (.cond (.t s017)
 (.seq (.region [⟨some s020, .build [.slice none 0 0] [], none⟩,
 xm s021 s007,
 ⟨none, .store 1 (.t s004) (.t s020), none⟩,
 xm s005 s021])
 (.ret))
 (.skip)))
 (.seq (.region [⟨some s022, .load true 2 (.t s003), none⟩,
 ⟨some s023, .call 28 [(.t s022)], none⟩,
 xm s010 s023])
 (.seq (.seq (.region [xm s024 s010])
 (.cond (.t s024)
 (.region [xm s026 s006,
 ⟨some s027, .load true 2 (.t s003), none⟩,
 ⟨some s030, .call 34 [(.t s026), (.t s027), (.c (.int .i64 0))], none⟩,
 xm s025 s030,
 ⟨some s031, .extract 0 (.t s025), none⟩,
 ⟨some s032, .extract 1 (.t s025), none⟩,
 xm s006 s031,
 xm s010 s032])
 (.skip)))
 (.seq (.seq (.region [xm s033 s010,
 ⟨some s034, .un .not (.t s033), none⟩])
 (.cond (.t s034)
 (.seq (.region [⟨some s035, .build [.slice none 0 0] [], none⟩,
 ⟨none, .store 1 (.t s004) (.t s035), none⟩,
 ⟨some s005, .move (.c (.int .i64 7)), none⟩])
 (.ret))
 (.skip)))
 (.seq (.region [xm s036 s006,
 ⟨some s037, .call 29 [(.t s036)], none⟩,
 ⟨none, .store 1 (.t s004) (.t s037), none⟩,
 ⟨some s005, .move (.c (.int .i64 0)), none⟩])
 (.ret)))))))
def r_prefix_Remove : List XR := [.cell s004 true 1, .tmp s005]
theorem ok_prefix_Remove : okC Try.prog Try.f15.ntmps (bodyOf Try.f15) x_prefix_Remove = true := by kernel_rfl
theorem okr_prefix_Remove : okRs Try.prog Try.f15.results.toList r_prefix_Remove = true := by kernel_rfl

/-- custref.TrieRemove -/
def x_custref_TrieRemove : XC :=
 .seq (.region [⟨some s002, .box 0 1 (.t s000), none⟩,
 ⟨some s003, .box 1 2 (.t s001), none⟩,
 ⟨some s004, .alloc 2 [.slice none 0 0], none⟩,
 ⟨some s005, .move (.c (.int .i64 0)), none⟩])
 (.seq (.seq (.region [⟨some s013, .load true 1 (.t s002), none⟩,
 ⟨some s014, .call 8 [(.t s013)], none⟩,
 xm s006 s014])
 (.seq (.region [xm s015 s006,
 ⟨some s016, .bin .neq (.t s015) (.c (.int .i64 0)), none⟩])
 (.cond (.t s016)
 (.seq (.region [⟨some s017, .build [.slice none 0 0] [], none⟩,
 xm s020 s006,
 ⟨none, .store 1 (.t s004) (.t s017), none⟩,
 xm s005 s020])
 (.ret))
 (.skip))))
 (.seq (.region [⟨some s022, .load true 1 (.t s002), none⟩,
 ⟨some s023, .call 9 [(.t s022)], none⟩,
 xm s021 s023,
 ⟨some s024, .extract 0 (.t s021), none⟩,
 ⟨some s025, .extract 1 (.t s021), none⟩,
 xm s007 s024,
 xm s010 s025])
 (.seq (.seq (.region [⟨some s026, .load true 2 (.t s003), none⟩,
 ⟨some s027, .call 31 [(.t s026)], none⟩])
 (.cond (.t s027)
 (.seq (.region [xf 0 s030 s003,
 xl s031 s030,
 xf 1 s032 s003,
 xl s033 s032,
 ⟨some s034, .call 23 [(.t s031), (.t s033)], none⟩,
 ⟨some s011, .alloc 3 [.string { data := #[] }], none⟩,
 ⟨none, .store 1 (.t s011) (.t s034), none⟩])
 (.seq (.region [xm s035 s007,
 ⟨some s036, .call 35 [(.t s035)], none⟩,
 ⟨some s037, .mkfn 36 [] [(.t s011)], none⟩,
 ⟨some s040, .call 32 [(.t s036), (.t s037)], none⟩,
 xm s012 s040])
 (.seq (.region [xm s041 s012,
 ⟨some s042, .len (.t s041), none⟩,
 xm s043 s007,
 ⟨some s044, .len (.t s043), none⟩,
 ⟨some s045, .bin .lss (.t s042) (.t s044), none⟩])
 (.cond (.t s045)
 (.seq (.region [xm s046 s012,
 ⟨some s047, .call 25 [(.t s046)], none⟩,
 ⟨none, .store 1 (.t s004) (.t s047), none⟩,
 ⟨some s005, .move (.c (.int .i64 0)), none⟩])
 (.ret))
 (.skip)))))
 (.skip)))
 (.seq (.region [⟨some s050, .build [.slice none 0 0] [], none⟩,
 ⟨none, .store 1 (.t s004) (.t s050), none⟩,
 ⟨some s005, .move (.c (.int .i64 7)), none⟩])
 (.ret)))))
def r_custref_TrieRemove : List XR := [.cell s004 true 1, .tmp s005]
theorem ok_custref_TrieRemove : okC Try.prog Try.f16.ntmps (bodyOf Try.f16) x_custref_TrieRemove = true := by kernel_rfl
theorem okr_custref_TrieRemove : okRs Try.prog Try.f16.results.toList r_custref_TrieRemove = true := by kernel_rfl

/-- pfx.Check -/
def x_prefix_Check : XC :=
 .seq (.region [⟨some s001, .box 0 1 (.t s000), none⟩,
 ⟨some s002, .move (.c (.int .i64 0)), none⟩])
 (.seq (.region [⟨some s006, .load true 1 (.t s001), none⟩,
 ⟨some s007, .call 19 [(.t s006)], none⟩,
 xm s005 s007,
 ⟨some s010, .extract 0 (.t s005), none⟩,
 ⟨some s011, .extract 1 (.t s005), none⟩,
 xm s003 s010,
 xm s004 s011])
 (.seq (.region [xm s012 s004,
 xm s002 s012])
 (.ret)))
def r_prefix_Check : List XR := [.tmp s002]
theorem ok_prefix_Check : okC Try.prog Try.f17.ntmps (bodyOf Try.f17) x_prefix_Check = true := by kernel_rfl
theorem okr_prefix_Check : okRs Try.prog Try.f17.results.toList r_prefix_Check = true := by kernel_rfl

/-- custref.SameTrie -/
def x_custref_SameTrie : XC :=
 .seq (.region [⟨some s002, .box 0 1 (.t s000), none⟩,
 ⟨some s003, .box 1 1 (.t s001), none⟩,
 ⟨some s004, .move (.c (.bool false)), none⟩])
 (.seq (.region [xf 0 s005 s002,
 xl s006 s005,
 xf 0 s007 s003,
 xl s010 s007,
 ⟨some s011, .call 37 [(.t s006), (.t s010)], none⟩,
 xm s004 s011])
 (.ret))
def r_custref_SameTrie : List XR := [.tmp s004]
theorem ok_custref_SameTrie : okC Try.prog Try.f18.ntmps (bodyOf Try.f18) x_custref_SameTrie = true := by kernel_rfl
theorem okr_custref_SameTrie : okRs Try.prog Try.f18.results.toList r_custref_SameTrie = true := by kernel_rfl

/-- pfx.read -/
def x_prefix_read : XC :=
 .seq (.region [⟨some s001, .box 0 1 (.t s000), none⟩,
 ⟨some s002, .move (.c (.pointer none)), none⟩,
 ⟨some s003, .move (.c (.int .i64 0)), none⟩])
 (.seq (.seq (.region [xf 0 s010 s001,
 xl s011 s010,
 ⟨some s012, .len (.t s011), none⟩,
 ⟨some s013, .bin .eql (.t s012) (.c (.int .i64 0)), none⟩])
 (.cond (.t s013)
 (.seq (.region [⟨some s002, .move (.c (.pointer none)), none⟩,
 ⟨some s003, .move (.c (.int .i64 0)), none⟩])
 (.ret))
 (.skip)))
 (.seq (.seq (.region [xf 0 s014 s001,
 xl s015 s014,
 ⟨some s016, .len (.t s015), none⟩,
 ⟨some s017, .bin .gtr (.t s016) (.c (.int .i64 500)), none⟩])
 (.cond (.t s017)
 (.seq (.region [⟨some s002, .move (.c (.pointer none)), none⟩,
 ⟨some s003, .move (.c (.int .i64 2)), none⟩])
 (.ret))
 (.skip)))
 (.seq (.region [⟨some s004, .alloc 1 [.int .i64 0], none⟩,
 ⟨none, .store 1 (.t s004) (.c (.int .i64 0)), none⟩])
 (.seq (.region [xf 0 s020 s001,
 xl s021 s020,
 ⟨some s022, .call 38 [(.t s021), (.t s004), (.c (.int .i64 0))], none⟩,
 xm s005 s022])
 (.seq (.seq (.region [xm s023 s005,
 ⟨some s024, .isnilP false (.t s023), none⟩,
 xm s025 s024,
 ⟨some s026, .load false 1 (.t s004), some (s025, false)⟩,
 ⟨some s027, .fieldAddr 0 (.t s001), some (s025, false)⟩,
 ⟨some s030, .load false 1 (.t s027), some (s025, false)⟩,
 ⟨some s031, .len (.t s030), some (s025, false)⟩,
 ⟨some s032, .bin .sub (.t s031) (.c (.int .i64 1)), some (s025, false)⟩,
 ⟨some s033, .bin .neq (.t s026) (.t s032), some (s025, false)⟩,
 ⟨some s034, .pick (.t s025) (.c (.bool true)) (.t s033), none⟩,
 xm s035 s034,
 ⟨some s036, .move (.t s005), some (s035, false)⟩,
 ⟨some s037, .call 39 [(.t s036)], some (s035, false)⟩,
 ⟨some s040, .pick (.t s035) (.c (.bool true)) (.t s037), none⟩])
 (.cond (.t s040)
 (.seq (.region [⟨some s002, .move (.c (.pointer none)), none⟩,
 ⟨some s003, .move (.c (.int .i64 4)), none⟩])
 (.ret))
 (.skip)))
 (.seq (.seq (.region [xf 0 s041 s001,
 xl s042 s041,
 ⟨some s043, .len (.t s042), none⟩,
 ⟨some s044, .move (.c (.int .i64 0)), none⟩])
 (.block 0
 (.loop
 (.seq (.region [⟨some s045, .bin .lss (.t s044) (.t s043), none⟩])
 (.seq (.cond (.t s045)
 (.skip)
 (.exit 0))
 (.seq (.block 1
 (.seq (.region [⟨some s046, .indexSl 4 (.t s042) (.t s044), none⟩,
 ⟨some s047, .load true 4 (.t s046), none⟩,
 ⟨some s007, .alloc 2 [.int .i64 0, .int .i64 0, .bool false, .int .i64 0], none⟩,
 ⟨none, .store 4 (.t s007) (.t s047), none⟩])
 (.seq (.region [xf 2 s050 s007,
 xl s051 s050,
 ⟨some s052, .un .not (.t s051), none⟩,
 xm s053 s052,
 ⟨some s054, .fieldAddr 3 (.t s007), some (s053, true)⟩,
 ⟨some s055, .load false 1 (.t s054), some (s053, true)⟩,
 ⟨some s056, .bin .neq (.t s055) (.c (.int .i64 0)), some (s053, true)⟩,
 ⟨some s057, .move (.t s056), some (s053, true)⟩,
 ⟨some s060, .fieldAddr 0 (.t s007), some (s057, false)⟩,
 ⟨some s061, .load true 2 (.t s060), some (s057, false)⟩,
 ⟨some s062, .build [.int .i64 0, .int .i64 0] [], some (s057, false)⟩,
 ⟨some s063, .eqs false [0, 0] (.t s061) (.t s062), some (s057, false)⟩,
 ⟨some s064, .pick (.t s057) (.c (.bool true)) (.t s063), some (s053, true)⟩,
 ⟨some s065, .pick (.t s053) (.t s064) (.c (.bool false)), none⟩])
 (.cond (.t s065)
 (.seq (.region [⟨some s002, .move (.c (.pointer none)), none⟩,
 ⟨some s003, .move (.c (.int .i64 4)), none⟩])
 (.ret))
 (.skip)))))
 (.region [⟨some s066, .bin .add (.t s044) (.c (.int .i64 1)), none⟩,
 xm s044 s066])))))))
 (.seq (.region [xm s067 s005,
 xm s002 s067,
 ⟨some s003, .move (.c (.int .i64 0)), none⟩])
 (.ret))))))))
def r_prefix_read : List XR := [.tmp s002, .tmp s003]
theorem ok_prefix_read : okC Try.prog Try.f19.ntmps (bodyOf Try.f19) x_prefix_read = true := by kernel_rfl
theorem okr_prefix_read : okRs Try.prog Try.f19.results.toList r_prefix_read = true := by kernel_rfl

/-- pfx.bit -/
def x_prefix_bit : XC :=
 .seq (.region [⟨some s004, .move (.c (.int .i64 0)), none⟩])
 (.seq (.region [xm s005 s000,
 xm s006 s001,
 ⟨some s007, .bin .sub (.c (.int .i64 31)) (.t s006), none⟩,
 ⟨some s010, .bin .shr (.t s005) (.t s007), none⟩,
 ⟨some s011, .bin .and (.t s010) (.c (.int .u32 1)), none⟩,
 ⟨some s012, .convInt .i64 (.t s011), none⟩,
 xm s004 s012])
 (.ret))
def r_prefix_bit : List XR := [.tmp s004]
theorem ok_prefix_bit : okC Try.prog Try.f21.ntmps (bodyOf Try.f21) x_prefix_bit = true := by kernel_rfl
theorem okr_prefix_bit : okRs Try.prog Try.f21.results.toList r_prefix_bit = true := by kernel_rfl

/-- custref.BitsOf -/
def x_custref_BitsOf : XC :=
 .seq (.region [⟨some s004, .move (.c (.string { data := #[] })), none⟩])
 (.seq (.region [⟨some s005, .move (.c (.string { data := #[] })), none⟩])
 (.seq (.seq (.region [xm s007 s001,
 ⟨some s010, .move (.c (.int .i64 0)), none⟩])
 (.block 0
 (.loop
 (.seq (.region [⟨some s011, .bin .lss (.t s010) (.t s007), none⟩])
 (.seq (.cond (.t s011)
 (.skip)
 (.exit 0))
 (.seq (.block 1
 (.seq (.region [xm s012 s010,
 xm s006 s012])
 (.region [xm s013 s005,
 xm s014 s000,
 ⟨some s015, .convInt .i64 (.t s014), none⟩,
 xm s016 s006,
 ⟨some s017, .bin .sub (.c (.int .i64 31)) (.t s016), none⟩,
 ⟨some s020, .bin .shl (.c (.int .i64 1)) (.t s017), none⟩,
 ⟨some s021, .bin .quo (.t s015) (.t s020), none⟩,
 ⟨some s022, .bin .rem (.t s021) (.c (.int .i64 2)), none⟩,
 ⟨some s023, .call 27 [(.t s022)], none⟩,
 ⟨some s024, .sbin .add (.t s013) (.t s023), none⟩,
 xm s005 s024])))
 (.region [⟨some s025, .bin .add (.t s010) (.c (.int .i64 1)), none⟩,
 xm s010 s025])))))))
 (.seq (.region [xm s026 s005,
 xm s004 s026])
 (.ret))))
def r_custref_BitsOf : List XR := [.tmp s004]
theorem ok_custref_BitsOf : okC Try.prog Try.f23.ntmps (bodyOf Try.f23) x_custref_BitsOf = true := by kernel_rfl
theorem okr_custref_BitsOf : okRs Try.prog Try.f23.results.toList r_custref_BitsOf = true := by kernel_rfl

/-- custref.TrieOf -/
def x_custref_TrieOf : XC :=
 .seq (.region [⟨some s002, .alloc 0 [.slice none 0 0], none⟩])
 (.seq (.region [⟨some s003, .move (.c (.slice none 0 0)), none⟩])
 (.seq (.seq (.region [xm s020 s000,
 ⟨some s021, .len (.t s020), none⟩,
 ⟨some s022, .move (.c (.int .i64 0)), none⟩])
 (.block 0
 (.loop
 (.seq (.region [⟨some s023, .bin .lss (.t s022) (.t s021), none⟩])
 (.seq (.cond (.t s023)
 (.skip)
 (.exit 0))
 (.seq (.block 1
 (.seq (.region [⟨some s024, .indexSl 2 (.t s020) (.t s022), none⟩,
 ⟨some s025, .load true 2 (.t s024), none⟩,
 ⟨some s005, .alloc 1 [.string { data := #[] }, .int .i64 0], none⟩,
 ⟨none, .store 2 (.t s005) (.t s025), none⟩])
 (.seq (.region [xf 0 s026 s005,
 xl s027 s026,
 ⟨some s030, .slen (.t s027), none⟩,
 ⟨some s031, .bin .add (.t s030) (.c (.int .i64 1)), none⟩,
 ⟨some s032, .move (.c (.int .i64 0)), none⟩])
 (.block 2
 (.loop
 (.seq (.region [⟨some s033, .bin .lss (.t s032) (.t s031), none⟩])
 (.seq (.cond (.t s033)
 (.skip)
 (.exit 2))
 (.seq (.block 3
 (.seq (.region [xm s034 s032,
 xm s006 s034])
 (.region [xm s035 s003,
 xf 0 s036 s005,
 xl s037 s036,
 xm s040 s006,
 ⟨some s041, .substr (.t s037) none (some (.t s040)), none⟩,
 ⟨some s042, .buildSlice 2 1 [.string { data := #[] }] [(0, (.t s041))] true, none⟩,
 ⟨some s043, .append 3 1 16 (.t s035) (.t s042), none⟩,
 xm s003 s043])))
 (.region [⟨some s044, .bin .add (.t s032) (.c (.int .i64 1)), none⟩,
 xm s032 s044])))))))))
 (.region [⟨some s045, .bin .add (.t s022) (.c (.int .i64 1)), none⟩,
 xm s022 s045])))))))
 (.seq (.region [xm s046 s003,
 ⟨some s047, .call 41 [(.t s046)], none⟩])
 (.seq (.region [xm s050 s003,
 ⟨some s051, .call 42 [(.t s050)], none⟩,
 xm s003 s051])
 (.seq (.region [⟨some s007, .alloc 4 [.slice none 0 0], none⟩])
 (.seq (.seq (.region [xm s052 s003,
 ⟨some s053, .len (.t s052), none⟩,
 ⟨some s054, .move (.c (.int .i64 0)), none⟩])
 (.block 4
 (.loop
 (.seq (.region [⟨some s055, .bin .lss (.t s054) (.t s053), none⟩])
 (.seq (.cond (.t s055)
 (.skip)
 (.exit 4))
 (.seq (.block 5
 (.seq (.region [⟨some s056, .indexSl 1 (.t s052) (.t s054), none⟩,
 xl s057 s056,
 xm s011 s057])
 (.seq (.region [⟨some s012, .alloc 5 [.int .i64 0, .int .i64 0, .bool false, .int .i64 0], none⟩])
 (.seq (.seq (.region [⟨some s060, .move (.c (.int .i64 0)), none⟩])
 (.block 6
 (.loop
 (.seq (.region [⟨some s061, .bin .lss (.t s060) (.c (.int .i64 2)), none⟩])
 (.seq (.cond (.t s061)
 (.skip)
 (.exit 6))
 (.seq (.block 7
 (.seq (.region [xm s062 s060,
 xm s013 s062])
 (.seq (.region [xm s064 s003,
 xm s065 s011,
 xm s066 s013,
 ⟨some s067, .call 27 [(.t s066)], none⟩,
 ⟨some s070, .sbin .add (.t s065) (.t s067), none⟩,
 ⟨some s071, .call 43 [(.t s064), (.t s070)], none⟩,
 xm s063 s071,
 ⟨some s072, .extract 0 (.t s063), none⟩,
 ⟨some s073, .extract 1 (.t s063), none⟩,
 xm s014 s072,
 xm s015 s073])
 (.seq (.region [xm s074 s015])
 (.cond (.t s074)
 (.region [xm s075 s013,
 xm s076 s014,
 xf 0 s077 s012,
 ⟨some s100, .indexArr 1 2 (.t s077) (.t s075), none⟩,
 ⟨none, .store 1 (.t s100) (.t s076), none⟩])
 (.skip))))))
 (.region [⟨some s101, .bin .add (.t s060) (.c (.int .i64 1)), none⟩,
 xm s060 s101])))))))
 (.seq (.seq (.region [xm s102 s000,
 ⟨some s103, .len (.t s102), none⟩,
 ⟨some s104, .move (.c (.int .i64 0)), none⟩])
 (.block 8
 (.loop
 (.seq (.region [⟨some s105, .bin .lss (.t s104) (.t s103), none⟩])
 (.seq (.cond (.t s105)
 (.skip)
 (.exit 8))
 (.seq (.block 9
 (.seq (.region [⟨some s106, .indexSl 2 (.t s102) (.t s104), none⟩,
 ⟨some s107, .load true 2 (.t s106), none⟩,
 ⟨some s017, .alloc 6 [.string { data := #[] }, .int .i64 0], none⟩,
 ⟨none, .store 2 (.t s017) (.t s107), none⟩])
 (.seq (.region [xf 0 s110 s017,
 xl s111 s110,
 xm s112 s011,
 ⟨some s113, .sbin .eql (.t s111) (.t s112), none⟩])
 (.cond (.t s113)
 (.regionD [0, 1, 0, 4, 15, 31] [xf 1 s114 s017,
 xl s115 s114,
 xf 2 s116 s012,
 ⟨none, .store 1 (.t s116) (.c (.bool true)), none⟩,
 xf 3 s117 s012,
 ⟨none, .store 1 (.t s117) (.t s115), none⟩])
 (.skip)))))
 (.region [⟨some s120, .bin .add (.t s104) (.c (.int .i64 1)), none⟩,
 xm s104 s120])))))))
 (.region [xf 0 s121 s007,
 xl s122 s121,
 ⟨some s123, .load true 4 (.t s012), none⟩,
 ⟨some s124, .buildSlice 7 1 [.int .i64 0, .int .i64 0, .bool false, .int .i64 0] [(0, (.t s123))] true, none⟩,
 ⟨some s125, .append 8 4 32 (.t s122) (.t s124), none⟩,
 xf 0 s126 s007,
 ⟨none, .store 1 (.t s126) (.t s125), none⟩]))))))
 (.region [⟨some s127, .bin .add (.t s054) (.c (.int .i64 1)), none⟩,
 xm s054 s127])))))))
 (.seq (.region [⟨some s130, .load true 1 (.t s007), none⟩,
 ⟨none, .store 1 (.t s002) (.t s130), none⟩])
 (.ret))))))))
def r_custref_TrieOf : List XR := [.cell s002 true 1]
theorem ok_custref_TrieOf : okC Try.prog Try.f25.ntmps (bodyOf Try.f25) x_custref_TrieOf = true := by kernel_rfl
theorem okr_custref_TrieOf : okRs Try.prog Try.f25.results.toList r_custref_TrieOf = true := by kernel_rfl

/-- custref.Between -/
def x_custref_Between : XC :=
 .seq (.region [⟨some s006, .move (.c (.bool false)), none⟩])
 (.seq (.region [xm s007 s001,
 xm s010 s000,
 ⟨some s011, .bin .leq (.t s007) (.t s010), none⟩,
 xm s012 s011,
 ⟨some s013, .move (.t s000), some (s012, true)⟩,
 ⟨some s014, .move (.t s002), some (s012, true)⟩,
 ⟨some s015, .bin .leq (.t s013) (.t s014), some (s012, true)⟩,
 ⟨some s016, .pick (.t s012) (.t s015) (.c (.bool false)), none⟩,
 xm s006 s016])
 (.ret))
def r_custref_Between : List XR := [.tmp s006]
theorem ok_custref_Between : okC Try.prog Try.f26.ntmps (bodyOf Try.f26) x_custref_Between = true := by kernel_rfl
theorem okr_custref_Between : okRs Try.prog Try.f26.results.toList r_custref_Between = true := by kernel_rfl

/-- custref.Num -/
def x_custref_Num : XC :=
 .seq (.region [⟨some s002, .move (.c (.string { data := #[] })), none⟩])
 (.seq (.seq (.region [xm s003 s000,
 ⟨some s004, .bin .lss (.t s003) (.c (.int .i64 0)), none⟩])
 (.cond (.t s004)
 (.seq (.region [xm s005 s000,
 ⟨some s006, .un .neg (.t s005), none⟩,
 ⟨some s007, .call 27 [(.t s006)], none⟩,
 ⟨some s010, .sbin .add (.c (.string { data := #[45] })) (.t s007), none⟩,
 xm s002 s010])
 (.ret))
 (.skip)))
 (.seq (.seq (.region [xm s011 s000,
 ⟨some s012, .bin .lss (.t s011) (.c (.int .i64 10)), none⟩])
 (.cond (.t s012)
 (.seq (.region [xm s013 s000,
 xm s014 s000,
 ⟨some s015, .bin .add (.t s014) (.c (.int .i64 1)), none⟩,
 ⟨some s016, .substr (.c (.string { data := #[48, 49, 50, 51, 52, 53, 54, 55, 56, 57] })) (some (.t s013)) (some (.t s015)), none⟩,
 xm s002 s016])
 (.ret))
 (.skip)))
 (.seq (.region [xm s017 s000,
 ⟨some s020, .bin .quo (.t s017) (.c (.int .i64 10)), none⟩,
 ⟨some s021, .call 27 [(.t s020)], none⟩,
 xm s022 s000,
 ⟨some s023, .bin .rem (.t s022) (.c (.int .i64 10)), none⟩,
 ⟨some s024, .call 27 [(.t s023)], none⟩,
 ⟨some s025, .sbin .add (.t s021) (.t s024), none⟩,
 xm s002 s025])
 (.ret))))
def r_custref_Num : List XR := [.tmp s002]
theorem ok_custref_Num : okC Try.prog Try.f27.ntmps (bodyOf Try.f27) x_custref_Num = true := by kernel_rfl
theorem okr_custref_Num : okRs Try.prog Try.f27.results.toList r_custref_Num = true := by kernel_rfl

/-- pfx.net -/
def x_prefix_net : XC :=
 .seq (.region [⟨some s001, .box 0 2 (.t s000), none⟩,
 ⟨some s002, .move (.c (.bool false)), none⟩])
 (.seq (.region [xf 1 s003 s001,
 xl s004 s003,
 ⟨some s005, .bin .geq (.t s004) (.c (.int .i64 0)), none⟩,
 xm s006 s005,
 ⟨some s007, .fieldAddr 1 (.t s001), some (s006, true)⟩,
 ⟨some s010, .load false 1 (.t s007), some (s006, true)⟩,
 ⟨some s011, .bin .leq (.t s010) (.c (.int .i64 32)), some (s006, true)⟩,
 ⟨some s012, .pick (.t s006) (.t s011) (.c (.bool false)), none⟩,
 xm s013 s012,
 ⟨some s014, .fieldAddr 0 (.t s001), some (s013, true)⟩,
 ⟨some s015, .load false 1 (.t s014), some (s013, true)⟩,
 ⟨some s016, .fieldAddr 1 (.t s001), some (s013, true)⟩,
 ⟨some s017, .load false 1 (.t s016), some (s013, true)⟩,
 ⟨some s020, .bin .shl (.t s015) (.t s017), some (s013, true)⟩,
 ⟨some s021, .bin .eql (.t s020) (.c (.int .u32 0)), some (s013, true)⟩,
 ⟨some s022, .pick (.t s013) (.t s021) (.c (.bool false)), none⟩,
 xm s002 s022])
 (.ret))
def r_prefix_net : List XR := [.tmp s002]
theorem ok_prefix_net : okC Try.prog Try.f28.ntmps (bodyOf Try.f28) x_prefix_net = true := by kernel_rfl
theorem okr_prefix_net : okRs Try.prog Try.f28.results.toList r_prefix_net = true := by kernel_rfl

/-- pfx.flat -/
def x_prefix_flat : XC :=
 .seq (.region [⟨some s002, .alloc 0 [.slice none 0 0], none⟩])
 (.seq (.region [⟨some s003, .alloc 1 [.slice none 0 0], none⟩])
 (.seq (.seq (.region [xm s004 s000,
 ⟨some s005, .isnilP true (.t s004), none⟩])
 (.cond (.t s005)
 (.region [xm s006 s000,
 ⟨some s007, .call 44 [(.t s006), (.t s003)], none⟩])
 (.skip)))
 (.seq (.region [xl s010 s003,
 ⟨some s011, .build [.slice none 0 0] [(0, 1, (.t s010))], none⟩,
 ⟨none, .store 1 (.t s002) (.t s011), none⟩])
 (.ret))))
def r_prefix_flat : List XR := [.cell s002 true 1]
theorem ok_prefix_flat : okC Try.prog Try.f29.ntmps (bodyOf Try.f29) x_prefix_flat = true := by kernel_rfl
theorem okr_prefix_flat : okRs Try.prog Try.f29.results.toList r_prefix_flat = true := by kernel_rfl

/-- pfx.put -/
def x_prefix_put : XC :=
 .seq (.region [⟨some s005, .box 1 2 (.t s001), none⟩,
 ⟨some s010, .move (.c (.pointer none)), none⟩])
 (.seq (.seq (.region [xm s012 s000,
 ⟨some s013, .isnilP false (.t s012), none⟩])
 (.cond (.t s013)
 (.region [⟨some s014, .build [.pointer none, .pointer none, .bool false, .int .i64 0] [], none⟩,
 ⟨some s015, .box 2 4 (.t s014), none⟩,
 xm s000 s015])
 (.skip)))
 (.seq (.seq (.region [xm s016 s003,
 xf 1 s017 s005,
 xl s020 s017,
 ⟨some s021, .bin .eql (.t s016) (.t s020), none⟩])
 (.cond (.t s021)
 (.seq (.region [xm s022 s000,
 xm s023 s000,
 xm s024 s002,
 ⟨some s025, .nilCheck (.t s022), none⟩,
 xf 2 s026 s025,
 ⟨none, .store 1 (.t s026) (.c (.bool true)), none⟩,
 ⟨some s027, .nilCheck (.t s023), none⟩,
 xf 3 s030 s027,
 ⟨none, .store 1 (.t s030) (.t s024), none⟩])
 (.seq (.region [xm s031 s000,
 xm s010 s031])
 (.ret)))
 (.skip)))
 (.seq (.region [xf 0 s032 s005,
 xl s033 s032,
 xm s034 s003,
 ⟨some s035, .call 21 [(.t s033), (.t s034)], none⟩,
 xm s011 s035])
 (.seq (.regionD [0, 0, 0, 0, 4, 20, 60, 124, 0, 0, 0, 1024, 4092, 1, 8193, 32767, 65535] [xm s036 s000,
 xm s037 s011,
 xm s040 s000,
 xm s041 s011,
 ⟨some s042, .nilCheck (.t s040), none⟩,
 xf 0 s043 s042,
 ⟨some s044, .indexArr 1 2 (.t s043) (.t s041), none⟩,
 xl s045 s044,
 ⟨some s046, .load true 2 (.t s005), none⟩,
 xm s047 s002,
 xm s050 s003,
 ⟨some s051, .bin .add (.t s050) (.c (.int .i64 1)), none⟩,
 ⟨some s052, .call 30 [(.t s045), (.t s046), (.t s047), (.t s051)], none⟩,
 ⟨some s053, .nilCheck (.t s036), none⟩,
 xf 0 s054 s053,
 ⟨some s055, .indexArr 1 2 (.t s054) (.t s037), none⟩,
 ⟨none, .store 1 (.t s055) (.t s052), none⟩])
 (.seq (.region [xm s056 s000,
 xm s010 s056])
 (.ret))))))
def r_prefix_put : List XR := [.tmp s010]
theorem ok_prefix_put : okC Try.prog Try.f30.ntmps (bodyOf Try.f30) x_prefix_put = true := by kernel_rfl
theorem okr_prefix_put : okRs Try.prog Try.f30.results.toList r_prefix_put = true := by kernel_rfl

/-- custref.IsNet -/
def x_custref_IsNet : XC :=
 .seq (.region [⟨some s001, .box 0 2 (.t s000), none⟩,
 ⟨some s002, .move (.c (.bool false)), none⟩])
 (.seq (.regionD [0, 1, 3, 7, 15, 31, 63, 15, 143, 511, 1023, 2047, 4095, 8191] [xf 1 s003 s001,
 xl s004 s003,
 ⟨some s005, .call 26 [(.t s004), (.c (.int .i64 0)), (.c (.int .i64 32))], none⟩,
 xm s006 s005,
 ⟨some s007, .fieldAddr 0 (.t s001), some (s006, true)⟩,
 ⟨some s010, .load false 1 (.t s007), some (s006, true)⟩,
 ⟨some s011, .call 23 [(.t s010), (.c (.int .i64 32))], some (s006, true)⟩,
 ⟨some s012, .fieldAddr 1 (.t s001), some (s006, true)⟩,
 ⟨some s013, .load false 1 (.t s012), some (s006, true)⟩,
 ⟨some s014, .substr (.t s011) (some (.t s013)) none, some (s006, true)⟩,
 ⟨some s015, .call 45 [(.t s014), (.c (.string { data := #[49] }))], some (s006, true)⟩,
 ⟨some s016, .un .not (.t s015), some (s006, true)⟩,
 ⟨some s017, .pick (.t s006) (.t s016) (.c (.bool false)), none⟩,
 xm s002 s017])
 (.ret))
def r_custref_IsNet : List XR := [.tmp s002]
theorem ok_custref_IsNet : okC Try.prog Try.f31.ntmps (bodyOf Try.f31) x_custref_IsNet = true := by kernel_rfl
theorem okr_custref_IsNet : okRs Try.prog Try.f31.results.toList r_custref_IsNet = true := by kernel_rfl

/-- slices.DeleteFunc -/
def x_slices_DeleteFunc_custref_Row : XC :=
 .seq (.region [⟨some s004, .move (.c (.slice none 0 0)), none⟩])
 (.seq (.region [xm s010 s000,
 xm s011 s001,
 ⟨some s012, .call 46 [(.t s010), (.t s011)], none⟩,
 xm s005 s012])
 (.seq (.seq (.region [xm s013 s005,
 ⟨some s014, .bin .eql (.t s013) (.c (.int .i64 (-1))), none⟩])
 (.cond (.t s014)
 (.seq (.region [xm s015 s000,
 xm s004 s015])
 (.ret))
 (.skip)))
 (.seq (.seq (.region [xm s016 s005,
 ⟨some s017, .bin .add (.t s016) (.c (.int .i64 1)), none⟩,
 xm s006 s017])
 (.block 0
 (.loop
 (.seq (.seq (.region [xm s020 s006,
 xm s021 s000,
 ⟨some s022, .len (.t s021), none⟩,
 ⟨some s023, .bin .lss (.t s020) (.t s022), none⟩])
 (.cond (.t s023)
 (.skip)
 (.exit 0)))
 (.seq (.block 1
 (.seq (.region [xm s026 s000,
 xm s027 s006,
 ⟨some s030, .indexSl 2 (.t s026) (.t s027), none⟩,
 ⟨some s031, .load true 2 (.t s030), none⟩,
 ⟨some s007, .alloc 1 [.string { data := #[] }, .int .i64 0], none⟩,
 ⟨none, .store 2 (.t s007) (.t s031), none⟩])
 (.seq (.region [xm s032 s001,
 ⟨some s033, .load true 2 (.t s007), none⟩,
 ⟨some s034, .callv (.t s032) [(.t s033)], none⟩,
 ⟨some s035, .un .not (.t s034), none⟩])
 (.cond (.t s035)
 (.seq (.region [xm s036 s000,
 xm s037 s005,
 ⟨some s040, .load true 2 (.t s007), none⟩,
 ⟨some s041, .indexSl 2 (.t s036) (.t s037), none⟩,
 ⟨none, .store 2 (.t s041) (.t s040), none⟩])
 (.region [xm s042 s005,
 ⟨some s043, .bin .add (.t s042) (.c (.int .i64 1)), none⟩,
 xm s005 s043]))
 (.skip)))))
 (.region [xm s024 s006,
 ⟨some s025, .bin .add (.t s024) (.c (.int .i64 1)), none⟩,
 xm s006 s025]))))))
 (.seq (.region [xm s044 s000,
 xm s045 s005,
 ⟨some s046, .slice 2 (.t s044) (some (.t s045)) none none, none⟩,
 ⟨none, .clear [.string { data := #[] }, .int .i64 0] (.t s046), none⟩])
 (.seq (.region [xm s047 s000,
 xm s050 s005,
 ⟨some s051, .slice 2 (.t s047) none (some (.t s050)) none, none⟩,
 xm s004 s051])
 (.ret))))))
def r_slices_DeleteFunc_custref_Row : List XR := [.tmp s004]
theorem ok_slices_DeleteFunc_custref_Row : okC Try.prog Try.f32.ntmps (bodyOf Try.f32) x_slices_DeleteFunc_custref_Row = true := by kernel_rfl
theorem okr_slices_DeleteFunc_custref_Row : okRs Try.prog Try.f32.results.toList r_slices_DeleteFunc_custref_Row = true := by kernel_rfl

/-- custref.TriePut-1 -/
def x_custref_TriePut_1 : XC :=
 .seq (.region [⟨some s002, .box 0 2 (.t s000), none⟩,
 ⟨some s003, .move (.c (.bool false)), none⟩])
 (.seq (.region [xf 0 s004 s002,
 xl s005 s004,
 xl s006 s001,
 ⟨some s007, .sbin .eql (.t s005) (.t s006), none⟩,
 xm s003 s007])
 (.ret))
def r_custref_TriePut_1 : List XR := [.tmp s003]
theorem ok_custref_TriePut_1 : okC Try.prog Try.f33.ntmps (bodyOf Try.f33) x_custref_TriePut_1 = true := by kernel_rfl
theorem okr_custref_TriePut_1 : okRs Try.prog Try.f33.results.toList r_custref_TriePut_1 = true := by kernel_rfl

/-- pfx.remove -/
def x_prefix_remove : XC :=
 .seq (.region [⟨some s004, .box 1 2 (.t s001), none⟩,
 ⟨some s006, .move (.c (.pointer none)), none⟩,
 ⟨some s007, .move (.c (.bool false)), none⟩])
 (.seq (.seq (.region [xm s012 s000,
 ⟨some s013, .isnilP false (.t s012), none⟩])
 (.cond (.t s013)
 (.seq (.region [⟨some s006, .move (.c (.pointer none)), none⟩,
 ⟨some s007, .move (.c (.bool false)), none⟩])
 (.ret))
 (.skip)))
 (.seq (.region [⟨some s010, .move (.c (.bool false)), none⟩])
 (.seq (.seq (.region [xm s014 s002,
 xf 1 s015 s004,
 xl s016 s015,
 ⟨some s017, .bin .eql (.t s014) (.t s016), none⟩])
 (.cond (.t s017)
 (.region [xm s020 s000,
 xm s021 s000,
 xm s022 s000,
 ⟨some s023, .nilCheck (.t s022), none⟩,
 xf 2 s024 s023,
 xl s025 s024,
 xm s010 s025,
 ⟨some s026, .nilCheck (.t s020), none⟩,
 xf 2 s027 s026,
 ⟨none, .store 1 (.t s027) (.c (.bool false)), none⟩,
 ⟨some s030, .nilCheck (.t s021), none⟩,
 xf 3 s031 s030,
 ⟨none, .store 1 (.t s031) (.c (.int .i64 0)), none⟩])
 (.seq (.region [xf 0 s032 s004,
 xl s033 s032,
 xm s034 s002,
 ⟨some s035, .call 21 [(.t s033), (.t s034)], none⟩,
 xm s011 s035])
 (.regionD [0, 0, 0, 0, 4, 20, 60, 124, 0, 0, 512, 2044, 4092, 8188, 8188, 1, 32769, 114687, 245759, 524287] [xm s037 s000,
 xm s040 s011,
 xm s041 s000,
 xm s042 s011,
 ⟨some s043, .nilCheck (.t s041), none⟩,
 xf 0 s044 s043,
 ⟨some s045, .indexArr 1 2 (.t s044) (.t s042), none⟩,
 xl s046 s045,
 ⟨some s047, .load true 2 (.t s004), none⟩,
 xm s050 s002,
 ⟨some s051, .bin .add (.t s050) (.c (.int .i64 1)), none⟩,
 ⟨some s052, .call 34 [(.t s046), (.t s047), (.t s051)], none⟩,
 xm s036 s052,
 ⟨some s053, .extract 0 (.t s036), none⟩,
 ⟨some s054, .extract 1 (.t s036), none⟩,
 ⟨some s055, .nilCheck (.t s037), none⟩,
 xf 0 s056 s055,
 ⟨some s057, .indexArr 1 2 (.t s056) (.t s040), none⟩,
 ⟨none, .store 1 (.t s057) (.t s053), none⟩,
 xm s010 s054]))))
 (.seq (.seq (.region [xm s060 s000,
 ⟨some s061, .call 39 [(.t s060)], none⟩])
 (.cond (.t s061)
 (.seq (.region [xm s062 s010,
 ⟨some s006, .move (.c (.pointer none)), none⟩,
 xm s007 s062])
 (.ret))
 (.skip)))
 (.seq (.region [xm s063 s000,
 xm s064 s010,
 xm s006 s063,
 xm s007 s064])
 (.ret))))))
def r_prefix_remove : List XR := [.tmp s006, .tmp s007]
theorem ok_prefix_remove : okC Try.prog Try.f34.ntmps (bodyOf Try.f34) x_prefix_remove = true := by kernel_rfl
theorem okr_prefix_remove : okRs Try.prog Try.f34.results.toList r_prefix_remove = true := by kernel_rfl

/-- slices.Clone -/
def x_slices_Clone_custref_Row : XC :=
 .seq (.region [⟨some s002, .move (.c (.slice none 0 0)), none⟩])
 (.seq (.seq (.region [xm s003 s000,
 ⟨some s004, .isnil false (.t s003), none⟩])
 (.cond (.t s004)
 (.seq (.region [⟨some s002, .move (.c (.slice none 0 0)), none⟩])
 (.ret))
 (.skip)))
 (.seq (.region [⟨some s005, .buildSlice 0 0 [.string { data := #[] }, .int .i64 0] [] true, none⟩,
 xm s006 s000,
 ⟨some s007, .append 1 2 24 (.t s005) (.t s006), none⟩,
 xm s002 s007])
 (.ret)))
def r_slices_Clone_custref_Row : List XR := [.tmp s002]
theorem ok_slices_Clone_custref_Row : okC Try.prog Try.f35.ntmps (bodyOf Try.f35) x_slices_Clone_custref_Row = true := by kernel_rfl
theorem okr_slices_Clone_custref_Row : okRs Try.prog Try.f35.results.toList r_slices_Clone_custref_Row = true := by kernel_rfl

/-- custref.TrieRemove-1 -/
def x_custref_TrieRemove_1 : XC :=
 .seq (.region [⟨some s002, .box 0 2 (.t s000), none⟩,
 ⟨some s003, .move (.c (.bool false)), none⟩])
 (.seq (.region [xf 0 s004 s002,
 xl s005 s004,
 xl s006 s001,
 ⟨some s007, .sbin .eql (.t s005) (.t s006), none⟩,
 xm s003 s007])
 (.ret))
def r_custref_TrieRemove_1 : List XR := [.tmp s003]
theorem ok_custref_TrieRemove_1 : okC Try.prog Try.f36.ntmps (bodyOf Try.f36) x_custref_TrieRemove_1 = true := by kernel_rfl
theorem okr_custref_TrieRemove_1 : okRs Try.prog Try.f36.results.toList r_custref_TrieRemove_1 = true := by kernel_rfl

/-- slices.Equal -/
def x_slices_Equal_api_Node : XC :=
 .seq (.region [⟨some s004, .move (.c (.bool false)), none⟩])
 (.seq (.seq (.region [xm s006 s000,
 ⟨some s007, .len (.t s006), none⟩,
 xm s010 s001,
 ⟨some s011, .len (.t s010), none⟩,
 ⟨some s012, .bin .neq (.t s007) (.t s011), none⟩])
 (.cond (.t s012)
 (.seq (.region [⟨some s004, .move (.c (.bool false)), none⟩])
 (.ret))
 (.skip)))
 (.seq (.seq (.region [xm s013 s000,
 ⟨some s014, .len (.t s013), none⟩,
 ⟨some s015, .move (.c (.int .i64 0)), none⟩])
 (.block 0
 (.loop
 (.seq (.region [⟨some s016, .bin .lss (.t s015) (.t s014), none⟩])
 (.seq (.cond (.t s016)
 (.skip)
 (.exit 0))
 (.seq (.block 1
 (.seq (.region [xm s017 s015,
 xm s005 s017])
 (.seq (.regionD [0, 0, 3, 7, 0, 0, 48, 112, 255] [xm s020 s000,
 xm s021 s005,
 ⟨some s022, .indexSl 4 (.t s020) (.t s021), none⟩,
 ⟨some s023, .load true 4 (.t s022), none⟩,
 xm s024 s001,
 xm s025 s005,
 ⟨some s026, .indexSl 4 (.t s024) (.t s025), none⟩,
 ⟨some s027, .load true 4 (.t s026), none⟩,
 ⟨some s030, .eqs true [0, 0, 1, 0] (.t s023) (.t s027), none⟩])
 (.cond (.t s030)
 (.seq (.region [⟨some s004, .move (.c (.bool false)), none⟩])
 (.ret))
 (.skip)))))
 (.region [⟨some s031, .bin .add (.t s015) (.c (.int .i64 1)), none⟩,
 xm s015 s031])))))))
 (.seq (.region [⟨some s004, .move (.c (.bool true)), none⟩])
 (.ret))))
def r_slices_Equal_api_Node : List XR := [.tmp s004]
theorem ok_slices_Equal_api_Node : okC Try.prog Try.f37.ntmps (bodyOf Try.f37) x_slices_Equal_api_Node = true := by kernel_rfl
theorem okr_slices_Equal_api_Node : okRs Try.prog Try.f37.results.toList r_slices_Equal_api_Node = true := by kernel_rfl

/-- pfx.grow -/
def x_prefix_grow : XC :=
 .seq (.region [⟨some s006, .move (.c (.pointer none)), none⟩])
 (.seq (.region [xm s013 s000,
 xm s014 s001,
 ⟨some s015, .nilCheck (.t s014), none⟩,
 xl s016 s015,
 ⟨some s017, .indexSl 4 (.t s013) (.t s016), none⟩,
 ⟨some s020, .load true 4 (.t s017), none⟩,
 ⟨some s007, .alloc 1 [.int .i64 0, .int .i64 0, .bool false, .int .i64 0], none⟩,
 ⟨none, .store 4 (.t s007) (.t s020), none⟩])
 (.seq (.region [xf 2 s021 s007,
 xl s022 s021,
 xf 3 s023 s007,
 xl s024 s023,
 ⟨some s025, .build [.pointer none, .pointer none, .bool false, .int .i64 0] [(2, 1, (.t s022)), (3, 1, (.t s024))], none⟩,
 ⟨some s026, .box 2 4 (.t s025), none⟩,
 xm s010 s026])
 (.seq (.seq (.region [xf 0 s027 s007,
 ⟨some s030, .load true 2 (.t s027), none⟩,
 ⟨some s031, .move (.c (.int .i64 0)), none⟩])
 (.block 0
 (.loop
 (.seq (.region [⟨some s032, .bin .lss (.t s031) (.c (.int .i64 2)), none⟩])
 (.seq (.cond (.t s032)
 (.skip)
 (.exit 0))
 (.seq (.block 1
 (.seq (.region [xm s033 s031,
 ⟨some s034, .indexV false 1 2 (.t s030) (.t s031), none⟩,
 xm s011 s033,
 xm s012 s034])
 (.seq (.seq (.region [xm s035 s012,
 ⟨some s036, .bin .eql (.t s035) (.c (.int .i64 0)), none⟩])
 (.cond (.t s036)
 (.exit 1)
 (.skip)))
 (.seq (.region [xm s037 s001,
 ⟨some s040, .nilCheck (.t s037), none⟩,
 xl s041 s040,
 ⟨some s042, .bin .add (.t s041) (.c (.int .i64 1)), none⟩,
 ⟨some s043, .nilCheck (.t s037), none⟩,
 ⟨none, .store 1 (.t s043) (.t s042), none⟩])
 (.seq (.seq (.region [xm s044 s012,
 xm s045 s001,
 ⟨some s046, .nilCheck (.t s045), none⟩,
 xl s047 s046,
 ⟨some s050, .bin .neq (.t s044) (.t s047), none⟩,
 xm s051 s050,
 ⟨some s052, .move (.t s001), some (s051, false)⟩,
 ⟨some s053, .nilCheck (.t s052), some (s051, false)⟩,
 ⟨some s054, .load false 1 (.t s053), some (s051, false)⟩,
 ⟨some s055, .move (.t s000), some (s051, false)⟩,
 ⟨some s056, .len (.t s055), some (s051, false)⟩,
 ⟨some s057, .bin .geq (.t s054) (.t s056), some (s051, false)⟩,
 ⟨some s060, .pick (.t s051) (.c (.bool true)) (.t s057), none⟩,
 xm s061 s060,
 ⟨some s062, .move (.t s002), some (s061, false)⟩,
 ⟨some s063, .bin .eql (.t s062) (.c (.int .i64 32)), some (s061, false)⟩,
 ⟨some s064, .pick (.t s061) (.c (.bool true)) (.t s063), none⟩])
 (.cond (.t s064)
 (.seq (.region [⟨some s006, .move (.c (.pointer none)), none⟩])
 (.ret))
 (.skip)))
 (.seq (.regionD [0, 0, 0, 0, 0, 16, 60, 1, 129, 511, 1023] [xm s065 s010,
 xm s066 s011,
 xm s067 s000,
 xm s070 s001,
 xm s071 s002,
 ⟨some s072, .bin .add (.t s071) (.c (.int .i64 1)), none⟩,
 ⟨some s073, .call 38 [(.t s067), (.t s070), (.t s072)], none⟩,
 ⟨some s074, .nilCheck (.t s065), none⟩,
 xf 0 s075 s074,
 ⟨some s076, .indexArr 1 2 (.t s075) (.t s066), none⟩,
 ⟨none, .store 1 (.t s076) (.t s073), none⟩])
 (.seq (.region [xm s077 s010,
 xm s100 s011,
 ⟨some s101, .nilCheck (.t s077), none⟩,
 xf 0 s102 s101,
 ⟨some s103, .indexArr 1 2 (.t s102) (.t s100), none⟩,
 xl s104 s103,
 ⟨some s105, .isnilP false (.t s104), none⟩])
 (.cond (.t s105)
 (.seq (.region [⟨some s006, .move (.c (.pointer none)), none⟩])
 (.ret))
 (.skip)))))))))
 (.region [⟨some s106, .bin .add (.t s031) (.c (.int .i64 1)), none⟩,
 xm s031 s106])))))))
 (.seq (.region [xm s107 s010,
 xm s006 s107])
 (.ret)))))
def r_prefix_grow : List XR := [.tmp s006]
theorem ok_prefix_grow : okC Try.prog Try.f38.ntmps (bodyOf Try.f38) x_prefix_grow = true := by kernel_rfl
theorem okr_prefix_grow : okRs Try.prog Try.f38.results.toList r_prefix_grow = true := by kernel_rfl

/-- pfx.bare -/
def x_prefix_bare : XC :=
 .seq (.region [⟨some s002, .move (.c (.bool false)), none⟩])
 (.seq (.region [xm s003 s000,
 ⟨some s004, .nilCheck (.t s003), none⟩,
 xf 2 s005 s004,
 xl s006 s005,
 ⟨some s007, .un .not (.t s006), none⟩,
 xm s010 s007,
 ⟨some s011, .move (.t s000), some (s010, true)⟩,
 ⟨some s012, .nilCheck (.t s011), some (s010, true)⟩,
 ⟨some s013, .fieldAddr 0 (.t s012), some (s010, true)⟩,
 ⟨some s014, .load true 2 (.t s013), some (s010, true)⟩,
 ⟨some s015, .build [.pointer none, .pointer none] [], some (s010, true)⟩,
 ⟨some s016, .eqs false [3, 3] (.t s014) (.t s015), some (s010, true)⟩,
 ⟨some s017, .pick (.t s010) (.t s016) (.c (.bool false)), none⟩,
 xm s002 s017])
 (.ret))
def r_prefix_bare : List XR := [.tmp s002]
theorem ok_prefix_bare : okC Try.prog Try.f39.ntmps (bodyOf Try.f39) x_prefix_bare = true := by kernel_rfl
theorem okr_prefix_bare : okRs Try.prog Try.f39.results.toList r_prefix_bare = true := by kernel_rfl

/-- slices.Sort -/
def x_slices_Sort_string : XC :=
 .seq (.region [xm s003 s000,
 ⟨some s004, .len (.t s003), none⟩,
 xm s002 s004])
 (.region [xm s005 s000,
 xm s006 s002,
 xm s007 s002,
 ⟨some s010, .convInt .u64 (.t s007), none⟩,
 ⟨some s011, .call 48 [(.t s010)], none⟩,
 ⟨some s012, .call 47 [(.t s005), (.c (.int .i64 0)), (.t s006), (.t s011)], none⟩])
def r_slices_Sort_string : List XR := []
theorem ok_slices_Sort_string : okC Try.prog Try.f41.ntmps (bodyOf Try.f41) x_slices_Sort_string = true := by kernel_rfl
theorem okr_slices_Sort_string : okRs Try.prog Try.f41.results.toList r_slices_Sort_string = true := by kernel_rfl

/-- slices.Compact -/
def x_slices_Compact_string : XC :=
 .seq (.region [⟨some s002, .move (.c (.slice none 0 0)), none⟩])
 (.seq (.seq (.region [xm s006 s000,
 ⟨some s007, .len (.t s006), none⟩,
 ⟨some s010, .bin .lss (.t s007) (.c (.int .i64 2)), none⟩])
 (.cond (.t s010)
 (.seq (.region [xm s011 s000,
 xm s002 s011])
 (.ret))
 (.skip)))
 (.seq (.seq (.region [⟨some s003, .move (.c (.int .i64 1)), none⟩])
 (.block 0
 (.loop
 (.seq (.seq (.region [xm s012 s003,
 xm s013 s000,
 ⟨some s014, .len (.t s013), none⟩,
 ⟨some s015, .bin .lss (.t s012) (.t s014), none⟩])
 (.cond (.t s015)
 (.skip)
 (.exit 0)))
 (.seq (.block 1
 (.seq (.regionD [0, 0, 3, 7, 0, 0, 32, 112, 240, 511] [xm s020 s000,
 xm s021 s003,
 ⟨some s022, .indexSl 1 (.t s020) (.t s021), none⟩,
 xl s023 s022,
 xm s024 s000,
 xm s025 s003,
 ⟨some s026, .bin .sub (.t s025) (.c (.int .i64 1)), none⟩,
 ⟨some s027, .indexSl 1 (.t s024) (.t s026), none⟩,
 xl s030 s027,
 ⟨some s031, .sbin .eql (.t s023) (.t s030), none⟩])
 (.cond (.t s031)
 (.seq (.region [xm s032 s000,
 xm s033 s003,
 ⟨some s034, .slice 1 (.t s032) (some (.t s033)) none none, none⟩,
 xm s004 s034])
 (.seq (.seq (.region [⟨some s005, .move (.c (.int .i64 1)), none⟩])
 (.block 2
 (.loop
 (.seq (.seq (.region [xm s035 s005,
 xm s036 s004,
 ⟨some s037, .len (.t s036), none⟩,
 ⟨some s040, .bin .lss (.t s035) (.t s037), none⟩])
 (.cond (.t s040)
 (.skip)
 (.exit 2)))
 (.seq (.block 3
 (.seq (.regionD [0, 0, 3, 7, 0, 0, 32, 112, 240, 511] [xm s043 s004,
 xm s044 s005,
 ⟨some s045, .indexSl 1 (.t s043) (.t s044), none⟩,
 xl s046 s045,
 xm s047 s004,
 xm s050 s005,
 ⟨some s051, .bin .sub (.t s050) (.c (.int .i64 1)), none⟩,
 ⟨some s052, .indexSl 1 (.t s047) (.t s051), none⟩,
 xl s053 s052,
 ⟨some s054, .sbin .neq (.t s046) (.t s053), none⟩])
 (.cond (.t s054)
 (.seq (.region [xm s055 s000,
 xm s056 s003,
 xm s057 s004,
 xm s060 s005,
 ⟨some s061, .indexSl 1 (.t s057) (.t s060), none⟩,
 xl s062 s061,
 ⟨some s063, .indexSl 1 (.t s055) (.t s056), none⟩,
 ⟨none, .store 1 (.t s063) (.t s062), none⟩])
 (.region [xm s064 s003,
 ⟨some s065, .bin .add (.t s064) (.c (.int .i64 1)), none⟩,
 xm s003 s065]))
 (.skip))))
 (.region [xm s041 s005,
 ⟨some s042, .bin .add (.t s041) (.c (.int .i64 1)), none⟩,
 xm s005 s042]))))))
 (.seq (.region [xm s066 s000,
 xm s067 s003,
 ⟨some s070, .slice 1 (.t s066) (some (.t s067)) none none, none⟩,
 ⟨none, .clear [.string { data := #[] }] (.t s070), none⟩])
 (.seq (.region [xm s071 s000,
 xm s072 s003,
 ⟨some s073, .slice 1 (.t s071) none (some (.t s072)) none, none⟩,
 xm s002 s073])
 (.ret)))))
 (.skip))))
 (.region [xm s016 s003,
 ⟨some s017, .bin .add (.t s016) (.c (.int .i64 1)), none⟩,
 xm s003 s017]))))))
 (.seq (.region [xm s074 s000,
 xm s002 s074])
 (.ret))))
def r_slices_Compact_string : List XR := [.tmp s002]
theorem ok_slices_Compact_string : okC Try.prog Try.f42.ntmps (bodyOf Try.f42) x_slices_Compact_string = true := by kernel_rfl
theorem okr_slices_Compact_string : okRs Try.prog Try.f42.results.toList r_slices_Compact_string = true := by kernel_rfl

/-- slices.BinarySearch -/
def x_slices_BinarySearch_string : XC :=
 .seq (.region [⟨some s004, .move (.c (.int .i64 0)), none⟩,
 ⟨some s005, .move (.c (.bool false)), none⟩])
 (.seq (.region [xm s012 s000,
 ⟨some s013, .len (.t s012), none⟩,
 xm s006 s013])
 (.seq (.region [xm s014 s006,
 ⟨some s007, .move (.c (.int .i64 0)), none⟩,
 xm s010 s014])
 (.seq (.block 0
 (.loop
 (.seq (.seq (.region [xm s015 s007,
 xm s016 s010,
 ⟨some s017, .bin .lss (.t s015) (.t s016), none⟩])
 (.cond (.t s017)
 (.skip)
 (.exit 0)))
 (.block 1
 (.seq (.region [xm s020 s007,
 xm s021 s010,
 ⟨some s022, .bin .add (.t s020) (.t s021), none⟩,
 ⟨some s023, .convInt .u64 (.t s022), none⟩,
 ⟨some s024, .bin .shr (.t s023) (.c (.int .u64 1)), none⟩,
 ⟨some s025, .convInt .i64 (.t s024), none⟩,
 xm s011 s025])
 (.seq (.region [xm s026 s000,
 xm s027 s011,
 ⟨some s030, .indexSl 1 (.t s026) (.t s027), none⟩,
 xl s031 s030,
 xm s032 s001,
 ⟨some s033, .call 49 [(.t s031), (.t s032)], none⟩])
 (.cond (.t s033)
 (.region [xm s034 s011,
 ⟨some s035, .bin .add (.t s034) (.c (.int .i64 1)), none⟩,
 xm s007 s035])
 (.region [xm s036 s011,
 xm s010 s036]))))))))
 (.seq (.region [xm s037 s007,
 xm s040 s007,
 xm s041 s006,
 ⟨some s042, .bin .lss (.t s040) (.t s041), none⟩,
 xm s043 s042,
 ⟨some s044, .move (.t s000), some (s043, true)⟩,
 ⟨some s045, .move (.t s007), some (s043, true)⟩,
 ⟨some s046, .indexSl 1 (.t s044) (.t s045), some (s043, true)⟩,
 ⟨some s047, .load false 1 (.t s046), some (s043, true)⟩,
 ⟨some s050, .move (.t s001), some (s043, true)⟩,
 ⟨some s051, .sbin .eql (.t s047) (.t s050), some (s043, true)⟩,
 ⟨some s052, .move (.t s051), some (s043, true)⟩,
 ⟨some s053, .move (.t s000), some (s052, false)⟩,
 ⟨some s054, .move (.t s007), some (s052, false)⟩,
 ⟨some s055, .indexSl 1 (.t s053) (.t s054), some (s052, false)⟩,
 ⟨some s056, .load false 1 (.t s055), some (s052, false)⟩,
 ⟨some s057, .call 50 [(.t s056)], some (s052, false)⟩,
 ⟨some s060, .move (.t s057), some (s052, false)⟩,
 ⟨some s061, .move (.t s001), some (s060, true)⟩,
 ⟨some s062, .call 50 [(.t s061)], some (s060, true)⟩,
 ⟨some s063, .pick (.t s060) (.t s062) (.c (.bool false)), some (s052, false)⟩,
 ⟨some s064, .pick (.t s052) (.c (.bool true)) (.t s063), some (s043, true)⟩,
 ⟨some s065, .pick (.t s043) (.t s064) (.c (.bool false)), none⟩,
 xm s004 s037,
 xm s005 s065])
 (.ret)))))
def r_slices_BinarySearch_string : List XR := [.tmp s004, .tmp s005]
theorem ok_slices_BinarySearch_string : okC Try.prog Try.f43.ntmps (bodyOf Try.f43) x_slices_BinarySearch_string = true := by kernel_rfl
theorem okr_slices_BinarySearch_string : okRs Try.prog Try.f43.results.toList r_slices_BinarySearch_string = true := by kernel_rfl

/-- pfx.lay -/
def x_prefix_lay : XC :=
 .seq (.region [⟨some s004, .move (.c (.int .i64 0)), none⟩])
 (.seq (.region [xm s011 s001,
 ⟨some s012, .nilCheck (.t s011), none⟩,
 xl s013 s012,
 ⟨some s014, .len (.t s013), none⟩,
 xm s005 s014])
 (.seq (.regionD [0, 0, 2, 6, 0, 16, 48, 112, 0, 256, 768, 1792, 4080, 8176, 16382, 32767, 65535] [xm s015 s001,
 xm s016 s001,
 ⟨some s017, .nilCheck (.t s016), none⟩,
 xl s020 s017,
 xm s021 s000,
 ⟨some s022, .nilCheck (.t s021), none⟩,
 xf 2 s023 s022,
 xl s024 s023,
 xm s025 s000,
 ⟨some s026, .nilCheck (.t s025), none⟩,
 xf 3 s027 s026,
 xl s030 s027,
 ⟨some s031, .build [.int .i64 0, .int .i64 0, .bool false, .int .i64 0] [(2, 1, (.t s024)), (3, 1, (.t s030))], none⟩,
 ⟨some s032, .buildSlice 2 1 [.int .i64 0, .int .i64 0, .bool false, .int .i64 0] [(0, (.t s031))] true, none⟩,
 ⟨some s033, .append 3 4 32 (.t s020) (.t s032), none⟩,
 ⟨some s034, .nilCheck (.t s015), none⟩,
 ⟨none, .store 1 (.t s034) (.t s033), none⟩])
 (.seq (.seq (.region [xm s035 s000,
 ⟨some s036, .nilCheck (.t s035), none⟩,
 xf 0 s037 s036,
 ⟨some s040, .load true 2 (.t s037), none⟩,
 ⟨some s041, .move (.c (.int .i64 0)), none⟩])
 (.block 0
 (.loop
 (.seq (.region [⟨some s042, .bin .lss (.t s041) (.c (.int .i64 2)), none⟩])
 (.seq (.cond (.t s042)
 (.skip)
 (.exit 0))
 (.seq (.block 1
 (.seq (.region [xm s043 s041,
 ⟨some s044, .indexV false 1 2 (.t s040) (.t s041), none⟩,
 xm s006 s043,
 xm s007 s044])
 (.seq (.region [xm s045 s007,
 ⟨some s046, .isnilP true (.t s045), none⟩])
 (.cond (.t s046)
 (.seq (.region [xm s047 s007,
 xm s050 s001,
 ⟨some s051, .call 44 [(.t s047), (.t s050)], none⟩,
 xm s010 s051])
 (.region [xm s052 s001,
 ⟨some s053, .nilCheck (.t s052), none⟩,
 xl s054 s053,
 xm s055 s005,
 xm s056 s006,
 xm s057 s010,
 ⟨some s060, .indexSl 4 (.t s054) (.t s055), none⟩,
 xf 0 s061 s060,
 ⟨some s062, .indexArr 1 2 (.t s061) (.t s056), none⟩,
 ⟨none, .store 1 (.t s062) (.t s057), none⟩]))
 (.skip)))))
 (.region [⟨some s063, .bin .add (.t s041) (.c (.int .i64 1)), none⟩,
 xm s041 s063])))))))
 (.seq (.region [xm s064 s005,
 xm s004 s064])
 (.ret)))))
def r_prefix_lay : List XR := [.tmp s004]
theorem ok_prefix_lay : okC Try.prog Try.f44.ntmps (bodyOf Try.f44) x_prefix_lay = true := by kernel_rfl
theorem okr_prefix_lay : okRs Try.prog Try.f44.results.toList r_prefix_lay = true := by kernel_rfl

/-- strings.Contains -/
def x_strings_Contains : XC :=
 .seq (.region [⟨some s004, .move (.c (.bool false)), none⟩])
 (.seq (.region [xm s005 s000,
 xm s006 s001,
 ⟨some s007, .call 51 [(.t s005), (.t s006)], none⟩,
 ⟨some s010, .bin .geq (.t s007) (.c (.int .i64 0)), none⟩,
 xm s004 s010])
 (.ret))
def r_strings_Contains : List XR := [.tmp s004]
theorem ok_strings_Contains : okC Try.prog Try.f45.ntmps (bodyOf Try.f45) x_strings_Contains = true := by kernel_rfl
theorem okr_strings_Contains : okRs Try.prog Try.f45.results.toList r_strings_Contains = true := by kernel_rfl

/-- slices.IndexFunc -/
def x_slices_IndexFunc_custref_Row : XC :=
 .seq (.region [⟨some s004, .move (.c (.int .i64 0)), none⟩])
 (.seq (.seq (.region [xm s006 s000,
 ⟨some s007, .len (.t s006), none⟩,
 ⟨some s010, .move (.c (.int .i64 0)), none⟩])
 (.block 0
 (.loop
 (.seq (.region [⟨some s011, .bin .lss (.t s010) (.t s007), none⟩])
 (.seq (.cond (.t s011)
 (.skip)
 (.exit 0))
 (.seq (.block 1
 (.seq (.region [xm s012 s010,
 xm s005 s012])
 (.seq (.region [xm s013 s001,
 xm s014 s000,
 xm s015 s005,
 ⟨some s016, .indexSl 2 (.t s014) (.t s015), none⟩,
 ⟨some s017, .load true 2 (.t s016), none⟩,
 ⟨some s020, .callv (.t s013) [(.t s017)], none⟩])
 (.cond (.t s020)
 (.seq (.region [xm s021 s005,
 xm s004 s021])
 (.ret))
 (.skip)))))
 (.region [⟨some s022, .bin .add (.t s010) (.c (.int .i64 1)), none⟩,
 xm s010 s022])))))))
 (.seq (.region [⟨some s004, .move (.c (.int .i64 (-1))), none⟩])
 (.ret)))
def r_slices_IndexFunc_custref_Row : List XR := [.tmp s004]
theorem ok_slices_IndexFunc_custref_Row : okC Try.prog Try.f46.ntmps (bodyOf Try.f46) x_slices_IndexFunc_custref_Row = true := by kernel_rfl
theorem okr_slices_IndexFunc_custref_Row : okRs Try.prog Try.f46.results.toList r_slices_IndexFunc_custref_Row = true := by kernel_rfl

/-- slices.pdqsortOrdered -/
def x_slices_pdqsortOrdered_string : XC :=
 .seq (.region [⟨some s010, .move (.c (.bool true)), none⟩])
 (.seq (.region [⟨some s011, .move (.c (.bool true)), none⟩])
 (.block 0
 (.loop
 (.block 1
 (.seq (.region [xm s023 s002,
 xm s024 s001,
 ⟨some s025, .bin .sub (.t s023) (.t s024), none⟩,
 xm s012 s025])
 (.seq (.seq (.region [xm s026 s012,
 ⟨some s027, .bin .leq (.t s026) (.c (.int .i64 12)), none⟩])
 (.cond (.t s027)
 (.seq (.region [xm s030 s000,
 xm s031 s001,
 xm s032 s002,
 ⟨some s033, .call 52 [(.t s030), (.t s031), (.t s032)], none⟩])
 (.ret))
 (.skip)))
 (.seq (.seq (.region [xm s034 s003,
 ⟨some s035, .bin .eql (.t s034) (.c (.int .i64 0)), none⟩])
 (.cond (.t s035)
 (.seq (.region [xm s036 s000,
 xm s037 s001,
 xm s040 s002,
 ⟨some s041, .call 53 [(.t s036), (.t s037), (.t s040)], none⟩])
 (.ret))
 (.skip)))
 (.seq (.seq (.region [xm s042 s010,
 ⟨some s043, .un .not (.t s042), none⟩])
 (.cond (.t s043)
 (.seq (.region [xm s044 s000,
 xm s045 s001,
 xm s046 s002,
 ⟨some s047, .call 54 [(.t s044), (.t s045), (.t s046)], none⟩])
 (.region [xm s050 s003,
 ⟨some s051, .bin .sub (.t s050) (.c (.int .i64 1)), none⟩,
 xm s003 s051]))
 (.skip)))
 (.seq (.region [xm s053 s000,
 xm s054 s001,
 xm s055 s002,
 ⟨some s056, .call 55 [(.t s053), (.t s054), (.t s055)], none⟩,
 xm s052 s056,
 ⟨some s057, .extract 0 (.t s052), none⟩,
 ⟨some s060, .extract 1 (.t s052), none⟩,
 xm s013 s057,
 xm s014 s060])
 (.seq (.seq (.region [xm s061 s014,
 ⟨some s062, .bin .eql (.t s061) (.c (.int .i64 2)), none⟩])
 (.cond (.t s062)
 (.seq (.region [xm s063 s000,
 xm s064 s001,
 xm s065 s002,
 ⟨some s066, .call 56 [(.t s063), (.t s064), (.t s065)], none⟩])
 (.seq (.region [xm s067 s002,
 ⟨some s070, .bin .sub (.t s067) (.c (.int .i64 1)), none⟩,
 xm s071 s013,
 xm s072 s001,
 ⟨some s073, .bin .sub (.t s071) (.t s072), none⟩,
 ⟨some s074, .bin .sub (.t s070) (.t s073), none⟩,
 xm s013 s074])
 (.region [⟨some s014, .move (.c (.int .i64 1)), none⟩])))
 (.skip)))
 (.seq (.seq (.region [xm s075 s010,
 xm s076 s075,
 ⟨some s077, .move (.t s011), some (s076, true)⟩,
 ⟨some s100, .pick (.t s076) (.t s077) (.c (.bool false)), none⟩,
 xm s101 s100,
 ⟨some s102, .move (.t s014), some (s101, true)⟩,
 ⟨some s103, .bin .eql (.t s102) (.c (.int .i64 1)), some (s101, true)⟩,
 ⟨some s104, .pick (.t s101) (.t s103) (.c (.bool false)), none⟩])
 (.cond (.t s104)
 (.seq (.region [xm s105 s000,
 xm s106 s001,
 xm s107 s002,
 ⟨some s110, .call 57 [(.t s105), (.t s106), (.t s107)], none⟩])
 (.cond (.t s110)
 (.ret)
 (.skip)))
 (.skip)))
 (.seq (.seq (.regionD [0, 1, 3, 7, 7, 23, 63, 127, 7, 7, 775, 1799, 4095, 8191, 16383] [xm s111 s001,
 ⟨some s112, .bin .gtr (.t s111) (.c (.int .i64 0)), none⟩,
 xm s113 s112,
 ⟨some s114, .move (.t s000), some (s113, true)⟩,
 ⟨some s115, .move (.t s001), some (s113, true)⟩,
 ⟨some s116, .bin .sub (.t s115) (.c (.int .i64 1)), some (s113, true)⟩,
 ⟨some s117, .indexSl 1 (.t s114) (.t s116), some (s113, true)⟩,
 ⟨some s120, .load false 1 (.t s117), some (s113, true)⟩,
 ⟨some s121, .move (.t s000), some (s113, true)⟩,
 ⟨some s122, .move (.t s013), some (s113, true)⟩,
 ⟨some s123, .indexSl 1 (.t s121) (.t s122), some (s113, true)⟩,
 ⟨some s124, .load false 1 (.t s123), some (s113, true)⟩,
 ⟨some s125, .call 49 [(.t s120), (.t s124)], some (s113, true)⟩,
 ⟨some s126, .un .not (.t s125), some (s113, true)⟩,
 ⟨some s127, .pick (.t s113) (.t s126) (.c (.bool false)), none⟩])
 (.cond (.t s127)
 (.seq (.region [xm s130 s000,
 xm s131 s001,
 xm s132 s002,
 xm s133 s013,
 ⟨some s134, .call 58 [(.t s130), (.t s131), (.t s132), (.t s133)], none⟩,
 xm s015 s134])
 (.seq (.region [xm s135 s015,
 xm s001 s135])
 (.exit 1)))
 (.skip)))
 (.seq (.region [xm s137 s000,
 xm s140 s001,
 xm s141 s002,
 xm s142 s013,
 ⟨some s143, .call 59 [(.t s137), (.t s140), (.t s141), (.t s142)], none⟩,
 xm s136 s143,
 ⟨some s144, .extract 0 (.t s136), none⟩,
 ⟨some s145, .extract 1 (.t s136), none⟩,
 xm s016 s144,
 xm s017 s145])
 (.seq (.region [xm s146 s017,
 xm s011 s146])
 (.seq (.region [xm s147 s016,
 xm s150 s001,
 ⟨some s151, .bin .sub (.t s147) (.t s150), none⟩,
 xm s152 s002,
 xm s153 s016,
 ⟨some s154, .bin .sub (.t s152) (.t s153), none⟩,
 xm s020 s151,
 xm s021 s154])
 (.seq (.region [xm s155 s012,
 ⟨some s156, .bin .quo (.t s155) (.c (.int .i64 8)), none⟩,
 xm s022 s156])
 (.seq (.region [xm s157 s020,
 xm s160 s021,
 ⟨some s161, .bin .lss (.t s157) (.t s160), none⟩])
 (.cond (.t s161)
 (.seq (.region [xm s162 s020,
 xm s163 s022,
 ⟨some s164, .bin .geq (.t s162) (.t s163), none⟩,
 xm s010 s164])
 (.seq (.region [xm s165 s000,
 xm s166 s001,
 xm s167 s016,
 xm s170 s003,
 ⟨some s171, .call 47 [(.t s165), (.t s166), (.t s167), (.t s170)], none⟩])
 (.region [xm s172 s016,
 ⟨some s173, .bin .add (.t s172) (.c (.int .i64 1)), none⟩,
 xm s001 s173])))
 (.seq (.region [xm s174 s021,
 xm s175 s022,
 ⟨some s176, .bin .geq (.t s174) (.t s175), none⟩,
 xm s010 s176])
 (.seq (.region [xm s177 s000,
 xm s200 s016,
 ⟨some s201, .bin .add (.t s200) (.c (.int .i64 1)), none⟩,
 xm s202 s002,
 xm s203 s003,
 ⟨some s204, .call 47 [(.t s177), (.t s201), (.t s202), (.t s203)], none⟩])
 (.region [xm s205 s016,
 xm s002 s205])))))))))))))))))))))
def r_slices_pdqsortOrdered_string : List XR := []
theorem ok_slices_pdqsortOrdered_string : okC Try.prog Try.f47.ntmps (bodyOf Try.f47) x_slices_pdqsortOrdered_string = true := by kernel_rfl
theorem okr_slices_pdqsortOrdered_string : okRs Try.prog Try.f47.results.toList r_slices_pdqsortOrdered_string = true := by kernel_rfl

/-- bits.Len -/
def x_bits_Len : XC :=
 .seq (.region [⟨some s002, .move (.c (.int .i64 0)), none⟩])
 (.seq (.cond (.c (.bool false))
 (.seq (.region [xm s003 s000,
 ⟨some s004, .convInt .u32 (.t s003), none⟩,
 ⟨some s005, .call 60 [(.t s004)], none⟩,
 xm s002 s005])
 (.ret))
 (.skip))
 (.seq (.region [xm s006 s000,
 ⟨some s007, .call 61 [(.t s006)], none⟩,
 xm s002 s007])
 (.ret)))
def r_bits_Len : List XR := [.tmp s002]
theorem ok_bits_Len : okC Try.prog Try.f48.ntmps (bodyOf Try.f48) x_bits_Len = true := by kernel_rfl
theorem okr_bits_Len : okRs Try.prog Try.f48.results.toList r_bits_Len = true := by kernel_rfl

/-- cmp.Less -/
def x_cmp_Less_string : XC :=
 .seq (.region [⟨some s004, .move (.c (.bool false)), none⟩])
 (.seq (.region [xm s005 s000,
 ⟨some s006, .call 62 [(.t s005)], none⟩,
 xm s007 s006,
 ⟨some s010, .move (.t s001), some (s007, true)⟩,
 ⟨some s011, .call 62 [(.t s010)], some (s007, true)⟩,
 ⟨some s012, .un .not (.t s011), some (s007, true)⟩,
 ⟨some s013, .pick (.t s007) (.t s012) (.c (.bool false)), none⟩,
 xm s014 s013,
 ⟨some s015, .move (.t s000), some (s014, false)⟩,
 ⟨some s016, .move (.t s001), some (s014, false)⟩,
 ⟨some s017, .sbin .lss (.t s015) (.t s016), some (s014, false)⟩,
 ⟨some s020, .pick (.t s014) (.c (.bool true)) (.t s017), none⟩,
 xm s004 s020])
 (.ret))
def r_cmp_Less_string : List XR := [.tmp s004]
theorem ok_cmp_Less_string : okC Try.prog Try.f49.ntmps (bodyOf Try.f49) x_cmp_Less_string = true := by kernel_rfl
theorem okr_cmp_Less_string : okRs Try.prog Try.f49.results.toList r_cmp_Less_string = true := by kernel_rfl

/-- slices.isNaN -/
def x_slices_isNaN_string : XC :=
 .seq (.region [⟨some s002, .move (.c (.bool false)), none⟩])
 (.seq (.region [xm s003 s000,
 xm s004 s000,
 ⟨some s005, .sbin .neq (.t s003) (.t s004), none⟩,
 xm s002 s005])
 (.ret))
def r_slices_isNaN_string : List XR := [.tmp s002]
theorem ok_slices_isNaN_string : okC Try.prog Try.f50.ntmps (bodyOf Try.f50) x_slices_isNaN_string = true := by kernel_rfl
theorem okr_slices_isNaN_string : okRs Try.prog Try.f50.results.toList r_slices_isNaN_string = true := by kernel_rfl

/-- strings.Index -/
def x_strings_Index : XC :=
 .seq (.region [⟨some s004, .move (.c (.int .i64 0)), none⟩])
 (.seq (.region [xm s005 s000,
 xm s006 s001,
 ⟨some s007, .call 63 [(.t s005), (.t s006)], none⟩,
 xm s004 s007])
 (.ret))
def r_strings_Index : List XR := [.tmp s004]
theorem ok_strings_Index : okC Try.prog Try.f51.ntmps (bodyOf Try.f51) x_strings_Index = true := by kernel_rfl
theorem okr_strings_Index : okRs Try.prog Try.f51.results.toList r_strings_Index = true := by kernel_rfl

/-- slices.insertionSortOrdered -/
def x_slices_insertionSortOrdered_string : XC :=
 .seq (.region [xm s010 s001,
 ⟨some s011, .bin .add (.t s010) (.c (.int .i64 1)), none⟩,
 xm s006 s011])
 (.block 0
 (.loop
 (.seq (.seq (.region [xm s012 s006,
 xm s013 s002,
 ⟨some s014, .bin .lss (.t s012) (.t s013), none⟩])
 (.cond (.t s014)
 (.skip)
 (.exit 0)))
 (.seq (.block 1
 (.seq (.region [xm s017 s006,
 xm s007 s017])
 (.block 2
 (.loop
 (.seq (.seq (.regionD [0, 0, 3, 7, 15, 15, 63, 127, 15, 15, 527, 1807, 3855, 8191, 16383] [xm s020 s007,
 xm s021 s001,
 ⟨some s022, .bin .gtr (.t s020) (.t s021), none⟩,
 xm s023 s022,
 ⟨some s024, .move (.t s000), some (s023, true)⟩,
 ⟨some s025, .move (.t s007), some (s023, true)⟩,
 ⟨some s026, .indexSl 1 (.t s024) (.t s025), some (s023, true)⟩,
 ⟨some s027, .load false 1 (.t s026), some (s023, true)⟩,
 ⟨some s030, .move (.t s000), some (s023, true)⟩,
 ⟨some s031, .move (.t s007), some (s023, true)⟩,
 ⟨some s032, .bin .sub (.t s031) (.c (.int .i64 1)), some (s023, true)⟩,
 ⟨some s033, .indexSl 1 (.t s030) (.t s032), some (s023, true)⟩,
 ⟨some s034, .load false 1 (.t s033), some (s023, true)⟩,
 ⟨some s035, .call 49 [(.t s027), (.t s034)], some (s023, true)⟩,
 ⟨some s036, .pick (.t s023) (.t s035) (.c (.bool false)), none⟩])
 (.cond (.t s036)
 (.skip)
 (.exit 2)))
 (.seq (.block 3
 (.regionD [0, 0, 0, 0, 8, 0, 0, 64, 224, 480, 0, 0, 3072, 7168, 16355, 32739, 65535, 131071] [xm s041 s000,
 xm s042 s007,
 xm s043 s000,
 xm s044 s007,
 ⟨some s045, .bin .sub (.t s044) (.c (.int .i64 1)), none⟩,
 xm s046 s000,
 xm s047 s007,
 ⟨some s050, .bin .sub (.t s047) (.c (.int .i64 1)), none⟩,
 ⟨some s051, .indexSl 1 (.t s046) (.t s050), none⟩,
 xl s052 s051,
 xm s053 s000,
 xm s054 s007,
 ⟨some s055, .indexSl 1 (.t s053) (.t s054), none⟩,
 xl s056 s055,
 ⟨some s057, .indexSl 1 (.t s041) (.t s042), none⟩,
 ⟨none, .store 1 (.t s057) (.t s052), none⟩,
 ⟨some s060, .indexSl 1 (.t s043) (.t s045), none⟩,
 ⟨none, .store 1 (.t s060) (.t s056), none⟩]))
 (.region [xm s037 s007,
 ⟨some s040, .bin .sub (.t s037) (.c (.int .i64 1)), none⟩,
 xm s007 s040])))))))
 (.region [xm s015 s006,
 ⟨some s016, .bin .add (.t s015) (.c (.int .i64 1)), none⟩,
 xm s006 s016])))))
def r_slices_insertionSortOrdered_string : List XR := []
theorem ok_slices_insertionSortOrdered_string : okC Try.prog Try.f52.ntmps (bodyOf Try.f52) x_slices_insertionSortOrdered_string = true := by kernel_rfl
theorem okr_slices_insertionSortOrdered_string : okRs Try.prog Try.f52.results.toList r_slices_insertionSortOrdered_string = true := by kernel_rfl

/-- slices.heapSortOrdered -/
def x_slices_heapSortOrdered_string : XC :=
 .seq (.region [xm s013 s001,
 xm s006 s013])
 (.seq (.region [⟨some s007, .move (.c (.int .i64 0)), none⟩])
 (.seq (.region [xm s014 s002,
 xm s015 s001,
 ⟨some s016, .bin .sub (.t s014) (.t s015), none⟩,
 xm s010 s016])
 (.seq (.seq (.region [xm s017 s010,
 ⟨some s020, .bin .sub (.t s017) (.c (.int .i64 1)), none⟩,
 ⟨some s021, .bin .quo (.t s020) (.c (.int .i64 2)), none⟩,
 xm s011 s021])
 (.block 0
 (.loop
 (.seq (.seq (.region [xm s022 s011,
 ⟨some s023, .bin .geq (.t s022) (.c (.int .i64 0)), none⟩])
 (.cond (.t s023)
 (.skip)
 (.exit 0)))
 (.seq (.block 1
 (.region [xm s026 s000,
 xm s027 s011,
 xm s030 s010,
 xm s031 s006,
 ⟨some s032, .call 64 [(.t s026), (.t s027), (.t s030), (.t s031)], none⟩]))
 (.region [xm s024 s011,
 ⟨some s025, .bin .sub (.t s024) (.c (.int .i64 1)), none⟩,
 xm s011 s025]))))))
 (.seq (.region [xm s033 s010,
 ⟨some s034, .bin .sub (.t s033) (.c (.int .i64 1)), none⟩,
 xm s012 s034])
 (.block 2
 (.loop
 (.seq (.seq (.region [xm s035 s012,
 ⟨some s036, .bin .geq (.t s035) (.c (.int .i64 0)), none⟩])
 (.cond (.t s036)
 (.skip)
 (.exit 2)))
 (.seq (.block 3
 (.seq (.regionD [0, 0, 0, 0, 0, 24, 0, 0, 0, 384, 960, 1984, 0, 0, 12288, 28672, 65475, 131011, 262143, 524287] [xm s041 s000,
 xm s042 s006,
 xm s043 s000,
 xm s044 s006,
 xm s045 s012,
 ⟨some s046, .bin .add (.t s044) (.t s045), none⟩,
 xm s047 s000,
 xm s050 s006,
 xm s051 s012,
 ⟨some s052, .bin .add (.t s050) (.t s051), none⟩,
 ⟨some s053, .indexSl 1 (.t s047) (.t s052), none⟩,
 xl s054 s053,
 xm s055 s000,
 xm s056 s006,
 ⟨some s057, .indexSl 1 (.t s055) (.t s056), none⟩,
 xl s060 s057,
 ⟨some s061, .indexSl 1 (.t s041) (.t s042), none⟩,
 ⟨none, .store 1 (.t s061) (.t s054), none⟩,
 ⟨some s062, .indexSl 1 (.t s043) (.t s046), none⟩,
 ⟨none, .store 1 (.t s062) (.t s060), none⟩])
 (.region [xm s063 s000,
 xm s064 s007,
 xm s065 s012,
 xm s066 s006,
 ⟨some s067, .call 64 [(.t s063), (.t s064), (.t s065), (.t s066)], none⟩])))
 (.region [xm s037 s012,
 ⟨some s040, .bin .sub (.t s037) (.c (.int .i64 1)), none⟩,
 xm s012 s040])))))))))
def r_slices_heapSortOrdered_string : List XR := []
theorem ok_slices_heapSortOrdered_string : okC Try.prog Try.f53.ntmps (bodyOf Try.f53) x_slices_heapSortOrdered_string = true := by kernel_rfl
theorem okr_slices_heapSortOrdered_string : okRs Try.prog Try.f53.results.toList r_slices_heapSortOrdered_string = true := by kernel_rfl

/-- slices.breakPatternsOrdered -/
def x_slices_breakPatternsOrdered_string : XC :=
 .seq (.region [xm s013 s002,
 xm s014 s001,
 ⟨some s015, .bin .sub (.t s013) (.t s014), none⟩,
 xm s006 s015])
 (.seq (.region [xm s016 s006,
 ⟨some s017, .bin .geq (.t s016) (.c (.int .i64 8)), none⟩])
 (.cond (.t s017)
 (.seq (.region [xm s020 s006,
 ⟨some s021, .convInt .u64 (.t s020), none⟩,
 ⟨some s007, .alloc 0 [.int .u64 0], none⟩,
 ⟨none, .store 1 (.t s007) (.t s021), none⟩])
 (.seq (.region [xm s022 s006,
 ⟨some s023, .call 65 [(.t s022)], none⟩,
 xm s010 s023])
 (.seq (.region [xm s024 s001,
 xm s025 s006,
 ⟨some s026, .bin .quo (.t s025) (.c (.int .i64 4)), none⟩,
 ⟨some s027, .bin .mul (.t s026) (.c (.int .i64 2)), none⟩,
 ⟨some s030, .bin .add (.t s024) (.t s027), none⟩,
 ⟨some s031, .bin .sub (.t s030) (.c (.int .i64 1)), none⟩,
 xm s011 s031])
 (.block 0
 (.loop
 (.seq (.seq (.region [xm s032 s011,
 xm s033 s001,
 xm s034 s006,
 ⟨some s035, .bin .quo (.t s034) (.c (.int .i64 4)), none⟩,
 ⟨some s036, .bin .mul (.t s035) (.c (.int .i64 2)), none⟩,
 ⟨some s037, .bin .add (.t s033) (.t s036), none⟩,
 ⟨some s040, .bin .add (.t s037) (.c (.int .i64 1)), none⟩,
 ⟨some s041, .bin .leq (.t s032) (.t s040), none⟩])
 (.cond (.t s041)
 (.skip)
 (.exit 0)))
 (.seq (.block 1
 (.seq (.region [⟨some s044, .call 66 [(.t s007)], none⟩,
 xm s045 s010,
 ⟨some s046, .bin .sub (.t s045) (.c (.int .u64 1)), none⟩,
 ⟨some s047, .bin .and (.t s044) (.t s046), none⟩,
 ⟨some s050, .convInt .i64 (.t s047), none⟩,
 xm s012 s050])
 (.seq (.seq (.region [xm s051 s012,
 xm s052 s006,
 ⟨some s053, .bin .geq (.t s051) (.t s052), none⟩])
 (.cond (.t s053)
 (.region [xm s054 s012,
 xm s055 s006,
 ⟨some s056, .bin .sub (.t s054) (.t s055), none⟩,
 xm s012 s056])
 (.skip)))
 (.regionD [0, 0, 0, 0, 0, 24, 0, 0, 0, 384, 960, 1984, 0, 0, 12288, 28672, 65475, 131011, 262143, 524287] [xm s057 s000,
 xm s060 s011,
 xm s061 s000,
 xm s062 s001,
 xm s063 s012,
 ⟨some s064, .bin .add (.t s062) (.t s063), none⟩,
 xm s065 s000,
 xm s066 s001,
 xm s067 s012,
 ⟨some s070, .bin .add (.t s066) (.t s067), none⟩,
 ⟨some s071, .indexSl 1 (.t s065) (.t s070), none⟩,
 xl s072 s071,
 xm s073 s000,
 xm s074 s011,
 ⟨some s075, .indexSl 1 (.t s073) (.t s074), none⟩,
 xl s076 s075,
 ⟨some s077, .indexSl 1 (.t s057) (.t s060), none⟩,
 ⟨none, .store 1 (.t s077) (.t s072), none⟩,
 ⟨some s100, .indexSl 1 (.t s061) (.t s064), none⟩,
 ⟨none, .store 1 (.t s100) (.t s076), none⟩]))))
 (.region [xm s042 s011,
 ⟨some s043, .bin .add (.t s042) (.c (.int .i64 1)), none⟩,
 xm s011 s043]))))))))
 (.skip)))
def r_slices_breakPatternsOrdered_string : List XR := []
theorem ok_slices_breakPatternsOrdered_string : okC Try.prog Try.f54.ntmps (bodyOf Try.f54) x_slices_breakPatternsOrdered_string = true := by kernel_rfl
theorem okr_slices_breakPatternsOrdered_string : okRs Try.prog Try.f54.results.toList r_slices_breakPatternsOrdered_string = true := by kernel_rfl

/-- slices.choosePivotOrdered -/
def x_slices_choosePivotOrdered_string : XC :=
 .seq (.region [⟨some s006, .move (.c (.int .i64 0)), none⟩,
 ⟨some s007, .move (.c (.int .i64 0)), none⟩])
 (.seq (.region [xm s015 s002,
 xm s016 s001,
 ⟨some s017, .bin .sub (.t s015) (.t s016), none⟩,
 xm s010 s017])
 (.seq (.region [⟨some s011, .alloc 0 [.int .i64 0], none⟩])
 (.seq (.region [xm s020 s001,
 xm s021 s010,
 ⟨some s022, .bin .quo (.t s021) (.c (.int .i64 4)), none⟩,
 ⟨some s023, .bin .mul (.t s022) (.c (.int .i64 1)), none⟩,
 ⟨some s024, .bin .add (.t s020) (.t s023), none⟩,
 xm s012 s024])
 (.seq (.region [xm s025 s001,
 xm s026 s010,
 ⟨some s027, .bin .quo (.t s026) (.c (.int .i64 4)), none⟩,
 ⟨some s030, .bin .mul (.t s027) (.c (.int .i64 2)), none⟩,
 ⟨some s031, .bin .add (.t s025) (.t s030), none⟩,
 xm s013 s031])
 (.seq (.region [xm s032 s001,
 xm s033 s010,
 ⟨some s034, .bin .quo (.t s033) (.c (.int .i64 4)), none⟩,
 ⟨some s035, .bin .mul (.t s034) (.c (.int .i64 3)), none⟩,
 ⟨some s036, .bin .add (.t s032) (.t s035), none⟩,
 xm s014 s036])
 (.seq (.seq (.region [xm s037 s010,
 ⟨some s040, .bin .geq (.t s037) (.c (.int .i64 8)), none⟩])
 (.cond (.t s040)
 (.seq (.seq (.region [xm s041 s010,
 ⟨some s042, .bin .geq (.t s041) (.c (.int .i64 50)), none⟩])
 (.cond (.t s042)
 (.seq (.region [xm s043 s000,
 xm s044 s012,
 ⟨some s045, .call 67 [(.t s043), (.t s044), (.t s011)], none⟩,
 xm s012 s045])
 (.seq (.region [xm s046 s000,
 xm s047 s013,
 ⟨some s050, .call 67 [(.t s046), (.t s047), (.t s011)], none⟩,
 xm s013 s050])
 (.region [xm s051 s000,
 xm s052 s014,
 ⟨some s053, .call 67 [(.t s051), (.t s052), (.t s011)], none⟩,
 xm s014 s053])))
 (.skip)))
 (.region [xm s054 s000,
 xm s055 s012,
 xm s056 s013,
 xm s057 s014,
 ⟨some s060, .call 68 [(.t s054), (.t s055), (.t s056), (.t s057), (.t s011)], none⟩,
 xm s013 s060]))
 (.skip)))
 (.seq (.region [xl s061 s011])
 (.block 0
 (.seq (.region [⟨some s064, .bin .eql (.t s061) (.c (.int .i64 0)), none⟩,
 xm s063 s064])
 (.cond (.t s063)
 (.seq (.region [xm s065 s013,
 xm s006 s065,
 ⟨some s007, .move (.c (.int .i64 1)), none⟩])
 (.ret))
 (.seq (.region [⟨some s067, .bin .eql (.t s061) (.c (.int .i64 12)), none⟩,
 xm s066 s067])
 (.cond (.t s066)
 (.seq (.region [xm s070 s013,
 xm s006 s070,
 ⟨some s007, .move (.c (.int .i64 2)), none⟩])
 (.ret))
 (.seq (.region [xm s062 s013,
 xm s006 s062,
 ⟨some s007, .move (.c (.int .i64 0)), none⟩])
 (.ret))))))))))))))
def r_slices_choosePivotOrdered_string : List XR := [.tmp s006, .tmp s007]
theorem ok_slices_choosePivotOrdered_string : okC Try.prog Try.f55.ntmps (bodyOf Try.f55) x_slices_choosePivotOrdered_string = true := by kernel_rfl
theorem okr_slices_choosePivotOrdered_string : okRs Try.prog Try.f55.results.toList r_slices_choosePivotOrdered_string = true := by kernel_rfl

/-- slices.reverseRangeOrdered -/
def x_slices_reverseRangeOrdered_string : XC :=
 .seq (.region [xm s010 s001,
 xm s006 s010])
 (.seq (.region [xm s011 s002,
 ⟨some s012, .bin .sub (.t s011) (.c (.int .i64 1)), none⟩,
 xm s007 s012])
 (.block 0
 (.loop
 (.seq (.seq (.region [xm s013 s006,
 xm s014 s007,
 ⟨some s015, .bin .lss (.t s013) (.t s014), none⟩])
 (.cond (.t s015)
 (.skip)
 (.exit 0)))
 (.block 1
 (.seq (.regionD [0, 0, 0, 0, 0, 0, 48, 112, 0, 0, 768, 1792, 4083, 8179, 16383, 32767] [xm s016 s000,
 xm s017 s006,
 xm s020 s000,
 xm s021 s007,
 xm s022 s000,
 xm s023 s007,
 ⟨some s024, .indexSl 1 (.t s022) (.t s023), none⟩,
 xl s025 s024,
 xm s026 s000,
 xm s027 s006,
 ⟨some s030, .indexSl 1 (.t s026) (.t s027), none⟩,
 xl s031 s030,
 ⟨some s032, .indexSl 1 (.t s016) (.t s017), none⟩,
 ⟨none, .store 1 (.t s032) (.t s025), none⟩,
 ⟨some s033, .indexSl 1 (.t s020) (.t s021), none⟩,
 ⟨none, .store 1 (.t s033) (.t s031), none⟩])
 (.seq (.region [xm s034 s006,
 ⟨some s035, .bin .add (.t s034) (.c (.int .i64 1)), none⟩,
 xm s006 s035])
 (.region [xm s036 s007,
 ⟨some s037, .bin .sub (.t s036) (.c (.int .i64 1)), none⟩,
 xm s007 s037]))))))))
def r_slices_reverseRangeOrdered_string : List XR := []
theorem ok_slices_reverseRangeOrdered_string : okC Try.prog Try.f56.ntmps (bodyOf Try.f56) x_slices_reverseRangeOrdered_string = true := by kernel_rfl
theorem okr_slices_reverseRangeOrdered_string : okRs Try.prog Try.f56.results.toList r_slices_reverseRangeOrdered_string = true := by kernel_rfl

/-- slices.partialInsertionSortOrdered -/
def x_slices_partialInsertionSortOrdered_string : XC :=
 .seq (.region [⟨some s006, .move (.c (.bool false)), none⟩])
 (.seq (.region [xm s013 s001,
 ⟨some s014, .bin .add (.t s013) (.c (.int .i64 1)), none⟩,
 xm s007 s014])
 (.seq (.seq (.region [⟨some s010, .move (.c (.int .i64 0)), none⟩])
 (.block 0
 (.loop
 (.seq (.seq (.region [xm s015 s010,
 ⟨some s016, .bin .lss (.t s015) (.c (.int .i64 5)), none⟩])
 (.cond (.t s016)
 (.skip)
 (.exit 0)))
 (.seq (.block 1
 (.seq (.block 2
 (.loop
 (.seq (.seq (.regionD [0, 0, 3, 7, 15, 15, 63, 127, 15, 15, 527, 1807, 3855, 8191, 16383, 32767] [xm s021 s007,
 xm s022 s002,
 ⟨some s023, .bin .lss (.t s021) (.t s022), none⟩,
 xm s024 s023,
 ⟨some s025, .move (.t s000), some (s024, true)⟩,
 ⟨some s026, .move (.t s007), some (s024, true)⟩,
 ⟨some s027, .indexSl 1 (.t s025) (.t s026), some (s024, true)⟩,
 ⟨some s030, .load false 1 (.t s027), some (s024, true)⟩,
 ⟨some s031, .move (.t s000), some (s024, true)⟩,
 ⟨some s032, .move (.t s007), some (s024, true)⟩,
 ⟨some s033, .bin .sub (.t s032) (.c (.int .i64 1)), some (s024, true)⟩,
 ⟨some s034, .indexSl 1 (.t s031) (.t s033), some (s024, true)⟩,
 ⟨some s035, .load false 1 (.t s034), some (s024, true)⟩,
 ⟨some s036, .call 49 [(.t s030), (.t s035)], some (s024, true)⟩,
 ⟨some s037, .un .not (.t s036), some (s024, true)⟩,
 ⟨some s040, .pick (.t s024) (.t s037) (.c (.bool false)), none⟩])
 (.cond (.t s040)
 (.skip)
 (.exit 2)))
 (.block 3
 (.region [xm s041 s007,
 ⟨some s042, .bin .add (.t s041) (.c (.int .i64 1)), none⟩,
 xm s007 s042])))))
 (.seq (.seq (.region [xm s043 s007,
 xm s044 s002,
 ⟨some s045, .bin .eql (.t s043) (.t s044), none⟩])
 (.cond (.t s045)
 (.seq (.region [⟨some s006, .move (.c (.bool true)), none⟩])
 (.ret))
 (.skip)))
 (.seq (.seq (.region [xm s046 s002,
 xm s047 s001,
 ⟨some s050, .bin .sub (.t s046) (.t s047), none⟩,
 ⟨some s051, .bin .lss (.t s050) (.c (.int .i64 50)), none⟩])
 (.cond (.t s051)
 (.seq (.region [⟨some s006, .move (.c (.bool false)), none⟩])
 (.ret))
 (.skip)))
 (.seq (.regionD [0, 0, 0, 0, 8, 0, 0, 64, 224, 480, 0, 0, 3072, 7168, 16355, 32739, 65535, 131071] [xm s052 s000,
 xm s053 s007,
 xm s054 s000,
 xm s055 s007,
 ⟨some s056, .bin .sub (.t s055) (.c (.int .i64 1)), none⟩,
 xm s057 s000,
 xm s060 s007,
 ⟨some s061, .bin .sub (.t s060) (.c (.int .i64 1)), none⟩,
 ⟨some s062, .indexSl 1 (.t s057) (.t s061), none⟩,
 xl s063 s062,
 xm s064 s000,
 xm s065 s007,
 ⟨some s066, .indexSl 1 (.t s064) (.t s065), none⟩,
 xl s067 s066,
 ⟨some s070, .indexSl 1 (.t s052) (.t s053), none⟩,
 ⟨none, .store 1 (.t s070) (.t s063), none⟩,
 ⟨some s071, .indexSl 1 (.t s054) (.t s056), none⟩,
 ⟨none, .store 1 (.t s071) (.t s067), none⟩])
 (.seq (.seq (.region [xm s072 s007,
 xm s073 s001,
 ⟨some s074, .bin .sub (.t s072) (.t s073), none⟩,
 ⟨some s075, .bin .geq (.t s074) (.c (.int .i64 2)), none⟩])
 (.cond (.t s075)
 (.seq (.region [xm s076 s007,
 ⟨some s077, .bin .sub (.t s076) (.c (.int .i64 1)), none⟩,
 xm s011 s077])
 (.block 4
 (.loop
 (.seq (.seq (.region [xm s100 s011,
 ⟨some s101, .bin .geq (.t s100) (.c (.int .i64 1)), none⟩])
 (.cond (.t s101)
 (.skip)
 (.exit 4)))
 (.seq (.block 5
 (.seq (.seq (.regionD [0, 0, 3, 7, 0, 0, 32, 112, 240, 511, 1023] [xm s104 s000,
 xm s105 s011,
 ⟨some s106, .indexSl 1 (.t s104) (.t s105), none⟩,
 xl s107 s106,
 xm s110 s000,
 xm s111 s011,
 ⟨some s112, .bin .sub (.t s111) (.c (.int .i64 1)), none⟩,
 ⟨some s113, .indexSl 1 (.t s110) (.t s112), none⟩,
 xl s114 s113,
 ⟨some s115, .call 49 [(.t s107), (.t s114)], none⟩,
 ⟨some s116, .un .not (.t s115), none⟩])
 (.cond (.t s116)
 (.exit 4)
 (.skip)))
 (.regionD [0, 0, 0, 0, 8, 0, 0, 64, 224, 480, 0, 0, 3072, 7168, 16355, 32739, 65535, 131071] [xm s117 s000,
 xm s120 s011,
 xm s121 s000,
 xm s122 s011,
 ⟨some s123, .bin .sub (.t s122) (.c (.int .i64 1)), none⟩,
 xm s124 s000,
 xm s125 s011,
 ⟨some s126, .bin .sub (.t s125) (.c (.int .i64 1)), none⟩,
 ⟨some s127, .indexSl 1 (.t s124) (.t s126), none⟩,
 xl s130 s127,
 xm s131 s000,
 xm s132 s011,
 ⟨some s133, .indexSl 1 (.t s131) (.t s132), none⟩,
 xl s134 s133,
 ⟨some s135, .indexSl 1 (.t s117) (.t s120), none⟩,
 ⟨none, .store 1 (.t s135) (.t s130), none⟩,
 ⟨some s136, .indexSl 1 (.t s121) (.t s123), none⟩,
 ⟨none, .store 1 (.t s136) (.t s134), none⟩])))
 (.region [xm s102 s011,
 ⟨some s103, .bin .sub (.t s102) (.c (.int .i64 1)), none⟩,
 xm s011 s103]))))))
 (.skip)))
 (.seq (.region [xm s137 s002,
 xm s140 s007,
 ⟨some s141, .bin .sub (.t s137) (.t s140), none⟩,
 ⟨some s142, .bin .geq (.t s141) (.c (.int .i64 2)), none⟩])
 (.cond (.t s142)
 (.seq (.region [xm s143 s007,
 ⟨some s144, .bin .add (.t s143) (.c (.int .i64 1)), none⟩,
 xm s012 s144])
 (.block 6
 (.loop
 (.seq (.seq (.region [xm s145 s012,
 xm s146 s002,
 ⟨some s147, .bin .lss (.t s145) (.t s146), none⟩])
 (.cond (.t s147)
 (.skip)
 (.exit 6)))
 (.seq (.block 7
 (.seq (.seq (.regionD [0, 0, 3, 7, 0, 0, 32, 112, 240, 511, 1023] [xm s152 s000,
 xm s153 s012,
 ⟨some s154, .indexSl 1 (.t s152) (.t s153), none⟩,
 xl s155 s154,
 xm s156 s000,
 xm s157 s012,
 ⟨some s160, .bin .sub (.t s157) (.c (.int .i64 1)), none⟩,
 ⟨some s161, .indexSl 1 (.t s156) (.t s160), none⟩,
 xl s162 s161,
 ⟨some s163, .call 49 [(.t s155), (.t s162)], none⟩,
 ⟨some s164, .un .not (.t s163), none⟩])
 (.cond (.t s164)
 (.exit 6)
 (.skip)))
 (.regionD [0, 0, 0, 0, 8, 0, 0, 64, 224, 480, 0, 0, 3072, 7168, 16355, 32739, 65535, 131071] [xm s165 s000,
 xm s166 s012,
 xm s167 s000,
 xm s170 s012,
 ⟨some s171, .bin .sub (.t s170) (.c (.int .i64 1)), none⟩,
 xm s172 s000,
 xm s173 s012,
 ⟨some s174, .bin .sub (.t s173) (.c (.int .i64 1)), none⟩,
 ⟨some s175, .indexSl 1 (.t s172) (.t s174), none⟩,
 xl s176 s175,
 xm s177 s000,
 xm s200 s012,
 ⟨some s201, .indexSl 1 (.t s177) (.t s200), none⟩,
 xl s202 s201,
 ⟨some s203, .indexSl 1 (.t s165) (.t s166), none⟩,
 ⟨none, .store 1 (.t s203) (.t s176), none⟩,
 ⟨some s204, .indexSl 1 (.t s167) (.t s171), none⟩,
 ⟨none, .store 1 (.t s204) (.t s202), none⟩])))
 (.region [xm s150 s012,
 ⟨some s151, .bin .add (.t s150) (.c (.int .i64 1)), none⟩,
 xm s012 s151]))))))
 (.skip)))))))))
 (.region [xm s017 s010,
 ⟨some s020, .bin .add (.t s017) (.c (.int .i64 1)), none⟩,
 xm s010 s020]))))))
 (.seq (.region [⟨some s006, .move (.c (.bool false)), none⟩])
 (.ret))))
def r_slices_partialInsertionSortOrdered_string : List XR := [.tmp s006]
theorem ok_slices_partialInsertionSortOrdered_string : okC Try.prog Try.f57.ntmps (bodyOf Try.f57) x_slices_partialInsertionSortOrdered_string = true := by kernel_rfl
theorem okr_slices_partialInsertionSortOrdered_string : okRs Try.prog Try.f57.results.toList r_slices_partialInsertionSortOrdered_string = true := by kernel_rfl

/-- slices.partitionEqualOrdered -/
def x_slices_partitionEqualOrdered_string : XC :=
 .seq (.region [⟨some s010, .move (.c (.int .i64 0)), none⟩])
 (.seq (.regionD [0, 0, 0, 0, 0, 0, 48, 112, 0, 0, 768, 1792, 4083, 8179, 16383, 32767] [xm s013 s000,
 xm s014 s001,
 xm s015 s000,
 xm s016 s003,
 xm s017 s000,
 xm s020 s003,
 ⟨some s021, .indexSl 1 (.t s017) (.t s020), none⟩,
 xl s022 s021,
 xm s023 s000,
 xm s024 s001,
 ⟨some s025, .indexSl 1 (.t s023) (.t s024), none⟩,
 xl s026 s025,
 ⟨some s027, .indexSl 1 (.t s013) (.t s014), none⟩,
 ⟨none, .store 1 (.t s027) (.t s022), none⟩,
 ⟨some s030, .indexSl 1 (.t s015) (.t s016), none⟩,
 ⟨none, .store 1 (.t s030) (.t s026), none⟩])
 (.seq (.region [xm s031 s001,
 ⟨some s032, .bin .add (.t s031) (.c (.int .i64 1)), none⟩,
 xm s033 s002,
 ⟨some s034, .bin .sub (.t s033) (.c (.int .i64 1)), none⟩,
 xm s011 s032,
 xm s012 s034])
 (.seq (.block 0
 (.loop
 (.block 1
 (.seq (.block 2
 (.loop
 (.seq (.seq (.regionD [0, 0, 3, 7, 15, 15, 63, 127, 15, 15, 783, 1807, 4095, 8191, 16383] [xm s035 s011,
 xm s036 s012,
 ⟨some s037, .bin .leq (.t s035) (.t s036), none⟩,
 xm s040 s037,
 ⟨some s041, .move (.t s000), some (s040, true)⟩,
 ⟨some s042, .move (.t s001), some (s040, true)⟩,
 ⟨some s043, .indexSl 1 (.t s041) (.t s042), some (s040, true)⟩,
 ⟨some s044, .load false 1 (.t s043), some (s040, true)⟩,
 ⟨some s045, .move (.t s000), some (s040, true)⟩,
 ⟨some s046, .move (.t s011), some (s040, true)⟩,
 ⟨some s047, .indexSl 1 (.t s045) (.t s046), some (s040, true)⟩,
 ⟨some s050, .load false 1 (.t s047), some (s040, true)⟩,
 ⟨some s051, .call 49 [(.t s044), (.t s050)], some (s040, true)⟩,
 ⟨some s052, .un .not (.t s051), some (s040, true)⟩,
 ⟨some s053, .pick (.t s040) (.t s052) (.c (.bool false)), none⟩])
 (.cond (.t s053)
 (.skip)
 (.exit 2)))
 (.block 3
 (.region [xm s054 s011,
 ⟨some s055, .bin .add (.t s054) (.c (.int .i64 1)), none⟩,
 xm s011 s055])))))
 (.seq (.block 4
 (.loop
 (.seq (.seq (.regionD [0, 0, 3, 7, 15, 15, 63, 127, 15, 15, 783, 1807, 4095, 8191] [xm s056 s011,
 xm s057 s012,
 ⟨some s060, .bin .leq (.t s056) (.t s057), none⟩,
 xm s061 s060,
 ⟨some s062, .move (.t s000), some (s061, true)⟩,
 ⟨some s063, .move (.t s001), some (s061, true)⟩,
 ⟨some s064, .indexSl 1 (.t s062) (.t s063), some (s061, true)⟩,
 ⟨some s065, .load false 1 (.t s064), some (s061, true)⟩,
 ⟨some s066, .move (.t s000), some (s061, true)⟩,
 ⟨some s067, .move (.t s012), some (s061, true)⟩,
 ⟨some s070, .indexSl 1 (.t s066) (.t s067), some (s061, true)⟩,
 ⟨some s071, .load false 1 (.t s070), some (s061, true)⟩,
 ⟨some s072, .call 49 [(.t s065), (.t s071)], some (s061, true)⟩,
 ⟨some s073, .pick (.t s061) (.t s072) (.c (.bool false)), none⟩])
 (.cond (.t s073)
 (.skip)
 (.exit 4)))
 (.block 5
 (.region [xm s074 s012,
 ⟨some s075, .bin .sub (.t s074) (.c (.int .i64 1)), none⟩,
 xm s012 s075])))))
 (.seq (.seq (.region [xm s076 s011,
 xm s077 s012,
 ⟨some s100, .bin .gtr (.t s076) (.t s077), none⟩])
 (.cond (.t s100)
 (.exit 0)
 (.skip)))
 (.seq (.regionD [0, 0, 0, 0, 0, 0, 48, 112, 0, 0, 768, 1792, 4083, 8179, 16383, 32767] [xm s101 s000,
 xm s102 s011,
 xm s103 s000,
 xm s104 s012,
 xm s105 s000,
 xm s106 s012,
 ⟨some s107, .indexSl 1 (.t s105) (.t s106), none⟩,
 xl s110 s107,
 xm s111 s000,
 xm s112 s011,
 ⟨some s113, .indexSl 1 (.t s111) (.t s112), none⟩,
 xl s114 s113,
 ⟨some s115, .indexSl 1 (.t s101) (.t s102), none⟩,
 ⟨none, .store 1 (.t s115) (.t s110), none⟩,
 ⟨some s116, .indexSl 1 (.t s103) (.t s104), none⟩,
 ⟨none, .store 1 (.t s116) (.t s114), none⟩])
 (.seq (.region [xm s117 s011,
 ⟨some s120, .bin .add (.t s117) (.c (.int .i64 1)), none⟩,
 xm s011 s120])
 (.region [xm s121 s012,
 ⟨some s122, .bin .sub (.t s121) (.c (.int .i64 1)), none⟩,
 xm s012 s122])))))))))
 (.seq (.region [xm s123 s011,
 xm s010 s123])
 (.ret)))))
def r_slices_partitionEqualOrdered_string : List XR := [.tmp s010]
theorem ok_slices_partitionEqualOrdered_string : okC Try.prog Try.f58.ntmps (bodyOf Try.f58) x_slices_partitionEqualOrdered_string = true := by kernel_rfl
theorem okr_slices_partitionEqualOrdered_string : okRs Try.prog Try.f58.results.toList r_slices_partitionEqualOrdered_string = true := by kernel_rfl

/-- slices.partitionOrdered -/
def x_slices_partitionOrdered_string : XC :=
 .seq (.region [⟨some s010, .move (.c (.int .i64 0)), none⟩,
 ⟨some s011, .move (.c (.bool false)), none⟩])
 (.seq (.regionD [0, 0, 0, 0, 0, 0, 48, 112, 0, 0, 768, 1792, 4083, 8179, 16383, 32767] [xm s014 s000,
 xm s015 s001,
 xm s016 s000,
 xm s017 s003,
 xm s020 s000,
 xm s021 s003,
 ⟨some s022, .indexSl 1 (.t s020) (.t s021), none⟩,
 xl s023 s022,
 xm s024 s000,
 xm s025 s001,
 ⟨some s026, .indexSl 1 (.t s024) (.t s025), none⟩,
 xl s027 s026,
 ⟨some s030, .indexSl 1 (.t s014) (.t s015), none⟩,
 ⟨none, .store 1 (.t s030) (.t s023), none⟩,
 ⟨some s031, .indexSl 1 (.t s016) (.t s017), none⟩,
 ⟨none, .store 1 (.t s031) (.t s027), none⟩])
 (.seq (.region [xm s032 s001,
 ⟨some s033, .bin .add (.t s032) (.c (.int .i64 1)), none⟩,
 xm s034 s002,
 ⟨some s035, .bin .sub (.t s034) (.c (.int .i64 1)), none⟩,
 xm s012 s033,
 xm s013 s035])
 (.seq (.block 0
 (.loop
 (.seq (.seq (.regionD [0, 0, 3, 7, 15, 15, 63, 127, 15, 15, 783, 1807, 4095, 8191] [xm s036 s012,
 xm s037 s013,
 ⟨some s040, .bin .leq (.t s036) (.t s037), none⟩,
 xm s041 s040,
 ⟨some s042, .move (.t s000), some (s041, true)⟩,
 ⟨some s043, .move (.t s012), some (s041, true)⟩,
 ⟨some s044, .indexSl 1 (.t s042) (.t s043), some (s041, true)⟩,
 ⟨some s045, .load false 1 (.t s044), some (s041, true)⟩,
 ⟨some s046, .move (.t s000), some (s041, true)⟩,
 ⟨some s047, .move (.t s001), some (s041, true)⟩,
 ⟨some s050, .indexSl 1 (.t s046) (.t s047), some (s041, true)⟩,
 ⟨some s051, .load false 1 (.t s050), some (s041, true)⟩,
 ⟨some s052, .call 49 [(.t s045), (.t s051)], some (s041, true)⟩,
 ⟨some s053, .pick (.t s041) (.t s052) (.c (.bool false)), none⟩])
 (.cond (.t s053)
 (.skip)
 (.exit 0)))
 (.block 1
 (.region [xm s054 s012,
 ⟨some s055, .bin .add (.t s054) (.c (.int .i64 1)), none⟩,
 xm s012 s055])))))
 (.seq (.block 2
 (.loop
 (.seq (.seq (.regionD [0, 0, 3, 7, 15, 15, 63, 127, 15, 15, 783, 1807, 4095, 8191, 16383] [xm s056 s012,
 xm s057 s013,
 ⟨some s060, .bin .leq (.t s056) (.t s057), none⟩,
 xm s061 s060,
 ⟨some s062, .move (.t s000), some (s061, true)⟩,
 ⟨some s063, .move (.t s013), some (s061, true)⟩,
 ⟨some s064, .indexSl 1 (.t s062) (.t s063), some (s061, true)⟩,
 ⟨some s065, .load false 1 (.t s064), some (s061, true)⟩,
 ⟨some s066, .move (.t s000), some (s061, true)⟩,
 ⟨some s067, .move (.t s001), some (s061, true)⟩,
 ⟨some s070, .indexSl 1 (.t s066) (.t s067), some (s061, true)⟩,
 ⟨some s071, .load false 1 (.t s070), some (s061, true)⟩,
 ⟨some s072, .call 49 [(.t s065), (.t s071)], some (s061, true)⟩,
 ⟨some s073, .un .not (.t s072), some (s061, true)⟩,
 ⟨some s074, .pick (.t s061) (.t s073) (.c (.bool false)), none⟩])
 (.cond (.t s074)
 (.skip)
 (.exit 2)))
 (.block 3
 (.region [xm s075 s013,
 ⟨some s076, .bin .sub (.t s075) (.c (.int .i64 1)), none⟩,
 xm s013 s076])))))
 (.seq (.seq (.region [xm s077 s012,
 xm s100 s013,
 ⟨some s101, .bin .gtr (.t s077) (.t s100), none⟩])
 (.cond (.t s101)
 (.seq (.regionD [0, 0, 0, 0, 0, 0, 48, 112, 0, 0, 768, 1792, 4083, 8179, 16383, 32767] [xm s102 s000,
 xm s103 s013,
 xm s104 s000,
 xm s105 s001,
 xm s106 s000,
 xm s107 s001,
 ⟨some s110, .indexSl 1 (.t s106) (.t s107), none⟩,
 xl s111 s110,
 xm s112 s000,
 xm s113 s013,
 ⟨some s114, .indexSl 1 (.t s112) (.t s113), none⟩,
 xl s115 s114,
 ⟨some s116, .indexSl 1 (.t s102) (.t s103), none⟩,
 ⟨none, .store 1 (.t s116) (.t s111), none⟩,
 ⟨some s117, .indexSl 1 (.t s104) (.t s105), none⟩,
 ⟨none, .store 1 (.t s117) (.t s115), none⟩])
 (.seq (.region [xm s120 s013,
 xm s010 s120,
 ⟨some s011, .move (.c (.bool true)), none⟩])
 (.ret)))
 (.skip)))
 (.seq (.regionD [0, 0, 0, 0, 0, 0, 48, 112, 0, 0, 768, 1792, 4083, 8179, 16383, 32767] [xm s121 s000,
 xm s122 s012,
 xm s123 s000,
 xm s124 s013,
 xm s125 s000,
 xm s126 s013,
 ⟨some s127, .indexSl 1 (.t s125) (.t s126), none⟩,
 xl s130 s127,
 xm s131 s000,
 xm s132 s012,
 ⟨some s133, .indexSl 1 (.t s131) (.t s132), none⟩,
 xl s134 s133,
 ⟨some s135, .indexSl 1 (.t s121) (.t s122), none⟩,
 ⟨none, .store 1 (.t s135) (.t s130), none⟩,
 ⟨some s136, .indexSl 1 (.t s123) (.t s124), none⟩,
 ⟨none, .store 1 (.t s136) (.t s134), none⟩])
 (.seq (.region [xm s137 s012,
 ⟨some s140, .bin .add (.t s137) (.c (.int .i64 1)), none⟩,
 xm s012 s140])
 (.seq (.region [xm s141 s013,
 ⟨some s142, .bin .sub (.t s141) (.c (.int .i64 1)), none⟩,
 xm s013 s142])
 (.seq (.block 4
 (.loop
 (.block 5
 (.seq (.block 6
 (.loop
 (.seq (.seq (.regionD [0, 0, 3, 7, 15, 15, 63, 127, 15, 15, 783, 1807, 4095, 8191] [xm s143 s012,
 xm s144 s013,
 ⟨some s145, .bin .leq (.t s143) (.t s144), none⟩,
 xm s146 s145,
 ⟨some s147, .move (.t s000), some (s146, true)⟩,
 ⟨some s150, .move (.t s012), some (s146, true)⟩,
 ⟨some s151, .indexSl 1 (.t s147) (.t s150), some (s146, true)⟩,
 ⟨some s152, .load false 1 (.t s151), some (s146, true)⟩,
 ⟨some s153, .move (.t s000), some (s146, true)⟩,
 ⟨some s154, .move (.t s001), some (s146, true)⟩,
 ⟨some s155, .indexSl 1 (.t s153) (.t s154), some (s146, true)⟩,
 ⟨some s156, .load false 1 (.t s155), some (s146, true)⟩,
 ⟨some s157, .call 49 [(.t s152), (.t s156)], some (s146, true)⟩,
 ⟨some s160, .pick (.t s146) (.t s157) (.c (.bool false)), none⟩])
 (.cond (.t s160)
 (.skip)
 (.exit 6)))
 (.block 7
 (.region [xm s161 s012,
 ⟨some s162, .bin .add (.t s161) (.c (.int .i64 1)), none⟩,
 xm s012 s162])))))
 (.seq (.block 8
 (.loop
 (.seq (.seq (.regionD [0, 0, 3, 7, 15, 15, 63, 127, 15, 15, 783, 1807, 4095, 8191, 16383] [xm s163 s012,
 xm s164 s013,
 ⟨some s165, .bin .leq (.t s163) (.t s164), none⟩,
 xm s166 s165,
 ⟨some s167, .move (.t s000), some (s166, true)⟩,
 ⟨some s170, .move (.t s013), some (s166, true)⟩,
 ⟨some s171, .indexSl 1 (.t s167) (.t s170), some (s166, true)⟩,
 ⟨some s172, .load false 1 (.t s171), some (s166, true)⟩,
 ⟨some s173, .move (.t s000), some (s166, true)⟩,
 ⟨some s174, .move (.t s001), some (s166, true)⟩,
 ⟨some s175, .indexSl 1 (.t s173) (.t s174), some (s166, true)⟩,
 ⟨some s176, .load false 1 (.t s175), some (s166, true)⟩,
 ⟨some s177, .call 49 [(.t s172), (.t s176)], some (s166, true)⟩,
 ⟨some s200, .un .not (.t s177), some (s166, true)⟩,
 ⟨some s201, .pick (.t s166) (.t s200) (.c (.bool false)), none⟩])
 (.cond (.t s201)
 (.skip)
 (.exit 8)))
 (.block 9
 (.region [xm s202 s013,
 ⟨some s203, .bin .sub (.t s202) (.c (.int .i64 1)), none⟩,
 xm s013 s203])))))
 (.seq (.seq (.region [xm s204 s012,
 xm s205 s013,
 ⟨some s206, .bin .gtr (.t s204) (.t s205), none⟩])
 (.cond (.t s206)
 (.exit 4)
 (.skip)))
 (.seq (.regionD [0, 0, 0, 0, 0, 0, 48, 112, 0, 0, 768, 1792, 4083, 8179, 16383, 32767] [xm s207 s000,
 xm s210 s012,
 xm s211 s000,
 xm s212 s013,
 xm s213 s000,
 xm s214 s013,
 ⟨some s215, .indexSl 1 (.t s213) (.t s214), none⟩,
 xl s216 s215,
 xm s217 s000,
 xm s220 s012,
 ⟨some s221, .indexSl 1 (.t s217) (.t s220), none⟩,
 xl s222 s221,
 ⟨some s223, .indexSl 1 (.t s207) (.t s210), none⟩,
 ⟨none, .store 1 (.t s223) (.t s216), none⟩,
 ⟨some s224, .indexSl 1 (.t s211) (.t s212), none⟩,
 ⟨none, .store 1 (.t s224) (.t s222), none⟩])
 (.seq (.region [xm s225 s012,
 ⟨some s226, .bin .add (.t s225) (.c (.int .i64 1)), none⟩,
 xm s012 s226])
 (.region [xm s227 s013,
 ⟨some s230, .bin .sub (.t s227) (.c (.int .i64 1)), none⟩,
 xm s013 s230])))))))))
 (.seq (.regionD [0, 0, 0, 0, 0, 0, 48, 112, 0, 0, 768, 1792, 4083, 8179, 16383, 32767] [xm s231 s000,
 xm s232 s013,
 xm s233 s000,
 xm s234 s001,
 xm s235 s000,
 xm s236 s001,
 ⟨some s237, .indexSl 1 (.t s235) (.t s236), none⟩,
 xl s240 s237,
 xm s241 s000,
 xm s242 s013,
 ⟨some s243, .indexSl 1 (.t s241) (.t s242), none⟩,
 xl s244 s243,
 ⟨some s245, .indexSl 1 (.t s231) (.t s232), none⟩,
 ⟨none, .store 1 (.t s245) (.t s240), none⟩,
 ⟨some s246, .indexSl 1 (.t s233) (.t s234), none⟩,
 ⟨none, .store 1 (.t s246) (.t s244), none⟩])
 (.seq (.region [xm s247 s013,
 xm s010 s247,
 ⟨some s011, .move (.c (.bool false)), none⟩])
 (.ret))))))))))))
def r_slices_partitionOrdered_string : List XR := [.tmp s010, .tmp s011]
theorem ok_slices_partitionOrdered_string : okC Try.prog Try.f59.ntmps (bodyOf Try.f59) x_slices_partitionOrdered_string = true := by kernel_rfl
theorem okr_slices_partitionOrdered_string : okRs Try.prog Try.f59.results.toList r_slices_partitionOrdered_string = true := by kernel_rfl

/-- bits.Len32 -/
def x_bits_Len32 : XC :=
 .seq (.region [⟨some s002, .move (.c (.int .i64 0)), none⟩])
 (.seq (.seq (.region [xm s003 s000,
 ⟨some s004, .bin .geq (.t s003) (.c (.int .u32 65536)), none⟩])
 (.cond (.t s004)
 (.seq (.region [xm s005 s000,
 ⟨some s006, .bin .shr (.t s005) (.c (.int .u64 16)), none⟩,
 xm s000 s006])
 (.region [⟨some s002, .move (.c (.int .i64 16)), none⟩]))
 (.skip)))
 (.seq (.seq (.region [xm s007 s000,
 ⟨some s010, .bin .geq (.t s007) (.c (.int .u32 256)), none⟩])
 (.cond (.t s010)
 (.seq (.region [xm s011 s000,
 ⟨some s012, .bin .shr (.t s011) (.c (.int .u64 8)), none⟩,
 xm s000 s012])
 (.region [xm s013 s002,
 ⟨some s014, .bin .add (.t s013) (.c (.int .i64 8)), none⟩,
 xm s002 s014]))
 (.skip)))
 (.seq (.region [xm s015 s002,
 xm s016 s000,
 ⟨some s017, .convInt .u8 (.t s016), none⟩,
 ⟨some s020, .strAt (.c (.string { data := #[0, 1, 2, 2, 3, 3, 3, 3, 4, 4, 4, 4, 4, 4, 4, 4, 5, 5, 5, 5, 5, 5, 5, 5, 5, 5, 5, 5, 5, 5, 5, 5, 6, 6, 6, 6, 6, 6, 6, 6, 6, 6, 6, 6, 6, 6, 6, 6, 6, 6, 6, 6, 6, 6, 6, 6, 6, 6, 6, 6, 6, 6, 6, 6, 7, 7, 7, 7, 7, 7, 7, 7, 7, 7, 7, 7, 7, 7, 7, 7, 7, 7, 7, 7, 7, 7, 7, 7, 7, 7, 7, 7, 7, 7, 7, 7, 7, 7, 7, 7, 7, 7, 7, 7, 7, 7, 7, 7, 7, 7, 7, 7, 7, 7, 7, 7, 7, 7, 7, 7, 7, 7, 7, 7, 7, 7, 7, 7, 8, 8, 8, 8, 8, 8, 8, 8, 8, 8, 8, 8, 8, 8, 8, 8, 8, 8, 8, 8, 8, 8, 8, 8, 8, 8, 8, 8, 8, 8, 8, 8, 8, 8, 8, 8, 8, 8, 8, 8, 8, 8, 8, 8, 8, 8, 8, 8, 8, 8, 8, 8, 8, 8, 8, 8, 8, 8, 8, 8, 8, 8, 8, 8, 8, 8, 8, 8, 8, 8, 8, 8, 8, 8, 8, 8, 8, 8, 8, 8, 8, 8, 8, 8, 8, 8, 8, 8, 8, 8, 8, 8, 8, 8, 8, 8, 8, 8, 8, 8, 8, 8, 8, 8, 8, 8, 8, 8, 8, 8, 8, 8, 8, 8, 8, 8, 8, 8, 8, 8, 8, 8, 8, 8, 8, 8, 8, 8] })) (.t s017), none⟩,
 ⟨some s021, .convInt .i64 (.t s020), none⟩,
 ⟨some s022, .bin .add (.t s015) (.t s021), none⟩,
 xm s002 s022])
 (.ret))))
def r_bits_Len32 : List XR := [.tmp s002]
theorem ok_bits_Len32 : okC Try.prog Try.f60.ntmps (bodyOf Try.f60) x_bits_Len32 = true := by kernel_rfl
theorem okr_bits_Len32 : okRs Try.prog Try.f60.results.toList r_bits_Len32 = true := by kernel_rfl

/-- bits.Len64 -/
def x_bits_Len64 : XC :=
 .seq (.region [⟨some s002, .move (.c (.int .i64 0)), none⟩])
 (.seq (.seq (.region [xm s003 s000,
 ⟨some s004, .bin .geq (.t s003) (.c (.int .u64 4294967296)), none⟩])
 (.cond (.t s004)
 (.seq (.region [xm s005 s000,
 ⟨some s006, .bin .shr (.t s005) (.c (.int .u64 32)), none⟩,
 xm s000 s006])
 (.region [⟨some s002, .move (.c (.int .i64 32)), none⟩]))
 (.skip)))
 (.seq (.seq (.region [xm s007 s000,
 ⟨some s010, .bin .geq (.t s007) (.c (.int .u64 65536)), none⟩])
 (.cond (.t s010)
 (.seq (.region [xm s011 s000,
 ⟨some s012, .bin .shr (.t s011) (.c (.int .u64 16)), none⟩,
 xm s000 s012])
 (.region [xm s013 s002,
 ⟨some s014, .bin .add (.t s013) (.c (.int .i64 16)), none⟩,
 xm s002 s014]))
 (.skip)))
 (.seq (.seq (.region [xm s015 s000,
 ⟨some s016, .bin .geq (.t s015) (.c (.int .u64 256)), none⟩])
 (.cond (.t s016)
 (.seq (.region [xm s017 s000,
 ⟨some s020, .bin .shr (.t s017) (.c (.int .u64 8)), none⟩,
 xm s000 s020])
 (.region [xm s021 s002,
 ⟨some s022, .bin .add (.t s021) (.c (.int .i64 8)), none⟩,
 xm s002 s022]))
 (.skip)))
 (.seq (.region [xm s023 s002,
 xm s024 s000,
 ⟨some s025, .convInt .u8 (.t s024), none⟩,
 ⟨some s026, .strAt (.c (.string { data := #[0, 1, 2, 2, 3, 3, 3, 3, 4, 4, 4, 4, 4, 4, 4, 4, 5, 5, 5, 5, 5, 5, 5, 5, 5, 5, 5, 5, 5, 5, 5, 5, 6, 6, 6, 6, 6, 6, 6, 6, 6, 6, 6, 6, 6, 6, 6, 6, 6, 6, 6, 6, 6, 6, 6, 6, 6, 6, 6, 6, 6, 6, 6, 6, 7, 7, 7, 7, 7, 7, 7, 7, 7, 7, 7, 7, 7, 7, 7, 7, 7, 7, 7, 7, 7, 7, 7, 7, 7, 7, 7, 7, 7, 7, 7, 7, 7, 7, 7, 7, 7, 7, 7, 7, 7, 7, 7, 7, 7, 7, 7, 7, 7, 7, 7, 7, 7, 7, 7, 7, 7, 7, 7, 7, 7, 7, 7, 7, 8, 8, 8, 8, 8, 8, 8, 8, 8, 8, 8, 8, 8, 8, 8, 8, 8, 8, 8, 8, 8, 8, 8, 8, 8, 8, 8, 8, 8, 8, 8, 8, 8, 8, 8, 8, 8, 8, 8, 8, 8, 8, 8, 8, 8, 8, 8, 8, 8, 8, 8, 8, 8, 8, 8, 8, 8, 8, 8, 8, 8, 8, 8, 8, 8, 8, 8, 8, 8, 8, 8, 8, 8, 8, 8, 8, 8, 8, 8, 8, 8, 8, 8, 8, 8, 8, 8, 8, 8, 8, 8, 8, 8, 8, 8, 8, 8, 8, 8, 8, 8, 8, 8, 8, 8, 8, 8, 8, 8, 8, 8, 8, 8, 8, 8, 8, 8, 8, 8, 8, 8, 8, 8, 8, 8, 8, 8, 8] })) (.t s025), none⟩,
 ⟨some s027, .convInt .i64 (.t s026), none⟩,
 ⟨some s030, .bin .add (.t s023) (.t s027), none⟩,
 xm s002 s030])
 (.ret)))))
def r_bits_Len64 : List XR := [.tmp s002]
theorem ok_bits_Len64 : okC Try.prog Try.f61.ntmps (bodyOf Try.f61) x_bits_Len64 = true := by kernel_rfl
theorem okr_bits_Len64 : okRs Try.prog Try.f61.results.toList r_bits_Len64 = true := by kernel_rfl

/-- cmp.isNaN -/
def x_cmp_isNaN_string : XC :=
 .seq (.region [⟨some s002, .move (.c (.bool false)), none⟩])
 (.seq (.region [xm s003 s000,
 xm s004 s000,
 ⟨some s005, .sbin .neq (.t s003) (.t s004), none⟩,
 xm s002 s005])
 (.ret))
def r_cmp_isNaN_string : List XR := [.tmp s002]
theorem ok_cmp_isNaN_string : okC Try.prog Try.f62.ntmps (bodyOf Try.f62) x_cmp_isNaN_string = true := by kernel_rfl
theorem okr_cmp_isNaN_string : okRs Try.prog Try.f62.results.toList r_cmp_isNaN_string = true := by kernel_rfl

/-- stringslite.Index -/
def x_stringslite_Index : XC :=
 .seq (.region [⟨some s004, .move (.c (.int .i64 0)), none⟩])
 (.seq (.region [xm s016 s001,
 ⟨some s017, .slen (.t s016), none⟩,
 xm s005 s017])
 (.seq (.block 0
 (.seq (.region [xm s021 s005,
 ⟨some s022, .bin .eql (.t s021) (.c (.int .i64 0)), none⟩,
 xm s023 s022,
 ⟨some s024, .move (.t s001), some (s023, false)⟩,
 ⟨some s025, .move (.t s000), some (s023, false)⟩,
 ⟨some s026, .sbin .eql (.t s024) (.t s025), some (s023, false)⟩,
 ⟨some s027, .pick (.t s023) (.c (.bool true)) (.t s026), none⟩,
 xm s020 s027])
 (.cond (.t s020)
 (.seq (.region [⟨some s004, .move (.c (.int .i64 0)), none⟩])
 (.ret))
 (.seq (.region [xm s031 s005,
 ⟨some s032, .bin .eql (.t s031) (.c (.int .i64 1)), none⟩,
 xm s030 s032])
 (.cond (.t s030)
 (.seq (.region [xm s033 s000,
 xm s034 s001,
 ⟨some s035, .strAt (.t s034) (.c (.int .i64 0)), none⟩,
 ⟨some s036, .call 69 [(.t s033), (.t s035)], none⟩,
 xm s004 s036])
 (.ret))
 (.seq (.region [xm s040 s005,
 xm s041 s000,
 ⟨some s042, .slen (.t s041), none⟩,
 ⟨some s043, .bin .geq (.t s040) (.t s042), none⟩,
 xm s037 s043])
 (.cond (.t s037)
 (.seq (.region [⟨some s004, .move (.c (.int .i64 (-1))), none⟩])
 (.ret))
 (.seq (.region [xm s045 s005,
 ⟨some s046, .load false 1 .g, none⟩,
 ⟨some s047, .bin .leq (.t s045) (.t s046), none⟩,
 xm s050 s047,
 ⟨some s051, .move (.t s000), some (s050, true)⟩,
 ⟨some s052, .slen (.t s051), some (s050, true)⟩,
 ⟨some s053, .bin .leq (.t s052) (.c (.int .i64 64)), some (s050, true)⟩,
 ⟨some s054, .pick (.t s050) (.t s053) (.c (.bool false)), none⟩,
 xm s044 s054])
 (.cond (.t s044)
 (.seq (.region [xm s055 s000,
 xm s056 s001,
 ⟨some s057, .dead, none⟩,
 xm s004 s057])
 (.ret))
 (.skip))))))))))
 (.seq (.region [xm s060 s001,
 ⟨some s061, .strAt (.t s060) (.c (.int .i64 0)), none⟩,
 xm s006 s061])
 (.seq (.region [xm s062 s001,
 ⟨some s063, .strAt (.t s062) (.c (.int .i64 1)), none⟩,
 xm s007 s063])
 (.seq (.region [⟨some s010, .move (.c (.int .i64 0)), none⟩])
 (.seq (.region [xm s064 s000,
 ⟨some s065, .slen (.t s064), none⟩,
 xm s066 s005,
 ⟨some s067, .bin .sub (.t s065) (.t s066), none⟩,
 ⟨some s070, .bin .add (.t s067) (.c (.int .i64 1)), none⟩,
 xm s011 s070])
 (.seq (.region [⟨some s012, .move (.c (.int .i64 0)), none⟩])
 (.seq (.block 1
 (.loop
 (.seq (.seq (.region [xm s071 s010,
 xm s072 s011,
 ⟨some s073, .bin .lss (.t s071) (.t s072), none⟩])
 (.cond (.t s073)
 (.skip)
 (.exit 1)))
 (.block 2
 (.seq (.seq (.region [xm s074 s000,
 xm s075 s010,
 ⟨some s076, .strAt (.t s074) (.t s075), none⟩,
 xm s077 s006,
 ⟨some s100, .bin .neq (.t s076) (.t s077), none⟩])
 (.cond (.t s100)
 (.seq (.region [xm s101 s000,
 xm s102 s010,
 ⟨some s103, .bin .add (.t s102) (.c (.int .i64 1)), none⟩,
 xm s104 s011,
 ⟨some s105, .substr (.t s101) (some (.t s103)) (some (.t s104)), none⟩,
 xm s106 s006,
 ⟨some s107, .call 69 [(.t s105), (.t s106)], none⟩,
 xm s013 s107])
 (.seq (.seq (.region [xm s110 s013,
 ⟨some s111, .bin .lss (.t s110) (.c (.int .i64 0)), none⟩])
 (.cond (.t s111)
 (.seq (.region [⟨some s004, .move (.c (.int .i64 (-1))), none⟩])
 (.ret))
 (.skip)))
 (.region [xm s112 s010,
 xm s113 s013,
 ⟨some s114, .bin .add (.t s113) (.c (.int .i64 1)), none⟩,
 ⟨some s115, .bin .add (.t s112) (.t s114), none⟩,
 xm s010 s115])))
 (.skip)))
 (.seq (.seq (.region [xm s116 s000,
 xm s117 s010,
 ⟨some s120, .bin .add (.t s117) (.c (.int .i64 1)), none⟩,
 ⟨some s121, .strAt (.t s116) (.t s120), none⟩,
 xm s122 s007,
 ⟨some s123, .bin .eql (.t s121) (.t s122), none⟩,
 xm s124 s123,
 ⟨some s125, .move (.t s000), some (s124, true)⟩,
 ⟨some s126, .move (.t s010), some (s124, true)⟩,
 ⟨some s127, .move (.t s010), some (s124, true)⟩,
 ⟨some s130, .move (.t s005), some (s124, true)⟩,
 ⟨some s131, .bin .add (.t s127) (.t s130), some (s124, true)⟩,
 ⟨some s132, .substr (.t s125) (some (.t s126)) (some (.t s131)), some (s124, true)⟩,
 ⟨some s133, .move (.t s001), some (s124, true)⟩,
 ⟨some s134, .sbin .eql (.t s132) (.t s133), some (s124, true)⟩,
 ⟨some s135, .pick (.t s124) (.t s134) (.c (.bool false)), none⟩])
 (.cond (.t s135)
 (.seq (.region [xm s136 s010,
 xm s004 s136])
 (.ret))
 (.skip)))
 (.seq (.region [xm s137 s010,
 ⟨some s140, .bin .add (.t s137) (.c (.int .i64 1)), none⟩,
 xm s010 s140])
 (.seq (.region [xm s141 s012,
 ⟨some s142, .bin .add (.t s141) (.c (.int .i64 1)), none⟩,
 xm s012 s142])
 (.seq (.region [xm s143 s005,
 ⟨some s144, .load false 1 .g, none⟩,
 ⟨some s145, .bin .leq (.t s143) (.t s144), none⟩,
 xm s146 s145,
 ⟨some s147, .move (.t s012), some (s146, true)⟩,
 ⟨some s150, .move (.t s010), some (s146, true)⟩,
 ⟨some s151, .call 71 [(.t s150)], some (s146, true)⟩,
 ⟨some s152, .bin .gtr (.t s147) (.t s151), some (s146, true)⟩,
 ⟨some s153, .pick (.t s146) (.t s152) (.c (.bool false)), none⟩])
 (.cond (.t s153)
 (.seq (.region [xm s154 s000,
 xm s155 s010,
 ⟨some s156, .substr (.t s154) (some (.t s155)) none, none⟩,
 xm s157 s001,
 ⟨some s160, .dead, none⟩,
 xm s014 s160])
 (.seq (.seq (.region [xm s161 s014,
 ⟨some s162, .bin .geq (.t s161) (.c (.int .i64 0)), none⟩])
 (.cond (.t s162)
 (.seq (.region [xm s163 s014,
 xm s164 s010,
 ⟨some s165, .bin .add (.t s163) (.t s164), none⟩,
 xm s004 s165])
 (.ret))
 (.skip)))
 (.seq (.region [⟨some s004, .move (.c (.int .i64 (-1))), none⟩])
 (.ret))))
 (.seq (.region [xm s166 s005,
 ⟨some s167, .load false 1 .g, none⟩,
 ⟨some s170, .bin .gtr (.t s166) (.t s167), none⟩,
 xm s171 s170,
 ⟨some s172, .move (.t s012), some (s171, true)⟩,
 ⟨some s173, .move (.t s010), some (s171, true)⟩,
 ⟨some s174, .bin .shr (.t s173) (.c (.int .u64 4)), some (s171, true)⟩,
 ⟨some s175, .bin .add (.c (.int .i64 4)) (.t s174), some (s171, true)⟩,
 ⟨some s176, .bin .geq (.t s172) (.t s175), some (s171, true)⟩,
 ⟨some s177, .pick (.t s171) (.t s176) (.c (.bool false)), none⟩,
 xm s200 s177,
 ⟨some s201, .move (.t s010), some (s200, true)⟩,
 ⟨some s202, .move (.t s011), some (s200, true)⟩,
 ⟨some s203, .bin .lss (.t s201) (.t s202), some (s200, true)⟩,
 ⟨some s204, .pick (.t s200) (.t s203) (.c (.bool false)), none⟩])
 (.cond (.t s204)
 (.seq (.region [xm s205 s000,
 xm s206 s010,
 ⟨some s207, .substr (.t s205) (some (.t s206)) none, none⟩,
 xm s210 s001,
 ⟨some s211, .call 72 [(.t s207), (.t s210)], none⟩,
 xm s015 s211])
 (.seq (.seq (.region [xm s212 s015,
 ⟨some s213, .bin .lss (.t s212) (.c (.int .i64 0)), none⟩])
 (.cond (.t s213)
 (.seq (.region [⟨some s004, .move (.c (.int .i64 (-1))), none⟩])
 (.ret))
 (.skip)))
 (.seq (.region [xm s214 s010,
 xm s215 s015,
 ⟨some s216, .bin .add (.t s214) (.t s215), none⟩,
 xm s004 s216])
 (.ret))))
 (.skip)))))))))))))
 (.seq (.region [⟨some s004, .move (.c (.int .i64 (-1))), none⟩])
 (.ret))))))))))
def r_stringslite_Index : List XR := [.tmp s004]
theorem ok_stringslite_Index : okC Try.prog Try.f63.ntmps (bodyOf Try.f63) x_stringslite_Index = true := by kernel_rfl
theorem okr_stringslite_Index : okRs Try.prog Try.f63.results.toList r_stringslite_Index = true := by kernel_rfl

/-- slices.siftDownOrdered -/
def x_slices_siftDownOrdered_string : XC :=
 .seq (.region [xm s012 s001,
 xm s010 s012])
 (.block 0
 (.loop
 (.block 1
 (.seq (.region [xm s013 s010,
 ⟨some s014, .bin .mul (.c (.int .i64 2)) (.t s013), none⟩,
 ⟨some s015, .bin .add (.t s014) (.c (.int .i64 1)), none⟩,
 xm s011 s015])
 (.seq (.seq (.region [xm s016 s011,
 xm s017 s002,
 ⟨some s020, .bin .geq (.t s016) (.t s017), none⟩])
 (.cond (.t s020)
 (.exit 0)
 (.skip)))
 (.seq (.seq (.regionD [0, 1, 0, 7, 15, 31, 31, 31, 223, 511, 1023, 31, 31, 31, 12319, 28703, 63519, 129055, 262143, 524287] [xm s021 s011,
 ⟨some s022, .bin .add (.t s021) (.c (.int .i64 1)), none⟩,
 xm s023 s002,
 ⟨some s024, .bin .lss (.t s022) (.t s023), none⟩,
 xm s025 s024,
 ⟨some s026, .move (.t s000), some (s025, true)⟩,
 ⟨some s027, .move (.t s003), some (s025, true)⟩,
 ⟨some s030, .move (.t s011), some (s025, true)⟩,
 ⟨some s031, .bin .add (.t s027) (.t s030), some (s025, true)⟩,
 ⟨some s032, .indexSl 1 (.t s026) (.t s031), some (s025, true)⟩,
 ⟨some s033, .load false 1 (.t s032), some (s025, true)⟩,
 ⟨some s034, .move (.t s000), some (s025, true)⟩,
 ⟨some s035, .move (.t s003), some (s025, true)⟩,
 ⟨some s036, .move (.t s011), some (s025, true)⟩,
 ⟨some s037, .bin .add (.t s035) (.t s036), some (s025, true)⟩,
 ⟨some s040, .bin .add (.t s037) (.c (.int .i64 1)), some (s025, true)⟩,
 ⟨some s041, .indexSl 1 (.t s034) (.t s040), some (s025, true)⟩,
 ⟨some s042, .load false 1 (.t s041), some (s025, true)⟩,
 ⟨some s043, .call 49 [(.t s033), (.t s042)], some (s025, true)⟩,
 ⟨some s044, .pick (.t s025) (.t s043) (.c (.bool false)), none⟩])
 (.cond (.t s044)
 (.region [xm s045 s011,
 ⟨some s046, .bin .add (.t s045) (.c (.int .i64 1)), none⟩,
 xm s011 s046])
 (.skip)))
 (.seq (.seq (.regionD [0, 0, 0, 6, 15, 31, 0, 0, 0, 384, 960, 1984, 4095, 8191] [xm s047 s000,
 xm s050 s003,
 xm s051 s010,
 ⟨some s052, .bin .add (.t s050) (.t s051), none⟩,
 ⟨some s053, .indexSl 1 (.t s047) (.t s052), none⟩,
 xl s054 s053,
 xm s055 s000,
 xm s056 s003,
 xm s057 s011,
 ⟨some s060, .bin .add (.t s056) (.t s057), none⟩,
 ⟨some s061, .indexSl 1 (.t s055) (.t s060), none⟩,
 xl s062 s061,
 ⟨some s063, .call 49 [(.t s054), (.t s062)], none⟩,
 ⟨some s064, .un .not (.t s063), none⟩])
 (.cond (.t s064)
 (.ret)
 (.skip)))
 (.seq (.regionD [0, 0, 0, 6, 0, 0, 0, 96, 0, 0, 0, 1536, 3840, 7936, 0, 0, 0, 98304, 245760, 507904, 1048335, 2096911, 4194303, 8388607] [xm s065 s000,
 xm s066 s003,
 xm s067 s010,
 ⟨some s070, .bin .add (.t s066) (.t s067), none⟩,
 xm s071 s000,
 xm s072 s003,
 xm s073 s011,
 ⟨some s074, .bin .add (.t s072) (.t s073), none⟩,
 xm s075 s000,
 xm s076 s003,
 xm s077 s011,
 ⟨some s100, .bin .add (.t s076) (.t s077), none⟩,
 ⟨some s101, .indexSl 1 (.t s075) (.t s100), none⟩,
 xl s102 s101,
 xm s103 s000,
 xm s104 s003,
 xm s105 s010,
 ⟨some s106, .bin .add (.t s104) (.t s105), none⟩,
 ⟨some s107, .indexSl 1 (.t s103) (.t s106), none⟩,
 xl s110 s107,
 ⟨some s111, .indexSl 1 (.t s065) (.t s070), none⟩,
 ⟨none, .store 1 (.t s111) (.t s102), none⟩,
 ⟨some s112, .indexSl 1 (.t s071) (.t s074), none⟩,
 ⟨none, .store 1 (.t s112) (.t s110), none⟩])
 (.region [xm s113 s011,
 xm s010 s113])))))))))
def r_slices_siftDownOrdered_string : List XR := []
theorem ok_slices_siftDownOrdered_string : okC Try.prog Try.f64.ntmps (bodyOf Try.f64) x_slices_siftDownOrdered_string = true := by kernel_rfl
theorem okr_slices_siftDownOrdered_string : okRs Try.prog Try.f64.results.toList r_slices_siftDownOrdered_string = true := by kernel_rfl

/-- slices.nextPowerOfTwo -/
def x_slices_nextPowerOfTwo : XC :=
 .seq (.region [⟨some s002, .move (.c (.int .u64 0)), none⟩])
 (.seq (.region [xm s003 s000,
 ⟨some s004, .convInt .u64 (.t s003), none⟩,
 ⟨some s005, .call 48 [(.t s004)], none⟩,
 ⟨some s006, .bin .shl (.c (.int .u64 1)) (.t s005), none⟩,
 xm s002 s006])
 (.ret))
def r_slices_nextPowerOfTwo : List XR := [.tmp s002]
theorem ok_slices_nextPowerOfTwo : okC Try.prog Try.f65.ntmps (bodyOf Try.f65) x_slices_nextPowerOfTwo = true := by kernel_rfl
theorem okr_slices_nextPowerOfTwo : okRs Try.prog Try.f65.results.toList r_slices_nextPowerOfTwo = true := by kernel_rfl

/-- (*slices.xorshift).Next -/
def x_slices_xorshift_Next : XC :=
 .seq (.region [⟨some s002, .move (.c (.int .u64 0)), none⟩])
 (.seq (.regionD [0, 1, 3, 0, 8, 24, 56, 127, 255, 511] [xm s003 s000,
 ⟨some s004, .nilCheck (.t s003), none⟩,
 xl s005 s004,
 xm s006 s000,
 ⟨some s007, .nilCheck (.t s006), none⟩,
 xl s010 s007,
 ⟨some s011, .bin .shl (.t s010) (.c (.int .u64 13)), none⟩,
 ⟨some s012, .bin .xor (.t s005) (.t s011), none⟩,
 ⟨some s013, .nilCheck (.t s003), none⟩,
 ⟨none, .store 1 (.t s013) (.t s012), none⟩])
 (.seq (.regionD [0, 1, 3, 0, 8, 24, 56, 127, 255, 511] [xm s014 s000,
 ⟨some s015, .nilCheck (.t s014), none⟩,
 xl s016 s015,
 xm s017 s000,
 ⟨some s020, .nilCheck (.t s017), none⟩,
 xl s021 s020,
 ⟨some s022, .bin .shr (.t s021) (.c (.int .u64 7)), none⟩,
 ⟨some s023, .bin .xor (.t s016) (.t s022), none⟩,
 ⟨some s024, .nilCheck (.t s014), none⟩,
 ⟨none, .store 1 (.t s024) (.t s023), none⟩])
 (.seq (.regionD [0, 1, 3, 0, 8, 24, 56, 127, 255, 511] [xm s025 s000,
 ⟨some s026, .nilCheck (.t s025), none⟩,
 xl s027 s026,
 xm s030 s000,
 ⟨some s031, .nilCheck (.t s030), none⟩,
 xl s032 s031,
 ⟨some s033, .bin .shl (.t s032) (.c (.int .u64 17)), none⟩,
 ⟨some s034, .bin .xor (.t s027) (.t s033), none⟩,
 ⟨some s035, .nilCheck (.t s025), none⟩,
 ⟨none, .store 1 (.t s035) (.t s034), none⟩])
 (.seq (.region [xm s036 s000,
 ⟨some s037, .nilCheck (.t s036), none⟩,
 xl s040 s037,
 xm s002 s040])
 (.ret)))))
def r_slices_xorshift_Next : List XR := [.tmp s002]
theorem ok_slices_xorshift_Next : okC Try.prog Try.f66.ntmps (bodyOf Try.f66) x_slices_xorshift_Next = true := by kernel_rfl
theorem okr_slices_xorshift_Next : okRs Try.prog Try.f66.results.toList r_slices_xorshift_Next = true := by kernel_rfl

/-- slices.medianAdjacentOrdered -/
def x_slices_medianAdjacentOrdered_string : XC :=
 .seq (.region [⟨some s006, .move (.c (.int .i64 0)), none⟩])
 (.seq (.region [xm s007 s000,
 xm s010 s001,
 ⟨some s011, .bin .sub (.t s010) (.c (.int .i64 1)), none⟩,
 xm s012 s001,
 xm s013 s001,
 ⟨some s014, .bin .add (.t s013) (.c (.int .i64 1)), none⟩,
 xm s015 s002,
 ⟨some s016, .call 68 [(.t s007), (.t s011), (.t s012), (.t s014), (.t s015)], none⟩,
 xm s006 s016])
 (.ret))
def r_slices_medianAdjacentOrdered_string : List XR := [.tmp s006]
theorem ok_slices_medianAdjacentOrdered_string : okC Try.prog Try.f67.ntmps (bodyOf Try.f67) x_slices_medianAdjacentOrdered_string = true := by kernel_rfl
theorem okr_slices_medianAdjacentOrdered_string : okRs Try.prog Try.f67.results.toList r_slices_medianAdjacentOrdered_string = true := by kernel_rfl

/-- slices.medianOrdered -/
def x_slices_medianOrdered_string : XC :=
 .seq (.region [⟨some s012, .move (.c (.int .i64 0)), none⟩])
 (.seq (.region [xm s014 s000,
 xm s015 s001,
 xm s016 s002,
 xm s017 s004,
 ⟨some s020, .call 73 [(.t s014), (.t s015), (.t s016), (.t s017)], none⟩,
 xm s013 s020,
 ⟨some s021, .extract 0 (.t s013), none⟩,
 ⟨some s022, .extract 1 (.t s013), none⟩,
 xm s001 s021,
 xm s002 s022])
 (.seq (.region [xm s024 s000,
 xm s025 s002,
 xm s026 s003,
 xm s027 s004,
 ⟨some s030, .call 73 [(.t s024), (.t s025), (.t s026), (.t s027)], none⟩,
 xm s023 s030,
 ⟨some s031, .extract 0 (.t s023), none⟩,
 ⟨some s032, .extract 1 (.t s023), none⟩,
 xm s002 s031,
 xm s003 s032])
 (.seq (.region [xm s034 s000,
 xm s035 s001,
 xm s036 s002,
 xm s037 s004,
 ⟨some s040, .call 73 [(.t s034), (.t s035), (.t s036), (.t s037)], none⟩,
 xm s033 s040,
 ⟨some s041, .extract 0 (.t s033), none⟩,
 ⟨some s042, .extract 1 (.t s033), none⟩,
 xm s001 s041,
 xm s002 s042])
 (.seq (.region [xm s043 s002,
 xm s012 s043])
 (.ret)))))
def r_slices_medianOrdered_string : List XR := [.tmp s012]
theorem ok_slices_medianOrdered_string : okC Try.prog Try.f68.ntmps (bodyOf Try.f68) x_slices_medianOrdered_string = true := by kernel_rfl
theorem okr_slices_medianOrdered_string : okRs Try.prog Try.f68.results.toList r_slices_medianOrdered_string = true := by kernel_rfl

/-- stringslite.IndexByte -/
def x_stringslite_IndexByte : XC :=
 .seq (.region [⟨some s004, .move (.c (.int .i64 0)), none⟩])
 (.seq (.region [xm s005 s000,
 xm s006 s001,
 ⟨some s007, .ext 0 [(.t s005), (.t s006)], none⟩,
 xm s004 s007])
 (.ret))
def r_stringslite_IndexByte : List XR := [.tmp s004]
theorem ok_stringslite_IndexByte : okC Try.prog Try.f69.ntmps (bodyOf Try.f69) x_stringslite_IndexByte = true := by kernel_rfl
theorem okr_stringslite_IndexByte : okRs Try.prog Try.f69.results.toList r_stringslite_IndexByte = true := by kernel_rfl

/-- bytealg.Cutover -/
def x_bytealg_Cutover : XC :=
 .seq (.region [⟨some s002, .move (.c (.int .i64 0)), none⟩])
 (.seq (.region [xm s003 s000,
 ⟨some s004, .bin .add (.t s003) (.c (.int .i64 16)), none⟩,
 ⟨some s005, .bin .quo (.t s004) (.c (.int .i64 8)), none⟩,
 xm s002 s005])
 (.ret))
def r_bytealg_Cutover : List XR := [.tmp s002]
theorem ok_bytealg_Cutover : okC Try.prog Try.f71.ntmps (bodyOf Try.f71) x_bytealg_Cutover = true := by kernel_rfl
theorem okr_bytealg_Cutover : okRs Try.prog Try.f71.results.toList r_bytealg_Cutover = true := by kernel_rfl

/-- bytealg.IndexRabinKarp -/
def x_bytealg_IndexRabinKarp_string : XC :=
 .seq (.region [⟨some s004, .move (.c (.int .i64 0)), none⟩])
 (.seq (.region [xm s014 s001,
 ⟨some s015, .call 75 [(.t s014)], none⟩,
 xm s013 s015,
 ⟨some s016, .extract 0 (.t s013), none⟩,
 ⟨some s017, .extract 1 (.t s013), none⟩,
 xm s005 s016,
 xm s006 s017])
 (.seq (.region [xm s020 s001,
 ⟨some s021, .slen (.t s020), none⟩,
 xm s007 s021])
 (.seq (.region [⟨some s010, .move (.c (.int .u32 0)), none⟩])
 (.seq (.seq (.region [⟨some s011, .move (.c (.int .i64 0)), none⟩])
 (.block 0
 (.loop
 (.seq (.seq (.region [xm s022 s011,
 xm s023 s007,
 ⟨some s024, .bin .lss (.t s022) (.t s023), none⟩])
 (.cond (.t s024)
 (.skip)
 (.exit 0)))
 (.seq (.block 1
 (.region [xm s027 s010,
 ⟨some s030, .bin .mul (.t s027) (.c (.int .u32 16777619)), none⟩,
 xm s031 s000,
 xm s032 s011,
 ⟨some s033, .strAt (.t s031) (.t s032), none⟩,
 ⟨some s034, .convInt .u32 (.t s033), none⟩,
 ⟨some s035, .bin .add (.t s030) (.t s034), none⟩,
 xm s010 s035]))
 (.region [xm s025 s011,
 ⟨some s026, .bin .add (.t s025) (.c (.int .i64 1)), none⟩,
 xm s011 s026]))))))
 (.seq (.seq (.region [xm s036 s010,
 xm s037 s005,
 ⟨some s040, .bin .eql (.t s036) (.t s037), none⟩,
 xm s041 s040,
 ⟨some s042, .move (.t s000), some (s041, true)⟩,
 ⟨some s043, .move (.t s007), some (s041, true)⟩,
 ⟨some s044, .substr (.t s042) none (some (.t s043)), some (s041, true)⟩,
 ⟨some s045, .move (.t s001), some (s041, true)⟩,
 ⟨some s046, .sbin .eql (.t s044) (.t s045), some (s041, true)⟩,
 ⟨some s047, .pick (.t s041) (.t s046) (.c (.bool false)), none⟩])
 (.cond (.t s047)
 (.seq (.region [⟨some s004, .move (.c (.int .i64 0)), none⟩])
 (.ret))
 (.skip)))
 (.seq (.seq (.region [xm s050 s007,
 xm s012 s050])
 (.block 2
 (.loop
 (.seq (.seq (.region [xm s051 s012,
 xm s052 s000,
 ⟨some s053, .slen (.t s052), none⟩,
 ⟨some s054, .bin .lss (.t s051) (.t s053), none⟩])
 (.cond (.t s054)
 (.skip)
 (.exit 2)))
 (.block 3
 (.seq (.region [xm s055 s010,
 ⟨some s056, .bin .mul (.t s055) (.c (.int .u32 16777619)), none⟩,
 xm s010 s056])
 (.seq (.region [xm s057 s010,
 xm s060 s000,
 xm s061 s012,
 ⟨some s062, .strAt (.t s060) (.t s061), none⟩,
 ⟨some s063, .convInt .u32 (.t s062), none⟩,
 ⟨some s064, .bin .add (.t s057) (.t s063), none⟩,
 xm s010 s064])
 (.seq (.region [xm s065 s010,
 xm s066 s006,
 xm s067 s000,
 xm s070 s012,
 xm s071 s007,
 ⟨some s072, .bin .sub (.t s070) (.t s071), none⟩,
 ⟨some s073, .strAt (.t s067) (.t s072), none⟩,
 ⟨some s074, .convInt .u32 (.t s073), none⟩,
 ⟨some s075, .bin .mul (.t s066) (.t s074), none⟩,
 ⟨some s076, .bin .sub (.t s065) (.t s075), none⟩,
 xm s010 s076])
 (.seq (.region [xm s077 s012,
 ⟨some s100, .bin .add (.t s077) (.c (.int .i64 1)), none⟩,
 xm s012 s100])
 (.seq (.region [xm s101 s010,
 xm s102 s005,
 ⟨some s103, .bin .eql (.t s101) (.t s102), none⟩,
 xm s104 s103,
 ⟨some s105, .move (.t s000), some (s104, true)⟩,
 ⟨some s106, .move (.t s012), some (s104, true)⟩,
 ⟨some s107, .move (.t s007), some (s104, true)⟩,
 ⟨some s110, .bin .sub (.t s106) (.t s107), some (s104, true)⟩,
 ⟨some s111, .move (.t s012), some (s104, true)⟩,
 ⟨some s112, .substr (.t s105) (some (.t s110)) (some (.t s111)), some (s104, true)⟩,
 ⟨some s113, .move (.t s001), some (s104, true)⟩,
 ⟨some s114, .sbin .eql (.t s112) (.t s113), some (s104, true)⟩,
 ⟨some s115, .pick (.t s104) (.t s114) (.c (.bool false)), none⟩])
 (.cond (.t s115)
 (.seq (.region [xm s116 s012,
 xm s117 s007,
 ⟨some s120, .bin .sub (.t s116) (.t s117), none⟩,
 xm s004 s120])
 (.ret))
 (.skip))))))))))))
 (.seq (.region [⟨some s004, .move (.c (.int .i64 (-1))), none⟩])
 (.ret))))))))
def r_bytealg_IndexRabinKarp_string : List XR := [.tmp s004]
theorem ok_bytealg_IndexRabinKarp_string : okC Try.prog Try.f72.ntmps (bodyOf Try.f72) x_bytealg_IndexRabinKarp_string = true := by kernel_rfl
theorem okr_bytealg_IndexRabinKarp_string : okRs Try.prog Try.f72.results.toList r_bytealg_IndexRabinKarp_string = true := by kernel_rfl

/-- slices.order2Ordered -/
def x_slices_order2Ordered_string : XC :=
 .seq (.region [⟨some s010, .move (.c (.int .i64 0)), none⟩,
 ⟨some s011, .move (.c (.int .i64 0)), none⟩])
 (.seq (.seq (.regionD [0, 0, 3, 7, 0, 0, 48, 112, 255] [xm s012 s000,
 xm s013 s002,
 ⟨some s014, .indexSl 1 (.t s012) (.t s013), none⟩,
 xl s015 s014,
 xm s016 s000,
 xm s017 s001,
 ⟨some s020, .indexSl 1 (.t s016) (.t s017), none⟩,
 xl s021 s020,
 ⟨some s022, .call 49 [(.t s015), (.t s021)], none⟩])
 (.cond (.t s022)
 (.seq (.region [xm s023 s003,
 ⟨some s024, .nilCheck (.t s023), none⟩,
 xl s025 s024,
 ⟨some s026, .bin .add (.t s025) (.c (.int .i64 1)), none⟩,
 ⟨some s027, .nilCheck (.t s023), none⟩,
 ⟨none, .store 1 (.t s027) (.t s026), none⟩])
 (.seq (.region [xm s030 s002,
 xm s031 s001,
 xm s010 s030,
 xm s011 s031])
 (.ret)))
 (.skip)))
 (.seq (.region [xm s032 s001,
 xm s033 s002,
 xm s010 s032,
 xm s011 s033])
 (.ret)))
def r_slices_order2Ordered_string : List XR := [.tmp s010, .tmp s011]
theorem ok_slices_order2Ordered_string : okC Try.prog Try.f73.ntmps (bodyOf Try.f73) x_slices_order2Ordered_string = true := by kernel_rfl
theorem okr_slices_order2Ordered_string : okRs Try.prog Try.f73.results.toList r_slices_order2Ordered_string = true := by kernel_rfl

/-- bytealg.hashStr -/
def x_bytealg_hashStr_string : XC :=
 .seq (.region [⟨some s002, .move (.c (.int .u32 0)), none⟩,
 ⟨some s003, .move (.c (.int .u32 0)), none⟩])
 (.seq (.region [⟨some s004, .move (.c (.int .u32 0)), none⟩])
 (.seq (.seq (.region [⟨some s005, .move (.c (.int .i64 0)), none⟩])
 (.block 0
 (.loop
 (.seq (.seq (.region [xm s011 s005,
 xm s012 s000,
 ⟨some s013, .slen (.t s012), none⟩,
 ⟨some s014, .bin .lss (.t s011) (.t s013), none⟩])
 (.cond (.t s014)
 (.skip)
 (.exit 0)))
 (.seq (.block 1
 (.region [xm s017 s004,
 ⟨some s020, .bin .mul (.t s017) (.c (.int .u32 16777619)), none⟩,
 xm s021 s000,
 xm s022 s005,
 ⟨some s023, .strAt (.t s021) (.t s022), none⟩,
 ⟨some s024, .convInt .u32 (.t s023), none⟩,
 ⟨some s025, .bin .add (.t s020) (.t s024), none⟩,
 xm s004 s025]))
 (.region [xm s015 s005,
 ⟨some s016, .bin .add (.t s015) (.c (.int .i64 1)), none⟩,
 xm s005 s016]))))))
 (.seq (.region [⟨some s006, .move (.c (.int .u32 1)), none⟩,
 ⟨some s007, .move (.c (.int .u32 16777619)), none⟩])
 (.seq (.seq (.region [xm s026 s000,
 ⟨some s027, .slen (.t s026), none⟩,
 xm s010 s027])
 (.block 2
 (.loop
 (.seq (.seq (.region [xm s030 s010,
 ⟨some s031, .bin .gtr (.t s030) (.c (.int .i64 0)), none⟩])
 (.cond (.t s031)
 (.skip)
 (.exit 2)))
 (.seq (.block 3
 (.seq (.seq (.region [xm s034 s010,
 ⟨some s035, .bin .and (.t s034) (.c (.int .i64 1)), none⟩,
 ⟨some s036, .bin .neq (.t s035) (.c (.int .i64 0)), none⟩])
 (.cond (.t s036)
 (.region [xm s037 s006,
 xm s040 s007,
 ⟨some s041, .bin .mul (.t s037) (.t s040), none⟩,
 xm s006 s041])
 (.skip)))
 (.region [xm s042 s007,
 xm s043 s007,
 ⟨some s044, .bin .mul (.t s042) (.t s043), none⟩,
 xm s007 s044])))
 (.region [xm s032 s010,
 ⟨some s033, .bin .shr (.t s032) (.c (.int .u64 1)), none⟩,
 xm s010 s033]))))))
 (.seq (.region [xm s045 s004,
 xm s046 s006,
 xm s002 s045,
 xm s003 s046])
 (.ret))))))
def r_bytealg_hashStr_string : List XR := [.tmp s002, .tmp s003]
theorem ok_bytealg_hashStr_string : okC Try.prog Try.f75.ntmps (bodyOf Try.f75) x_bytealg_hashStr_string = true := by kernel_rfl
theorem okr_bytealg_hashStr_string : okRs Try.prog Try.f75.results.toList r_bytealg_hashStr_string = true := by kernel_rfl
end Go.Proofs.Ytlfbjdafnappdaa
